/- The statement ShareNames. -/
import Derived.Test.YtkgogljfngplnaaJ4
import Derived.Test.YtkgogljfngplnaaRows
set_option linter.unusedVariables false
set_option linter.unusedSimpArgs false
namespace Go.Proofs.Ytkgogljfngplnaa
open Go.Eng

/-- the sum of the first c numbers -/
def sB (f : Nat → Int) : Nat → Int
  | 0 => 0
  | c + 1 => sB f c + f c
theorem mn_sum {f : Nat → Int} : ∀ {c : Nat}, mnTo f c * ((c + 1 : Nat) : Int) ≤ sB f (c + 1)
  | 0 => by simp [mnTo, sB]
  | c + 1 => by
    have ih := mn_sum (f := f) (c := c)
    have e : sB f (c + 1 + 1) = sB f (c + 1) + f (c + 1) := rfl
    rw [e]
    have h1 : mnTo f (c + 1) ≤ mnTo f c := by simp only [mnTo]; omega
    have h2 : mnTo f (c + 1) ≤ f (c + 1) := by simp only [mnTo]; omega
    have h3 := Int.mul_le_mul_of_nonneg_right h1 (Int.natCast_nonneg (c + 1))
    have e2 : ((c + 1 + 1 : Nat) : Int) = ((c + 1 : Nat) : Int) + 1 := by omega
    rw [e2, Int.mul_add, Int.mul_one]
    omega
theorem sB_pick {r : Int} {k : Nat} : ∀ {c : Nat}, sB (fun b : Nat => if (k : Int) = (b : Int) then r else 0) c = if k < c then r else 0
  | 0 => rfl
  | c + 1 => by
    have ih := sB_pick (r := r) (k := k) (c := c)
    simp only [sB]
    rw [ih]
    by_cases h : k = c
    · subst h; simp
    · rw [if_neg (show ¬ (k : Int) = (c : Int) by omega)]
      by_cases h2 : k < c
      · rw [if_pos h2, if_pos (by omega)]; omega
      · rw [if_neg h2, if_neg (by omega)]; omega
theorem sB_add {f g : Nat → Int} : ∀ {c : Nat}, sB (fun b => f b + g b) c = sB f c + sB g c
  | 0 => rfl
  | c + 1 => by have := sB_add (f := f) (g := g) (c := c); simp only [sB]; omega
theorem sB_zero {f : Nat → Int} : ∀ {c : Nat}, (∀ b, b < c → f b = 0) → sB f c = 0
  | 0, _ => rfl
  | c + 1, h => by simp only [sB]; rw [sB_zero (fun b hb => h b (by omega)), h c (by omega)]; rfl
theorem sB_worth {l r : List Int} {n : Nat} (h : rng l n) : ∀ {c : Nat}, c ≤ l.length → sB (fun b : Nat => worth l r b c) n = sumTo r c
  | 0, _ => sB_zero fun b _ => rfl
  | c + 1, hc => by
    have ih := sB_worth (r := r) h (c := c) (by omega)
    have hk := h c (by omega)
    have e : sB (fun b : Nat => worth l r b (c + 1)) n = sB (fun b : Nat => worth l r b c + if l.getD c 0 = (b : Int) then r.getD c 0 else 0) n := rfl
    rw [e, sB_add, ih]
    obtain ⟨k, hk2⟩ : ∃ k : Nat, l.getD c 0 = (k : Int) := ⟨(l.getD c 0).toNat, by omega⟩
    rw [hk2, sB_pick, if_pos (by omega)]
    rfl
theorem leastP_sum {r l : List Int} {n : Nat} (h : rng l n) (hn : 1 ≤ n) : leastP r l n * (n : Int) ≤ sumTo r l.length := by
  have h1 := mn_sum (f := fun b : Nat => worth l r b l.length) (c := n - 1)
  rw [show n - 1 + 1 = n by omega, sB_worth h (Nat.le_refl _)] at h1
  exact h1
theorem lexlt_tri : ∀ {a b : List Int}, a.length = b.length → a = b ∨ lexlt a b ∨ lexlt b a
  | [], [], _ => .inl rfl
  | [], _ :: _, h => by simp at h
  | _ :: _, [], h => by simp at h
  | x :: a, y :: b, h => by
    rcases Int.lt_trichotomy x y with e | e | e
    · exact .inr (.inl (.inl e))
    · subst e
      rcases lexlt_tri (a := a) (b := b) (by simpa using h) with e | e | e
      · subst e; exact .inl rfl
      · exact .inr (.inl (.inr ⟨rfl, e⟩))
      · exact .inr (.inr (.inr ⟨rfl, e⟩))
    · exact .inr (.inr (.inl e))
theorem shB_top {rr : List (List Int)} {i n : Nat} (h : chk rr = 0) (hn : 1 ≤ n) : top (fun l => leastP (rr.getD i []) l n) (lsts n (mOf rr) (n ^ mOf rr)) (shB rr i n).2 ∧ (shB rr i n).1 = leastP (rr.getD i []) (shB rr i n).2 n := by
  have hgd := gd_of_chk h
  have hm := hgd.m10
  rw [shB_all h hn]
  have hb : ∀ y, y ∈ lsts n (mOf rr) (n ^ mOf rr) → -1 < leastP (rr.getD i []) y n := fun y hy => by
    have := leastP_bd (n := n) (fun j => hgd.val i j) (show y.length ≤ 10 by rw [((lsts_mem hn).1 hy).1]; exact hm)
    have h2 : 0 ≤ leastP (rr.getD i []) y n := this.1
    omega
  have hne : lsts n (mOf rr) (n ^ mOf rr) ≠ [] := by
    have hT : 0 < n ^ mOf rr := Nat.pow_pos (by omega)
    have : digs n (mOf rr) 0 ∈ lsts n (mOf rr) (n ^ mOf rr) := List.mem_map.2 ⟨0, List.mem_range.2 hT, rfl⟩
    intro e; rw [e] at this; simp at this
  obtain ⟨x, hx, e⟩ := bst_top (f := fun l => leastP (rr.getD i []) l n) (lsts_pair hn) hb hne
  rw [e]; exact ⟨hx, rfl⟩
/-- a partition of the goods -/
def isP (l : List Int) (m n : Nat) : Prop := l.length = m ∧ rng l n
theorem shB_is {rr : List (List Int)} {i n : Nat} (h : chk rr = 0) (hn : 1 ≤ n) : isP (shB rr i n).2 (mOf rr) n := (lsts_mem hn).1 (shB_top h hn).1.1
theorem shB_ge {rr : List (List Int)} {i n : Nat} (h : chk rr = 0) (hn : 1 ≤ n) {l : List Int} (hl : isP l (mOf rr) n) : leastP (rr.getD i []) l n ≤ (shB rr i n).1 := by
  rw [(shB_top h hn).2]; exact (shB_top h hn).1.2.1 l ((lsts_mem hn).2 hl)
theorem shB_first {rr : List (List Int)} {i n : Nat} (h : chk rr = 0) (hn : 1 ≤ n) {l : List Int} (hl : isP l (mOf rr) n) (he : leastP (rr.getD i []) l n = (shB rr i n).1) : l = (shB rr i n).2 ∨ lexlt (shB rr i n).2 l := by
  have ht := (shB_top (i := i) h hn)
  rcases lexlt_tri (a := l) (b := (shB rr i n).2) (by rw [hl.1, (shB_is h hn).1]) with e | e | e
  · exact .inl e
  · have h2 : leastP (rr.getD i []) l n < leastP (rr.getD i []) (shB rr i n).2 n := ht.1.2.2 l ((lsts_mem hn).2 hl) e
    rw [he, ht.2] at h2; omega
  · exact .inr e
theorem shB_sum {rr : List (List Int)} {i n : Nat} (h : chk rr = 0) (hi : i < rr.length) (hn : 1 ≤ n) : (shB rr i n).1 * (n : Int) ≤ allv rr i := by
  have hp := shB_is (i := i) h hn
  have hrow := (gd_of_chk h).row i hi
  rw [(shB_top h hn).2]
  have := leastP_sum (r := rr.getD i []) hp.2 hn
  unfold allv
  rw [hrow]
  rw [hp.1] at this
  exact this
end Go.Proofs.Ytkgogljfngplnaa
set_option linter.unusedVariables false
set_option linter.unusedSimpArgs false
namespace Go.Proofs.Ytkgogljfngplnaa
open Go.Eng
set_option maxRecDepth 100000

theorem php6 : ∀ (n : Nat) (F : Nat → Nat), (∀ i, i ≤ n → F i < n) → ∃ i j, i < j ∧ j ≤ n ∧ F i = F j
  | 0, F, h => absurd (h 0 (Nat.le_refl _)) (Nat.not_lt_zero _)
  | n + 1, F, h => by
    by_cases hc : ∃ i, i ≤ n ∧ F i = F (n + 1)
    · obtain ⟨i, hi, e⟩ := hc
      exact ⟨i, n + 1, by omega, Nat.le_refl _, e⟩
    · have hne : ∀ i, i ≤ n → F i ≠ F (n + 1) := fun i hi e => hc ⟨i, hi, e⟩
      have hl := h (n + 1) (Nat.le_refl _)
      obtain ⟨i, j, hij, hj, e⟩ := php6 n (fun i => if F (n + 1) < F i then F i - 1 else F i) (fun i hi => by
        have h1 := hne i hi
        have h2 := h i (by omega)
        show (if F (n + 1) < F i then F i - 1 else F i) < n
        split <;> omega)
      refine ⟨i, j, hij, by omega, ?_⟩
      have h1 := hne i (by omega)
      have h2 := hne j hj
      split at e <;> split at e <;> omega
def one10 : List (List Int) := [[1, 1, 1, 1, 1, 1, 1, 1, 1, 1]]
def part6 : List Int := [0, 0, 0, 0, 0, 1, 2, 3, 4, 5]
theorem one10_chk : chk one10 = 0 := (chk_eq _).trans (by decide +kernel)
theorem part6_first {y : List Int} (hl : y.length = 10) (hr : rng y 6) (hx : lexlt y part6) : leastP (one10.getD 0 []) y 6 < 1 := by
  refine Classical.byContradiction fun hn => ?_
  have hall : ∀ b : Nat, b < 6 → ∃ j, j < 10 ∧ y.getD j 0 = (b : Int) := fun b hb => by
    have h1 : leastP (one10.getD 0 []) y 6 ≤ worth y (one10.getD 0 []) b y.length := mnTo_le (f := fun b : Nat => worth y (one10.getD 0 []) b y.length) (c := 5) (by omega)
    obtain ⟨j, h2, h3⟩ := worth_pos (a := y) (r := one10.getD 0 []) (k := (b : Int)) (c := y.length) (by omega)
    exact ⟨j, by omega, h3⟩
  obtain ⟨k, hk1, hk2, hk3, hk4⟩ := lexlt_at hx
  have hk10 : k < 10 := hk2
  have hy0 := hr k (by omega)
  have hp : ∀ k, k < 10 → part6.getD k 0 = if k < 5 then 0 else (k : Int) - 4 := by decide
  rw [hp k hk10] at hk4
  have hk5 : ¬ k < 5 := fun h => by rw [if_pos h] at hk4; omega
  rw [if_neg hk5] at hk4
  obtain ⟨F, hF⟩ : ∃ F : Nat → Nat, ∀ b : Nat, b < 6 → F b < 10 ∧ y.getD (F b) 0 = (b : Int) := ⟨fun b => if h : b < 6 then (hall b h).choose else 0, fun b hb => by
    show (if h : b < 6 then (hall b h).choose else 0) < 10 ∧ y.getD (if h : b < 6 then (hall b h).choose else 0) 0 = (b : Int)
    rw [dif_pos hb]; exact (hall b hb).choose_spec⟩
  have hgt : ∀ b : Nat, b < 6 → (k : Int) - 4 ≤ b → k < F b := fun b hb h4 => by
    refine Classical.byContradiction fun hle => ?_
    have h5 := (hF b hb).2
    by_cases e : F b = k
    · rw [e] at h5; omega
    · have h6 := hk3 (F b) (by omega)
      rw [hp (F b) (by omega)] at h6
      split at h6 <;> omega
  obtain ⟨i, j, h1, h2, h3⟩ := php6 (9 - k) (fun i => F (k - 4 + i) - (k + 1)) (fun i hi => by
    have h4 := hF (k - 4 + i) (by omega)
    have h5 := hgt (k - 4 + i) (by omega) (by omega)
    show F (k - 4 + i) - (k + 1) < 9 - k
    omega)
  have a1 := hF (k - 4 + i) (by omega)
  have a2 := hF (k - 4 + j) (by omega)
  have b1 := hgt (k - 4 + i) (by omega) (by omega)
  have b2 := hgt (k - 4 + j) (by omega) (by omega)
  have e : F (k - 4 + i) = F (k - 4 + j) := by
    have h3 : F (k - 4 + i) - (k + 1) = F (k - 4 + j) - (k + 1) := h3
    omega
  rw [e] at a1
  omega
theorem sh16 : shB one10 0 6 = (1, part6) := by
  rw [shB_all one10_chk (by decide)]
  have hf : leastP (one10.getD 0 []) part6 6 = 1 := by decide +kernel
  have h := top_bst (f := fun l => leastP (one10.getD 0 []) l 6) (S := lsts 6 (mOf one10) (6 ^ mOf one10)) (x := part6) (lsts_pair (by decide)) (by show -1 < leastP _ _ _; rw [hf]; decide) ⟨(lsts_mem (by decide)).2 ⟨rfl, by unfold rng; decide⟩, fun y hy => ?_, fun y hy hx => ?_⟩
  · rw [h]; exact congrArg (fun z => (z, part6)) hf
  · obtain ⟨h1, h2⟩ := (lsts_mem (by decide)).1 hy
    have h3 := leastP_sum (r := one10.getD 0 []) h2 (by decide)
    rw [h1] at h3
    have h4 : sumTo (one10.getD 0 []) (mOf one10) = 10 := by decide +kernel
    rw [h4] at h3
    show leastP _ y 6 ≤ leastP _ part6 6
    rw [hf]; omega
  · obtain ⟨h1, h2⟩ := (lsts_mem (by decide)).1 hy
    show leastP _ y 6 < leastP _ part6 6
    rw [hf]; exact part6_first h1 h2 hx
end Go.Proofs.Ytkgogljfngplnaa
set_option linter.unusedVariables false
set_option linter.unusedSimpArgs false
namespace Go.Proofs.Ytkgogljfngplnaa
open Go.Eng
set_option maxRecDepth 100000
set_option maxHeartbeats 4000000

def onesL (n m : Nat) : List (List Int) := List.replicate n (List.replicate m 1)
theorem onesL_snoc (n m : Nat) : onesL n m ++ [List.replicate m 1] = onesL (n + 1) m := by unfold onesL; rw [List.replicate_succ']
theorem ones_snoc (d : Nat) : List.replicate d (1 : Int) ++ [1] = List.replicate (d + 1) 1 := by rw [List.replicate_succ']
structure OnS (W0 w : World) (rb ob : Nat) (gv : Value) (us : List Value) (rr : List (List Int)) : Prop where
  ex : Ext W0 w
  hr : Blk w rb 24 [.slice none 0 0]
  ho : Blk w ob 24 [gv]
  hm : OM W0.heap.size w gv us rr
  ne : rb ≠ ob
  b1 : W0.heap.size ≤ rb
  b2 : W0.heap.size ≤ ob
theorem OnS.ext {W0 w w' : World} {rb ob : Nat} {gv : Value} {us : List Value} {rr : List (List Int)} (h : OnS W0 w rb ob gv us rr) (hx : Ext w w') : OnS W0 w' rb ob gv us rr :=
  ⟨h.ex.trans hx, h.hr.ext hx, h.ho.ext hx, h.hm.ext hx, h.ne, h.b1, h.b2⟩
theorem ones_rc {w : World} {n mm : Nat} (hn : n ≤ 6) (hmm : mm ≤ 10) : RC Try.prog 51 [.int .i64 (n : Int), .int .i64 (mm : Int)] w NoB (fun u w' => ∃ gv us, u = .agg #[gv] ∧ OM 0 w' gv us (onesL n mm)) := by
  refine RC.mk tyOk Try.func51 rfl (by kernel_rfl) fun w1 E1 => ?_
  have EE := Ext.refl w1
  have W0 := Ext.refl w1
  have EE__1 := EE
  conv => whnf
  refine VE.alloc eGoods fun rb w2 E2 hb_rb Hr => ?_
  replace EE := EE.ext E2
  have EL1 := E2
  have hrl := Hr.lt
  have EE__2 := EE
  have EL1__2 := EL1
  have Hr__2 := Hr
  conv => whnf
  refine VE.alloc eGoods fun ob w3 E3 hb_ob Hk => ?_
  replace EE := EE.ext E3
  replace EL1 := EL1.ext E3
  replace Hr := Hr.ext E3
  have EL2 := E3
  have hs2 := E2.size
  have HX : OnS w1 w3 rb ob (.slice none 0 0) [] (onesL 0 mm) := ⟨E2.trans E3, Hr, Hk, OM.nil, by omega, by omega, by omega⟩
  repeat' ((conv => whnf); first | (refine Dr.quiet tyOk (by kernel_rfl) ?_) | (refine Rng.mk (by omega) ?_) | (refine Split.pos (by omega) ?_) | (refine Split.neg (by omega) ?_) | (refine Split.mk (fun h => ?_) (fun h => ?_)) | (refine Need.mk (by omega) ?_) | (refine Ints.ln (by assumption) ?_) | (refine Mat.ln (by assumption) ?_) | (refine Ints.ln (Mat.row (by assumption) _ (by omega)) ?_) | (refine Ints.ix (by assumption) (by omega) ?_) | (refine Mat.ix (by assumption) (by omega) ?_) | (refine Ints.ix (Mat.row (by assumption) _ (by omega)) (by omega) ?_) | (refine Ints.ix (c := 0) (by assumption) (by omega) ?_) | (refine Mat.ix (c := 0) (by assumption) (by omega) ?_) | (refine Ints.ix (c := 0) (Mat.row (by assumption) _ (by omega)) (by omega) ?_) | (refine Ints.ixI (by assumption) (by omega) ?_) | (refine Mat.ixI (by assumption) (by omega) ?_) | (refine Ints.ixI (Mat.row (by assumption) _ (by omega)) (by omega) ?_) | (refine Ints.ld (by assumption) (by omega) ?_) | (refine Mat.ld (by assumption) (by omega) ?_) | (refine Ints.ld (Mat.row (by assumption) _ (by omega)) (by omega) ?_) | (refine At.ld (by assumption) rfl ?_) | (refine At.ldN (by assumption) rfl ?_) | (refine Prs.ln (by assumption) ?_) | (refine Trs.ln (by assumption) ?_) | (refine Prs.ix (by assumption) (by omega) ?_) | (refine Trs.ix (by assumption) (by omega) ?_) | (refine Prs.ldN (by assumption) (by omega) ?_) | (refine Trs.ldN (by assumption) (by omega) ?_) | (refine At.ldN (Blk.at (by assumption)) rfl ?_) | (refine At.ld (Blk.at (by assumption)) rfl ?_) | (refine IxA.mk (by omega) ?_) | (refine Sl.ln (Own.sl (by assumption)) ?_) | (refine Ints.ix (Own.sl (by assumption)) (by omega) ?_) | (refine Ints.ixI (Own.sl (by assumption)) (by omega) ?_) | (refine Ints.ld (Own.sl (by assumption)) (by omega) ?_))
  refine Lp.mk tyOk [false, false, false, false, false, false, true, true, true, true, true, true, true, true, true, true, true, true, true, true, true, true, true, true, true, true, true, true] (fun m fr wr => getK fr 6 fun i => ∃ c : Nat, c ≤ n ∧ m = n - c ∧ i = .int .i64 (c : Int) ∧ ((∃ gv us, OnS w1 wr rb ob gv us (onesL c mm)))) (n) ?_ ?_
  · exact ⟨0, Nat.zero_le _, rfl, rfl, ⟨_, _, HX⟩⟩
  · intro m w4 u6 u7 u8 u9 u10 u11 u12 u13 u14 u15 u16 u17 u18 u19 u20 u21 u22 u23 u24 u25 u26 u27 hR
    obtain ⟨c, hc, rfl, rfl, HX⟩ := hR
    obtain ⟨gv, us, HX⟩ := HX
    by_cases hcl : c < n
    · have hol : (onesL c mm).length = c := by simp [onesL]
      repeat' ((conv => whnf); first | (refine Dr.quiet tyOk (by kernel_rfl) ?_) | (refine Rng.mk (by omega) ?_) | (refine Split.pos (by omega) ?_) | (refine Split.neg (by omega) ?_) | (refine Split.mk (fun h => ?_) (fun h => ?_)) | (refine Need.mk (by omega) ?_) | (refine Ints.ln (by assumption) ?_) | (refine Mat.ln (by assumption) ?_) | (refine Ints.ln (Mat.row (by assumption) _ (by omega)) ?_) | (refine Ints.ix (by assumption) (by omega) ?_) | (refine Mat.ix (by assumption) (by omega) ?_) | (refine Ints.ix (Mat.row (by assumption) _ (by omega)) (by omega) ?_) | (refine Ints.ix (c := 0) (by assumption) (by omega) ?_) | (refine Mat.ix (c := 0) (by assumption) (by omega) ?_) | (refine Ints.ix (c := 0) (Mat.row (by assumption) _ (by omega)) (by omega) ?_) | (refine Ints.ixI (by assumption) (by omega) ?_) | (refine Mat.ixI (by assumption) (by omega) ?_) | (refine Ints.ixI (Mat.row (by assumption) _ (by omega)) (by omega) ?_) | (refine Ints.ld (by assumption) (by omega) ?_) | (refine Mat.ld (by assumption) (by omega) ?_) | (refine Ints.ld (Mat.row (by assumption) _ (by omega)) (by omega) ?_) | (refine At.ld (by assumption) rfl ?_) | (refine At.ldN (by assumption) rfl ?_) | (refine Prs.ln (by assumption) ?_) | (refine Trs.ln (by assumption) ?_) | (refine Prs.ix (by assumption) (by omega) ?_) | (refine Trs.ix (by assumption) (by omega) ?_) | (refine Prs.ldN (by assumption) (by omega) ?_) | (refine Trs.ldN (by assumption) (by omega) ?_) | (refine At.ldN (Blk.at (by assumption)) rfl ?_) | (refine At.ld (Blk.at (by assumption)) rfl ?_) | (refine IxA.mk (by omega) ?_) | (refine Sl.ln (Own.sl (by assumption)) ?_) | (refine Ints.ix (Own.sl (by assumption)) (by omega) ?_) | (refine Ints.ixI (Own.sl (by assumption)) (by omega) ?_) | (refine Ints.ld (Own.sl (by assumption)) (by omega) ?_))
      have HX__3 := HX
      have hz3 := Nat.le_trans E1.size EE.size
      refine Lp.mk tyOk [false, false, false, false, false, false, false, true, true, false, false, false, false, false, true, true, true, true, true, true, true, true] (fun m fr wr => getK fr 8 fun j => getK fr 7 fun row => ∃ d : Nat, d ≤ mm ∧ m = mm - d ∧ j = .int .i64 (d : Int) ∧ (OB w4.heap.size wr row (List.replicate d 1)) ∧ Ext w4 wr) (mm) ?_ ?_
      · exact ⟨0, Nat.zero_le _, rfl, rfl, Own.nil, Ext.refl _⟩
      · intro m w5 u7 u8 u14 u15 u16 u17 u18 u19 u20 u21 hR
        obtain ⟨d, hd, rfl, rfl, HR, EL3⟩ := hR
        replace HX := HX__3.ext EL3
        have hrl2 : (List.replicate d (1 : Int)).length = d := List.length_replicate
        by_cases hdl : d < mm
        · repeat' ((conv => whnf); first | (refine Dr.quiet tyOk (by kernel_rfl) ?_) | (refine Rng.mk (by omega) ?_) | (refine Split.pos (by omega) ?_) | (refine Split.neg (by omega) ?_) | (refine Split.mk (fun h => ?_) (fun h => ?_)) | (refine Need.mk (by omega) ?_) | (refine Ints.ln (by assumption) ?_) | (refine Mat.ln (by assumption) ?_) | (refine Ints.ln (Mat.row (by assumption) _ (by omega)) ?_) | (refine Ints.ix (by assumption) (by omega) ?_) | (refine Mat.ix (by assumption) (by omega) ?_) | (refine Ints.ix (Mat.row (by assumption) _ (by omega)) (by omega) ?_) | (refine Ints.ix (c := 0) (by assumption) (by omega) ?_) | (refine Mat.ix (c := 0) (by assumption) (by omega) ?_) | (refine Ints.ix (c := 0) (Mat.row (by assumption) _ (by omega)) (by omega) ?_) | (refine Ints.ixI (by assumption) (by omega) ?_) | (refine Mat.ixI (by assumption) (by omega) ?_) | (refine Ints.ixI (Mat.row (by assumption) _ (by omega)) (by omega) ?_) | (refine Ints.ld (by assumption) (by omega) ?_) | (refine Mat.ld (by assumption) (by omega) ?_) | (refine Ints.ld (Mat.row (by assumption) _ (by omega)) (by omega) ?_) | (refine At.ld (by assumption) rfl ?_) | (refine At.ldN (by assumption) rfl ?_) | (refine Prs.ln (by assumption) ?_) | (refine Trs.ln (by assumption) ?_) | (refine Prs.ix (by assumption) (by omega) ?_) | (refine Trs.ix (by assumption) (by omega) ?_) | (refine Prs.ldN (by assumption) (by omega) ?_) | (refine Trs.ldN (by assumption) (by omega) ?_) | (refine At.ldN (Blk.at (by assumption)) rfl ?_) | (refine At.ld (Blk.at (by assumption)) rfl ?_) | (refine IxA.mk (by omega) ?_) | (refine Sl.ln (Own.sl (by assumption)) ?_) | (refine Ints.ix (Own.sl (by assumption)) (by omega) ?_) | (refine Ints.ixI (Own.sl (by assumption)) (by omega) ?_) | (refine Ints.ld (Own.sl (by assumption)) (by omega) ?_))
          refine VE.lit1 Try.underlying27 eInt rfl fun lv w20 E20 Hl => ?_
          have HR0 := Own.ext HR E20
          conv => whnf
          refine VE.app Try.underlying27 eInt rfl (by omega) HR0 (EL3.trans E20) rfl Hl (by simp [Value.oneCell']) (by omega) (by omega) fun v8 w21 E21 G21 H8 => ?_
          repeat' ((conv => whnf); first | (refine Dr.quiet tyOk (by kernel_rfl) ?_) | (refine Rng.mk (by omega) ?_) | (refine Split.pos (by omega) ?_) | (refine Split.neg (by omega) ?_) | (refine Split.mk (fun h => ?_) (fun h => ?_)) | (refine Need.mk (by omega) ?_) | (refine Ints.ln (by assumption) ?_) | (refine Mat.ln (by assumption) ?_) | (refine Ints.ln (Mat.row (by assumption) _ (by omega)) ?_) | (refine Ints.ix (by assumption) (by omega) ?_) | (refine Mat.ix (by assumption) (by omega) ?_) | (refine Ints.ix (Mat.row (by assumption) _ (by omega)) (by omega) ?_) | (refine Ints.ix (c := 0) (by assumption) (by omega) ?_) | (refine Mat.ix (c := 0) (by assumption) (by omega) ?_) | (refine Ints.ix (c := 0) (Mat.row (by assumption) _ (by omega)) (by omega) ?_) | (refine Ints.ixI (by assumption) (by omega) ?_) | (refine Mat.ixI (by assumption) (by omega) ?_) | (refine Ints.ixI (Mat.row (by assumption) _ (by omega)) (by omega) ?_) | (refine Ints.ld (by assumption) (by omega) ?_) | (refine Mat.ld (by assumption) (by omega) ?_) | (refine Ints.ld (Mat.row (by assumption) _ (by omega)) (by omega) ?_) | (refine At.ld (by assumption) rfl ?_) | (refine At.ldN (by assumption) rfl ?_) | (refine Prs.ln (by assumption) ?_) | (refine Trs.ln (by assumption) ?_) | (refine Prs.ix (by assumption) (by omega) ?_) | (refine Trs.ix (by assumption) (by omega) ?_) | (refine Prs.ldN (by assumption) (by omega) ?_) | (refine Trs.ldN (by assumption) (by omega) ?_) | (refine At.ldN (Blk.at (by assumption)) rfl ?_) | (refine At.ld (Blk.at (by assumption)) rfl ?_) | (refine IxA.mk (by omega) ?_) | (refine Sl.ln (Own.sl (by assumption)) ?_) | (refine Ints.ix (Own.sl (by assumption)) (by omega) ?_) | (refine Ints.ixI (Own.sl (by assumption)) (by omega) ?_) | (refine Ints.ld (Own.sl (by assumption)) (by omega) ?_))
          refine ⟨_, (by omega : mm - (d + 1) < mm - d), rfl, d + 1, by omega, rfl, rfl, (by rw [← ones_snoc]; show Go.Eng.Own _ _ _ _ _ (List.replicate d (1 : Int) ++ [1]).length ((List.replicate d (1 : Int) ++ [1]).map i64v); rw [List.length_append, List.map_append]; exact H8), E21⟩
        · obtain rfl : mm = d := by omega
          have HRO : OI w5 _ (List.replicate mm 1) := Own.base HR (Nat.zero_le _)
          have hox := HX.ho
          repeat' ((conv => whnf); first | (refine Dr.quiet tyOk (by kernel_rfl) ?_) | (refine Blk.ldA hox rfl ?_) | (refine Rng.mk (by omega) ?_) | (refine Split.pos (by omega) ?_) | (refine Split.neg (by omega) ?_) | (refine Split.mk (fun h => ?_) (fun h => ?_)) | (refine Need.mk (by omega) ?_) | (refine Ints.ln (by assumption) ?_) | (refine Mat.ln (by assumption) ?_) | (refine Ints.ln (Mat.row (by assumption) _ (by omega)) ?_) | (refine Ints.ix (by assumption) (by omega) ?_) | (refine Mat.ix (by assumption) (by omega) ?_) | (refine Ints.ix (Mat.row (by assumption) _ (by omega)) (by omega) ?_) | (refine Ints.ix (c := 0) (by assumption) (by omega) ?_) | (refine Mat.ix (c := 0) (by assumption) (by omega) ?_) | (refine Ints.ix (c := 0) (Mat.row (by assumption) _ (by omega)) (by omega) ?_) | (refine Ints.ixI (by assumption) (by omega) ?_) | (refine Mat.ixI (by assumption) (by omega) ?_) | (refine Ints.ixI (Mat.row (by assumption) _ (by omega)) (by omega) ?_) | (refine Ints.ld (by assumption) (by omega) ?_) | (refine Mat.ld (by assumption) (by omega) ?_) | (refine Ints.ld (Mat.row (by assumption) _ (by omega)) (by omega) ?_) | (refine At.ld (by assumption) rfl ?_) | (refine At.ldN (by assumption) rfl ?_) | (refine Prs.ln (by assumption) ?_) | (refine Trs.ln (by assumption) ?_) | (refine Prs.ix (by assumption) (by omega) ?_) | (refine Trs.ix (by assumption) (by omega) ?_) | (refine Prs.ldN (by assumption) (by omega) ?_) | (refine Trs.ldN (by assumption) (by omega) ?_) | (refine At.ldN (Blk.at (by assumption)) rfl ?_) | (refine At.ld (Blk.at (by assumption)) rfl ?_) | (refine IxA.mk (by omega) ?_) | (refine Sl.ln (Own.sl (by assumption)) ?_) | (refine Ints.ix (Own.sl (by assumption)) (by omega) ?_) | (refine Ints.ixI (Own.sl (by assumption)) (by omega) ?_) | (refine Ints.ld (Own.sl (by assumption)) (by omega) ?_))
          refine VE.lit1 Try.underlying22 eRow (Sl.cells (Own.sl HRO)).1 fun lv w20 E20 Hl => ?_
          have HX2 := HX.ext E20
          have HRO2 := Own.ext HRO E20
          conv => whnf
          refine VE.app Try.underlying22 eRow rfl (by omega) HX2.hm.top HX2.ex rfl Hl (by intro u hu; simp only [List.mem_singleton] at hu; subst hu; exact (Sl.cells (Own.sl HRO)).2) (by omega) (by omega) fun v8 w21 E21 G21 H8 => ?_
          have HM := HX2.hm.push HRO2 G21 H8
          rw [onesL_snoc] at HM
          have hr2 := Blk.row HX2.hr HX2.hm.top (by decide) G21
          have ho2 := Blk.row HX2.ho HX2.hm.top (by decide) G21
          repeat' ((conv => whnf); first | (refine Dr.quiet tyOk (by kernel_rfl) ?_) | (refine Rng.mk (by omega) ?_) | (refine Split.pos (by omega) ?_) | (refine Split.neg (by omega) ?_) | (refine Split.mk (fun h => ?_) (fun h => ?_)) | (refine Need.mk (by omega) ?_) | (refine Ints.ln (by assumption) ?_) | (refine Mat.ln (by assumption) ?_) | (refine Ints.ln (Mat.row (by assumption) _ (by omega)) ?_) | (refine Ints.ix (by assumption) (by omega) ?_) | (refine Mat.ix (by assumption) (by omega) ?_) | (refine Ints.ix (Mat.row (by assumption) _ (by omega)) (by omega) ?_) | (refine Ints.ix (c := 0) (by assumption) (by omega) ?_) | (refine Mat.ix (c := 0) (by assumption) (by omega) ?_) | (refine Ints.ix (c := 0) (Mat.row (by assumption) _ (by omega)) (by omega) ?_) | (refine Ints.ixI (by assumption) (by omega) ?_) | (refine Mat.ixI (by assumption) (by omega) ?_) | (refine Ints.ixI (Mat.row (by assumption) _ (by omega)) (by omega) ?_) | (refine Ints.ld (by assumption) (by omega) ?_) | (refine Mat.ld (by assumption) (by omega) ?_) | (refine Ints.ld (Mat.row (by assumption) _ (by omega)) (by omega) ?_) | (refine At.ld (by assumption) rfl ?_) | (refine At.ldN (by assumption) rfl ?_) | (refine Prs.ln (by assumption) ?_) | (refine Trs.ln (by assumption) ?_) | (refine Prs.ix (by assumption) (by omega) ?_) | (refine Trs.ix (by assumption) (by omega) ?_) | (refine Prs.ldN (by assumption) (by omega) ?_) | (refine Trs.ldN (by assumption) (by omega) ?_) | (refine At.ldN (Blk.at (by assumption)) rfl ?_) | (refine At.ld (Blk.at (by assumption)) rfl ?_) | (refine IxA.mk (by omega) ?_) | (refine Sl.ln (Own.sl (by assumption)) ?_) | (refine Ints.ix (Own.sl (by assumption)) (by omega) ?_) | (refine Ints.ixI (Own.sl (by assumption)) (by omega) ?_) | (refine Ints.ld (Own.sl (by assumption)) (by omega) ?_))
          refine Blk.setA ho2 (by simp) (Sl.cells (Own.sl HM.top)).2 fun w22 G22 ho3 => ?_
          have HM3 := OM.blk HM ho2 (by decide) (by decide) G22
          have HX3 : OnS w1 w22 rb ob v8 _ (onesL (c + 1) mm) := ⟨E21.new G22 (fun i hi e => by have := HX.b2; omega), hr2.two ho2 HX.ne G22, ho3, HM3, HX.ne, HX.b1, HX.b2⟩
          repeat' ((conv => whnf); first | (refine Dr.quiet tyOk (by kernel_rfl) ?_) | (refine Rng.mk (by omega) ?_) | (refine Split.pos (by omega) ?_) | (refine Split.neg (by omega) ?_) | (refine Split.mk (fun h => ?_) (fun h => ?_)) | (refine Need.mk (by omega) ?_) | (refine Ints.ln (by assumption) ?_) | (refine Mat.ln (by assumption) ?_) | (refine Ints.ln (Mat.row (by assumption) _ (by omega)) ?_) | (refine Ints.ix (by assumption) (by omega) ?_) | (refine Mat.ix (by assumption) (by omega) ?_) | (refine Ints.ix (Mat.row (by assumption) _ (by omega)) (by omega) ?_) | (refine Ints.ix (c := 0) (by assumption) (by omega) ?_) | (refine Mat.ix (c := 0) (by assumption) (by omega) ?_) | (refine Ints.ix (c := 0) (Mat.row (by assumption) _ (by omega)) (by omega) ?_) | (refine Ints.ixI (by assumption) (by omega) ?_) | (refine Mat.ixI (by assumption) (by omega) ?_) | (refine Ints.ixI (Mat.row (by assumption) _ (by omega)) (by omega) ?_) | (refine Ints.ld (by assumption) (by omega) ?_) | (refine Mat.ld (by assumption) (by omega) ?_) | (refine Ints.ld (Mat.row (by assumption) _ (by omega)) (by omega) ?_) | (refine At.ld (by assumption) rfl ?_) | (refine At.ldN (by assumption) rfl ?_) | (refine Prs.ln (by assumption) ?_) | (refine Trs.ln (by assumption) ?_) | (refine Prs.ix (by assumption) (by omega) ?_) | (refine Trs.ix (by assumption) (by omega) ?_) | (refine Prs.ldN (by assumption) (by omega) ?_) | (refine Trs.ldN (by assumption) (by omega) ?_) | (refine At.ldN (Blk.at (by assumption)) rfl ?_) | (refine At.ld (Blk.at (by assumption)) rfl ?_) | (refine IxA.mk (by omega) ?_) | (refine Sl.ln (Own.sl (by assumption)) ?_) | (refine Ints.ix (Own.sl (by assumption)) (by omega) ?_) | (refine Ints.ixI (Own.sl (by assumption)) (by omega) ?_) | (refine Ints.ld (Own.sl (by assumption)) (by omega) ?_))
          refine ⟨_, (by omega : n - (c + 1) < n - c), rfl, c + 1, by omega, rfl, rfl, ⟨_, _, HX3⟩⟩
    · obtain rfl : n = c := by omega
      have hox := HX.ho
      repeat' ((conv => whnf); first | (refine Dr.quiet tyOk (by kernel_rfl) ?_) | (refine At.ldN (Blk.at hox) rfl ?_) | (refine Rng.mk (by omega) ?_) | (refine Split.pos (by omega) ?_) | (refine Split.neg (by omega) ?_) | (refine Split.mk (fun h => ?_) (fun h => ?_)) | (refine Need.mk (by omega) ?_) | (refine Ints.ln (by assumption) ?_) | (refine Mat.ln (by assumption) ?_) | (refine Ints.ln (Mat.row (by assumption) _ (by omega)) ?_) | (refine Ints.ix (by assumption) (by omega) ?_) | (refine Mat.ix (by assumption) (by omega) ?_) | (refine Ints.ix (Mat.row (by assumption) _ (by omega)) (by omega) ?_) | (refine Ints.ix (c := 0) (by assumption) (by omega) ?_) | (refine Mat.ix (c := 0) (by assumption) (by omega) ?_) | (refine Ints.ix (c := 0) (Mat.row (by assumption) _ (by omega)) (by omega) ?_) | (refine Ints.ixI (by assumption) (by omega) ?_) | (refine Mat.ixI (by assumption) (by omega) ?_) | (refine Ints.ixI (Mat.row (by assumption) _ (by omega)) (by omega) ?_) | (refine Ints.ld (by assumption) (by omega) ?_) | (refine Mat.ld (by assumption) (by omega) ?_) | (refine Ints.ld (Mat.row (by assumption) _ (by omega)) (by omega) ?_) | (refine At.ld (by assumption) rfl ?_) | (refine At.ldN (by assumption) rfl ?_) | (refine Prs.ln (by assumption) ?_) | (refine Trs.ln (by assumption) ?_) | (refine Prs.ix (by assumption) (by omega) ?_) | (refine Trs.ix (by assumption) (by omega) ?_) | (refine Prs.ldN (by assumption) (by omega) ?_) | (refine Trs.ldN (by assumption) (by omega) ?_) | (refine At.ldN (Blk.at (by assumption)) rfl ?_) | (refine At.ld (Blk.at (by assumption)) rfl ?_) | (refine IxA.mk (by omega) ?_) | (refine Sl.ln (Own.sl (by assumption)) ?_) | (refine Ints.ix (Own.sl (by assumption)) (by omega) ?_) | (refine Ints.ixI (Own.sl (by assumption)) (by omega) ?_) | (refine Ints.ld (Own.sl (by assumption)) (by omega) ?_))
      refine Blk.all HX.hr (cs := [gv]) (by kernel_rfl) (by decide) rfl rfl (by intro v hv; simp only [List.mem_singleton] at hv; subst hv; exact (Sl.cells (Own.sl HX.hm.top)).2) fun w23 G23 hr3 => ?_
      have HM3 := OM.blk HX.hm HX.hr (by decide) (by decide) G23
      repeat' ((conv => whnf); first | (refine Dr.quiet tyOk (by kernel_rfl) ?_) | (refine At.ldN (Blk.at hr3) rfl ?_) | (refine Rng.mk (by omega) ?_) | (refine Split.pos (by omega) ?_) | (refine Split.neg (by omega) ?_) | (refine Split.mk (fun h => ?_) (fun h => ?_)) | (refine Need.mk (by omega) ?_) | (refine Ints.ln (by assumption) ?_) | (refine Mat.ln (by assumption) ?_) | (refine Ints.ln (Mat.row (by assumption) _ (by omega)) ?_) | (refine Ints.ix (by assumption) (by omega) ?_) | (refine Mat.ix (by assumption) (by omega) ?_) | (refine Ints.ix (Mat.row (by assumption) _ (by omega)) (by omega) ?_) | (refine Ints.ix (c := 0) (by assumption) (by omega) ?_) | (refine Mat.ix (c := 0) (by assumption) (by omega) ?_) | (refine Ints.ix (c := 0) (Mat.row (by assumption) _ (by omega)) (by omega) ?_) | (refine Ints.ixI (by assumption) (by omega) ?_) | (refine Mat.ixI (by assumption) (by omega) ?_) | (refine Ints.ixI (Mat.row (by assumption) _ (by omega)) (by omega) ?_) | (refine Ints.ld (by assumption) (by omega) ?_) | (refine Mat.ld (by assumption) (by omega) ?_) | (refine Ints.ld (Mat.row (by assumption) _ (by omega)) (by omega) ?_) | (refine At.ld (by assumption) rfl ?_) | (refine At.ldN (by assumption) rfl ?_) | (refine Prs.ln (by assumption) ?_) | (refine Trs.ln (by assumption) ?_) | (refine Prs.ix (by assumption) (by omega) ?_) | (refine Trs.ix (by assumption) (by omega) ?_) | (refine Prs.ldN (by assumption) (by omega) ?_) | (refine Trs.ldN (by assumption) (by omega) ?_) | (refine At.ldN (Blk.at (by assumption)) rfl ?_) | (refine At.ld (Blk.at (by assumption)) rfl ?_) | (refine IxA.mk (by omega) ?_) | (refine Sl.ln (Own.sl (by assumption)) ?_) | (refine Ints.ix (Own.sl (by assumption)) (by omega) ?_) | (refine Ints.ixI (Own.sl (by assumption)) (by omega) ?_) | (refine Ints.ld (Own.sl (by assumption)) (by omega) ?_))
      exact ⟨HX.ex.new G23 (fun i hi e => by have := HX.b1; omega), gv, us, rfl, HM3.base (Nat.zero_le _)⟩

/-! ### what is found for them -/
theorem on_chk {n m : Nat} (h : chkB (onesL n m) = 0) : chk (onesL n m) = 0 := (chk_eq _).trans h
theorem on16 : ofE (onesL 1 10) ((0 : Nat) : Int) ((6 : Nat) : Int) = 0 ∧ ofR (onesL 1 10) ((0 : Nat) : Int) ((6 : Nat) : Int) = (1, part6) := by
  have hb : ¬ badO (onesL 1 10) ((0 : Nat) : Int) ((6 : Nat) : Int) := by unfold badO; simp [onesL]
  have he : ofE one10 _ _ = 0 := ofE_ok one10_chk hb
  refine ⟨he, ?_⟩
  show ofR one10 _ _ = _
  unfold ofR
  rw [if_pos he, Int.toNat_natCast, Int.toNat_natCast]
  exact sh16
theorem on310_E : fkE (onesL 3 10) = 4 := fkE_many (on_chk (by decide +kernel)) (by decide +kernel)
theorem on210_A : shA (onesL 2 10) = [5, 5] := by
  rw [shA, if_pos (on_chk (by decide +kernel))]; decide +kernel
theorem on32_A : shA (onesL 3 2) = [0, 0, 0] := by
  rw [shA, if_pos (on_chk (by decide +kernel))]; decide +kernel

theorem on210_fk : fkO (onesL 2 10) = some [0, 0, 0, 0, 0, 1, 1, 1, 1, 1] := by
  have h := fk_at (rr := onesL 2 10) (k := 31) (by decide +kernel) (fun q hq => by
    rw [on210_A]
    intro h
    have h2 := h 1 (by decide)
    have h3 : ∀ q, q < 31 → ¬ ([5, 5] : List Int).getD 1 0 ≤ wth (onesL 2 10) (digs (onesL 2 10).length (mOf (onesL 2 10)) q) 1 ((1 : Nat) : Int) := by decide +kernel
    exact h3 q hq h2) (by
    rw [on210_A]
    intro i hi
    have hi : i < 2 := hi
    have : i = 0 ∨ i = 1 := by omega
    rcases this with rfl | rfl <;> decide +kernel)
  rw [h]; decide +kernel
theorem on210_fkE : fkE (onesL 2 10) = 0 ∧ fkR (onesL 2 10) = [0, 0, 0, 0, 0, 1, 1, 1, 1, 1] := by
  have h : fkE (onesL 2 10) = 0 := fkE_some (on_chk (by decide +kernel)) (by decide +kernel) on210_fk
  exact ⟨h, by rw [fkR, if_pos h, on210_fk]; rfl⟩
theorem on32_fk : fkO (onesL 3 2) = some [0, 0] := by
  have h := fk_at (rr := onesL 3 2) (k := 0) (by decide +kernel) (fun q hq => absurd hq (Nat.not_lt_zero _)) (by
    rw [on32_A]
    intro i hi
    have hi : i < 3 := hi
    have : i = 0 ∨ i = 1 ∨ i = 2 := by omega
    rcases this with rfl | rfl | rfl <;> decide +kernel)
  rw [h]; decide +kernel
theorem on32_fkE : fkE (onesL 3 2) = 0 ∧ fkR (onesL 3 2) = [0, 0] := by
  have h : fkE (onesL 3 2) = 0 := fkE_some (on_chk (by decide +kernel)) (by decide +kernel) on32_fk
  exact ⟨h, by rw [fkR, if_pos h, on32_fk]; rfl⟩
theorem gvn_short : vld gvn [1, 0, 0] = 0 ∧ shortR gvn [1, 0, 0] = [] := by
  have h : vld gvn [1, 0, 0] = 0 := gvn_vld (by decide) (by decide) (by decide)
  refine ⟨h, ?_⟩
  rw [shortR, if_pos h, gvn_sh]
  refine short_kp.2 fun i hi => ?_
  have hi : i < 2 := hi
  have : i = 0 ∨ i = 1 := by omega
  rcases this with rfl | rfl <;> decide +kernel
theorem nil_of : ofE [[]] 0 2 = 0 ∧ ofR [[]] 0 2 = (0, []) := by
  have hck : chk [[]] = 0 := (chk_eq _).trans (by decide +kernel)
  have hb : ¬ badO [[]] ((0 : Nat) : Int) ((2 : Nat) : Int) := by unfold badO; simp
  have he : ofE [[]] ((0 : Nat) : Int) ((2 : Nat) : Int) = 0 := ofE_ok hck hb
  refine ⟨he, ?_⟩
  show ofR [[]] ((0 : Nat) : Int) ((2 : Nat) : Int) = _
  rw [ofR, if_pos he, Int.toNat_natCast, Int.toNat_natCast]
  decide +kernel
end Go.Proofs.Ytkgogljfngplnaa
set_option linter.unusedVariables false
set_option linter.unusedSimpArgs false
namespace Go.Proofs.Ytkgogljfngplnaa
open Go.Eng
set_option maxRecDepth 100000
set_option maxHeartbeats 4000000

theorem snames_pc {w : World} : PC Try.prog 12 [] w (.bool true) := by
  refine PC.mk tyOk Try.func12 rfl (by kernel_rfl) fun w1 E1 => ?_
  have EE := Ext.refl w1
  have z0 : ∀ w, Mat w (.slice none 0 0) [] [] := fun w => (OM.nil (B := 0)).mat
  have c0 : chk [] = 8 := (chk_eq _).trans (by decide +kernel)
  have c7 : chk (List.replicate 7 ([] : List Int)) = 4 := (chk_eq _).trans (by decide +kernel)
  have s1 : vld gvn [0] = 8 := (vld_eq _ _).trans (by decide +kernel)
  conv => whnf
  refine VC.rc (given20_rc) ?_
  rintro _ w2 E2 ⟨g1, _, rfl, HG⟩
  replace EE := EE.ext E2
  conv => whnf
  refine VC.rc (sof_rc (ag := 2) (k := 1) HG.mat) ?_
  rintro _ w3 E3 ⟨v1, rfl, H1⟩
  replace EE := EE.ext E3
  replace HG := HG.ext E3
  rw [ofE_bad gvn_ok (.inr (.inl (by decide)))]
  repeat' ((conv => whnf); first | (refine Dr.quiet tyOk (by kernel_rfl) ?_) | (refine Rng.mk (by omega) ?_) | (refine Split.pos (by omega) ?_) | (refine Split.neg (by omega) ?_) | (refine Split.mk (fun h => ?_) (fun h => ?_)) | (refine Need.mk (by omega) ?_) | (refine Ints.ln (by assumption) ?_) | (refine Mat.ln (by assumption) ?_) | (refine Ints.ln (Mat.row (by assumption) _ (by omega)) ?_) | (refine Ints.ix (by assumption) (by omega) ?_) | (refine Mat.ix (by assumption) (by omega) ?_) | (refine Ints.ix (Mat.row (by assumption) _ (by omega)) (by omega) ?_) | (refine Ints.ix (c := 0) (by assumption) (by omega) ?_) | (refine Mat.ix (c := 0) (by assumption) (by omega) ?_) | (refine Ints.ix (c := 0) (Mat.row (by assumption) _ (by omega)) (by omega) ?_) | (refine Ints.ixI (by assumption) (by omega) ?_) | (refine Mat.ixI (by assumption) (by omega) ?_) | (refine Ints.ixI (Mat.row (by assumption) _ (by omega)) (by omega) ?_) | (refine Ints.ld (by assumption) (by omega) ?_) | (refine Mat.ld (by assumption) (by omega) ?_) | (refine Ints.ld (Mat.row (by assumption) _ (by omega)) (by omega) ?_) | (refine At.ld (by assumption) rfl ?_) | (refine At.ldN (by assumption) rfl ?_) | (refine Prs.ln (by assumption) ?_) | (refine Trs.ln (by assumption) ?_) | (refine Prs.ix (by assumption) (by omega) ?_) | (refine Trs.ix (by assumption) (by omega) ?_) | (refine Prs.ldN (by assumption) (by omega) ?_) | (refine Trs.ldN (by assumption) (by omega) ?_) | (refine At.ldN (Blk.at (by assumption)) rfl ?_) | (refine At.ld (Blk.at (by assumption)) rfl ?_) | (refine IxA.mk (by omega) ?_) | (refine Sl.ln (Own.sl (by assumption)) ?_) | (refine Ints.ix (Own.sl (by assumption)) (by omega) ?_) | (refine Ints.ixI (Own.sl (by assumption)) (by omega) ?_) | (refine Ints.ld (Own.sl (by assumption)) (by omega) ?_))
  conv => whnf
  refine VC.rc (given20_rc) ?_
  rintro _ w4 E4 ⟨g1, _, rfl, HG⟩
  replace EE := EE.ext E4
  replace H1 := H1.ext E4
  conv => whnf
  refine VC.rc (sof_rc (ag := -1) (k := 1) HG.mat) ?_
  rintro _ w5 E5 ⟨v1, rfl, H1⟩
  replace EE := EE.ext E5
  replace HG := HG.ext E5
  rw [ofE_bad gvn_ok (.inl (by decide))]
  repeat' ((conv => whnf); first | (refine Dr.quiet tyOk (by kernel_rfl) ?_) | (refine Rng.mk (by omega) ?_) | (refine Split.pos (by omega) ?_) | (refine Split.neg (by omega) ?_) | (refine Split.mk (fun h => ?_) (fun h => ?_)) | (refine Need.mk (by omega) ?_) | (refine Ints.ln (by assumption) ?_) | (refine Mat.ln (by assumption) ?_) | (refine Ints.ln (Mat.row (by assumption) _ (by omega)) ?_) | (refine Ints.ix (by assumption) (by omega) ?_) | (refine Mat.ix (by assumption) (by omega) ?_) | (refine Ints.ix (Mat.row (by assumption) _ (by omega)) (by omega) ?_) | (refine Ints.ix (c := 0) (by assumption) (by omega) ?_) | (refine Mat.ix (c := 0) (by assumption) (by omega) ?_) | (refine Ints.ix (c := 0) (Mat.row (by assumption) _ (by omega)) (by omega) ?_) | (refine Ints.ixI (by assumption) (by omega) ?_) | (refine Mat.ixI (by assumption) (by omega) ?_) | (refine Ints.ixI (Mat.row (by assumption) _ (by omega)) (by omega) ?_) | (refine Ints.ld (by assumption) (by omega) ?_) | (refine Mat.ld (by assumption) (by omega) ?_) | (refine Ints.ld (Mat.row (by assumption) _ (by omega)) (by omega) ?_) | (refine At.ld (by assumption) rfl ?_) | (refine At.ldN (by assumption) rfl ?_) | (refine Prs.ln (by assumption) ?_) | (refine Trs.ln (by assumption) ?_) | (refine Prs.ix (by assumption) (by omega) ?_) | (refine Trs.ix (by assumption) (by omega) ?_) | (refine Prs.ldN (by assumption) (by omega) ?_) | (refine Trs.ldN (by assumption) (by omega) ?_) | (refine At.ldN (Blk.at (by assumption)) rfl ?_) | (refine At.ld (Blk.at (by assumption)) rfl ?_) | (refine IxA.mk (by omega) ?_) | (refine Sl.ln (Own.sl (by assumption)) ?_) | (refine Ints.ix (Own.sl (by assumption)) (by omega) ?_) | (refine Ints.ixI (Own.sl (by assumption)) (by omega) ?_) | (refine Ints.ld (Own.sl (by assumption)) (by omega) ?_))
  conv => whnf
  refine VC.rc (given20_rc) ?_
  rintro _ w6 E6 ⟨g1, _, rfl, HG⟩
  replace EE := EE.ext E6
  replace H1 := H1.ext E6
  conv => whnf
  refine VC.rc (sof_rc (ag := 0) (k := 0) HG.mat) ?_
  rintro _ w7 E7 ⟨v1, rfl, H1⟩
  replace EE := EE.ext E7
  replace HG := HG.ext E7
  rw [ofE_bad gvn_ok (.inr (.inr (.inl (by decide))))]
  repeat' ((conv => whnf); first | (refine Dr.quiet tyOk (by kernel_rfl) ?_) | (refine Rng.mk (by omega) ?_) | (refine Split.pos (by omega) ?_) | (refine Split.neg (by omega) ?_) | (refine Split.mk (fun h => ?_) (fun h => ?_)) | (refine Need.mk (by omega) ?_) | (refine Ints.ln (by assumption) ?_) | (refine Mat.ln (by assumption) ?_) | (refine Ints.ln (Mat.row (by assumption) _ (by omega)) ?_) | (refine Ints.ix (by assumption) (by omega) ?_) | (refine Mat.ix (by assumption) (by omega) ?_) | (refine Ints.ix (Mat.row (by assumption) _ (by omega)) (by omega) ?_) | (refine Ints.ix (c := 0) (by assumption) (by omega) ?_) | (refine Mat.ix (c := 0) (by assumption) (by omega) ?_) | (refine Ints.ix (c := 0) (Mat.row (by assumption) _ (by omega)) (by omega) ?_) | (refine Ints.ixI (by assumption) (by omega) ?_) | (refine Mat.ixI (by assumption) (by omega) ?_) | (refine Ints.ixI (Mat.row (by assumption) _ (by omega)) (by omega) ?_) | (refine Ints.ld (by assumption) (by omega) ?_) | (refine Mat.ld (by assumption) (by omega) ?_) | (refine Ints.ld (Mat.row (by assumption) _ (by omega)) (by omega) ?_) | (refine At.ld (by assumption) rfl ?_) | (refine At.ldN (by assumption) rfl ?_) | (refine Prs.ln (by assumption) ?_) | (refine Trs.ln (by assumption) ?_) | (refine Prs.ix (by assumption) (by omega) ?_) | (refine Trs.ix (by assumption) (by omega) ?_) | (refine Prs.ldN (by assumption) (by omega) ?_) | (refine Trs.ldN (by assumption) (by omega) ?_) | (refine At.ldN (Blk.at (by assumption)) rfl ?_) | (refine At.ld (Blk.at (by assumption)) rfl ?_) | (refine IxA.mk (by omega) ?_) | (refine Sl.ln (Own.sl (by assumption)) ?_) | (refine Ints.ix (Own.sl (by assumption)) (by omega) ?_) | (refine Ints.ixI (Own.sl (by assumption)) (by omega) ?_) | (refine Ints.ld (Own.sl (by assumption)) (by omega) ?_))
  conv => whnf
  refine VC.rc (given20_rc) ?_
  rintro _ w8 E8 ⟨g1, _, rfl, HG⟩
  replace EE := EE.ext E8
  replace H1 := H1.ext E8
  conv => whnf
  refine VC.rc (sof_rc (ag := 0) (k := 7) HG.mat) ?_
  rintro _ w9 E9 ⟨v1, rfl, H1⟩
  replace EE := EE.ext E9
  replace HG := HG.ext E9
  rw [ofE_bad gvn_ok (.inr (.inr (.inr (by decide))))]
  repeat' ((conv => whnf); first | (refine Dr.quiet tyOk (by kernel_rfl) ?_) | (refine Rng.mk (by omega) ?_) | (refine Split.pos (by omega) ?_) | (refine Split.neg (by omega) ?_) | (refine Split.mk (fun h => ?_) (fun h => ?_)) | (refine Need.mk (by omega) ?_) | (refine Ints.ln (by assumption) ?_) | (refine Mat.ln (by assumption) ?_) | (refine Ints.ln (Mat.row (by assumption) _ (by omega)) ?_) | (refine Ints.ix (by assumption) (by omega) ?_) | (refine Mat.ix (by assumption) (by omega) ?_) | (refine Ints.ix (Mat.row (by assumption) _ (by omega)) (by omega) ?_) | (refine Ints.ix (c := 0) (by assumption) (by omega) ?_) | (refine Mat.ix (c := 0) (by assumption) (by omega) ?_) | (refine Ints.ix (c := 0) (Mat.row (by assumption) _ (by omega)) (by omega) ?_) | (refine Ints.ixI (by assumption) (by omega) ?_) | (refine Mat.ixI (by assumption) (by omega) ?_) | (refine Ints.ixI (Mat.row (by assumption) _ (by omega)) (by omega) ?_) | (refine Ints.ld (by assumption) (by omega) ?_) | (refine Mat.ld (by assumption) (by omega) ?_) | (refine Ints.ld (Mat.row (by assumption) _ (by omega)) (by omega) ?_) | (refine At.ld (by assumption) rfl ?_) | (refine At.ldN (by assumption) rfl ?_) | (refine Prs.ln (by assumption) ?_) | (refine Trs.ln (by assumption) ?_) | (refine Prs.ix (by assumption) (by omega) ?_) | (refine Trs.ix (by assumption) (by omega) ?_) | (refine Prs.ldN (by assumption) (by omega) ?_) | (refine Trs.ldN (by assumption) (by omega) ?_) | (refine At.ldN (Blk.at (by assumption)) rfl ?_) | (refine At.ld (Blk.at (by assumption)) rfl ?_) | (refine IxA.mk (by omega) ?_) | (refine Sl.ln (Own.sl (by assumption)) ?_) | (refine Ints.ix (Own.sl (by assumption)) (by omega) ?_) | (refine Ints.ixI (Own.sl (by assumption)) (by omega) ?_) | (refine Ints.ld (Own.sl (by assumption)) (by omega) ?_))
  conv => whnf
  refine VS.sparse (ps := []) Try.underlying24 eGoods (by decide +kernel) rfl (by simp) rfl ?_
  conv => whnf
  refine VC.rc (sof_rc (ag := 0) (k := 0) (z0 _)) ?_
  rintro _ w10 E10 ⟨v1, rfl, H1⟩
  replace EE := EE.ext E10
  replace HG := HG.ext E10
  rw [ofE_chk (rr := []) (by rw [c0]; decide), c0]
  repeat' ((conv => whnf); first | (refine Dr.quiet tyOk (by kernel_rfl) ?_) | (refine Rng.mk (by omega) ?_) | (refine Split.pos (by omega) ?_) | (refine Split.neg (by omega) ?_) | (refine Split.mk (fun h => ?_) (fun h => ?_)) | (refine Need.mk (by omega) ?_) | (refine Ints.ln (by assumption) ?_) | (refine Mat.ln (by assumption) ?_) | (refine Ints.ln (Mat.row (by assumption) _ (by omega)) ?_) | (refine Ints.ix (by assumption) (by omega) ?_) | (refine Mat.ix (by assumption) (by omega) ?_) | (refine Ints.ix (Mat.row (by assumption) _ (by omega)) (by omega) ?_) | (refine Ints.ix (c := 0) (by assumption) (by omega) ?_) | (refine Mat.ix (c := 0) (by assumption) (by omega) ?_) | (refine Ints.ix (c := 0) (Mat.row (by assumption) _ (by omega)) (by omega) ?_) | (refine Ints.ixI (by assumption) (by omega) ?_) | (refine Mat.ixI (by assumption) (by omega) ?_) | (refine Ints.ixI (Mat.row (by assumption) _ (by omega)) (by omega) ?_) | (refine Ints.ld (by assumption) (by omega) ?_) | (refine Mat.ld (by assumption) (by omega) ?_) | (refine Ints.ld (Mat.row (by assumption) _ (by omega)) (by omega) ?_) | (refine At.ld (by assumption) rfl ?_) | (refine At.ldN (by assumption) rfl ?_) | (refine Prs.ln (by assumption) ?_) | (refine Trs.ln (by assumption) ?_) | (refine Prs.ix (by assumption) (by omega) ?_) | (refine Trs.ix (by assumption) (by omega) ?_) | (refine Prs.ldN (by assumption) (by omega) ?_) | (refine Trs.ldN (by assumption) (by omega) ?_) | (refine At.ldN (Blk.at (by assumption)) rfl ?_) | (refine At.ld (Blk.at (by assumption)) rfl ?_) | (refine IxA.mk (by omega) ?_) | (refine Sl.ln (Own.sl (by assumption)) ?_) | (refine Ints.ix (Own.sl (by assumption)) (by omega) ?_) | (refine Ints.ixI (Own.sl (by assumption)) (by omega) ?_) | (refine Ints.ld (Own.sl (by assumption)) (by omega) ?_))
  conv => whnf
  refine VE.made (n := 7) Try.underlying22 eRow rfl (by omega) (by omega) fun mv7 w11 E11 HG _ => ?_
  replace EE := EE.ext E11
  replace H1 := H1.ext E11
  replace HG := OM.made (HG 0 (Nat.zero_le _))
  conv => whnf
  refine VS.field1 Try.underlying24 eGoods (by kernel_rfl) rfl (Sl.cells (Own.sl HG.top)).1 ?_
  conv => whnf
  refine VC.rc (sall_rc HG.mat) ?_
  rintro _ w12 E12 ⟨v1, rfl, H1⟩
  replace EE := EE.ext E12
  replace HG := HG.ext E12
  rw [c7]
  repeat' ((conv => whnf); first | (refine Dr.quiet tyOk (by kernel_rfl) ?_) | (refine Rng.mk (by omega) ?_) | (refine Split.pos (by omega) ?_) | (refine Split.neg (by omega) ?_) | (refine Split.mk (fun h => ?_) (fun h => ?_)) | (refine Need.mk (by omega) ?_) | (refine Ints.ln (by assumption) ?_) | (refine Mat.ln (by assumption) ?_) | (refine Ints.ln (Mat.row (by assumption) _ (by omega)) ?_) | (refine Ints.ix (by assumption) (by omega) ?_) | (refine Mat.ix (by assumption) (by omega) ?_) | (refine Ints.ix (Mat.row (by assumption) _ (by omega)) (by omega) ?_) | (refine Ints.ix (c := 0) (by assumption) (by omega) ?_) | (refine Mat.ix (c := 0) (by assumption) (by omega) ?_) | (refine Ints.ix (c := 0) (Mat.row (by assumption) _ (by omega)) (by omega) ?_) | (refine Ints.ixI (by assumption) (by omega) ?_) | (refine Mat.ixI (by assumption) (by omega) ?_) | (refine Ints.ixI (Mat.row (by assumption) _ (by omega)) (by omega) ?_) | (refine Ints.ld (by assumption) (by omega) ?_) | (refine Mat.ld (by assumption) (by omega) ?_) | (refine Ints.ld (Mat.row (by assumption) _ (by omega)) (by omega) ?_) | (refine At.ld (by assumption) rfl ?_) | (refine At.ldN (by assumption) rfl ?_) | (refine Prs.ln (by assumption) ?_) | (refine Trs.ln (by assumption) ?_) | (refine Prs.ix (by assumption) (by omega) ?_) | (refine Trs.ix (by assumption) (by omega) ?_) | (refine Prs.ldN (by assumption) (by omega) ?_) | (refine Trs.ldN (by assumption) (by omega) ?_) | (refine At.ldN (Blk.at (by assumption)) rfl ?_) | (refine At.ld (Blk.at (by assumption)) rfl ?_) | (refine IxA.mk (by omega) ?_) | (refine Sl.ln (Own.sl (by assumption)) ?_) | (refine Ints.ix (Own.sl (by assumption)) (by omega) ?_) | (refine Ints.ixI (Own.sl (by assumption)) (by omega) ?_) | (refine Ints.ld (Own.sl (by assumption)) (by omega) ?_))
  conv => whnf
  refine VC.rc (given20_rc) ?_
  rintro _ w13 E13 ⟨g1, _, rfl, HG⟩
  replace EE := EE.ext E13
  replace H1 := H1.ext E13
  conv => whnf
  refine VE.litI [0] Try.underlying27 eInt (by first | decide | simp) fun l1 w14 E14 HL _ => ?_
  replace HL := HL 0 (Nat.zero_le _)
  replace EE := EE.ext E14
  replace H1 := H1.ext E14
  replace HG := HG.ext E14
  conv => whnf
  refine VC.rc (sshort_rc HG.mat (Own.sl HL)) ?_
  rintro _ w15 E15 ⟨v1, rfl, H1⟩
  replace EE := EE.ext E15
  replace HG := HG.ext E15
  replace HL := HL.ext E15
  rw [s1]
  repeat' ((conv => whnf); first | (refine Dr.quiet tyOk (by kernel_rfl) ?_) | (refine Rng.mk (by omega) ?_) | (refine Split.pos (by omega) ?_) | (refine Split.neg (by omega) ?_) | (refine Split.mk (fun h => ?_) (fun h => ?_)) | (refine Need.mk (by omega) ?_) | (refine Ints.ln (by assumption) ?_) | (refine Mat.ln (by assumption) ?_) | (refine Ints.ln (Mat.row (by assumption) _ (by omega)) ?_) | (refine Ints.ix (by assumption) (by omega) ?_) | (refine Mat.ix (by assumption) (by omega) ?_) | (refine Ints.ix (Mat.row (by assumption) _ (by omega)) (by omega) ?_) | (refine Ints.ix (c := 0) (by assumption) (by omega) ?_) | (refine Mat.ix (c := 0) (by assumption) (by omega) ?_) | (refine Ints.ix (c := 0) (Mat.row (by assumption) _ (by omega)) (by omega) ?_) | (refine Ints.ixI (by assumption) (by omega) ?_) | (refine Mat.ixI (by assumption) (by omega) ?_) | (refine Ints.ixI (Mat.row (by assumption) _ (by omega)) (by omega) ?_) | (refine Ints.ld (by assumption) (by omega) ?_) | (refine Mat.ld (by assumption) (by omega) ?_) | (refine Ints.ld (Mat.row (by assumption) _ (by omega)) (by omega) ?_) | (refine At.ld (by assumption) rfl ?_) | (refine At.ldN (by assumption) rfl ?_) | (refine Prs.ln (by assumption) ?_) | (refine Trs.ln (by assumption) ?_) | (refine Prs.ix (by assumption) (by omega) ?_) | (refine Trs.ix (by assumption) (by omega) ?_) | (refine Prs.ldN (by assumption) (by omega) ?_) | (refine Trs.ldN (by assumption) (by omega) ?_) | (refine At.ldN (Blk.at (by assumption)) rfl ?_) | (refine At.ld (Blk.at (by assumption)) rfl ?_) | (refine IxA.mk (by omega) ?_) | (refine Sl.ln (Own.sl (by assumption)) ?_) | (refine Ints.ix (Own.sl (by assumption)) (by omega) ?_) | (refine Ints.ixI (Own.sl (by assumption)) (by omega) ?_) | (refine Ints.ld (Own.sl (by assumption)) (by omega) ?_))
  conv => whnf
  refine VC.rc (ones_rc (n := 3) (mm := 10) (by decide) (by decide)) ?_
  rintro _ w16 E16 ⟨g1, _, rfl, HG⟩
  replace EE := EE.ext E16
  replace HL := HL.ext E16
  replace H1 := H1.ext E16
  conv => whnf
  refine VC.rc (sfind_rc HG.mat) ?_
  rintro _ w17 E17 ⟨v1, rfl, H1⟩
  replace EE := EE.ext E17
  replace HL := HL.ext E17
  replace HG := HG.ext E17
  rw [on310_E]
  repeat' ((conv => whnf); first | (refine Dr.quiet tyOk (by kernel_rfl) ?_) | (refine Rng.mk (by omega) ?_) | (refine Split.pos (by omega) ?_) | (refine Split.neg (by omega) ?_) | (refine Split.mk (fun h => ?_) (fun h => ?_)) | (refine Need.mk (by omega) ?_) | (refine Ints.ln (by assumption) ?_) | (refine Mat.ln (by assumption) ?_) | (refine Ints.ln (Mat.row (by assumption) _ (by omega)) ?_) | (refine Ints.ix (by assumption) (by omega) ?_) | (refine Mat.ix (by assumption) (by omega) ?_) | (refine Ints.ix (Mat.row (by assumption) _ (by omega)) (by omega) ?_) | (refine Ints.ix (c := 0) (by assumption) (by omega) ?_) | (refine Mat.ix (c := 0) (by assumption) (by omega) ?_) | (refine Ints.ix (c := 0) (Mat.row (by assumption) _ (by omega)) (by omega) ?_) | (refine Ints.ixI (by assumption) (by omega) ?_) | (refine Mat.ixI (by assumption) (by omega) ?_) | (refine Ints.ixI (Mat.row (by assumption) _ (by omega)) (by omega) ?_) | (refine Ints.ld (by assumption) (by omega) ?_) | (refine Mat.ld (by assumption) (by omega) ?_) | (refine Ints.ld (Mat.row (by assumption) _ (by omega)) (by omega) ?_) | (refine At.ld (by assumption) rfl ?_) | (refine At.ldN (by assumption) rfl ?_) | (refine Prs.ln (by assumption) ?_) | (refine Trs.ln (by assumption) ?_) | (refine Prs.ix (by assumption) (by omega) ?_) | (refine Trs.ix (by assumption) (by omega) ?_) | (refine Prs.ldN (by assumption) (by omega) ?_) | (refine Trs.ldN (by assumption) (by omega) ?_) | (refine At.ldN (Blk.at (by assumption)) rfl ?_) | (refine At.ld (Blk.at (by assumption)) rfl ?_) | (refine IxA.mk (by omega) ?_) | (refine Sl.ln (Own.sl (by assumption)) ?_) | (refine Ints.ix (Own.sl (by assumption)) (by omega) ?_) | (refine Ints.ixI (Own.sl (by assumption)) (by omega) ?_) | (refine Ints.ld (Own.sl (by assumption)) (by omega) ?_))
  conv => whnf
  refine VC.rc (ones_rc (n := 2) (mm := 10) (by decide) (by decide)) ?_
  rintro _ w18 E18 ⟨g1, _, rfl, HG⟩
  replace EE := EE.ext E18
  replace HL := HL.ext E18
  replace H1 := H1.ext E18
  conv => whnf
  refine VC.rc (sfind_rc HG.mat) ?_
  rintro _ w19 E19 ⟨xv, rfl, HX⟩
  replace EE := EE.ext E19
  replace HL := HL.ext E19
  replace H1 := H1.ext E19
  replace HG := HG.ext E19
  rw [on210_fkE.2] at HX
  rw [on210_fkE.1]
  repeat' ((conv => whnf); first | (refine Dr.quiet tyOk (by kernel_rfl) ?_) | (refine Rng.mk (by omega) ?_) | (refine Split.pos (by omega) ?_) | (refine Split.neg (by omega) ?_) | (refine Split.mk (fun h => ?_) (fun h => ?_)) | (refine Need.mk (by omega) ?_) | (refine Ints.ln (by assumption) ?_) | (refine Mat.ln (by assumption) ?_) | (refine Ints.ln (Mat.row (by assumption) _ (by omega)) ?_) | (refine Ints.ix (by assumption) (by omega) ?_) | (refine Mat.ix (by assumption) (by omega) ?_) | (refine Ints.ix (Mat.row (by assumption) _ (by omega)) (by omega) ?_) | (refine Ints.ix (c := 0) (by assumption) (by omega) ?_) | (refine Mat.ix (c := 0) (by assumption) (by omega) ?_) | (refine Ints.ix (c := 0) (Mat.row (by assumption) _ (by omega)) (by omega) ?_) | (refine Ints.ixI (by assumption) (by omega) ?_) | (refine Mat.ixI (by assumption) (by omega) ?_) | (refine Ints.ixI (Mat.row (by assumption) _ (by omega)) (by omega) ?_) | (refine Ints.ld (by assumption) (by omega) ?_) | (refine Mat.ld (by assumption) (by omega) ?_) | (refine Ints.ld (Mat.row (by assumption) _ (by omega)) (by omega) ?_) | (refine At.ld (by assumption) rfl ?_) | (refine At.ldN (by assumption) rfl ?_) | (refine Prs.ln (by assumption) ?_) | (refine Trs.ln (by assumption) ?_) | (refine Prs.ix (by assumption) (by omega) ?_) | (refine Trs.ix (by assumption) (by omega) ?_) | (refine Prs.ldN (by assumption) (by omega) ?_) | (refine Trs.ldN (by assumption) (by omega) ?_) | (refine At.ldN (Blk.at (by assumption)) rfl ?_) | (refine At.ld (Blk.at (by assumption)) rfl ?_) | (refine IxA.mk (by omega) ?_) | (refine Sl.ln (Own.sl (by assumption)) ?_) | (refine Ints.ix (Own.sl (by assumption)) (by omega) ?_) | (refine Ints.ixI (Own.sl (by assumption)) (by omega) ?_) | (refine Ints.ld (Own.sl (by assumption)) (by omega) ?_))
  conv => whnf
  refine VC.rc (ones_rc (n := 1) (mm := 10) (by decide) (by decide)) ?_
  rintro _ w20 E20 ⟨g1, _, rfl, HG⟩
  replace EE := EE.ext E20
  replace HL := HL.ext E20
  replace H1 := H1.ext E20
  replace HX := HX.ext E20
  conv => whnf
  refine VC.rc (sof_rc (ag := ((0 : Nat) : Int)) (k := ((6 : Nat) : Int)) HG.mat) ?_
  rintro _ w21 E21 ⟨pv, rfl, HP⟩
  replace EE := EE.ext E21
  replace HL := HL.ext E21
  replace H1 := H1.ext E21
  replace HX := HX.ext E21
  replace HG := HG.ext E21
  rw [on16.2] at HP
  replace HP : OI _ pv [0, 0, 0, 0, 0, 1, 2, 3, 4, 5] := HP
  rw [on16.1, on16.2]
  repeat' ((conv => whnf); first | (refine Dr.quiet tyOk (by kernel_rfl) ?_) | (refine Rng.mk (by omega) ?_) | (refine Split.pos (by omega) ?_) | (refine Split.neg (by omega) ?_) | (refine Split.mk (fun h => ?_) (fun h => ?_)) | (refine Need.mk (by omega) ?_) | (refine Ints.ln (by assumption) ?_) | (refine Mat.ln (by assumption) ?_) | (refine Ints.ln (Mat.row (by assumption) _ (by omega)) ?_) | (refine Ints.ix (by assumption) (by omega) ?_) | (refine Mat.ix (by assumption) (by omega) ?_) | (refine Ints.ix (Mat.row (by assumption) _ (by omega)) (by omega) ?_) | (refine Ints.ix (c := 0) (by assumption) (by omega) ?_) | (refine Mat.ix (c := 0) (by assumption) (by omega) ?_) | (refine Ints.ix (c := 0) (Mat.row (by assumption) _ (by omega)) (by omega) ?_) | (refine Ints.ixI (by assumption) (by omega) ?_) | (refine Mat.ixI (by assumption) (by omega) ?_) | (refine Ints.ixI (Mat.row (by assumption) _ (by omega)) (by omega) ?_) | (refine Ints.ld (by assumption) (by omega) ?_) | (refine Mat.ld (by assumption) (by omega) ?_) | (refine Ints.ld (Mat.row (by assumption) _ (by omega)) (by omega) ?_) | (refine At.ld (by assumption) rfl ?_) | (refine At.ldN (by assumption) rfl ?_) | (refine Prs.ln (by assumption) ?_) | (refine Trs.ln (by assumption) ?_) | (refine Prs.ix (by assumption) (by omega) ?_) | (refine Trs.ix (by assumption) (by omega) ?_) | (refine Prs.ldN (by assumption) (by omega) ?_) | (refine Trs.ldN (by assumption) (by omega) ?_) | (refine At.ldN (Blk.at (by assumption)) rfl ?_) | (refine At.ld (Blk.at (by assumption)) rfl ?_) | (refine IxA.mk (by omega) ?_) | (refine Sl.ln (Own.sl (by assumption)) ?_) | (refine Ints.ix (Own.sl (by assumption)) (by omega) ?_) | (refine Ints.ixI (Own.sl (by assumption)) (by omega) ?_) | (refine Ints.ld (Own.sl (by assumption)) (by omega) ?_))
  conv => whnf
  refine VE.made (n := 1) Try.underlying22 eRow rfl (by omega) (by omega) fun mv1 w22 E22 HG _ => ?_
  replace EE := EE.ext E22
  replace HL := HL.ext E22
  replace H1 := H1.ext E22
  replace HX := HX.ext E22
  replace HP := HP.ext E22
  replace HG := OM.made (HG 0 (Nat.zero_le _))
  conv => whnf
  refine VS.field1 Try.underlying24 eGoods (by kernel_rfl) rfl (Sl.cells (Own.sl HG.top)).1 ?_
  conv => whnf
  refine VC.rc (sof_rc (ag := 0) (k := 2) HG.mat) ?_
  rintro _ w23 E23 ⟨qv, rfl, HQ⟩
  replace EE := EE.ext E23
  replace HL := HL.ext E23
  replace H1 := H1.ext E23
  replace HX := HX.ext E23
  replace HP := HP.ext E23
  replace HG := HG.ext E23
  replace HQ : OI _ qv (ofR [[]] 0 2).2 := HQ
  rw [nil_of.2] at HQ
  replace HQ : OI _ qv [] := HQ
  rw [show ofE (List.replicate 1 []) 0 2 = 0 from nil_of.1, show ofR (List.replicate 1 []) 0 2 = (0, []) from nil_of.2]
  repeat' ((conv => whnf); first | (refine Dr.quiet tyOk (by kernel_rfl) ?_) | (refine Rng.mk (by omega) ?_) | (refine Split.pos (by omega) ?_) | (refine Split.neg (by omega) ?_) | (refine Split.mk (fun h => ?_) (fun h => ?_)) | (refine Need.mk (by omega) ?_) | (refine Ints.ln (by assumption) ?_) | (refine Mat.ln (by assumption) ?_) | (refine Ints.ln (Mat.row (by assumption) _ (by omega)) ?_) | (refine Ints.ix (by assumption) (by omega) ?_) | (refine Mat.ix (by assumption) (by omega) ?_) | (refine Ints.ix (Mat.row (by assumption) _ (by omega)) (by omega) ?_) | (refine Ints.ix (c := 0) (by assumption) (by omega) ?_) | (refine Mat.ix (c := 0) (by assumption) (by omega) ?_) | (refine Ints.ix (c := 0) (Mat.row (by assumption) _ (by omega)) (by omega) ?_) | (refine Ints.ixI (by assumption) (by omega) ?_) | (refine Mat.ixI (by assumption) (by omega) ?_) | (refine Ints.ixI (Mat.row (by assumption) _ (by omega)) (by omega) ?_) | (refine Ints.ld (by assumption) (by omega) ?_) | (refine Mat.ld (by assumption) (by omega) ?_) | (refine Ints.ld (Mat.row (by assumption) _ (by omega)) (by omega) ?_) | (refine At.ld (by assumption) rfl ?_) | (refine At.ldN (by assumption) rfl ?_) | (refine Prs.ln (by assumption) ?_) | (refine Trs.ln (by assumption) ?_) | (refine Prs.ix (by assumption) (by omega) ?_) | (refine Trs.ix (by assumption) (by omega) ?_) | (refine Prs.ldN (by assumption) (by omega) ?_) | (refine Trs.ldN (by assumption) (by omega) ?_) | (refine At.ldN (Blk.at (by assumption)) rfl ?_) | (refine At.ld (Blk.at (by assumption)) rfl ?_) | (refine IxA.mk (by omega) ?_) | (refine Sl.ln (Own.sl (by assumption)) ?_) | (refine Ints.ix (Own.sl (by assumption)) (by omega) ?_) | (refine Ints.ixI (Own.sl (by assumption)) (by omega) ?_) | (refine Ints.ld (Own.sl (by assumption)) (by omega) ?_))
  conv => whnf
  refine VC.rc (ones_rc (n := 3) (mm := 2) (by decide) (by decide)) ?_
  rintro _ w24 E24 ⟨g1, _, rfl, HG⟩
  replace EE := EE.ext E24
  replace HL := HL.ext E24
  replace H1 := H1.ext E24
  replace HX := HX.ext E24
  replace HP := HP.ext E24
  replace HQ := HQ.ext E24
  conv => whnf
  refine VC.rc (sfind_rc HG.mat) ?_
  rintro _ w25 E25 ⟨uv, rfl, HU⟩
  replace EE := EE.ext E25
  replace HL := HL.ext E25
  replace H1 := H1.ext E25
  replace HX := HX.ext E25
  replace HP := HP.ext E25
  replace HQ := HQ.ext E25
  replace HG := HG.ext E25
  rw [on32_fkE.2] at HU
  rw [on32_fkE.1]
  repeat' ((conv => whnf); first | (refine Dr.quiet tyOk (by kernel_rfl) ?_) | (refine Rng.mk (by omega) ?_) | (refine Split.pos (by omega) ?_) | (refine Split.neg (by omega) ?_) | (refine Split.mk (fun h => ?_) (fun h => ?_)) | (refine Need.mk (by omega) ?_) | (refine Ints.ln (by assumption) ?_) | (refine Mat.ln (by assumption) ?_) | (refine Ints.ln (Mat.row (by assumption) _ (by omega)) ?_) | (refine Ints.ix (by assumption) (by omega) ?_) | (refine Mat.ix (by assumption) (by omega) ?_) | (refine Ints.ix (Mat.row (by assumption) _ (by omega)) (by omega) ?_) | (refine Ints.ix (c := 0) (by assumption) (by omega) ?_) | (refine Mat.ix (c := 0) (by assumption) (by omega) ?_) | (refine Ints.ix (c := 0) (Mat.row (by assumption) _ (by omega)) (by omega) ?_) | (refine Ints.ixI (by assumption) (by omega) ?_) | (refine Mat.ixI (by assumption) (by omega) ?_) | (refine Ints.ixI (Mat.row (by assumption) _ (by omega)) (by omega) ?_) | (refine Ints.ld (by assumption) (by omega) ?_) | (refine Mat.ld (by assumption) (by omega) ?_) | (refine Ints.ld (Mat.row (by assumption) _ (by omega)) (by omega) ?_) | (refine At.ld (by assumption) rfl ?_) | (refine At.ldN (by assumption) rfl ?_) | (refine Prs.ln (by assumption) ?_) | (refine Trs.ln (by assumption) ?_) | (refine Prs.ix (by assumption) (by omega) ?_) | (refine Trs.ix (by assumption) (by omega) ?_) | (refine Prs.ldN (by assumption) (by omega) ?_) | (refine Trs.ldN (by assumption) (by omega) ?_) | (refine At.ldN (Blk.at (by assumption)) rfl ?_) | (refine At.ld (Blk.at (by assumption)) rfl ?_) | (refine IxA.mk (by omega) ?_) | (refine Sl.ln (Own.sl (by assumption)) ?_) | (refine Ints.ix (Own.sl (by assumption)) (by omega) ?_) | (refine Ints.ixI (Own.sl (by assumption)) (by omega) ?_) | (refine Ints.ld (Own.sl (by assumption)) (by omega) ?_))
  conv => whnf
  refine VC.rc (given20_rc) ?_
  rintro _ w26 E26 ⟨g1, _, rfl, HG⟩
  replace EE := EE.ext E26
  replace HL := HL.ext E26
  replace H1 := H1.ext E26
  replace HX := HX.ext E26
  replace HP := HP.ext E26
  replace HQ := HQ.ext E26
  replace HU := HU.ext E26
  conv => whnf
  refine VE.litI [1, 0, 0] Try.underlying27 eInt (by first | decide | simp) fun l1 w27 E27 HL _ => ?_
  replace HL := HL 0 (Nat.zero_le _)
  replace EE := EE.ext E27
  replace H1 := H1.ext E27
  replace HX := HX.ext E27
  replace HP := HP.ext E27
  replace HQ := HQ.ext E27
  replace HU := HU.ext E27
  replace HG := HG.ext E27
  conv => whnf
  refine VC.rc (sshort_rc HG.mat (Own.sl HL)) ?_
  rintro _ w28 E28 ⟨vv, rfl, HV⟩
  replace EE := EE.ext E28
  replace H1 := H1.ext E28
  replace HX := HX.ext E28
  replace HP := HP.ext E28
  replace HQ := HQ.ext E28
  replace HU := HU.ext E28
  replace HG := HG.ext E28
  replace HL := HL.ext E28
  rw [gvn_short.2] at HV
  rw [gvn_short.1]
  repeat' ((conv => whnf); first | (refine Dr.quiet tyOk (by kernel_rfl) ?_) | (refine Rng.mk (by omega) ?_) | (refine Split.pos (by omega) ?_) | (refine Split.neg (by omega) ?_) | (refine Split.mk (fun h => ?_) (fun h => ?_)) | (refine Need.mk (by omega) ?_) | (refine Ints.ln (by assumption) ?_) | (refine Mat.ln (by assumption) ?_) | (refine Ints.ln (Mat.row (by assumption) _ (by omega)) ?_) | (refine Ints.ix (by assumption) (by omega) ?_) | (refine Mat.ix (by assumption) (by omega) ?_) | (refine Ints.ix (Mat.row (by assumption) _ (by omega)) (by omega) ?_) | (refine Ints.ix (c := 0) (by assumption) (by omega) ?_) | (refine Mat.ix (c := 0) (by assumption) (by omega) ?_) | (refine Ints.ix (c := 0) (Mat.row (by assumption) _ (by omega)) (by omega) ?_) | (refine Ints.ixI (by assumption) (by omega) ?_) | (refine Mat.ixI (by assumption) (by omega) ?_) | (refine Ints.ixI (Mat.row (by assumption) _ (by omega)) (by omega) ?_) | (refine Ints.ld (by assumption) (by omega) ?_) | (refine Mat.ld (by assumption) (by omega) ?_) | (refine Ints.ld (Mat.row (by assumption) _ (by omega)) (by omega) ?_) | (refine At.ld (by assumption) rfl ?_) | (refine At.ldN (by assumption) rfl ?_) | (refine Prs.ln (by assumption) ?_) | (refine Trs.ln (by assumption) ?_) | (refine Prs.ix (by assumption) (by omega) ?_) | (refine Trs.ix (by assumption) (by omega) ?_) | (refine Prs.ldN (by assumption) (by omega) ?_) | (refine Trs.ldN (by assumption) (by omega) ?_) | (refine At.ldN (Blk.at (by assumption)) rfl ?_) | (refine At.ld (Blk.at (by assumption)) rfl ?_) | (refine IxA.mk (by omega) ?_) | (refine Sl.ln (Own.sl (by assumption)) ?_) | (refine Ints.ix (Own.sl (by assumption)) (by omega) ?_) | (refine Ints.ixI (Own.sl (by assumption)) (by omega) ?_) | (refine Ints.ld (Own.sl (by assumption)) (by omega) ?_))
  conv => whnf
  refine VS.sparse (ps := []) Try.underlying24 eGoods (by decide +kernel) rfl (by simp) rfl ?_
  conv => whnf
  refine VC.rc (sfind_rc (z0 _)) ?_
  rintro _ w29 E29 ⟨v1, rfl, H1⟩
  replace EE := EE.ext E29
  replace HX := HX.ext E29
  replace HP := HP.ext E29
  replace HQ := HQ.ext E29
  replace HU := HU.ext E29
  replace HG := HG.ext E29
  replace HL := HL.ext E29
  replace HV := HV.ext E29
  rw [fkE_chk (rr := []) (by rw [c0]; decide), c0]
  repeat' ((conv => whnf); first | (refine Dr.quiet tyOk (by kernel_rfl) ?_) | (refine VC.pure alive20_pc ?_) | (refine VCQ.pure alive20_pc ?_) | (refine Rng.mk (by omega) ?_) | (refine Split.pos (by omega) ?_) | (refine Split.neg (by omega) ?_) | (refine Split.mk (fun h => ?_) (fun h => ?_)) | (refine Need.mk (by omega) ?_) | (refine Ints.ln (by assumption) ?_) | (refine Mat.ln (by assumption) ?_) | (refine Ints.ln (Mat.row (by assumption) _ (by omega)) ?_) | (refine Ints.ix (by assumption) (by omega) ?_) | (refine Mat.ix (by assumption) (by omega) ?_) | (refine Ints.ix (Mat.row (by assumption) _ (by omega)) (by omega) ?_) | (refine Ints.ix (c := 0) (by assumption) (by omega) ?_) | (refine Mat.ix (c := 0) (by assumption) (by omega) ?_) | (refine Ints.ix (c := 0) (Mat.row (by assumption) _ (by omega)) (by omega) ?_) | (refine Ints.ixI (by assumption) (by omega) ?_) | (refine Mat.ixI (by assumption) (by omega) ?_) | (refine Ints.ixI (Mat.row (by assumption) _ (by omega)) (by omega) ?_) | (refine Ints.ld (by assumption) (by omega) ?_) | (refine Mat.ld (by assumption) (by omega) ?_) | (refine Ints.ld (Mat.row (by assumption) _ (by omega)) (by omega) ?_) | (refine At.ld (by assumption) rfl ?_) | (refine At.ldN (by assumption) rfl ?_) | (refine Prs.ln (by assumption) ?_) | (refine Trs.ln (by assumption) ?_) | (refine Prs.ix (by assumption) (by omega) ?_) | (refine Trs.ix (by assumption) (by omega) ?_) | (refine Prs.ldN (by assumption) (by omega) ?_) | (refine Trs.ldN (by assumption) (by omega) ?_) | (refine At.ldN (Blk.at (by assumption)) rfl ?_) | (refine At.ld (Blk.at (by assumption)) rfl ?_) | (refine IxA.mk (by omega) ?_) | (refine Sl.ln (Own.sl (by assumption)) ?_) | (refine Ints.ix (Own.sl (by assumption)) (by omega) ?_) | (refine Ints.ixI (Own.sl (by assumption)) (by omega) ?_) | (refine Ints.ld (Own.sl (by assumption)) (by omega) ?_))
  conv => whnf
  refine VE.litI [0, 0, 0, 0, 0, 1, 1, 1, 1, 1] Try.underlying27 eInt (by first | decide | simp) fun x1 w30 E30 X1 _ => ?_
  replace X1 := X1 0 (Nat.zero_le _)
  replace EE := EE.ext E30
  replace HX := HX.ext E30
  replace HP := HP.ext E30
  replace HQ := HQ.ext E30
  replace HU := HU.ext E30
  replace HG := HG.ext E30
  replace HL := HL.ext E30
  replace HV := HV.ext E30
  replace H1 := H1.ext E30
  have a1 := same_pc (Own.sl HX) (Own.sl X1)
  rw [tf_t rfl] at a1
  conv => whnf
  refine VC.pure a1 ?_
  repeat' ((conv => whnf); first | (refine Dr.quiet tyOk (by kernel_rfl) ?_) | (refine Rng.mk (by omega) ?_) | (refine Split.pos (by omega) ?_) | (refine Split.neg (by omega) ?_) | (refine Split.mk (fun h => ?_) (fun h => ?_)) | (refine Need.mk (by omega) ?_) | (refine Ints.ln (by assumption) ?_) | (refine Mat.ln (by assumption) ?_) | (refine Ints.ln (Mat.row (by assumption) _ (by omega)) ?_) | (refine Ints.ix (by assumption) (by omega) ?_) | (refine Mat.ix (by assumption) (by omega) ?_) | (refine Ints.ix (Mat.row (by assumption) _ (by omega)) (by omega) ?_) | (refine Ints.ix (c := 0) (by assumption) (by omega) ?_) | (refine Mat.ix (c := 0) (by assumption) (by omega) ?_) | (refine Ints.ix (c := 0) (Mat.row (by assumption) _ (by omega)) (by omega) ?_) | (refine Ints.ixI (by assumption) (by omega) ?_) | (refine Mat.ixI (by assumption) (by omega) ?_) | (refine Ints.ixI (Mat.row (by assumption) _ (by omega)) (by omega) ?_) | (refine Ints.ld (by assumption) (by omega) ?_) | (refine Mat.ld (by assumption) (by omega) ?_) | (refine Ints.ld (Mat.row (by assumption) _ (by omega)) (by omega) ?_) | (refine At.ld (by assumption) rfl ?_) | (refine At.ldN (by assumption) rfl ?_) | (refine Prs.ln (by assumption) ?_) | (refine Trs.ln (by assumption) ?_) | (refine Prs.ix (by assumption) (by omega) ?_) | (refine Trs.ix (by assumption) (by omega) ?_) | (refine Prs.ldN (by assumption) (by omega) ?_) | (refine Trs.ldN (by assumption) (by omega) ?_) | (refine At.ldN (Blk.at (by assumption)) rfl ?_) | (refine At.ld (Blk.at (by assumption)) rfl ?_) | (refine IxA.mk (by omega) ?_) | (refine Sl.ln (Own.sl (by assumption)) ?_) | (refine Ints.ix (Own.sl (by assumption)) (by omega) ?_) | (refine Ints.ixI (Own.sl (by assumption)) (by omega) ?_) | (refine Ints.ld (Own.sl (by assumption)) (by omega) ?_))
  conv => whnf
  refine VE.litI [0, 0, 0, 0, 0, 1, 2, 3, 4, 5] Try.underlying27 eInt (by first | decide | simp) fun x2 w31 E31 X2 _ => ?_
  replace X2 := X2 0 (Nat.zero_le _)
  replace EE := EE.ext E31
  replace HX := HX.ext E31
  replace HP := HP.ext E31
  replace HQ := HQ.ext E31
  replace HU := HU.ext E31
  replace HG := HG.ext E31
  replace HL := HL.ext E31
  replace HV := HV.ext E31
  replace H1 := H1.ext E31
  replace X1 := X1.ext E31
  have a2 := same_pc (Own.sl HP) (Own.sl X2)
  rw [tf_t rfl] at a2
  conv => whnf
  refine VC.pure a2 ?_
  have hnl : ([] : List Int).length = 0 := rfl
  repeat' ((conv => whnf); first | (refine Dr.quiet tyOk (by kernel_rfl) ?_) | (refine Rng.mk (by omega) ?_) | (refine Split.pos (by omega) ?_) | (refine Split.neg (by omega) ?_) | (refine Split.mk (fun h => ?_) (fun h => ?_)) | (refine Need.mk (by omega) ?_) | (refine Ints.ln (by assumption) ?_) | (refine Mat.ln (by assumption) ?_) | (refine Ints.ln (Mat.row (by assumption) _ (by omega)) ?_) | (refine Ints.ix (by assumption) (by omega) ?_) | (refine Mat.ix (by assumption) (by omega) ?_) | (refine Ints.ix (Mat.row (by assumption) _ (by omega)) (by omega) ?_) | (refine Ints.ix (c := 0) (by assumption) (by omega) ?_) | (refine Mat.ix (c := 0) (by assumption) (by omega) ?_) | (refine Ints.ix (c := 0) (Mat.row (by assumption) _ (by omega)) (by omega) ?_) | (refine Ints.ixI (by assumption) (by omega) ?_) | (refine Mat.ixI (by assumption) (by omega) ?_) | (refine Ints.ixI (Mat.row (by assumption) _ (by omega)) (by omega) ?_) | (refine Ints.ld (by assumption) (by omega) ?_) | (refine Mat.ld (by assumption) (by omega) ?_) | (refine Ints.ld (Mat.row (by assumption) _ (by omega)) (by omega) ?_) | (refine At.ld (by assumption) rfl ?_) | (refine At.ldN (by assumption) rfl ?_) | (refine Prs.ln (by assumption) ?_) | (refine Trs.ln (by assumption) ?_) | (refine Prs.ix (by assumption) (by omega) ?_) | (refine Trs.ix (by assumption) (by omega) ?_) | (refine Prs.ldN (by assumption) (by omega) ?_) | (refine Trs.ldN (by assumption) (by omega) ?_) | (refine At.ldN (Blk.at (by assumption)) rfl ?_) | (refine At.ld (Blk.at (by assumption)) rfl ?_) | (refine IxA.mk (by omega) ?_) | (refine Sl.ln (Own.sl (by assumption)) ?_) | (refine Ints.ix (Own.sl (by assumption)) (by omega) ?_) | (refine Ints.ixI (Own.sl (by assumption)) (by omega) ?_) | (refine Ints.ld (Own.sl (by assumption)) (by omega) ?_))
  conv => whnf
  refine VE.litI [0, 0] Try.underlying27 eInt (by first | decide | simp) fun x3 w32 E32 X3 _ => ?_
  replace X3 := X3 0 (Nat.zero_le _)
  replace EE := EE.ext E32
  replace HX := HX.ext E32
  replace HP := HP.ext E32
  replace HQ := HQ.ext E32
  replace HU := HU.ext E32
  replace HG := HG.ext E32
  replace HL := HL.ext E32
  replace HV := HV.ext E32
  replace H1 := H1.ext E32
  replace X1 := X1.ext E32
  replace X2 := X2.ext E32
  have a3 := same_pc (Own.sl HU) (Own.sl X3)
  rw [tf_t rfl] at a3
  conv => whnf
  refine VC.pure a3 ?_
  repeat' ((conv => whnf); first | (refine Dr.quiet tyOk (by kernel_rfl) ?_) | (refine Rng.mk (by omega) ?_) | (refine Split.pos (by omega) ?_) | (refine Split.neg (by omega) ?_) | (refine Split.mk (fun h => ?_) (fun h => ?_)) | (refine Need.mk (by omega) ?_) | (refine Ints.ln (by assumption) ?_) | (refine Mat.ln (by assumption) ?_) | (refine Ints.ln (Mat.row (by assumption) _ (by omega)) ?_) | (refine Ints.ix (by assumption) (by omega) ?_) | (refine Mat.ix (by assumption) (by omega) ?_) | (refine Ints.ix (Mat.row (by assumption) _ (by omega)) (by omega) ?_) | (refine Ints.ix (c := 0) (by assumption) (by omega) ?_) | (refine Mat.ix (c := 0) (by assumption) (by omega) ?_) | (refine Ints.ix (c := 0) (Mat.row (by assumption) _ (by omega)) (by omega) ?_) | (refine Ints.ixI (by assumption) (by omega) ?_) | (refine Mat.ixI (by assumption) (by omega) ?_) | (refine Ints.ixI (Mat.row (by assumption) _ (by omega)) (by omega) ?_) | (refine Ints.ld (by assumption) (by omega) ?_) | (refine Mat.ld (by assumption) (by omega) ?_) | (refine Ints.ld (Mat.row (by assumption) _ (by omega)) (by omega) ?_) | (refine At.ld (by assumption) rfl ?_) | (refine At.ldN (by assumption) rfl ?_) | (refine Prs.ln (by assumption) ?_) | (refine Trs.ln (by assumption) ?_) | (refine Prs.ix (by assumption) (by omega) ?_) | (refine Trs.ix (by assumption) (by omega) ?_) | (refine Prs.ldN (by assumption) (by omega) ?_) | (refine Trs.ldN (by assumption) (by omega) ?_) | (refine At.ldN (Blk.at (by assumption)) rfl ?_) | (refine At.ld (Blk.at (by assumption)) rfl ?_) | (refine IxA.mk (by omega) ?_) | (refine Sl.ln (Own.sl (by assumption)) ?_) | (refine Ints.ix (Own.sl (by assumption)) (by omega) ?_) | (refine Ints.ixI (Own.sl (by assumption)) (by omega) ?_) | (refine Ints.ld (Own.sl (by assumption)) (by omega) ?_))
  exact ⟨rfl, EE⟩

open Go.ChangeShapes Go.WideShapes Go.ChangeAt Go.RowKit Go.Eng in
theorem shareNames_lifted (os : Os) (started : os.Started) (H : Type) (enc : TypeId × Value → H) :
    ReturnsInHanded {} Try.checked os 12 .any (Rows.shareNamesSpec.pre6 enc Try.prog Try.f12 Rows.shareNamesRow.domain false) (Rows.shareNamesSpec.post enc Try.prog Try.f12 false true false false) := by
  refine returnsInHanded_of_change (C := Try.checked) own started (by kernel_rfl) Try.func12
    (ChangeSpec.witness6 (enc := enc) (C := Try.checked) false ⟨#[], #[], []⟩ 8 (by kernel_rfl) (by kernel_rfl) (by kernel_rfl) (by kernel_rfl)) ?_
  intro W base args ds gs before hval0 hW hcnd _
  have hval : ∀ (j : Nat) t v, Try.f12.params[j]? = some t → args[j]? = some v → Value.okWide Try.prog W .any base t v := hval0
  have hW' := hW
  obtain ⟨p, q, hA0, hV, e0, hfz, hnd⟩ := hW
  have hA : DataW.TrodAll enc Try.prog W 0 (fun _ => true) true Try.f12.params.toList args.toList ds p := hA0
  rw [Try.params12] at hA hval
  clear hfz hnd hV e0 hval0
  obtain ⟨ee, rfl, _⟩ := trodAll_nil hA
  obtain rfl : args = #[] := Array.toList_inj.1 (by simpa using ee)
  exact law_calls laidOut (by rw [Try.params12]; intro t ht; revert t; decide +kernel) rfl Try.underlying4 rfl ⟨rfl, rfl, rfl⟩ hW' (snames_pc)

theorem shareNames_holds : Rows.ShareNamesSaid :=
  OpenClaim.holds_of_wide 12 Try.f12 rfl rfl rfl rfl rfl rfl rfl ⟨rfl, rfl, rfl, rfl, rfl⟩ rfl rfl rfl rfl rfl (by kernel_rfl) Try.func12 (by kernel_rfl)
    (of_decide_eq_true (by kernel_rfl)) (by unfold Func.isWrapper; first | (rw [if_pos (by decide +kernel)]; kernel_rfl) | (rw [if_neg (by decide +kernel)]; exact ⟨rfl, rfl⟩))
    (fun os started H enc _ => shareNames_lifted os started H enc)
end Go.Proofs.Ytkgogljfngplnaa
