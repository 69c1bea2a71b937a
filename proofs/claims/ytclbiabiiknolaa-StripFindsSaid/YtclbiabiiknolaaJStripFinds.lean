/- The statement StripFinds. -/
import Derived.Test.YtclbiabiiknolaaJ3
import Derived.Test.YtclbiabiiknolaaRows
set_option linter.unusedVariables false
set_option linter.unusedSimpArgs false
namespace Go.Proofs.Ytclbiabiiknolaa
open Go.Eng
set_option maxRecDepth 100000

/-- nobody comes back, by places -/
def Ctg (a : List Int) : Prop := ∀ i j k, i ≤ j → j ≤ k → k < a.length → a.getD i 0 = a.getD k 0 → a.getD j 0 = a.getD i 0
theorem nr_ctg {a : List Int} : nr a ↔ Ctg a := by
  rw [nr_iff]
  constructor
  · intro h i j k hij hjk hk he
    have hall : ∀ d, i + d ≤ k → a.getD (i + d) 0 = a.getD i 0 := by
      intro d
      induction d with
      | zero => intro _; rfl
      | succ d ih =>
        intro hd
        have h1 := ih (by omega)
        refine Classical.byContradiction fun hne => ?_
        exact h k hk ⟨i + d, by omega, by omega, by rw [h1, he], fun e => hne (by rw [show i + (d + 1) = i + d + 1 by omega, e, he])⟩
    have := hall (j - i) (by omega)
    rwa [show i + (j - i) = j by omega] at this
  · rintro h k hk ⟨j, hj, hj1, he, hne⟩
    have := h j (j + 1) k (by omega) (by omega) hk he
    exact hne (by rw [this, he])
theorem getD_appl {a b : List Int} {i : Nat} (h : i < a.length) : (a ++ b).getD i 0 = a.getD i 0 := by
  rw [List.getD, List.getD, List.getElem?_append_left h]
theorem getD_appr {a : List Int} {x : Int} : (a ++ [x]).getD a.length 0 = x := by
  rw [List.getD, List.getElem?_append_right (Nat.le_refl _)]; simp
theorem nr_pre {a b : List Int} (h : nr (a ++ b)) : nr a := by
  rw [nr_ctg] at h ⊢
  intro i j k hij hjk hk he
  have h1 := h i j k hij hjk (by rw [List.length_append]; omega) (by rw [getD_appl (by omega), getD_appl hk]; exact he)
  rwa [getD_appl (by omega), getD_appl (by omega)] at h1
theorem nr_snoc {a : List Int} {x : Int} (h : nr a) : nr (a ++ [x]) ↔ ¬ ∃ k, k < a.length - 1 ∧ a.getD k 0 = x ∧ a.getD (a.length - 1) 0 ≠ x := by
  constructor
  · rintro h2 ⟨k, hk, he, hne⟩
    rw [nr_ctg] at h2
    have h3 := h2 k (a.length - 1) a.length (by omega) (by omega) (by simp) (by rw [getD_appl (by omega), getD_appr]; exact he)
    rw [getD_appl (by omega), getD_appl (by omega), he] at h3
    exact hne h3
  · intro hno
    rw [nr_ctg] at h ⊢
    intro i j k hij hjk hk he
    rw [List.length_append, List.length_singleton] at hk
    by_cases hka : k < a.length
    · rw [getD_appl (by omega), getD_appl (by omega)] at he
      rw [getD_appl (by omega), getD_appl (by omega)]
      exact h i j k hij hjk hka he
    · obtain rfl : k = a.length := by omega
      rw [getD_appr] at he
      by_cases hja : j < a.length
      · rw [getD_appl (by omega)] at he
        rw [getD_appl (by omega), getD_appl (by omega)]
        by_cases hl : a.getD (a.length - 1) 0 = x
        · exact h i j (a.length - 1) hij (by omega) (by omega) (by rw [he, hl])
        · have hi : i ≠ a.length - 1 := fun e => hl (by rw [← e]; exact he)
          exact absurd ⟨i, by omega, he, hl⟩ hno
      · obtain rfl : j = a.length := by omega
        rw [getD_appr, he]
def ExS (rr : List (List Int)) (S : List Int → Prop) (b0 : List Int) (y0 : Int) (b1 : List Int) (y1 : Int) : Prop :=
  (y1 = y0 ∧ b1 = b0 ∧ ∀ l, S l → lvl rr l ≤ y0) ∨ (y0 < y1 ∧ S b1 ∧ lvl rr b1 = y1 ∧ ∀ l, S l → lvl rr l ≤ y1 ∧ (lvl rr l = y1 → ¬ lexlt l b1))
section
variable {rr : List (List Int)} {S T : List Int → Prop} {b0 b1 b2 : List Int} {y0 y1 y2 : Int}
theorem ExS.nil (h : ∀ l, ¬ S l) : ExS rr S b0 y0 b0 y0 := .inl ⟨rfl, rfl, fun l hl => absurd hl (h l)⟩
theorem ExS.congr (h : ExS rr S b0 y0 b1 y1) (he : ∀ l, S l ↔ T l) : ExS rr T b0 y0 b1 y1 := by
  rcases h with ⟨h1, h2, h3⟩ | ⟨h1, h2, h3, h4⟩
  · exact .inl ⟨h1, h2, fun l hl => h3 l ((he l).2 hl)⟩
  · exact .inr ⟨h1, (he _).1 h2, h3, fun l hl => h4 l ((he l).2 hl)⟩
theorem ExS.step (h : ExS rr S b0 y0 b1 y1) (k : ExS rr T b1 y1 b2 y2) (hlt : ∀ s t, S s → T t → lexlt s t) : ExS rr (fun l => S l ∨ T l) b0 y0 b2 y2 := by
  rcases h with ⟨h1, h2, h3⟩ | ⟨h1, h2, h3, h4⟩
  · rcases k with ⟨k1, k2, k3⟩ | ⟨k1, k2, k3, k4⟩
    · refine .inl ⟨by omega, k2.trans h2, fun l hl => ?_⟩
      rcases hl with hl | hl
      · exact h3 l hl
      · have := k3 l hl; omega
    · refine .inr ⟨by omega, .inr k2, k3, fun l hl => ?_⟩
      rcases hl with hl | hl
      · have := h3 l hl
        exact ⟨by omega, fun e => by omega⟩
      · exact k4 l hl
  · rcases k with ⟨k1, k2, k3⟩ | ⟨k1, k2, k3, k4⟩
    · subst k1 k2
      refine .inr ⟨h1, .inl h2, h3, fun l hl => ?_⟩
      rcases hl with hl | hl
      · exact h4 l hl
      · exact ⟨k3 l hl, fun _ hx => lexlt_asymm (hlt _ _ h2 hl) hx⟩
    · refine .inr ⟨by omega, .inr k2, k3, fun l hl => ?_⟩
      rcases hl with hl | hl
      · have := (h4 l hl).1
        exact ⟨by omega, fun e => by omega⟩
      · exact k4 l hl
end
def Sub (rr : List (List Int)) (a l : List Int) : Prop := divn rr l ∧ l.take a.length = a
def Pre (rr : List (List Int)) (a : List Int) (c : Nat) (l : List Int) : Prop := Sub rr a l ∧ l.getD a.length 0 < (c : Int)
theorem take_snocI {l : List Int} {k : Nat} (h : k < l.length) : l.take (k + 1) = l.take k ++ [l.getD k 0] := by
  rw [List.take_succ_eq_append_getElem h, List.getD, List.getElem?_eq_getElem h]; rfl
theorem sub_snoc {rr : List (List Int)} {m : Nat} (hk : Sd rr m) {a l : List Int} {x : Int} (ha : a.length < m) : Sub rr (a ++ [x]) l ↔ Sub rr a l ∧ l.getD a.length 0 = x := by
  unfold Sub
  constructor
  · rintro ⟨h1, h2⟩
    have hl : a.length < l.length := by rw [(divn_iff.1 h1).1, hk.m0]; exact ha
    rw [List.length_append, List.length_singleton, take_snocI hl] at h2
    obtain ⟨h3, h4⟩ := List.append_inj h2 (by rw [List.length_take]; omega)
    exact ⟨⟨h1, h3⟩, by simpa using h4⟩
  · rintro ⟨⟨h1, h2⟩, h3⟩
    have hl : a.length < l.length := by rw [(divn_iff.1 h1).1, hk.m0]; exact ha
    exact ⟨h1, by rw [List.length_append, List.length_singleton, take_snocI hl, h2, h3]⟩
theorem el_rng {rr : List (List Int)} {m : Nat} (hk : Sd rr m) {l : List Int} {k : Nat} (h : divn rr l) (hkm : k < m) : 0 ≤ l.getD k 0 ∧ l.getD k 0 < rr.length := by
  obtain ⟨h1, h2, _⟩ := divn_iff.1 h
  exact h2 _ (mem_getI.2 ⟨k, by rw [h1, hk.m0]; exact hkm, rfl⟩)
theorem pre_zero {rr : List (List Int)} {m : Nat} (hk : Sd rr m) {a l : List Int} (ha : a.length < m) : ¬ Pre rr a 0 l := fun h => by
  have h1 := (el_rng hk h.1.1 ha).1
  have h2 := h.2
  omega
theorem pre_succ {rr : List (List Int)} {m : Nat} (hk : Sd rr m) {a l : List Int} {c : Nat} (ha : a.length < m) : (Pre rr a c l ∨ Sub rr (a ++ [(c : Int)]) l) ↔ Pre rr a (c + 1) l := by
  rw [sub_snoc hk ha]
  unfold Pre
  constructor
  · rintro (⟨h1, h2⟩ | ⟨h1, h2⟩)
    · exact ⟨h1, by omega⟩
    · exact ⟨h1, by omega⟩
  · rintro ⟨h1, h2⟩
    by_cases e : l.getD a.length 0 = (c : Int)
    · exact .inr ⟨h1, e⟩
    · exact .inl ⟨h1, by omega⟩
theorem pre_all {rr : List (List Int)} {m : Nat} (hk : Sd rr m) {a l : List Int} (ha : a.length < m) : Pre rr a rr.length l ↔ Sub rr a l :=
  ⟨fun h => h.1, fun h => ⟨h, (el_rng hk h.1 ha).2⟩⟩
theorem lexlt_at4 : ∀ {a b : List Int} {k : Nat}, k < a.length → k < b.length → (∀ i, i < k → a.getD i 0 = b.getD i 0) → a.getD k 0 < b.getD k 0 → lexlt a b
  | [], _, _, h, _, _, _ => absurd h (by simp)
  | _ :: _, [], _, _, h, _, _ => absurd h (by simp)
  | x :: a, y :: b, 0, _, _, _, h => .inl h
  | x :: a, y :: b, k + 1, h1, h2, h3, h4 => .inr ⟨h3 0 (by omega), lexlt_at4 (k := k) (by simpa using h1) (by simpa using h2) (fun i hi => h3 (i + 1) (by omega)) h4⟩
theorem take_get {l a : List Int} {i : Nat} (h : l.take a.length = a) (hi : i < a.length) : l.getD i 0 = a.getD i 0 := by
  rw [← h, List.getD, List.getD, List.getElem?_take, if_pos (by rw [← h, List.length_take] at hi; omega)]
theorem pre_lt {rr : List (List Int)} {m : Nat} (hk : Sd rr m) {a s t : List Int} {c : Nat} (ha : a.length < m) (hs : Pre rr a c s) (ht : Sub rr (a ++ [(c : Int)]) t) : lexlt s t := by
  rw [sub_snoc hk ha] at ht
  have l1 := (divn_iff.1 hs.1.1).1
  have l2 := (divn_iff.1 ht.1.1).1
  rw [hk.m0] at l1 l2
  exact lexlt_at4 (k := a.length) (by omega) (by omega) (fun i hi => by rw [take_get hs.1.2 hi, take_get ht.1.2 hi]) (by rw [ht.2]; exact hs.2)
theorem sub_full {rr : List (List Int)} {m : Nat} (hk : Sd rr m) {a l : List Int} (ha : a.length = m) (hd : divn rr a) : Sub rr a l ↔ l = a := by
  constructor
  · rintro ⟨h1, h2⟩
    rw [List.take_of_length_le (by rw [(divn_iff.1 h1).1, hk.m0, ha]; exact Nat.le_refl _)] at h2
    exact h2
  · rintro rfl; exact ⟨hd, List.take_length⟩
theorem sub_none {rr : List (List Int)} {a l : List Int} (h : ¬ nr a) : ¬ Sub rr a l := fun ⟨h1, h2⟩ => by
  have h3 := (divn_iff.1 h1).2.2
  rw [← List.take_append_drop a.length l, h2] at h3
  exact h (nr_pre h3)
/-- the best of all is what the search over all divisions keeps -/
theorem ex_best {rr : List (List Int)} {m : Nat} (hk : Sd rr m) (hs : ∃ a, divn rr a) {b1 : List Int} {y1 : Int} (h : ExS rr (Sub rr []) [] (-1) b1 y1) : IsBest rr b1 ∧ lvl rr b1 = y1 := by
  have hsub : ∀ l, divn rr l → Sub rr [] l := fun l hl => ⟨hl, rfl⟩
  rcases h with ⟨h1, h2, h3⟩ | ⟨h1, h2, h3, h4⟩
  · obtain ⟨a, ha⟩ := hs
    have h5 := h3 a (hsub a ha)
    have h6 := (lvl_bd hk (show a.length = m by rw [(divn_iff.1 ha).1, hk.m0])).1
    omega
  · refine ⟨⟨h2.1, fun b hb => ?_⟩, h3⟩
    have := h4 b (hsub b hb)
    rw [h3]; exact this
end Go.Proofs.Ytclbiabiiknolaa
set_option linter.unusedVariables false
set_option linter.unusedSimpArgs false
namespace Go.Proofs.Ytclbiabiiknolaa
open Go.Eng
set_option maxRecDepth 100000
set_option maxHeartbeats 4000000

theorem nil_ints31 {w : World} : Ints w (.slice none 0 0) [] := Own.sl (B := 0) (e := 3) Own.nil
theorem OI.next {w : World} {v : Value} {B : Nat} {x : Int} {a : List Int} (h : Go.Eng.Own B 3 1 w v (0 + a.length + 1) ([] ++ a.map i64v ++ [.int .i64 x])) : OI w v (a ++ [x]) := by
  have e : 0 + a.length + 1 = (a ++ [x]).length := by simp
  rw [e, List.nil_append] at h
  have e2 : a.map i64v ++ [.int .i64 x] = (a ++ [x]).map i64v := by simp [i64v]
  rw [e2] at h
  exact Own.base h (Nat.zero_le _)
theorem el_snoc {a : List Int} {n c : Nat} (h : ∀ x, x ∈ a → 0 ≤ x ∧ x < n) (hc : c < n) (x : Int) (hx : x ∈ a ++ [(c : Int)]) : 0 ≤ x ∧ x < n := by
  rcases List.mem_append.1 hx with h1 | h1
  · exact h x h1
  · rw [List.mem_singleton] at h1; omega
theorem again_up {d : Nat} {P Q : Nat → Prop} (h : ∃ k, k < d ∧ P k ∧ Q k) : ∃ k, k < d + 1 ∧ P k ∧ Q k := by
  obtain ⟨k, h1, h2⟩ := h
  exact ⟨k, by omega, h2⟩
theorem again_no {d : Nat} {P Q : Nat → Prop} (h1 : ¬ P d) (h : ¬ ∃ k, k < d ∧ P k ∧ Q k) : ¬ ∃ k, k < d + 1 ∧ P k ∧ Q k := by
  rintro ⟨k, h2, h3, h4⟩
  by_cases e : k = d
  · subst e; exact h1 h3
  · exact h ⟨k, by omega, h3, h4⟩
theorem extend_rc {rr : List (List Int)} {mm : Nat} (hk : Sd rr mm) : ∀ (j : Nat) {w : World} {vv av bv : Value} {vs : List Value} {a b : List Int} {y : Int}, a.length + j = mm → nr a → (∀ x, x ∈ a → 0 ≤ x ∧ x < rr.length) → Mat w vv vs rr → Ints w av a → Ints w bv b → -1 ≤ y ∧ y ≤ 16000 →
    RC Try.prog 31 [vv, av, bv, .int .i64 y] w NoB (fun u w' => ∃ v b1 y1, u = .tuple #[v, .int .i64 y1] ∧ Ints w' v b1 ∧ (-1 ≤ y1 ∧ y1 ≤ 16000) ∧ ExS rr (Sub rr a) b y b1 y1)
  | 0, w, vv, av, bv, vs, a, b, y, hj, hnr, hel, Hv, Ha, Hb, hy => by
    have hn1 := hk.n1
    have hn6 := hk.n6
    have hm16 := hk.m16
    have hm0 := hk.m0
    have hd : divn rr a := divn_iff.2 ⟨by omega, hel, hnr⟩
    have hbd := lvl_bd hk (show a.length = mm by omega)
    have hsub := fun l => sub_full (l := l) hk (show a.length = mm by omega) hd
    obtain ⟨x, hx⟩ : ∃ x, lvl rr a = x := ⟨_, rfl⟩
    rw [hx] at hbd
    refine RC.mk tyOk Try.func31 rfl (by kernel_rfl) fun w1 E1 => ?_
    replace Hv := Hv.ext E1
    replace Ha := Ha.ext E1
    replace Hb := Hb.ext E1
    have EE := Ext.refl w1
    have cl := rlev_pc Hv Ha hk hd
    rw [hx] at cl
    by_cases hxy : y < x
    · repeat' ((conv => whnf); first | (refine Dr.quiet tyOk (by kernel_rfl) ?_) | (refine Mat.ld (c := 0) Hv (by omega) ?_) | (refine VC.pure cl ?_) | (refine Rng.mk (by omega) ?_) | (refine Split.pos (by omega) ?_) | (refine Split.neg (by omega) ?_) | (refine Split.mk (fun h => ?_) (fun h => ?_)) | (refine Need.mk (by omega) ?_) | (refine Ints.ln (by assumption) ?_) | (refine Mat.ln (by assumption) ?_) | (refine Ints.ln (Mat.row (by assumption) _ (by omega)) ?_) | (refine Ints.ix (by assumption) (by omega) ?_) | (refine Mat.ix (by assumption) (by omega) ?_) | (refine Ints.ix (Mat.row (by assumption) _ (by omega)) (by omega) ?_) | (refine Ints.ix (c := 0) (by assumption) (by omega) ?_) | (refine Mat.ix (c := 0) (by assumption) (by omega) ?_) | (refine Ints.ix (c := 0) (Mat.row (by assumption) _ (by omega)) (by omega) ?_) | (refine Ints.ixI (by assumption) (by omega) ?_) | (refine Mat.ixI (by assumption) (by omega) ?_) | (refine Ints.ixI (Mat.row (by assumption) _ (by omega)) (by omega) ?_) | (refine Ints.ld (by assumption) (by omega) ?_) | (refine Mat.ld (by assumption) (by omega) ?_) | (refine Ints.ld (Mat.row (by assumption) _ (by omega)) (by omega) ?_) | (refine At.ld (by assumption) rfl ?_) | (refine At.ldN (by assumption) rfl ?_) | (refine Prs.ln (by assumption) ?_) | (refine Trs.ln (by assumption) ?_) | (refine Prs.ix (by assumption) (by omega) ?_) | (refine Trs.ix (by assumption) (by omega) ?_) | (refine Prs.ldN (by assumption) (by omega) ?_) | (refine Trs.ldN (by assumption) (by omega) ?_) | (refine At.ldN (Blk.at (by assumption)) rfl ?_) | (refine At.ld (Blk.at (by assumption)) rfl ?_) | (refine IxA.mk (by omega) ?_) | (refine Sl.ln (Own.sl (by assumption)) ?_) | (refine Ints.ix (Own.sl (by assumption)) (by omega) ?_) | (refine Ints.ixI (Own.sl (by assumption)) (by omega) ?_) | (refine Ints.ld (Own.sl (by assumption)) (by omega) ?_))
      conv => whnf
      refine VE.lit0 Try.underlying24 eInt fun l0_nv w2 E2 Hl0_nv => ?_
      have Ha0_nv := Ha.ext E2
      conv => whnf
      refine VE.app Try.underlying24 eInt rfl (by omega) (Hl0_nv _ (Nat.le_refl _)) E2 rfl Ha0_nv (one_ints _) (by omega) (by omega) fun nv w3 E3 G3 HN => ?_
      replace Hv := Hv.ext E3
      replace Ha := Ha.ext E3
      replace Hb := Hb.ext E3
      replace EE := EE.ext E3
      replace HN : OI w3 nv a := by have := OI.of HN; simpa using this
      have cl := rlev_pc Hv Ha hk hd
      rw [hx] at cl
      repeat' ((conv => whnf); first | (refine Dr.quiet tyOk (by kernel_rfl) ?_) | (refine VC.pure cl ?_) | (refine Rng.mk (by omega) ?_) | (refine Split.pos (by omega) ?_) | (refine Split.neg (by omega) ?_) | (refine Split.mk (fun h => ?_) (fun h => ?_)) | (refine Need.mk (by omega) ?_) | (refine Ints.ln (by assumption) ?_) | (refine Mat.ln (by assumption) ?_) | (refine Ints.ln (Mat.row (by assumption) _ (by omega)) ?_) | (refine Ints.ix (by assumption) (by omega) ?_) | (refine Mat.ix (by assumption) (by omega) ?_) | (refine Ints.ix (Mat.row (by assumption) _ (by omega)) (by omega) ?_) | (refine Ints.ix (c := 0) (by assumption) (by omega) ?_) | (refine Mat.ix (c := 0) (by assumption) (by omega) ?_) | (refine Ints.ix (c := 0) (Mat.row (by assumption) _ (by omega)) (by omega) ?_) | (refine Ints.ixI (by assumption) (by omega) ?_) | (refine Mat.ixI (by assumption) (by omega) ?_) | (refine Ints.ixI (Mat.row (by assumption) _ (by omega)) (by omega) ?_) | (refine Ints.ld (by assumption) (by omega) ?_) | (refine Mat.ld (by assumption) (by omega) ?_) | (refine Ints.ld (Mat.row (by assumption) _ (by omega)) (by omega) ?_) | (refine At.ld (by assumption) rfl ?_) | (refine At.ldN (by assumption) rfl ?_) | (refine Prs.ln (by assumption) ?_) | (refine Trs.ln (by assumption) ?_) | (refine Prs.ix (by assumption) (by omega) ?_) | (refine Trs.ix (by assumption) (by omega) ?_) | (refine Prs.ldN (by assumption) (by omega) ?_) | (refine Trs.ldN (by assumption) (by omega) ?_) | (refine At.ldN (Blk.at (by assumption)) rfl ?_) | (refine At.ld (Blk.at (by assumption)) rfl ?_) | (refine IxA.mk (by omega) ?_) | (refine Sl.ln (Own.sl (by assumption)) ?_) | (refine Ints.ix (Own.sl (by assumption)) (by omega) ?_) | (refine Ints.ixI (Own.sl (by assumption)) (by omega) ?_) | (refine Ints.ld (Own.sl (by assumption)) (by omega) ?_))
      exact ⟨EE, nv, a, x, rfl, Own.sl HN, by omega, .inr ⟨hxy, (hsub a).2 rfl, hx, fun l hl => by rw [(hsub l).1 hl]; exact ⟨by omega, fun _ h => lexlt_asymm h h⟩⟩⟩
    · repeat' ((conv => whnf); first | (refine Dr.quiet tyOk (by kernel_rfl) ?_) | (refine Mat.ld (c := 0) Hv (by omega) ?_) | (refine VC.pure cl ?_) | (refine Rng.mk (by omega) ?_) | (refine Split.pos (by omega) ?_) | (refine Split.neg (by omega) ?_) | (refine Split.mk (fun h => ?_) (fun h => ?_)) | (refine Need.mk (by omega) ?_) | (refine Ints.ln (by assumption) ?_) | (refine Mat.ln (by assumption) ?_) | (refine Ints.ln (Mat.row (by assumption) _ (by omega)) ?_) | (refine Ints.ix (by assumption) (by omega) ?_) | (refine Mat.ix (by assumption) (by omega) ?_) | (refine Ints.ix (Mat.row (by assumption) _ (by omega)) (by omega) ?_) | (refine Ints.ix (c := 0) (by assumption) (by omega) ?_) | (refine Mat.ix (c := 0) (by assumption) (by omega) ?_) | (refine Ints.ix (c := 0) (Mat.row (by assumption) _ (by omega)) (by omega) ?_) | (refine Ints.ixI (by assumption) (by omega) ?_) | (refine Mat.ixI (by assumption) (by omega) ?_) | (refine Ints.ixI (Mat.row (by assumption) _ (by omega)) (by omega) ?_) | (refine Ints.ld (by assumption) (by omega) ?_) | (refine Mat.ld (by assumption) (by omega) ?_) | (refine Ints.ld (Mat.row (by assumption) _ (by omega)) (by omega) ?_) | (refine At.ld (by assumption) rfl ?_) | (refine At.ldN (by assumption) rfl ?_) | (refine Prs.ln (by assumption) ?_) | (refine Trs.ln (by assumption) ?_) | (refine Prs.ix (by assumption) (by omega) ?_) | (refine Trs.ix (by assumption) (by omega) ?_) | (refine Prs.ldN (by assumption) (by omega) ?_) | (refine Trs.ldN (by assumption) (by omega) ?_) | (refine At.ldN (Blk.at (by assumption)) rfl ?_) | (refine At.ld (Blk.at (by assumption)) rfl ?_) | (refine IxA.mk (by omega) ?_) | (refine Sl.ln (Own.sl (by assumption)) ?_) | (refine Ints.ix (Own.sl (by assumption)) (by omega) ?_) | (refine Ints.ixI (Own.sl (by assumption)) (by omega) ?_) | (refine Ints.ld (Own.sl (by assumption)) (by omega) ?_))
      exact ⟨EE, _, b, y, rfl, Hb, hy, .inl ⟨rfl, rfl, fun l hl => by rw [(hsub l).1 hl]; omega⟩⟩
  | j + 1, w, vv, av, bv, vs, a, b, y, hj, hnr, hel, Hv, Ha, Hb, hy => by
    have hn1 := hk.n1
    have hn6 := hk.n6
    have hm16 := hk.m16
    have hm0 := hk.m0
    obtain ⟨la, hla⟩ : ∃ x, a.getD (a.length - 1) 0 = x := ⟨_, rfl⟩
    have hla2 : 0 < a.length → a.getD ((a.length : Int) - 1).toNat 0 = la := fun h => by rw [show ((a.length : Int) - 1).toNat = a.length - 1 by omega]; exact hla
    refine RC.mk tyOk Try.func31 rfl (by kernel_rfl) fun w1 E1 => ?_
    replace Hv := Hv.ext E1
    replace Ha := Ha.ext E1
    replace Hb := Hb.ext E1
    have EE := Ext.refl w1
    repeat' ((conv => whnf); first | (refine Dr.quiet tyOk (by kernel_rfl) ?_) | (refine Mat.ld (c := 0) Hv (by omega) ?_) | (refine Rng.mk (by omega) ?_) | (refine Split.pos (by omega) ?_) | (refine Split.neg (by omega) ?_) | (refine Split.mk (fun h => ?_) (fun h => ?_)) | (refine Need.mk (by omega) ?_) | (refine Ints.ln (by assumption) ?_) | (refine Mat.ln (by assumption) ?_) | (refine Ints.ln (Mat.row (by assumption) _ (by omega)) ?_) | (refine Ints.ix (by assumption) (by omega) ?_) | (refine Mat.ix (by assumption) (by omega) ?_) | (refine Ints.ix (Mat.row (by assumption) _ (by omega)) (by omega) ?_) | (refine Ints.ix (c := 0) (by assumption) (by omega) ?_) | (refine Mat.ix (c := 0) (by assumption) (by omega) ?_) | (refine Ints.ix (c := 0) (Mat.row (by assumption) _ (by omega)) (by omega) ?_) | (refine Ints.ixI (by assumption) (by omega) ?_) | (refine Mat.ixI (by assumption) (by omega) ?_) | (refine Ints.ixI (Mat.row (by assumption) _ (by omega)) (by omega) ?_) | (refine Ints.ld (by assumption) (by omega) ?_) | (refine Mat.ld (by assumption) (by omega) ?_) | (refine Ints.ld (Mat.row (by assumption) _ (by omega)) (by omega) ?_) | (refine At.ld (by assumption) rfl ?_) | (refine At.ldN (by assumption) rfl ?_) | (refine Prs.ln (by assumption) ?_) | (refine Trs.ln (by assumption) ?_) | (refine Prs.ix (by assumption) (by omega) ?_) | (refine Trs.ix (by assumption) (by omega) ?_) | (refine Prs.ldN (by assumption) (by omega) ?_) | (refine Trs.ldN (by assumption) (by omega) ?_) | (refine At.ldN (Blk.at (by assumption)) rfl ?_) | (refine At.ld (Blk.at (by assumption)) rfl ?_) | (refine IxA.mk (by omega) ?_) | (refine Sl.ln (Own.sl (by assumption)) ?_) | (refine Ints.ix (Own.sl (by assumption)) (by omega) ?_) | (refine Ints.ixI (Own.sl (by assumption)) (by omega) ?_) | (refine Ints.ld (Own.sl (by assumption)) (by omega) ?_))
    have Hv__1 := Hv
    have Ha__1 := Ha
    have Hb__1 := Hb
    have EE__1 := EE
    have hz1 := Nat.le_trans E1.size EE.size
    refine Lp.mk tyOk [false, false, true, true, false, false, false, false, false, false, true, true, true, true, false, false, false, false, false, false, false, false, false, false, false, false, false, false, false, false, false, false, false, false, true, true, true, true, true, true, true, true, true, true, true, true, true, true, true, true, true, true, true, true, true, true, true, true, true, true, true, true, true, true, true, true, true, true, true, true, true, true, true, true, true, true, true, true, true, true, true, true] (fun m fr wr => getK fr 10 fun i => getK fr 2 fun bl => getK fr 3 fun yl => ∃ c : Nat, c ≤ rr.length ∧ m = rr.length - c ∧ i = .int .i64 (c : Int) ∧ ((∃ b1 y1, yl = .int .i64 y1 ∧ Ints wr bl b1 ∧ (-1 ≤ y1 ∧ y1 ≤ 16000) ∧ ExS rr (Pre rr a c) b y b1 y1)) ∧ Ext w1 wr) (rr.length) ?_ ?_
    · exact ⟨0, Nat.zero_le _, rfl, rfl, ⟨b, y, rfl, Hb, hy, ExS.nil fun l => pre_zero hk (by omega)⟩, Ext.refl _⟩
    · intro m w2 u2 u3 u10 u11 u12 u13 u34 u35 u36 u37 u38 u39 u40 u41 u42 u43 u44 u45 u46 u47 u48 u49 u50 u51 u52 u53 u54 u55 u56 u57 u58 u59 u60 u61 u62 u63 u64 u65 u66 u67 u68 u69 u70 u71 u72 u73 u74 u75 u76 u77 u78 u79 u80 u81 hR
      obtain ⟨c, hc, rfl, rfl, hB, EL1⟩ := hR
      replace Hv := Hv__1.ext EL1
      replace Ha := Ha__1.ext EL1
      replace Hb := Hb__1.ext EL1
      replace EE := EE__1.ext EL1
      obtain ⟨b1, y1, rfl, HBc, hyc, hex⟩ := hB
      by_cases hcl : c < rr.length
      · have hlt := fun s t (hs : Pre rr a c s) (ht : Sub rr (a ++ [(c : Int)]) t) => pre_lt hk (by omega) hs ht
        repeat' ((conv => whnf); first | (refine Dr.quiet tyOk (by kernel_rfl) ?_) | (refine Rng.mk (by omega) ?_) | (refine Split.pos (by omega) ?_) | (refine Split.neg (by omega) ?_) | (refine Split.mk (fun h => ?_) (fun h => ?_)) | (refine Need.mk (by omega) ?_) | (refine Ints.ln (by assumption) ?_) | (refine Mat.ln (by assumption) ?_) | (refine Ints.ln (Mat.row (by assumption) _ (by omega)) ?_) | (refine Ints.ix (by assumption) (by omega) ?_) | (refine Mat.ix (by assumption) (by omega) ?_) | (refine Ints.ix (Mat.row (by assumption) _ (by omega)) (by omega) ?_) | (refine Ints.ix (c := 0) (by assumption) (by omega) ?_) | (refine Mat.ix (c := 0) (by assumption) (by omega) ?_) | (refine Ints.ix (c := 0) (Mat.row (by assumption) _ (by omega)) (by omega) ?_) | (refine Ints.ixI (by assumption) (by omega) ?_) | (refine Mat.ixI (by assumption) (by omega) ?_) | (refine Ints.ixI (Mat.row (by assumption) _ (by omega)) (by omega) ?_) | (refine Ints.ld (by assumption) (by omega) ?_) | (refine Mat.ld (by assumption) (by omega) ?_) | (refine Ints.ld (Mat.row (by assumption) _ (by omega)) (by omega) ?_) | (refine At.ld (by assumption) rfl ?_) | (refine At.ldN (by assumption) rfl ?_) | (refine Prs.ln (by assumption) ?_) | (refine Trs.ln (by assumption) ?_) | (refine Prs.ix (by assumption) (by omega) ?_) | (refine Trs.ix (by assumption) (by omega) ?_) | (refine Prs.ldN (by assumption) (by omega) ?_) | (refine Trs.ldN (by assumption) (by omega) ?_) | (refine At.ldN (Blk.at (by assumption)) rfl ?_) | (refine At.ld (Blk.at (by assumption)) rfl ?_) | (refine IxA.mk (by omega) ?_) | (refine Sl.ln (Own.sl (by assumption)) ?_) | (refine Ints.ix (Own.sl (by assumption)) (by omega) ?_) | (refine Ints.ixI (Own.sl (by assumption)) (by omega) ?_) | (refine Ints.ld (Own.sl (by assumption)) (by omega) ?_))
        refine VE.lit0 Try.underlying24 eInt fun l0 w5 E5 Hl0 => ?_
        have Ha5 := Ha.ext E5
        conv => whnf
        refine VE.app Try.underlying24 eInt rfl (by omega) (Hl0 _ (Nat.le_refl _)) E5 rfl Ha5 (one_ints _) (by omega) (by omega) fun l1 w6 E6 G6 H6 => ?_
        conv => whnf
        refine VE.lit1 Try.underlying24 eInt rfl fun lv w7 E7 Hl => ?_
        have H7 := Own.ext H6 E7
        conv => whnf
        refine VE.app Try.underlying24 eInt rfl (by omega) H7 (E6.trans E7) rfl Hl (by simp [Value.oneCell']) (by omega) (by omega) fun nv w8 E8 G8 H8 => ?_
        have HN := OI.next H8
        replace Hv := Hv.ext E8
        replace Ha := Ha.ext E8
        replace Hb := Hb.ext E8
        replace EE := EE.ext E8
        replace EL1 := EL1.ext E8
        replace HBc := HBc.ext E8
        repeat' ((conv => whnf); first | (refine Dr.quiet tyOk (by kernel_rfl) ?_) | (refine Rng.mk (by omega) ?_) | (refine Split.pos (by omega) ?_) | (refine Split.neg (by omega) ?_) | (refine Split.mk (fun h => ?_) (fun h => ?_)) | (refine Need.mk (by omega) ?_) | (refine Ints.ln (by assumption) ?_) | (refine Mat.ln (by assumption) ?_) | (refine Ints.ln (Mat.row (by assumption) _ (by omega)) ?_) | (refine Ints.ix (by assumption) (by omega) ?_) | (refine Mat.ix (by assumption) (by omega) ?_) | (refine Ints.ix (Mat.row (by assumption) _ (by omega)) (by omega) ?_) | (refine Ints.ix (c := 0) (by assumption) (by omega) ?_) | (refine Mat.ix (c := 0) (by assumption) (by omega) ?_) | (refine Ints.ix (c := 0) (Mat.row (by assumption) _ (by omega)) (by omega) ?_) | (refine Ints.ixI (by assumption) (by omega) ?_) | (refine Mat.ixI (by assumption) (by omega) ?_) | (refine Ints.ixI (Mat.row (by assumption) _ (by omega)) (by omega) ?_) | (refine Ints.ld (by assumption) (by omega) ?_) | (refine Mat.ld (by assumption) (by omega) ?_) | (refine Ints.ld (Mat.row (by assumption) _ (by omega)) (by omega) ?_) | (refine At.ld (by assumption) rfl ?_) | (refine At.ldN (by assumption) rfl ?_) | (refine Prs.ln (by assumption) ?_) | (refine Trs.ln (by assumption) ?_) | (refine Prs.ix (by assumption) (by omega) ?_) | (refine Trs.ix (by assumption) (by omega) ?_) | (refine Prs.ldN (by assumption) (by omega) ?_) | (refine Trs.ldN (by assumption) (by omega) ?_) | (refine At.ldN (Blk.at (by assumption)) rfl ?_) | (refine At.ld (Blk.at (by assumption)) rfl ?_) | (refine IxA.mk (by omega) ?_) | (refine Sl.ln (Own.sl (by assumption)) ?_) | (refine Ints.ix (Own.sl (by assumption)) (by omega) ?_) | (refine Ints.ixI (Own.sl (by assumption)) (by omega) ?_) | (refine Ints.ld (Own.sl (by assumption)) (by omega) ?_))
        refine Lp.mk tyOk [false, false, false, false, false, false, false, false, false, false, false, false, true, true, false, false, false, false, false, false, false, false, false, false, false, false, false, false, false, false, false, false, false, false, false, false, false, false, false, false, false, false, false, false, false, false, true, true, true, true, true, true, true, true, true, true, true, true, true, true, true, true, true, true, true, true, true, true, true, true, true, true] (fun m fr wr => getK fr 13 fun k => getK fr 12 fun again => ∃ d : Nat, d ≤ (a.length - 1) ∧ m = (a.length - 1) - d ∧ k = .int .i64 (d : Int) ∧ again = .bool (tf (∃ k, k < d ∧ a.getD k 0 = (c : Int) ∧ la ≠ (c : Int))) ∧ wr = w8) ((a.length - 1)) ?_ ?_
        · exact ⟨0, Nat.zero_le _, rfl, rfl, (congrArg Value.bool (tf_f fun ⟨k, h, _⟩ => absurd h (Nat.not_lt_zero k)).symm), rfl⟩
        · intro m w21 u12 u13 u46 u47 u48 u49 u50 u51 u52 u53 u54 u55 u56 u57 u58 u59 u60 u61 u62 u63 u64 u65 u66 u67 u68 u69 u70 u71 hR
          obtain ⟨d, hd, rfl, rfl, rfl, rfl⟩ := hR
          by_cases hdl : d < a.length - 1
          · have hla3 := hla2 (by omega)
            by_cases hA : ∃ k, k < d ∧ a.getD k 0 = (c : Int) ∧ la ≠ (c : Int)
            · rw [tf_t hA]
              repeat' ((conv => whnf); first | (refine Dr.quiet tyOk (by kernel_rfl) ?_) | (refine Rng.mk (by omega) ?_) | (refine Split.pos (by omega) ?_) | (refine Split.neg (by omega) ?_) | (refine Split.mk (fun h => ?_) (fun h => ?_)) | (refine Need.mk (by omega) ?_) | (refine Ints.ln (by assumption) ?_) | (refine Mat.ln (by assumption) ?_) | (refine Ints.ln (Mat.row (by assumption) _ (by omega)) ?_) | (refine Ints.ix (by assumption) (by omega) ?_) | (refine Mat.ix (by assumption) (by omega) ?_) | (refine Ints.ix (Mat.row (by assumption) _ (by omega)) (by omega) ?_) | (refine Ints.ix (c := 0) (by assumption) (by omega) ?_) | (refine Mat.ix (c := 0) (by assumption) (by omega) ?_) | (refine Ints.ix (c := 0) (Mat.row (by assumption) _ (by omega)) (by omega) ?_) | (refine Ints.ixI (by assumption) (by omega) ?_) | (refine Mat.ixI (by assumption) (by omega) ?_) | (refine Ints.ixI (Mat.row (by assumption) _ (by omega)) (by omega) ?_) | (refine Ints.ld (by assumption) (by omega) ?_) | (refine Mat.ld (by assumption) (by omega) ?_) | (refine Ints.ld (Mat.row (by assumption) _ (by omega)) (by omega) ?_) | (refine At.ld (by assumption) rfl ?_) | (refine At.ldN (by assumption) rfl ?_) | (refine Prs.ln (by assumption) ?_) | (refine Trs.ln (by assumption) ?_) | (refine Prs.ix (by assumption) (by omega) ?_) | (refine Trs.ix (by assumption) (by omega) ?_) | (refine Prs.ldN (by assumption) (by omega) ?_) | (refine Trs.ldN (by assumption) (by omega) ?_) | (refine At.ldN (Blk.at (by assumption)) rfl ?_) | (refine At.ld (Blk.at (by assumption)) rfl ?_) | (refine IxA.mk (by omega) ?_) | (refine Sl.ln (Own.sl (by assumption)) ?_) | (refine Ints.ix (Own.sl (by assumption)) (by omega) ?_) | (refine Ints.ixI (Own.sl (by assumption)) (by omega) ?_) | (refine Ints.ld (Own.sl (by assumption)) (by omega) ?_))
              refine ⟨_, (by omega : (a.length - 1) - (d + 1) < (a.length - 1) - d), rfl, d + 1, by omega, rfl, rfl, (congrArg Value.bool (tf_t (again_up (P := fun k => a.getD k 0 = (c : Int)) (Q := fun _ => la ≠ (c : Int)) hA)).symm), rfl⟩
            · rw [tf_f hA]
              by_cases h1 : a.getD d 0 = (c : Int)
              · by_cases h2 : la = (c : Int)
                · repeat' ((conv => whnf); first | (refine Dr.quiet tyOk (by kernel_rfl) ?_) | (refine Ints.ix Ha (by omega) ?_) | (refine ldw Ha h1 (by omega) ?_) | (refine Ints.ixI Ha (by omega) ?_) | (refine ldw Ha hla3 (by omega) ?_) | (refine Rng.mk (by omega) ?_) | (refine Split.pos (by omega) ?_) | (refine Split.neg (by omega) ?_) | (refine Split.mk (fun h => ?_) (fun h => ?_)) | (refine Need.mk (by omega) ?_) | (refine Ints.ln (by assumption) ?_) | (refine Mat.ln (by assumption) ?_) | (refine Ints.ln (Mat.row (by assumption) _ (by omega)) ?_) | (refine Ints.ix (by assumption) (by omega) ?_) | (refine Mat.ix (by assumption) (by omega) ?_) | (refine Ints.ix (Mat.row (by assumption) _ (by omega)) (by omega) ?_) | (refine Ints.ix (c := 0) (by assumption) (by omega) ?_) | (refine Mat.ix (c := 0) (by assumption) (by omega) ?_) | (refine Ints.ix (c := 0) (Mat.row (by assumption) _ (by omega)) (by omega) ?_) | (refine Ints.ixI (by assumption) (by omega) ?_) | (refine Mat.ixI (by assumption) (by omega) ?_) | (refine Ints.ixI (Mat.row (by assumption) _ (by omega)) (by omega) ?_) | (refine Ints.ld (by assumption) (by omega) ?_) | (refine Mat.ld (by assumption) (by omega) ?_) | (refine Ints.ld (Mat.row (by assumption) _ (by omega)) (by omega) ?_) | (refine At.ld (by assumption) rfl ?_) | (refine At.ldN (by assumption) rfl ?_) | (refine Prs.ln (by assumption) ?_) | (refine Trs.ln (by assumption) ?_) | (refine Prs.ix (by assumption) (by omega) ?_) | (refine Trs.ix (by assumption) (by omega) ?_) | (refine Prs.ldN (by assumption) (by omega) ?_) | (refine Trs.ldN (by assumption) (by omega) ?_) | (refine At.ldN (Blk.at (by assumption)) rfl ?_) | (refine At.ld (Blk.at (by assumption)) rfl ?_) | (refine IxA.mk (by omega) ?_) | (refine Sl.ln (Own.sl (by assumption)) ?_) | (refine Ints.ix (Own.sl (by assumption)) (by omega) ?_) | (refine Ints.ixI (Own.sl (by assumption)) (by omega) ?_) | (refine Ints.ld (Own.sl (by assumption)) (by omega) ?_))
                  refine ⟨_, (by omega : (a.length - 1) - (d + 1) < (a.length - 1) - d), rfl, d + 1, by omega, rfl, rfl, (congrArg Value.bool (tf_f fun ⟨k, _, _, h⟩ => h h2).symm), rfl⟩
                · repeat' ((conv => whnf); first | (refine Dr.quiet tyOk (by kernel_rfl) ?_) | (refine Ints.ix Ha (by omega) ?_) | (refine ldw Ha h1 (by omega) ?_) | (refine Ints.ixI Ha (by omega) ?_) | (refine ldw Ha hla3 (by omega) ?_) | (refine Rng.mk (by omega) ?_) | (refine Split.pos (by omega) ?_) | (refine Split.neg (by omega) ?_) | (refine Split.mk (fun h => ?_) (fun h => ?_)) | (refine Need.mk (by omega) ?_) | (refine Ints.ln (by assumption) ?_) | (refine Mat.ln (by assumption) ?_) | (refine Ints.ln (Mat.row (by assumption) _ (by omega)) ?_) | (refine Ints.ix (by assumption) (by omega) ?_) | (refine Mat.ix (by assumption) (by omega) ?_) | (refine Ints.ix (Mat.row (by assumption) _ (by omega)) (by omega) ?_) | (refine Ints.ix (c := 0) (by assumption) (by omega) ?_) | (refine Mat.ix (c := 0) (by assumption) (by omega) ?_) | (refine Ints.ix (c := 0) (Mat.row (by assumption) _ (by omega)) (by omega) ?_) | (refine Ints.ixI (by assumption) (by omega) ?_) | (refine Mat.ixI (by assumption) (by omega) ?_) | (refine Ints.ixI (Mat.row (by assumption) _ (by omega)) (by omega) ?_) | (refine Ints.ld (by assumption) (by omega) ?_) | (refine Mat.ld (by assumption) (by omega) ?_) | (refine Ints.ld (Mat.row (by assumption) _ (by omega)) (by omega) ?_) | (refine At.ld (by assumption) rfl ?_) | (refine At.ldN (by assumption) rfl ?_) | (refine Prs.ln (by assumption) ?_) | (refine Trs.ln (by assumption) ?_) | (refine Prs.ix (by assumption) (by omega) ?_) | (refine Trs.ix (by assumption) (by omega) ?_) | (refine Prs.ldN (by assumption) (by omega) ?_) | (refine Trs.ldN (by assumption) (by omega) ?_) | (refine At.ldN (Blk.at (by assumption)) rfl ?_) | (refine At.ld (Blk.at (by assumption)) rfl ?_) | (refine IxA.mk (by omega) ?_) | (refine Sl.ln (Own.sl (by assumption)) ?_) | (refine Ints.ix (Own.sl (by assumption)) (by omega) ?_) | (refine Ints.ixI (Own.sl (by assumption)) (by omega) ?_) | (refine Ints.ld (Own.sl (by assumption)) (by omega) ?_))
                  refine ⟨_, (by omega : (a.length - 1) - (d + 1) < (a.length - 1) - d), rfl, d + 1, by omega, rfl, rfl, (congrArg Value.bool (tf_t ⟨d, by omega, h1, h2⟩).symm), rfl⟩
              · repeat' ((conv => whnf); first | (refine Dr.quiet tyOk (by kernel_rfl) ?_) | (refine Ints.ix Ha (by omega) ?_) | (refine Ints.ld Ha (by omega) ?_) | (refine Rng.mk (by omega) ?_) | (refine Split.pos (by omega) ?_) | (refine Split.neg (by omega) ?_) | (refine Split.mk (fun h => ?_) (fun h => ?_)) | (refine Need.mk (by omega) ?_) | (refine Ints.ln (by assumption) ?_) | (refine Mat.ln (by assumption) ?_) | (refine Ints.ln (Mat.row (by assumption) _ (by omega)) ?_) | (refine Ints.ix (by assumption) (by omega) ?_) | (refine Mat.ix (by assumption) (by omega) ?_) | (refine Ints.ix (Mat.row (by assumption) _ (by omega)) (by omega) ?_) | (refine Ints.ix (c := 0) (by assumption) (by omega) ?_) | (refine Mat.ix (c := 0) (by assumption) (by omega) ?_) | (refine Ints.ix (c := 0) (Mat.row (by assumption) _ (by omega)) (by omega) ?_) | (refine Ints.ixI (by assumption) (by omega) ?_) | (refine Mat.ixI (by assumption) (by omega) ?_) | (refine Ints.ixI (Mat.row (by assumption) _ (by omega)) (by omega) ?_) | (refine Ints.ld (by assumption) (by omega) ?_) | (refine Mat.ld (by assumption) (by omega) ?_) | (refine Ints.ld (Mat.row (by assumption) _ (by omega)) (by omega) ?_) | (refine At.ld (by assumption) rfl ?_) | (refine At.ldN (by assumption) rfl ?_) | (refine Prs.ln (by assumption) ?_) | (refine Trs.ln (by assumption) ?_) | (refine Prs.ix (by assumption) (by omega) ?_) | (refine Trs.ix (by assumption) (by omega) ?_) | (refine Prs.ldN (by assumption) (by omega) ?_) | (refine Trs.ldN (by assumption) (by omega) ?_) | (refine At.ldN (Blk.at (by assumption)) rfl ?_) | (refine At.ld (Blk.at (by assumption)) rfl ?_) | (refine IxA.mk (by omega) ?_) | (refine Sl.ln (Own.sl (by assumption)) ?_) | (refine Ints.ix (Own.sl (by assumption)) (by omega) ?_) | (refine Ints.ixI (Own.sl (by assumption)) (by omega) ?_) | (refine Ints.ld (Own.sl (by assumption)) (by omega) ?_))
                refine ⟨_, (by omega : (a.length - 1) - (d + 1) < (a.length - 1) - d), rfl, d + 1, by omega, rfl, rfl, (congrArg Value.bool (tf_f (again_no (P := fun k => a.getD k 0 = (c : Int)) (Q := fun _ => la ≠ (c : Int)) h1 hA)).symm), rfl⟩
          · obtain rfl : d = a.length - 1 := by omega
            by_cases hA : ∃ k, k < a.length - 1 ∧ a.getD k 0 = (c : Int) ∧ la ≠ (c : Int)
            · rw [tf_t hA]
              have hnn : ¬ nr (a ++ [(c : Int)]) := fun h => (nr_snoc hnr).1 h (by rw [hla]; exact hA)
              repeat' ((conv => whnf); first | (refine Dr.quiet tyOk (by kernel_rfl) ?_) | (refine Rng.mk (by omega) ?_) | (refine Split.pos (by omega) ?_) | (refine Split.neg (by omega) ?_) | (refine Split.mk (fun h => ?_) (fun h => ?_)) | (refine Need.mk (by omega) ?_) | (refine Ints.ln (by assumption) ?_) | (refine Mat.ln (by assumption) ?_) | (refine Ints.ln (Mat.row (by assumption) _ (by omega)) ?_) | (refine Ints.ix (by assumption) (by omega) ?_) | (refine Mat.ix (by assumption) (by omega) ?_) | (refine Ints.ix (Mat.row (by assumption) _ (by omega)) (by omega) ?_) | (refine Ints.ix (c := 0) (by assumption) (by omega) ?_) | (refine Mat.ix (c := 0) (by assumption) (by omega) ?_) | (refine Ints.ix (c := 0) (Mat.row (by assumption) _ (by omega)) (by omega) ?_) | (refine Ints.ixI (by assumption) (by omega) ?_) | (refine Mat.ixI (by assumption) (by omega) ?_) | (refine Ints.ixI (Mat.row (by assumption) _ (by omega)) (by omega) ?_) | (refine Ints.ld (by assumption) (by omega) ?_) | (refine Mat.ld (by assumption) (by omega) ?_) | (refine Ints.ld (Mat.row (by assumption) _ (by omega)) (by omega) ?_) | (refine At.ld (by assumption) rfl ?_) | (refine At.ldN (by assumption) rfl ?_) | (refine Prs.ln (by assumption) ?_) | (refine Trs.ln (by assumption) ?_) | (refine Prs.ix (by assumption) (by omega) ?_) | (refine Trs.ix (by assumption) (by omega) ?_) | (refine Prs.ldN (by assumption) (by omega) ?_) | (refine Trs.ldN (by assumption) (by omega) ?_) | (refine At.ldN (Blk.at (by assumption)) rfl ?_) | (refine At.ld (Blk.at (by assumption)) rfl ?_) | (refine IxA.mk (by omega) ?_) | (refine Sl.ln (Own.sl (by assumption)) ?_) | (refine Ints.ix (Own.sl (by assumption)) (by omega) ?_) | (refine Ints.ixI (Own.sl (by assumption)) (by omega) ?_) | (refine Ints.ld (Own.sl (by assumption)) (by omega) ?_))
              refine ⟨_, (by omega : rr.length - (c + 1) < rr.length - c), rfl, c + 1, by omega, rfl, rfl, ⟨b1, y1, rfl, HBc, hyc, (hex.step (ExS.nil fun l => sub_none hnn) hlt).congr fun l => pre_succ hk (by omega)⟩, EL1⟩
            · rw [tf_f hA]
              have hnn : nr (a ++ [(c : Int)]) := (nr_snoc hnr).2 (by rw [hla]; exact hA)
              repeat' ((conv => whnf); first | (refine Dr.quiet tyOk (by kernel_rfl) ?_) | (refine Rng.mk (by omega) ?_) | (refine Split.pos (by omega) ?_) | (refine Split.neg (by omega) ?_) | (refine Split.mk (fun h => ?_) (fun h => ?_)) | (refine Need.mk (by omega) ?_) | (refine Ints.ln (by assumption) ?_) | (refine Mat.ln (by assumption) ?_) | (refine Ints.ln (Mat.row (by assumption) _ (by omega)) ?_) | (refine Ints.ix (by assumption) (by omega) ?_) | (refine Mat.ix (by assumption) (by omega) ?_) | (refine Ints.ix (Mat.row (by assumption) _ (by omega)) (by omega) ?_) | (refine Ints.ix (c := 0) (by assumption) (by omega) ?_) | (refine Mat.ix (c := 0) (by assumption) (by omega) ?_) | (refine Ints.ix (c := 0) (Mat.row (by assumption) _ (by omega)) (by omega) ?_) | (refine Ints.ixI (by assumption) (by omega) ?_) | (refine Mat.ixI (by assumption) (by omega) ?_) | (refine Ints.ixI (Mat.row (by assumption) _ (by omega)) (by omega) ?_) | (refine Ints.ld (by assumption) (by omega) ?_) | (refine Mat.ld (by assumption) (by omega) ?_) | (refine Ints.ld (Mat.row (by assumption) _ (by omega)) (by omega) ?_) | (refine At.ld (by assumption) rfl ?_) | (refine At.ldN (by assumption) rfl ?_) | (refine Prs.ln (by assumption) ?_) | (refine Trs.ln (by assumption) ?_) | (refine Prs.ix (by assumption) (by omega) ?_) | (refine Trs.ix (by assumption) (by omega) ?_) | (refine Prs.ldN (by assumption) (by omega) ?_) | (refine Trs.ldN (by assumption) (by omega) ?_) | (refine At.ldN (Blk.at (by assumption)) rfl ?_) | (refine At.ld (Blk.at (by assumption)) rfl ?_) | (refine IxA.mk (by omega) ?_) | (refine Sl.ln (Own.sl (by assumption)) ?_) | (refine Ints.ix (Own.sl (by assumption)) (by omega) ?_) | (refine Ints.ixI (Own.sl (by assumption)) (by omega) ?_) | (refine Ints.ld (Own.sl (by assumption)) (by omega) ?_))
              conv => whnf
              refine VC.rc (extend_rc hk j (a := a ++ [(c : Int)]) (by rw [List.length_append, List.length_singleton]; omega) hnn (el_snoc hel hcl) Hv (Own.sl HN) HBc hyc) ?_
              rintro _ w22 E22 ⟨v2, b2, y2, rfl, H2, hy2, hex2⟩
              replace Hv := Hv.ext E22
              replace Ha := Ha.ext E22
              replace Hb := Hb.ext E22
              replace EE := EE.ext E22
              replace EL1 := EL1.ext E22
              replace HBc := HBc.ext E22
              replace HN := HN.ext E22
              repeat' ((conv => whnf); first | (refine Dr.quiet tyOk (by kernel_rfl) ?_) | (refine Rng.mk (by omega) ?_) | (refine Split.pos (by omega) ?_) | (refine Split.neg (by omega) ?_) | (refine Split.mk (fun h => ?_) (fun h => ?_)) | (refine Need.mk (by omega) ?_) | (refine Ints.ln (by assumption) ?_) | (refine Mat.ln (by assumption) ?_) | (refine Ints.ln (Mat.row (by assumption) _ (by omega)) ?_) | (refine Ints.ix (by assumption) (by omega) ?_) | (refine Mat.ix (by assumption) (by omega) ?_) | (refine Ints.ix (Mat.row (by assumption) _ (by omega)) (by omega) ?_) | (refine Ints.ix (c := 0) (by assumption) (by omega) ?_) | (refine Mat.ix (c := 0) (by assumption) (by omega) ?_) | (refine Ints.ix (c := 0) (Mat.row (by assumption) _ (by omega)) (by omega) ?_) | (refine Ints.ixI (by assumption) (by omega) ?_) | (refine Mat.ixI (by assumption) (by omega) ?_) | (refine Ints.ixI (Mat.row (by assumption) _ (by omega)) (by omega) ?_) | (refine Ints.ld (by assumption) (by omega) ?_) | (refine Mat.ld (by assumption) (by omega) ?_) | (refine Ints.ld (Mat.row (by assumption) _ (by omega)) (by omega) ?_) | (refine At.ld (by assumption) rfl ?_) | (refine At.ldN (by assumption) rfl ?_) | (refine Prs.ln (by assumption) ?_) | (refine Trs.ln (by assumption) ?_) | (refine Prs.ix (by assumption) (by omega) ?_) | (refine Trs.ix (by assumption) (by omega) ?_) | (refine Prs.ldN (by assumption) (by omega) ?_) | (refine Trs.ldN (by assumption) (by omega) ?_) | (refine At.ldN (Blk.at (by assumption)) rfl ?_) | (refine At.ld (Blk.at (by assumption)) rfl ?_) | (refine IxA.mk (by omega) ?_) | (refine Sl.ln (Own.sl (by assumption)) ?_) | (refine Ints.ix (Own.sl (by assumption)) (by omega) ?_) | (refine Ints.ixI (Own.sl (by assumption)) (by omega) ?_) | (refine Ints.ld (Own.sl (by assumption)) (by omega) ?_))
              refine ⟨_, (by omega : rr.length - (c + 1) < rr.length - c), rfl, c + 1, by omega, rfl, rfl, ⟨b2, y2, rfl, H2, hy2, (hex.step hex2 hlt).congr fun l => pre_succ hk (by omega)⟩, EL1⟩
      · obtain rfl : c = rr.length := by omega
        repeat' ((conv => whnf); first | (refine Dr.quiet tyOk (by kernel_rfl) ?_) | (refine Rng.mk (by omega) ?_) | (refine Split.pos (by omega) ?_) | (refine Split.neg (by omega) ?_) | (refine Split.mk (fun h => ?_) (fun h => ?_)) | (refine Need.mk (by omega) ?_) | (refine Ints.ln (by assumption) ?_) | (refine Mat.ln (by assumption) ?_) | (refine Ints.ln (Mat.row (by assumption) _ (by omega)) ?_) | (refine Ints.ix (by assumption) (by omega) ?_) | (refine Mat.ix (by assumption) (by omega) ?_) | (refine Ints.ix (Mat.row (by assumption) _ (by omega)) (by omega) ?_) | (refine Ints.ix (c := 0) (by assumption) (by omega) ?_) | (refine Mat.ix (c := 0) (by assumption) (by omega) ?_) | (refine Ints.ix (c := 0) (Mat.row (by assumption) _ (by omega)) (by omega) ?_) | (refine Ints.ixI (by assumption) (by omega) ?_) | (refine Mat.ixI (by assumption) (by omega) ?_) | (refine Ints.ixI (Mat.row (by assumption) _ (by omega)) (by omega) ?_) | (refine Ints.ld (by assumption) (by omega) ?_) | (refine Mat.ld (by assumption) (by omega) ?_) | (refine Ints.ld (Mat.row (by assumption) _ (by omega)) (by omega) ?_) | (refine At.ld (by assumption) rfl ?_) | (refine At.ldN (by assumption) rfl ?_) | (refine Prs.ln (by assumption) ?_) | (refine Trs.ln (by assumption) ?_) | (refine Prs.ix (by assumption) (by omega) ?_) | (refine Trs.ix (by assumption) (by omega) ?_) | (refine Prs.ldN (by assumption) (by omega) ?_) | (refine Trs.ldN (by assumption) (by omega) ?_) | (refine At.ldN (Blk.at (by assumption)) rfl ?_) | (refine At.ld (Blk.at (by assumption)) rfl ?_) | (refine IxA.mk (by omega) ?_) | (refine Sl.ln (Own.sl (by assumption)) ?_) | (refine Ints.ix (Own.sl (by assumption)) (by omega) ?_) | (refine Ints.ixI (Own.sl (by assumption)) (by omega) ?_) | (refine Ints.ld (Own.sl (by assumption)) (by omega) ?_))
        exact ⟨EE, _, b1, y1, rfl, HBc, hyc, hex.congr fun l => pre_all hk (by omega)⟩
theorem rbest_rc {w : World} {vv : Value} {vs : List Value} {rr : List (List Int)} (Hv : Mat w vv vs rr) :
    RC Try.prog 12 [vv] w NoB (fun u w' => ∃ v, u = .tuple #[v, .int .i64 (bL rr), .int .i64 (skE rr)] ∧ Ints w' v (bA rr)) := by
  refine RC.mk tyOk Try.func12 rfl (by kernel_rfl) fun w1 E1 => ?_
  replace Hv := Hv.ext E1
  have EE := Ext.refl w1
  have ck := rsk_pc Hv
  by_cases hE : skE rr = 0
  · have hk := sd_of hE
    rw [hE] at ck
    repeat' ((conv => whnf); first | (refine Dr.quiet tyOk (by kernel_rfl) ?_) | (refine VC.pure ck ?_) | (refine Rng.mk (by omega) ?_) | (refine Split.pos (by omega) ?_) | (refine Split.neg (by omega) ?_) | (refine Split.mk (fun h => ?_) (fun h => ?_)) | (refine Need.mk (by omega) ?_) | (refine Ints.ln (by assumption) ?_) | (refine Mat.ln (by assumption) ?_) | (refine Ints.ln (Mat.row (by assumption) _ (by omega)) ?_) | (refine Ints.ix (by assumption) (by omega) ?_) | (refine Mat.ix (by assumption) (by omega) ?_) | (refine Ints.ix (Mat.row (by assumption) _ (by omega)) (by omega) ?_) | (refine Ints.ix (c := 0) (by assumption) (by omega) ?_) | (refine Mat.ix (c := 0) (by assumption) (by omega) ?_) | (refine Ints.ix (c := 0) (Mat.row (by assumption) _ (by omega)) (by omega) ?_) | (refine Ints.ixI (by assumption) (by omega) ?_) | (refine Mat.ixI (by assumption) (by omega) ?_) | (refine Ints.ixI (Mat.row (by assumption) _ (by omega)) (by omega) ?_) | (refine Ints.ld (by assumption) (by omega) ?_) | (refine Mat.ld (by assumption) (by omega) ?_) | (refine Ints.ld (Mat.row (by assumption) _ (by omega)) (by omega) ?_) | (refine At.ld (by assumption) rfl ?_) | (refine At.ldN (by assumption) rfl ?_) | (refine Prs.ln (by assumption) ?_) | (refine Trs.ln (by assumption) ?_) | (refine Prs.ix (by assumption) (by omega) ?_) | (refine Trs.ix (by assumption) (by omega) ?_) | (refine Prs.ldN (by assumption) (by omega) ?_) | (refine Trs.ldN (by assumption) (by omega) ?_) | (refine At.ldN (Blk.at (by assumption)) rfl ?_) | (refine At.ld (Blk.at (by assumption)) rfl ?_) | (refine IxA.mk (by omega) ?_) | (refine Sl.ln (Own.sl (by assumption)) ?_) | (refine Ints.ix (Own.sl (by assumption)) (by omega) ?_) | (refine Ints.ixI (Own.sl (by assumption)) (by omega) ?_) | (refine Ints.ld (Own.sl (by assumption)) (by omega) ?_))
    conv => whnf
    refine VC.rc (extend_rc hk ((rr.getD 0 []).length) (a := []) (b := []) (y := -1) (by simp) (by simp [nr]) (by simp) Hv nil_ints31 nil_ints31 (by omega)) ?_
    rintro _ w2 E2 ⟨v, b1, y1, rfl, H1, hy1, hex⟩
    replace Hv := Hv.ext E2
    replace EE := EE.ext E2
    obtain ⟨hB, hl⟩ := ex_best hk ⟨_, div_some hk⟩ hex
    have hb := bst_is hB
    repeat' ((conv => whnf); first | (refine Dr.quiet tyOk (by kernel_rfl) ?_) | (refine Rng.mk (by omega) ?_) | (refine Split.pos (by omega) ?_) | (refine Split.neg (by omega) ?_) | (refine Split.mk (fun h => ?_) (fun h => ?_)) | (refine Need.mk (by omega) ?_) | (refine Ints.ln (by assumption) ?_) | (refine Mat.ln (by assumption) ?_) | (refine Ints.ln (Mat.row (by assumption) _ (by omega)) ?_) | (refine Ints.ix (by assumption) (by omega) ?_) | (refine Mat.ix (by assumption) (by omega) ?_) | (refine Ints.ix (Mat.row (by assumption) _ (by omega)) (by omega) ?_) | (refine Ints.ix (c := 0) (by assumption) (by omega) ?_) | (refine Mat.ix (c := 0) (by assumption) (by omega) ?_) | (refine Ints.ix (c := 0) (Mat.row (by assumption) _ (by omega)) (by omega) ?_) | (refine Ints.ixI (by assumption) (by omega) ?_) | (refine Mat.ixI (by assumption) (by omega) ?_) | (refine Ints.ixI (Mat.row (by assumption) _ (by omega)) (by omega) ?_) | (refine Ints.ld (by assumption) (by omega) ?_) | (refine Mat.ld (by assumption) (by omega) ?_) | (refine Ints.ld (Mat.row (by assumption) _ (by omega)) (by omega) ?_) | (refine At.ld (by assumption) rfl ?_) | (refine At.ldN (by assumption) rfl ?_) | (refine Prs.ln (by assumption) ?_) | (refine Trs.ln (by assumption) ?_) | (refine Prs.ix (by assumption) (by omega) ?_) | (refine Trs.ix (by assumption) (by omega) ?_) | (refine Prs.ldN (by assumption) (by omega) ?_) | (refine Trs.ldN (by assumption) (by omega) ?_) | (refine At.ldN (Blk.at (by assumption)) rfl ?_) | (refine At.ld (Blk.at (by assumption)) rfl ?_) | (refine IxA.mk (by omega) ?_) | (refine Sl.ln (Own.sl (by assumption)) ?_) | (refine Ints.ix (Own.sl (by assumption)) (by omega) ?_) | (refine Ints.ixI (Own.sl (by assumption)) (by omega) ?_) | (refine Ints.ld (Own.sl (by assumption)) (by omega) ?_))
    exact ⟨EE, v, by rw [bL, if_pos hE, hb, hl, hE], by rw [bA, if_pos hE, hb]; exact H1⟩
  · rw [bL, if_neg hE, bA, if_neg hE]
    repeat' ((conv => whnf); first | (refine Dr.quiet tyOk (by kernel_rfl) ?_) | (refine VC.pure ck ?_) | (refine Rng.mk (by omega) ?_) | (refine Split.pos (by omega) ?_) | (refine Split.neg (by omega) ?_) | (refine Split.mk (fun h => ?_) (fun h => ?_)) | (refine Need.mk (by omega) ?_) | (refine Ints.ln (by assumption) ?_) | (refine Mat.ln (by assumption) ?_) | (refine Ints.ln (Mat.row (by assumption) _ (by omega)) ?_) | (refine Ints.ix (by assumption) (by omega) ?_) | (refine Mat.ix (by assumption) (by omega) ?_) | (refine Ints.ix (Mat.row (by assumption) _ (by omega)) (by omega) ?_) | (refine Ints.ix (c := 0) (by assumption) (by omega) ?_) | (refine Mat.ix (c := 0) (by assumption) (by omega) ?_) | (refine Ints.ix (c := 0) (Mat.row (by assumption) _ (by omega)) (by omega) ?_) | (refine Ints.ixI (by assumption) (by omega) ?_) | (refine Mat.ixI (by assumption) (by omega) ?_) | (refine Ints.ixI (Mat.row (by assumption) _ (by omega)) (by omega) ?_) | (refine Ints.ld (by assumption) (by omega) ?_) | (refine Mat.ld (by assumption) (by omega) ?_) | (refine Ints.ld (Mat.row (by assumption) _ (by omega)) (by omega) ?_) | (refine At.ld (by assumption) rfl ?_) | (refine At.ldN (by assumption) rfl ?_) | (refine Prs.ln (by assumption) ?_) | (refine Trs.ln (by assumption) ?_) | (refine Prs.ix (by assumption) (by omega) ?_) | (refine Trs.ix (by assumption) (by omega) ?_) | (refine Prs.ldN (by assumption) (by omega) ?_) | (refine Trs.ldN (by assumption) (by omega) ?_) | (refine At.ldN (Blk.at (by assumption)) rfl ?_) | (refine At.ld (Blk.at (by assumption)) rfl ?_) | (refine IxA.mk (by omega) ?_) | (refine Sl.ln (Own.sl (by assumption)) ?_) | (refine Ints.ix (Own.sl (by assumption)) (by omega) ?_) | (refine Ints.ixI (Own.sl (by assumption)) (by omega) ?_) | (refine Ints.ld (Own.sl (by assumption)) (by omega) ?_))
    exact ⟨EE, _, rfl, nil_ints31⟩
def grtS (rr : List (List Int)) : Prop := ((4 < rr.length ∧ rr.length ≤ 6) ∨ 20 < rr.length) ∨ ∃ i, i < rr.length ∧ ((8 < (rr.getD i []).length ∧ (rr.getD i []).length ≤ 16) ∨ 40 < (rr.getD i []).length)
theorem grtS_pc {w : World} {vv : Value} {vs : List Value} {rr : List (List Int)} (Hv : Mat w vv vs rr) : PC Try.prog 10 [vv] w (.bool (tf (grtS rr))) := by
  refine PC.mk tyOk Try.func10 rfl (by kernel_rfl) fun w1 E1 => ?_
  replace Hv := Hv.ext E1
  have EE := Ext.refl w1
  have hle := Hv.top.le
  by_cases h1 : (4 < rr.length ∧ rr.length ≤ 6) ∨ 20 < rr.length
  · rw [tf_t (.inl h1)]
    repeat' ((conv => whnf); first | (refine Dr.quiet tyOk (by kernel_rfl) ?_) | (refine Rng.mk (by omega) ?_) | (refine Split.pos (by omega) ?_) | (refine Split.neg (by omega) ?_) | (refine Split.mk (fun h => ?_) (fun h => ?_)) | (refine Need.mk (by omega) ?_) | (refine Ints.ln (by assumption) ?_) | (refine Mat.ln (by assumption) ?_) | (refine Ints.ln (Mat.row (by assumption) _ (by omega)) ?_) | (refine Ints.ix (by assumption) (by omega) ?_) | (refine Mat.ix (by assumption) (by omega) ?_) | (refine Ints.ix (Mat.row (by assumption) _ (by omega)) (by omega) ?_) | (refine Ints.ix (c := 0) (by assumption) (by omega) ?_) | (refine Mat.ix (c := 0) (by assumption) (by omega) ?_) | (refine Ints.ix (c := 0) (Mat.row (by assumption) _ (by omega)) (by omega) ?_) | (refine Ints.ixI (by assumption) (by omega) ?_) | (refine Mat.ixI (by assumption) (by omega) ?_) | (refine Ints.ixI (Mat.row (by assumption) _ (by omega)) (by omega) ?_) | (refine Ints.ld (by assumption) (by omega) ?_) | (refine Mat.ld (by assumption) (by omega) ?_) | (refine Ints.ld (Mat.row (by assumption) _ (by omega)) (by omega) ?_) | (refine At.ld (by assumption) rfl ?_) | (refine At.ldN (by assumption) rfl ?_) | (refine Prs.ln (by assumption) ?_) | (refine Trs.ln (by assumption) ?_) | (refine Prs.ix (by assumption) (by omega) ?_) | (refine Trs.ix (by assumption) (by omega) ?_) | (refine Prs.ldN (by assumption) (by omega) ?_) | (refine Trs.ldN (by assumption) (by omega) ?_) | (refine At.ldN (Blk.at (by assumption)) rfl ?_) | (refine At.ld (Blk.at (by assumption)) rfl ?_) | (refine IxA.mk (by omega) ?_) | (refine Sl.ln (Own.sl (by assumption)) ?_) | (refine Ints.ix (Own.sl (by assumption)) (by omega) ?_) | (refine Ints.ixI (Own.sl (by assumption)) (by omega) ?_) | (refine Ints.ld (Own.sl (by assumption)) (by omega) ?_))
    all_goals exact ⟨rfl, EE⟩
  · repeat' ((conv => whnf); first | (refine Dr.quiet tyOk (by kernel_rfl) ?_) | (refine Rng.mk (by omega) ?_) | (refine Split.pos (by omega) ?_) | (refine Split.neg (by omega) ?_) | (refine Split.mk (fun h => ?_) (fun h => ?_)) | (refine Need.mk (by omega) ?_) | (refine Ints.ln (by assumption) ?_) | (refine Mat.ln (by assumption) ?_) | (refine Ints.ln (Mat.row (by assumption) _ (by omega)) ?_) | (refine Ints.ix (by assumption) (by omega) ?_) | (refine Mat.ix (by assumption) (by omega) ?_) | (refine Ints.ix (Mat.row (by assumption) _ (by omega)) (by omega) ?_) | (refine Ints.ix (c := 0) (by assumption) (by omega) ?_) | (refine Mat.ix (c := 0) (by assumption) (by omega) ?_) | (refine Ints.ix (c := 0) (Mat.row (by assumption) _ (by omega)) (by omega) ?_) | (refine Ints.ixI (by assumption) (by omega) ?_) | (refine Mat.ixI (by assumption) (by omega) ?_) | (refine Ints.ixI (Mat.row (by assumption) _ (by omega)) (by omega) ?_) | (refine Ints.ld (by assumption) (by omega) ?_) | (refine Mat.ld (by assumption) (by omega) ?_) | (refine Ints.ld (Mat.row (by assumption) _ (by omega)) (by omega) ?_) | (refine At.ld (by assumption) rfl ?_) | (refine At.ldN (by assumption) rfl ?_) | (refine Prs.ln (by assumption) ?_) | (refine Trs.ln (by assumption) ?_) | (refine Prs.ix (by assumption) (by omega) ?_) | (refine Trs.ix (by assumption) (by omega) ?_) | (refine Prs.ldN (by assumption) (by omega) ?_) | (refine Trs.ldN (by assumption) (by omega) ?_) | (refine At.ldN (Blk.at (by assumption)) rfl ?_) | (refine At.ld (Blk.at (by assumption)) rfl ?_) | (refine IxA.mk (by omega) ?_) | (refine Sl.ln (Own.sl (by assumption)) ?_) | (refine Ints.ix (Own.sl (by assumption)) (by omega) ?_) | (refine Ints.ixI (Own.sl (by assumption)) (by omega) ?_) | (refine Ints.ld (Own.sl (by assumption)) (by omega) ?_))
    all_goals
      refine Lp.mk tyOk [false, false, true, true, false, false, false, false, false, false, false, false, false, false, false, false, false, true, true, true, true, true, true, true, true, true, true, true, true, true, true, true, true, true, true, true, true, true, true, true, true, true, true, true, true] (fun m fr wr => getK fr 3 fun i => ∃ c : Nat, c ≤ rr.length ∧ m = rr.length - c ∧ i = .int .i64 (c : Int) ∧ (∀ i, i < c → ¬ ((8 < (rr.getD i []).length ∧ (rr.getD i []).length ≤ 16) ∨ 40 < (rr.getD i []).length)) ∧ wr = w1) (rr.length) ?_ ?_
      · exact ⟨0, Nat.zero_le _, rfl, rfl, (fun i hi => absurd hi (Nat.not_lt_zero _)), rfl⟩
      · intro m w2 u2 u3 u17 u18 u19 u20 u21 u22 u23 u24 u25 u26 u27 u28 u29 u30 u31 u32 u33 u34 u35 u36 u37 u38 u39 u40 u41 u42 u43 u44 hR
        obtain ⟨c, hc, rfl, rfl, hn, rfl⟩ := hR
        by_cases hcl : c < rr.length
        · have hrl := (Hv.row c hcl).le
          by_cases h2 : (8 < (rr.getD c []).length ∧ (rr.getD c []).length ≤ 16) ∨ 40 < (rr.getD c []).length
          · rw [tf_t (.inr ⟨c, hcl, h2⟩)]
            repeat' ((conv => whnf); first | (refine Dr.quiet tyOk (by kernel_rfl) ?_) | (refine Rng.mk (by omega) ?_) | (refine Split.pos (by omega) ?_) | (refine Split.neg (by omega) ?_) | (refine Split.mk (fun h => ?_) (fun h => ?_)) | (refine Need.mk (by omega) ?_) | (refine Ints.ln (by assumption) ?_) | (refine Mat.ln (by assumption) ?_) | (refine Ints.ln (Mat.row (by assumption) _ (by omega)) ?_) | (refine Ints.ix (by assumption) (by omega) ?_) | (refine Mat.ix (by assumption) (by omega) ?_) | (refine Ints.ix (Mat.row (by assumption) _ (by omega)) (by omega) ?_) | (refine Ints.ix (c := 0) (by assumption) (by omega) ?_) | (refine Mat.ix (c := 0) (by assumption) (by omega) ?_) | (refine Ints.ix (c := 0) (Mat.row (by assumption) _ (by omega)) (by omega) ?_) | (refine Ints.ixI (by assumption) (by omega) ?_) | (refine Mat.ixI (by assumption) (by omega) ?_) | (refine Ints.ixI (Mat.row (by assumption) _ (by omega)) (by omega) ?_) | (refine Ints.ld (by assumption) (by omega) ?_) | (refine Mat.ld (by assumption) (by omega) ?_) | (refine Ints.ld (Mat.row (by assumption) _ (by omega)) (by omega) ?_) | (refine At.ld (by assumption) rfl ?_) | (refine At.ldN (by assumption) rfl ?_) | (refine Prs.ln (by assumption) ?_) | (refine Trs.ln (by assumption) ?_) | (refine Prs.ix (by assumption) (by omega) ?_) | (refine Trs.ix (by assumption) (by omega) ?_) | (refine Prs.ldN (by assumption) (by omega) ?_) | (refine Trs.ldN (by assumption) (by omega) ?_) | (refine At.ldN (Blk.at (by assumption)) rfl ?_) | (refine At.ld (Blk.at (by assumption)) rfl ?_) | (refine IxA.mk (by omega) ?_) | (refine Sl.ln (Own.sl (by assumption)) ?_) | (refine Ints.ix (Own.sl (by assumption)) (by omega) ?_) | (refine Ints.ixI (Own.sl (by assumption)) (by omega) ?_) | (refine Ints.ld (Own.sl (by assumption)) (by omega) ?_))
            all_goals exact ⟨rfl, EE⟩
          · repeat' ((conv => whnf); first | (refine Dr.quiet tyOk (by kernel_rfl) ?_) | (refine Rng.mk (by omega) ?_) | (refine Split.pos (by omega) ?_) | (refine Split.neg (by omega) ?_) | (refine Split.mk (fun h => ?_) (fun h => ?_)) | (refine Need.mk (by omega) ?_) | (refine Ints.ln (by assumption) ?_) | (refine Mat.ln (by assumption) ?_) | (refine Ints.ln (Mat.row (by assumption) _ (by omega)) ?_) | (refine Ints.ix (by assumption) (by omega) ?_) | (refine Mat.ix (by assumption) (by omega) ?_) | (refine Ints.ix (Mat.row (by assumption) _ (by omega)) (by omega) ?_) | (refine Ints.ix (c := 0) (by assumption) (by omega) ?_) | (refine Mat.ix (c := 0) (by assumption) (by omega) ?_) | (refine Ints.ix (c := 0) (Mat.row (by assumption) _ (by omega)) (by omega) ?_) | (refine Ints.ixI (by assumption) (by omega) ?_) | (refine Mat.ixI (by assumption) (by omega) ?_) | (refine Ints.ixI (Mat.row (by assumption) _ (by omega)) (by omega) ?_) | (refine Ints.ld (by assumption) (by omega) ?_) | (refine Mat.ld (by assumption) (by omega) ?_) | (refine Ints.ld (Mat.row (by assumption) _ (by omega)) (by omega) ?_) | (refine At.ld (by assumption) rfl ?_) | (refine At.ldN (by assumption) rfl ?_) | (refine Prs.ln (by assumption) ?_) | (refine Trs.ln (by assumption) ?_) | (refine Prs.ix (by assumption) (by omega) ?_) | (refine Trs.ix (by assumption) (by omega) ?_) | (refine Prs.ldN (by assumption) (by omega) ?_) | (refine Trs.ldN (by assumption) (by omega) ?_) | (refine At.ldN (Blk.at (by assumption)) rfl ?_) | (refine At.ld (Blk.at (by assumption)) rfl ?_) | (refine IxA.mk (by omega) ?_) | (refine Sl.ln (Own.sl (by assumption)) ?_) | (refine Ints.ix (Own.sl (by assumption)) (by omega) ?_) | (refine Ints.ixI (Own.sl (by assumption)) (by omega) ?_) | (refine Ints.ld (Own.sl (by assumption)) (by omega) ?_))
            all_goals
              refine ⟨_, (by omega : rr.length - (c + 1) < rr.length - c), rfl, c + 1, by omega, rfl, rfl, fun i hi => ?_, rfl⟩
              by_cases e : i = c
              · subst e; exact h2
              · exact hn i (by omega)
        · obtain rfl : c = rr.length := by omega
          rw [tf_f (p := grtS rr) (by
            rintro (h | ⟨i, hi, h⟩)
            · exact h1 h
            · exact hn i hi h)]
          repeat' ((conv => whnf); first | (refine Dr.quiet tyOk (by kernel_rfl) ?_) | (refine Rng.mk (by omega) ?_) | (refine Split.pos (by omega) ?_) | (refine Split.neg (by omega) ?_) | (refine Split.mk (fun h => ?_) (fun h => ?_)) | (refine Need.mk (by omega) ?_) | (refine Ints.ln (by assumption) ?_) | (refine Mat.ln (by assumption) ?_) | (refine Ints.ln (Mat.row (by assumption) _ (by omega)) ?_) | (refine Ints.ix (by assumption) (by omega) ?_) | (refine Mat.ix (by assumption) (by omega) ?_) | (refine Ints.ix (Mat.row (by assumption) _ (by omega)) (by omega) ?_) | (refine Ints.ix (c := 0) (by assumption) (by omega) ?_) | (refine Mat.ix (c := 0) (by assumption) (by omega) ?_) | (refine Ints.ix (c := 0) (Mat.row (by assumption) _ (by omega)) (by omega) ?_) | (refine Ints.ixI (by assumption) (by omega) ?_) | (refine Mat.ixI (by assumption) (by omega) ?_) | (refine Ints.ixI (Mat.row (by assumption) _ (by omega)) (by omega) ?_) | (refine Ints.ld (by assumption) (by omega) ?_) | (refine Mat.ld (by assumption) (by omega) ?_) | (refine Ints.ld (Mat.row (by assumption) _ (by omega)) (by omega) ?_) | (refine At.ld (by assumption) rfl ?_) | (refine At.ldN (by assumption) rfl ?_) | (refine Prs.ln (by assumption) ?_) | (refine Trs.ln (by assumption) ?_) | (refine Prs.ix (by assumption) (by omega) ?_) | (refine Trs.ix (by assumption) (by omega) ?_) | (refine Prs.ldN (by assumption) (by omega) ?_) | (refine Trs.ldN (by assumption) (by omega) ?_) | (refine At.ldN (Blk.at (by assumption)) rfl ?_) | (refine At.ld (Blk.at (by assumption)) rfl ?_) | (refine IxA.mk (by omega) ?_) | (refine Sl.ln (Own.sl (by assumption)) ?_) | (refine Ints.ix (Own.sl (by assumption)) (by omega) ?_) | (refine Ints.ixI (Own.sl (by assumption)) (by omega) ?_) | (refine Ints.ld (Own.sl (by assumption)) (by omega) ?_))
          exact ⟨rfl, EE⟩
end Go.Proofs.Ytclbiabiiknolaa
set_option linter.unusedVariables false
set_option linter.unusedSimpArgs false
namespace Go.Proofs.Ytclbiabiiknolaa
open Go.Eng
set_option maxRecDepth 100000
set_option maxHeartbeats 4000000

theorem skE_bd (rr : List (List Int)) : 0 ≤ skE rr ∧ skE rr ≤ 8 := by
  unfold skE
  split
  · omega
  · split <;> omega
theorem stripfinds_pc {w : World} {vv : Value} {vs : List Value} {rr : List (List Int)} (Hv : Mat w vv vs rr) : PC Try.prog 3 [vv] w (.bool true) := by
  refine PC.mk tyOk Try.func3 rfl (by kernel_rfl) fun w1 E1 => ?_
  replace Hv := Hv.ext E1
  have EE := Ext.refl w1
  have cg := grtS_pc Hv
  by_cases hg : grtS rr
  · rw [tf_t hg] at cg
    repeat' ((conv => whnf); first | (refine Dr.quiet tyOk (by kernel_rfl) ?_) | (refine VC.pure cg ?_) | (refine Rng.mk (by omega) ?_) | (refine Split.pos (by omega) ?_) | (refine Split.neg (by omega) ?_) | (refine Split.mk (fun h => ?_) (fun h => ?_)) | (refine Need.mk (by omega) ?_) | (refine Ints.ln (by assumption) ?_) | (refine Mat.ln (by assumption) ?_) | (refine Ints.ln (Mat.row (by assumption) _ (by omega)) ?_) | (refine Ints.ix (by assumption) (by omega) ?_) | (refine Mat.ix (by assumption) (by omega) ?_) | (refine Ints.ix (Mat.row (by assumption) _ (by omega)) (by omega) ?_) | (refine Ints.ix (c := 0) (by assumption) (by omega) ?_) | (refine Mat.ix (c := 0) (by assumption) (by omega) ?_) | (refine Ints.ix (c := 0) (Mat.row (by assumption) _ (by omega)) (by omega) ?_) | (refine Ints.ixI (by assumption) (by omega) ?_) | (refine Mat.ixI (by assumption) (by omega) ?_) | (refine Ints.ixI (Mat.row (by assumption) _ (by omega)) (by omega) ?_) | (refine Ints.ld (by assumption) (by omega) ?_) | (refine Mat.ld (by assumption) (by omega) ?_) | (refine Ints.ld (Mat.row (by assumption) _ (by omega)) (by omega) ?_) | (refine At.ld (by assumption) rfl ?_) | (refine At.ldN (by assumption) rfl ?_) | (refine Prs.ln (by assumption) ?_) | (refine Trs.ln (by assumption) ?_) | (refine Prs.ix (by assumption) (by omega) ?_) | (refine Trs.ix (by assumption) (by omega) ?_) | (refine Prs.ldN (by assumption) (by omega) ?_) | (refine Trs.ldN (by assumption) (by omega) ?_) | (refine At.ldN (Blk.at (by assumption)) rfl ?_) | (refine At.ld (Blk.at (by assumption)) rfl ?_) | (refine IxA.mk (by omega) ?_) | (refine Sl.ln (Own.sl (by assumption)) ?_) | (refine Ints.ix (Own.sl (by assumption)) (by omega) ?_) | (refine Ints.ixI (Own.sl (by assumption)) (by omega) ?_) | (refine Ints.ld (Own.sl (by assumption)) (by omega) ?_))
    exact ⟨rfl, EE⟩
  · rw [tf_f hg] at cg
    repeat' ((conv => whnf); first | (refine Dr.quiet tyOk (by kernel_rfl) ?_) | (refine VC.pure cg ?_) | (refine Rng.mk (by omega) ?_) | (refine Split.pos (by omega) ?_) | (refine Split.neg (by omega) ?_) | (refine Split.mk (fun h => ?_) (fun h => ?_)) | (refine Need.mk (by omega) ?_) | (refine Ints.ln (by assumption) ?_) | (refine Mat.ln (by assumption) ?_) | (refine Ints.ln (Mat.row (by assumption) _ (by omega)) ?_) | (refine Ints.ix (by assumption) (by omega) ?_) | (refine Mat.ix (by assumption) (by omega) ?_) | (refine Ints.ix (Mat.row (by assumption) _ (by omega)) (by omega) ?_) | (refine Ints.ix (c := 0) (by assumption) (by omega) ?_) | (refine Mat.ix (c := 0) (by assumption) (by omega) ?_) | (refine Ints.ix (c := 0) (Mat.row (by assumption) _ (by omega)) (by omega) ?_) | (refine Ints.ixI (by assumption) (by omega) ?_) | (refine Mat.ixI (by assumption) (by omega) ?_) | (refine Ints.ixI (Mat.row (by assumption) _ (by omega)) (by omega) ?_) | (refine Ints.ld (by assumption) (by omega) ?_) | (refine Mat.ld (by assumption) (by omega) ?_) | (refine Ints.ld (Mat.row (by assumption) _ (by omega)) (by omega) ?_) | (refine At.ld (by assumption) rfl ?_) | (refine At.ldN (by assumption) rfl ?_) | (refine Prs.ln (by assumption) ?_) | (refine Trs.ln (by assumption) ?_) | (refine Prs.ix (by assumption) (by omega) ?_) | (refine Trs.ix (by assumption) (by omega) ?_) | (refine Prs.ldN (by assumption) (by omega) ?_) | (refine Trs.ldN (by assumption) (by omega) ?_) | (refine At.ldN (Blk.at (by assumption)) rfl ?_) | (refine At.ld (Blk.at (by assumption)) rfl ?_) | (refine IxA.mk (by omega) ?_) | (refine Sl.ln (Own.sl (by assumption)) ?_) | (refine Ints.ix (Own.sl (by assumption)) (by omega) ?_) | (refine Ints.ixI (Own.sl (by assumption)) (by omega) ?_) | (refine Ints.ld (Own.sl (by assumption)) (by omega) ?_))
    conv => whnf
    refine VC.rc (sbest_rc Hv) ?_
    rintro _ w2 E2 ⟨av, rfl, HA, _⟩
    replace Hv := Hv.ext E2
    replace EE := EE.ext E2
    repeat' ((conv => whnf); first | (refine Dr.quiet tyOk (by kernel_rfl) ?_) | (refine Rng.mk (by omega) ?_) | (refine Split.pos (by omega) ?_) | (refine Split.neg (by omega) ?_) | (refine Split.mk (fun h => ?_) (fun h => ?_)) | (refine Need.mk (by omega) ?_) | (refine Ints.ln (by assumption) ?_) | (refine Mat.ln (by assumption) ?_) | (refine Ints.ln (Mat.row (by assumption) _ (by omega)) ?_) | (refine Ints.ix (by assumption) (by omega) ?_) | (refine Mat.ix (by assumption) (by omega) ?_) | (refine Ints.ix (Mat.row (by assumption) _ (by omega)) (by omega) ?_) | (refine Ints.ix (c := 0) (by assumption) (by omega) ?_) | (refine Mat.ix (c := 0) (by assumption) (by omega) ?_) | (refine Ints.ix (c := 0) (Mat.row (by assumption) _ (by omega)) (by omega) ?_) | (refine Ints.ixI (by assumption) (by omega) ?_) | (refine Mat.ixI (by assumption) (by omega) ?_) | (refine Ints.ixI (Mat.row (by assumption) _ (by omega)) (by omega) ?_) | (refine Ints.ld (by assumption) (by omega) ?_) | (refine Mat.ld (by assumption) (by omega) ?_) | (refine Ints.ld (Mat.row (by assumption) _ (by omega)) (by omega) ?_) | (refine At.ld (by assumption) rfl ?_) | (refine At.ldN (by assumption) rfl ?_) | (refine Prs.ln (by assumption) ?_) | (refine Trs.ln (by assumption) ?_) | (refine Prs.ix (by assumption) (by omega) ?_) | (refine Trs.ix (by assumption) (by omega) ?_) | (refine Prs.ldN (by assumption) (by omega) ?_) | (refine Trs.ldN (by assumption) (by omega) ?_) | (refine At.ldN (Blk.at (by assumption)) rfl ?_) | (refine At.ld (Blk.at (by assumption)) rfl ?_) | (refine IxA.mk (by omega) ?_) | (refine Sl.ln (Own.sl (by assumption)) ?_) | (refine Ints.ix (Own.sl (by assumption)) (by omega) ?_) | (refine Ints.ixI (Own.sl (by assumption)) (by omega) ?_) | (refine Ints.ld (Own.sl (by assumption)) (by omega) ?_))
    conv => whnf
    refine VC.rc (rbest_rc Hv) ?_
    rintro _ w3 E3 ⟨bv, rfl, HB⟩
    replace Hv := Hv.ext E3
    replace EE := EE.ext E3
    replace HA := HA.ext E3
    have hbd := skE_bd rr
    obtain ⟨e, he⟩ : ∃ e, skE rr = e := ⟨_, rfl⟩
    obtain ⟨y, hy⟩ : ∃ y, bL rr = y := ⟨_, rfl⟩
    have c1 := gsk_pc Hv
    have c2 := rsk_pc Hv
    have c3 := sints_pc (Own.sl HA) HB
    rw [tf_t rfl] at c3
    rw [he] at c1 c2 hbd ⊢
    rw [hy]
    repeat' ((conv => whnf); first | (refine Dr.quiet tyOk (by kernel_rfl) ?_) | (refine VC.pure c1 ?_) | (refine VCQ.pure c1 ?_) | (refine VC.pure c2 ?_) | (refine VCQ.pure c2 ?_) | (refine VC.pure c3 ?_) | (refine VCQ.pure c3 ?_) | (refine Rng.mk (by omega) ?_) | (refine Split.pos (by omega) ?_) | (refine Split.neg (by omega) ?_) | (refine Split.mk (fun h => ?_) (fun h => ?_)) | (refine Need.mk (by omega) ?_) | (refine Ints.ln (by assumption) ?_) | (refine Mat.ln (by assumption) ?_) | (refine Ints.ln (Mat.row (by assumption) _ (by omega)) ?_) | (refine Ints.ix (by assumption) (by omega) ?_) | (refine Mat.ix (by assumption) (by omega) ?_) | (refine Ints.ix (Mat.row (by assumption) _ (by omega)) (by omega) ?_) | (refine Ints.ix (c := 0) (by assumption) (by omega) ?_) | (refine Mat.ix (c := 0) (by assumption) (by omega) ?_) | (refine Ints.ix (c := 0) (Mat.row (by assumption) _ (by omega)) (by omega) ?_) | (refine Ints.ixI (by assumption) (by omega) ?_) | (refine Mat.ixI (by assumption) (by omega) ?_) | (refine Ints.ixI (Mat.row (by assumption) _ (by omega)) (by omega) ?_) | (refine Ints.ld (by assumption) (by omega) ?_) | (refine Mat.ld (by assumption) (by omega) ?_) | (refine Ints.ld (Mat.row (by assumption) _ (by omega)) (by omega) ?_) | (refine At.ld (by assumption) rfl ?_) | (refine At.ldN (by assumption) rfl ?_) | (refine Prs.ln (by assumption) ?_) | (refine Trs.ln (by assumption) ?_) | (refine Prs.ix (by assumption) (by omega) ?_) | (refine Trs.ix (by assumption) (by omega) ?_) | (refine Prs.ldN (by assumption) (by omega) ?_) | (refine Trs.ldN (by assumption) (by omega) ?_) | (refine At.ldN (Blk.at (by assumption)) rfl ?_) | (refine At.ld (Blk.at (by assumption)) rfl ?_) | (refine IxA.mk (by omega) ?_) | (refine Sl.ln (Own.sl (by assumption)) ?_) | (refine Ints.ix (Own.sl (by assumption)) (by omega) ?_) | (refine Ints.ixI (Own.sl (by assumption)) (by omega) ?_) | (refine Ints.ld (Own.sl (by assumption)) (by omega) ?_))
    exact ⟨rfl, EE⟩

open Go.ChangeShapes Go.WideShapes Go.ChangeAt Go.RowKit Go.Eng in
theorem stripFinds_lifted (os : Os) (started : os.Started) (H : Type) (enc : TypeId × Value → H) :
    ReturnsInHanded {} Try.checked os 3 .any (Rows.stripFindsSpec.pre6 enc Try.prog Try.f3 Rows.stripFindsRow.domain false) (Rows.stripFindsSpec.post enc Try.prog Try.f3 false true false false) := by
  refine returnsInHanded_of_change (C := Try.checked) own started (by kernel_rfl) Try.func3
    (ChangeSpec.witness6 (enc := enc) (C := Try.checked) false ⟨#[], #[.slice none 0 0], []⟩ 8 (by kernel_rfl) (by kernel_rfl) (by kernel_rfl) (by kernel_rfl)) ?_
  intro W base args ds gs before hval0 hW hcnd _
  have hval : ∀ (j : Nat) t v, Try.f3.params[j]? = some t → args[j]? = some v → Value.okWide Try.prog W .any base t v := hval0
  have hW' := hW
  obtain ⟨p, q, hA0, hV, e0, hfz, hnd⟩ := hW
  have hA : DataW.TrodAll enc Try.prog W 0 (fun _ => true) true Try.f3.params.toList args.toList ds p := hA0
  rw [Try.params3] at hA hval
  clear hfz hnd hV e0 hval0
  obtain ⟨v0, vs0, d0, ds0, p0, q0, e0, rfl, f0, h0, t0⟩ := trodAll_cons hA
  obtain ⟨ee, rfl, _⟩ := trodAll_nil t0
  subst ee
  obtain rfl : args = #[v0] := Array.toList_inj.1 (by simpa using e0)
  obtain ⟨s0, r0, H0, R0⟩ := open_M Try.underlying22 Try.underlying24 Try.underlying3 (by kernel_rfl) (by kernel_rfl) (hval 0 22 _ rfl rfl) h0
  exact law_calls laidOut (by rw [Try.params3]; intro t ht; revert t; decide +kernel) rfl Try.underlying4 rfl ⟨rfl, rfl, rfl⟩ hW' (stripfinds_pc H0)

theorem stripFinds_holds : Rows.StripFindsSaid :=
  OpenClaim.holds_of_wide 3 Try.f3 rfl rfl rfl rfl rfl rfl rfl ⟨rfl, rfl, rfl, rfl, rfl⟩ rfl rfl rfl rfl rfl (by kernel_rfl) Try.func3 (by kernel_rfl)
    (of_decide_eq_true (by kernel_rfl)) (by unfold Func.isWrapper; first | (rw [if_pos (by decide +kernel)]; kernel_rfl) | (rw [if_neg (by decide +kernel)]; exact ⟨rfl, rfl⟩))
    (fun os started H enc _ => stripFinds_lifted os started H enc)
end Go.Proofs.Ytclbiabiiknolaa
