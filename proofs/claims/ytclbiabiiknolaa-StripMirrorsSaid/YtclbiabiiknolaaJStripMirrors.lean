/- The statement StripMirrors. -/
import Derived.Test.YtclbiabiiknolaaJ4
import Derived.Lib.SliceRun
import Derived.ArgAppend
import Derived.Test.YtclbiabiiknolaaRows
set_option linter.unusedVariables false
set_option linter.unusedSimpArgs false
namespace Go.Proofs.Ytclbiabiiknolaa
open Go.Eng
set_option maxRecDepth 100000

/-- nobody comes back, by places -/
def Ctg (a : List Int) : Prop := ∀ i j k, i ≤ j → j ≤ k → k < a.length → a.getD i 0 = a.getD k 0 → a.getD j 0 = a.getD i 0
theorem nr_ctg {a : List Int} : nr a ↔ Ctg a := by
  rw [nr_iff]
  constructor
  · intro h i j k hij hjk hk he
    have hall : ∀ d, i + d ≤ k → a.getD (i + d) 0 = a.getD i 0 := by
      intro d
      induction d with
      | zero => intro _; rfl
      | succ d ih =>
        intro hd
        have h1 := ih (by omega)
        refine Classical.byContradiction fun hne => ?_
        exact h k hk ⟨i + d, by omega, by omega, by rw [h1, he], fun e => hne (by rw [show i + (d + 1) = i + d + 1 by omega, e, he])⟩
    have := hall (j - i) (by omega)
    rwa [show i + (j - i) = j by omega] at this
  · rintro h k hk ⟨j, hj, hj1, he, hne⟩
    have := h j (j + 1) k (by omega) (by omega) hk he
    exact hne (by rw [this, he])
theorem getD_appl {a b : List Int} {i : Nat} (h : i < a.length) : (a ++ b).getD i 0 = a.getD i 0 := by
  rw [List.getD, List.getD, List.getElem?_append_left h]
theorem getD_appr {a : List Int} {x : Int} : (a ++ [x]).getD a.length 0 = x := by
  rw [List.getD, List.getElem?_append_right (Nat.le_refl _)]; simp
theorem nr_pre {a b : List Int} (h : nr (a ++ b)) : nr a := by
  rw [nr_ctg] at h ⊢
  intro i j k hij hjk hk he
  have h1 := h i j k hij hjk (by rw [List.length_append]; omega) (by rw [getD_appl (by omega), getD_appl hk]; exact he)
  rwa [getD_appl (by omega), getD_appl (by omega)] at h1
theorem nr_snoc {a : List Int} {x : Int} (h : nr a) : nr (a ++ [x]) ↔ ¬ ∃ k, k < a.length - 1 ∧ a.getD k 0 = x ∧ a.getD (a.length - 1) 0 ≠ x := by
  constructor
  · rintro h2 ⟨k, hk, he, hne⟩
    rw [nr_ctg] at h2
    have h3 := h2 k (a.length - 1) a.length (by omega) (by omega) (by simp) (by rw [getD_appl (by omega), getD_appr]; exact he)
    rw [getD_appl (by omega), getD_appl (by omega), he] at h3
    exact hne h3
  · intro hno
    rw [nr_ctg] at h ⊢
    intro i j k hij hjk hk he
    rw [List.length_append, List.length_singleton] at hk
    by_cases hka : k < a.length
    · rw [getD_appl (by omega), getD_appl (by omega)] at he
      rw [getD_appl (by omega), getD_appl (by omega)]
      exact h i j k hij hjk hka he
    · obtain rfl : k = a.length := by omega
      rw [getD_appr] at he
      by_cases hja : j < a.length
      · rw [getD_appl (by omega)] at he
        rw [getD_appl (by omega), getD_appl (by omega)]
        by_cases hl : a.getD (a.length - 1) 0 = x
        · exact h i j (a.length - 1) hij (by omega) (by omega) (by rw [he, hl])
        · have hi : i ≠ a.length - 1 := fun e => hl (by rw [← e]; exact he)
          exact absurd ⟨i, by omega, he, hl⟩ hno
      · obtain rfl : j = a.length := by omega
        rw [getD_appr, he]
def ExS (rr : List (List Int)) (S : List Int → Prop) (b0 : List Int) (y0 : Int) (b1 : List Int) (y1 : Int) : Prop :=
  (y1 = y0 ∧ b1 = b0 ∧ ∀ l, S l → lvl rr l ≤ y0) ∨ (y0 < y1 ∧ S b1 ∧ lvl rr b1 = y1 ∧ ∀ l, S l → lvl rr l ≤ y1 ∧ (lvl rr l = y1 → ¬ lexlt l b1))
section
variable {rr : List (List Int)} {S T : List Int → Prop} {b0 b1 b2 : List Int} {y0 y1 y2 : Int}
theorem ExS.nil (h : ∀ l, ¬ S l) : ExS rr S b0 y0 b0 y0 := .inl ⟨rfl, rfl, fun l hl => absurd hl (h l)⟩
theorem ExS.congr (h : ExS rr S b0 y0 b1 y1) (he : ∀ l, S l ↔ T l) : ExS rr T b0 y0 b1 y1 := by
  rcases h with ⟨h1, h2, h3⟩ | ⟨h1, h2, h3, h4⟩
  · exact .inl ⟨h1, h2, fun l hl => h3 l ((he l).2 hl)⟩
  · exact .inr ⟨h1, (he _).1 h2, h3, fun l hl => h4 l ((he l).2 hl)⟩
theorem ExS.step (h : ExS rr S b0 y0 b1 y1) (k : ExS rr T b1 y1 b2 y2) (hlt : ∀ s t, S s → T t → lexlt s t) : ExS rr (fun l => S l ∨ T l) b0 y0 b2 y2 := by
  rcases h with ⟨h1, h2, h3⟩ | ⟨h1, h2, h3, h4⟩
  · rcases k with ⟨k1, k2, k3⟩ | ⟨k1, k2, k3, k4⟩
    · refine .inl ⟨by omega, k2.trans h2, fun l hl => ?_⟩
      rcases hl with hl | hl
      · exact h3 l hl
      · have := k3 l hl; omega
    · refine .inr ⟨by omega, .inr k2, k3, fun l hl => ?_⟩
      rcases hl with hl | hl
      · have := h3 l hl
        exact ⟨by omega, fun e => by omega⟩
      · exact k4 l hl
  · rcases k with ⟨k1, k2, k3⟩ | ⟨k1, k2, k3, k4⟩
    · subst k1 k2
      refine .inr ⟨h1, .inl h2, h3, fun l hl => ?_⟩
      rcases hl with hl | hl
      · exact h4 l hl
      · exact ⟨k3 l hl, fun _ hx => lexlt_asymm (hlt _ _ h2 hl) hx⟩
    · refine .inr ⟨by omega, .inr k2, k3, fun l hl => ?_⟩
      rcases hl with hl | hl
      · have := (h4 l hl).1
        exact ⟨by omega, fun e => by omega⟩
      · exact k4 l hl
end
def Sub (rr : List (List Int)) (a l : List Int) : Prop := divn rr l ∧ l.take a.length = a
def Pre (rr : List (List Int)) (a : List Int) (c : Nat) (l : List Int) : Prop := Sub rr a l ∧ l.getD a.length 0 < (c : Int)
theorem take_snocI {l : List Int} {k : Nat} (h : k < l.length) : l.take (k + 1) = l.take k ++ [l.getD k 0] := by
  rw [List.take_succ_eq_append_getElem h, List.getD, List.getElem?_eq_getElem h]; rfl
theorem sub_snoc {rr : List (List Int)} {m : Nat} (hk : Sd rr m) {a l : List Int} {x : Int} (ha : a.length < m) : Sub rr (a ++ [x]) l ↔ Sub rr a l ∧ l.getD a.length 0 = x := by
  unfold Sub
  constructor
  · rintro ⟨h1, h2⟩
    have hl : a.length < l.length := by rw [(divn_iff.1 h1).1, hk.m0]; exact ha
    rw [List.length_append, List.length_singleton, take_snocI hl] at h2
    obtain ⟨h3, h4⟩ := List.append_inj h2 (by rw [List.length_take]; omega)
    exact ⟨⟨h1, h3⟩, by simpa using h4⟩
  · rintro ⟨⟨h1, h2⟩, h3⟩
    have hl : a.length < l.length := by rw [(divn_iff.1 h1).1, hk.m0]; exact ha
    exact ⟨h1, by rw [List.length_append, List.length_singleton, take_snocI hl, h2, h3]⟩
theorem el_rng {rr : List (List Int)} {m : Nat} (hk : Sd rr m) {l : List Int} {k : Nat} (h : divn rr l) (hkm : k < m) : 0 ≤ l.getD k 0 ∧ l.getD k 0 < rr.length := by
  obtain ⟨h1, h2, _⟩ := divn_iff.1 h
  exact h2 _ (mem_getI.2 ⟨k, by rw [h1, hk.m0]; exact hkm, rfl⟩)
theorem pre_zero {rr : List (List Int)} {m : Nat} (hk : Sd rr m) {a l : List Int} (ha : a.length < m) : ¬ Pre rr a 0 l := fun h => by
  have h1 := (el_rng hk h.1.1 ha).1
  have h2 := h.2
  omega
theorem pre_succ {rr : List (List Int)} {m : Nat} (hk : Sd rr m) {a l : List Int} {c : Nat} (ha : a.length < m) : (Pre rr a c l ∨ Sub rr (a ++ [(c : Int)]) l) ↔ Pre rr a (c + 1) l := by
  rw [sub_snoc hk ha]
  unfold Pre
  constructor
  · rintro (⟨h1, h2⟩ | ⟨h1, h2⟩)
    · exact ⟨h1, by omega⟩
    · exact ⟨h1, by omega⟩
  · rintro ⟨h1, h2⟩
    by_cases e : l.getD a.length 0 = (c : Int)
    · exact .inr ⟨h1, e⟩
    · exact .inl ⟨h1, by omega⟩
theorem pre_all {rr : List (List Int)} {m : Nat} (hk : Sd rr m) {a l : List Int} (ha : a.length < m) : Pre rr a rr.length l ↔ Sub rr a l :=
  ⟨fun h => h.1, fun h => ⟨h, (el_rng hk h.1 ha).2⟩⟩
theorem lexlt_at4 : ∀ {a b : List Int} {k : Nat}, k < a.length → k < b.length → (∀ i, i < k → a.getD i 0 = b.getD i 0) → a.getD k 0 < b.getD k 0 → lexlt a b
  | [], _, _, h, _, _, _ => absurd h (by simp)
  | _ :: _, [], _, _, h, _, _ => absurd h (by simp)
  | x :: a, y :: b, 0, _, _, _, h => .inl h
  | x :: a, y :: b, k + 1, h1, h2, h3, h4 => .inr ⟨h3 0 (by omega), lexlt_at4 (k := k) (by simpa using h1) (by simpa using h2) (fun i hi => h3 (i + 1) (by omega)) h4⟩
theorem take_get {l a : List Int} {i : Nat} (h : l.take a.length = a) (hi : i < a.length) : l.getD i 0 = a.getD i 0 := by
  rw [← h, List.getD, List.getD, List.getElem?_take, if_pos (by rw [← h, List.length_take] at hi; omega)]
theorem pre_lt {rr : List (List Int)} {m : Nat} (hk : Sd rr m) {a s t : List Int} {c : Nat} (ha : a.length < m) (hs : Pre rr a c s) (ht : Sub rr (a ++ [(c : Int)]) t) : lexlt s t := by
  rw [sub_snoc hk ha] at ht
  have l1 := (divn_iff.1 hs.1.1).1
  have l2 := (divn_iff.1 ht.1.1).1
  rw [hk.m0] at l1 l2
  exact lexlt_at4 (k := a.length) (by omega) (by omega) (fun i hi => by rw [take_get hs.1.2 hi, take_get ht.1.2 hi]) (by rw [ht.2]; exact hs.2)
theorem sub_full {rr : List (List Int)} {m : Nat} (hk : Sd rr m) {a l : List Int} (ha : a.length = m) (hd : divn rr a) : Sub rr a l ↔ l = a := by
  constructor
  · rintro ⟨h1, h2⟩
    rw [List.take_of_length_le (by rw [(divn_iff.1 h1).1, hk.m0, ha]; exact Nat.le_refl _)] at h2
    exact h2
  · rintro rfl; exact ⟨hd, List.take_length⟩
theorem sub_none {rr : List (List Int)} {a l : List Int} (h : ¬ nr a) : ¬ Sub rr a l := fun ⟨h1, h2⟩ => by
  have h3 := (divn_iff.1 h1).2.2
  rw [← List.take_append_drop a.length l, h2] at h3
  exact h (nr_pre h3)
/-- the best of all is what the search over all divisions keeps -/
theorem ex_best {rr : List (List Int)} {m : Nat} (hk : Sd rr m) (hs : ∃ a, divn rr a) {b1 : List Int} {y1 : Int} (h : ExS rr (Sub rr []) [] (-1) b1 y1) : IsBest rr b1 ∧ lvl rr b1 = y1 := by
  have hsub : ∀ l, divn rr l → Sub rr [] l := fun l hl => ⟨hl, rfl⟩
  rcases h with ⟨h1, h2, h3⟩ | ⟨h1, h2, h3, h4⟩
  · obtain ⟨a, ha⟩ := hs
    have h5 := h3 a (hsub a ha)
    have h6 := (lvl_bd hk (show a.length = m by rw [(divn_iff.1 ha).1, hk.m0])).1
    omega
  · refine ⟨⟨h2.1, fun b hb => ?_⟩, h3⟩
    have := h4 b (hsub b hb)
    rw [h3]; exact this
end Go.Proofs.Ytclbiabiiknolaa
set_option linter.unusedVariables false
set_option linter.unusedSimpArgs false
namespace Go.Proofs.Ytclbiabiiknolaa
open Go.Eng
set_option maxRecDepth 100000

def smS (t : Nat → Int) : Nat → Int
  | 0 => 0
  | c + 1 => smS t c + t c
theorem smS_congr {t u : Nat → Int} : ∀ {c : Nat}, (∀ j, j < c → t j = u j) → smS t c = smS u c
  | 0, _ => rfl
  | c + 1, h => by simp only [smS]; rw [smS_congr (c := c) fun j hj => h j (by omega), h c (by omega)]
theorem smS_first (t : Nat → Int) : ∀ c, smS t (c + 1) = t 0 + smS (fun j => t (j + 1)) c
  | 0 => by simp [smS]
  | c + 1 => by
    have ih := smS_first t c
    simp only [smS] at ih ⊢
    omega
theorem smS_rev (t : Nat → Int) : ∀ n, smS (fun j => t (n - 1 - j)) n = smS t n
  | 0 => rfl
  | n + 1 => by
    rw [smS_first t n]
    show smS (fun j => t (n + 1 - 1 - j)) n + t (n + 1 - 1 - n) = _
    rw [show n + 1 - 1 - n = 0 by omega, ← smS_rev (fun j => t (j + 1)) n, smS_congr (u := fun j => t (n - 1 - j + 1)) fun j hj => by show t (n + 1 - 1 - j) = t (n - 1 - j + 1); rw [show n + 1 - 1 - j = n - 1 - j + 1 by omega]]
    omega
theorem worth_sm {a r : List Int} {k : Int} : ∀ c, worth a r k c = smS (fun j => if a.getD j 0 = k then r.getD j 0 else 0) c
  | 0 => rfl
  | c + 1 => by simp only [worth, smS]; rw [worth_sm c]
theorem rev_getS {α : Type} {l : List α} {d : α} {j : Nat} (h : j < l.length) : l.reverse.getD j d = l.getD (l.length - 1 - j) d := by
  rw [List.getD, List.getD, List.getElem?_reverse h]
theorem worth_rev {a r : List Int} {k : Int} (hl : r.length = a.length) : worth a.reverse r.reverse k a.length = worth a r k a.length := by
  rw [worth_sm, worth_sm, ← smS_rev]
  refine smS_congr fun j hj => ?_
  rw [rev_getS (by omega), rev_getS (by omega), hl, show a.length - 1 - (a.length - 1 - j) = j by omega]
theorem nr_rev {a : List Int} (h : nr a) : nr a.reverse := by
  rw [nr_ctg] at h ⊢
  intro i j k hij hjk hk he
  rw [List.length_reverse] at hk
  rw [rev_getS (by omega), rev_getS (by omega)] at he
  rw [rev_getS (by omega), rev_getS (by omega)]
  have h1 := h (a.length - 1 - k) (a.length - 1 - j) (a.length - 1 - i) (by omega) (by omega) (by omega) he.symm
  rw [h1, he]
def turnR (rr : List (List Int)) : List (List Int) := rr.map List.reverse
theorem turn_at {rr : List (List Int)} (i : Nat) : (turnR rr).getD i [] = (rr.getD i []).reverse := by
  unfold turnR
  rw [List.getD, List.getD, List.getElem?_map]
  cases rr[i]? <;> simp
theorem turn_len (rr : List (List Int)) : (turnR rr).length = rr.length := List.length_map ..
theorem turn_turn (rr : List (List Int)) : turnR (turnR rr) = rr := by
  unfold turnR; rw [List.map_map]
  have : (List.reverse ∘ List.reverse : List Int → List Int) = id := by funext l; simp
  rw [this, List.map_id]
theorem getD_bd {l : List Int} (h : ∀ j, j < l.length → 0 ≤ l.getD j 0 ∧ l.getD j 0 ≤ 1000) (j : Nat) : 0 ≤ l.getD j 0 ∧ l.getD j 0 ≤ 1000 := by
  by_cases hj : j < l.length
  · exact h j hj
  · rw [List.getD, List.getElem?_eq_none (by omega)]; decide
theorem turn_sd {rr : List (List Int)} {m : Nat} (hk : Sd rr m) : Sd (turnR rr) m := by
  refine ⟨by rw [turn_len]; exact hk.n1, by rw [turn_len]; exact hk.n6, hk.m16, by rw [turn_at, List.length_reverse]; exact hk.m0, fun i hi => ?_, fun i j => ?_⟩
  · rw [turn_len] at hi; rw [turn_at, List.length_reverse]; exact hk.row i hi
  · show 0 ≤ ((turnR rr).getD i []).getD j 0 ∧ ((turnR rr).getD i []).getD j 0 ≤ 1000
    rw [turn_at]
    refine getD_bd (fun j hj => ?_) j
    rw [List.length_reverse] at hj
    rw [rev_getS hj]
    exact hk.val i _
theorem turn_div {rr : List (List Int)} {m : Nat} {a : List Int} (hk : Sd rr m) (h : divn rr a) : divn (turnR rr) a.reverse := by
  obtain ⟨h1, h2, h3⟩ := divn_iff.1 h
  refine divn_iff.2 ⟨by rw [List.length_reverse, turn_at, List.length_reverse]; exact h1, fun y hy => ?_, nr_rev h3⟩
  rw [turn_len]; exact h2 y (List.mem_reverse.1 hy)
theorem lvl_eq {rr ss : List (List Int)} {a b : List Int} (hn : 1 ≤ rr.length) (hs : 1 ≤ ss.length) (h : ∀ L, L ≤ lvl rr a ↔ L ≤ lvl ss b) : lvl rr a = lvl ss b := by
  have h1 := (h (lvl rr a)).1 (Int.le_refl _)
  have h2 := (h (lvl ss b)).2 (Int.le_refl _)
  omega
theorem turn_lvl {rr : List (List Int)} {m : Nat} {a : List Int} (hk : Sd rr m) (h : divn rr a) : lvl (turnR rr) a.reverse = lvl rr a := by
  have h1 := (divn_iff.1 h).1
  rw [hk.m0] at h1
  refine lvl_eq (turn_sd hk).n1 hk.n1 fun L => ?_
  rw [lvl_ge (turn_sd hk).n1, lvl_ge hk.n1, turn_len]
  have e : ∀ i, i < rr.length → worth a.reverse ((turnR rr).getD i []) i a.reverse.length = worth a (rr.getD i []) i a.length := fun i hi => by
    rw [turn_at, List.length_reverse, worth_rev (by rw [hk.row i hi, h1])]
  exact ⟨fun h i hi => by rw [← e i hi]; exact h i hi, fun h i hi => by rw [e i hi]; exact h i hi⟩
theorem skE_sd {rr : List (List Int)} {m : Nat} (hk : Sd rr m) : skE rr = 0 := by
  have h6 := hk.n6
  have h1 := hk.n1
  have h16 := hk.m16
  refine skE_ok ?_ ?_
  · rintro (h | ⟨i, hi, h⟩)
    · omega
    · have := hk.row i hi; omega
  · rintro (h | ⟨i, hi, h | ⟨j, hj, h⟩⟩)
    · omega
    · exact h (by rw [hk.row i hi, hk.m0])
    · have := hk.val i j; omega
/-- images of divisions in both directions give equal best levels -/
theorem best_same {rr ss : List (List Int)} {a b : List Int} (ha : IsBest rr a) (hb : IsBest ss b) (h1 : ∃ c, divn ss c ∧ lvl ss c = lvl rr a) (h2 : ∃ c, divn rr c ∧ lvl rr c = lvl ss b) : lvl rr a = lvl ss b := by
  obtain ⟨c, hc, ec⟩ := h1
  obtain ⟨d, hd, ed⟩ := h2
  have := (hb.2 c hc).1
  have := (ha.2 d hd).1
  omega
theorem turn_best {rr : List (List Int)} {m : Nat} {a b : List Int} (hk : Sd rr m) (ha : IsBest rr a) (hb : IsBest (turnR rr) b) : lvl rr a = lvl (turnR rr) b := by
  refine best_same ha hb ⟨a.reverse, turn_div hk ha.1, turn_lvl hk ha.1⟩ ⟨b.reverse, ?_, ?_⟩
  · have := turn_div (turn_sd hk) hb.1; rwa [turn_turn] at this
  · have := turn_lvl (turn_sd hk) hb.1; rwa [turn_turn] at this

/-! ### the agents in the opposite order -/
def opA (n : Nat) (a : List Int) : List Int := a.map fun x => (n : Int) - 1 - x
theorem op_len (n : Nat) (a : List Int) : (opA n a).length = a.length := List.length_map ..
theorem op_at {n : Nat} {a : List Int} {i : Nat} (h : i < a.length) : (opA n a).getD i 0 = (n : Int) - 1 - a.getD i 0 := by
  unfold opA
  rw [List.getD, List.getD, List.getElem?_map, List.getElem?_eq_getElem h]; rfl
theorem op_nr {n : Nat} {a : List Int} (h : nr a) : nr (opA n a) := by
  rw [nr_ctg] at h ⊢
  intro i j k hij hjk hk he
  rw [op_len] at hk
  rw [op_at (by omega), op_at (by omega)] at he
  rw [op_at (by omega), op_at (by omega), h i j k hij hjk hk (by omega)]
theorem op_worth {n : Nat} {a r : List Int} {i : Nat} (hi : i < n) : ∀ c, c ≤ a.length → worth (opA n a) r i c = worth a r ((n - 1 - i : Nat) : Int) c
  | 0, _ => rfl
  | c + 1, h => by
    simp only [worth]
    rw [op_worth hi c (by omega), op_at (by omega)]
    by_cases e : (n : Int) - 1 - a.getD c 0 = (i : Int)
    · rw [if_pos e, if_pos (by omega)]
    · rw [if_neg e, if_neg (by omega)]
theorem opp_sd {rr : List (List Int)} {m : Nat} (hk : Sd rr m) : Sd rr.reverse m := by
  have h1 := hk.n1
  refine ⟨by rw [List.length_reverse]; exact h1, by rw [List.length_reverse]; exact hk.n6, hk.m16, by rw [rev_getS (by omega)]; exact hk.row _ (by omega), fun i hi => ?_, fun i j => ?_⟩
  · rw [List.length_reverse] at hi; rw [rev_getS hi]; exact hk.row _ (by omega)
  · show 0 ≤ (rr.reverse.getD i []).getD j 0 ∧ (rr.reverse.getD i []).getD j 0 ≤ 1000
    by_cases hi : i < rr.length
    · rw [rev_getS hi]; exact hk.val _ j
    · rw [show rr.reverse.getD i [] = [] by rw [List.getD, List.getElem?_eq_none (by rw [List.length_reverse]; omega)]; rfl]; exact ⟨Int.le_refl 0, by show (0 : Int) ≤ 1000; decide⟩
theorem opp_div {rr : List (List Int)} {m : Nat} {a : List Int} (hk : Sd rr m) (h : divn rr a) : divn rr.reverse (opA rr.length a) := by
  obtain ⟨h1, h2, h3⟩ := divn_iff.1 h
  refine divn_iff.2 ⟨by rw [op_len, h1, hk.m0, (opp_sd hk).m0], fun y hy => ?_, op_nr h3⟩
  obtain ⟨x, hx, rfl⟩ := List.mem_map.1 hy
  have := h2 x hx
  rw [List.length_reverse]; omega
theorem opp_lvl {rr : List (List Int)} {m : Nat} {a : List Int} (hk : Sd rr m) (h : divn rr a) : lvl rr.reverse (opA rr.length a) = lvl rr a := by
  refine lvl_eq (opp_sd hk).n1 hk.n1 fun L => ?_
  rw [lvl_ge (opp_sd hk).n1, lvl_ge hk.n1, List.length_reverse]
  have e : ∀ i, i < rr.length → worth (opA rr.length a) (rr.reverse.getD i []) i (opA rr.length a).length = worth a (rr.getD (rr.length - 1 - i) []) ((rr.length - 1 - i : Nat) : Int) a.length := fun i hi => by
    rw [rev_getS hi, op_len, op_worth hi _ (Nat.le_refl _)]
  constructor
  · intro h i hi
    have h1 := h (rr.length - 1 - i) (by omega)
    rw [e _ (by omega), show rr.length - 1 - (rr.length - 1 - i) = i by omega] at h1
    exact h1
  · intro h i hi
    rw [e i hi]; exact h _ (by omega)
theorem opp_best {rr : List (List Int)} {m : Nat} {a b : List Int} (hk : Sd rr m) (ha : IsBest rr a) (hb : IsBest rr.reverse b) : lvl rr a = lvl rr.reverse b := by
  refine best_same ha hb ⟨_, opp_div hk ha.1, opp_lvl hk ha.1⟩ ⟨opA rr.length b, ?_, ?_⟩
  · have := opp_div (opp_sd hk) hb.1; rwa [List.reverse_reverse, List.length_reverse] at this
  · have := opp_lvl (opp_sd hk) hb.1; rwa [List.reverse_reverse, List.length_reverse] at this
end Go.Proofs.Ytclbiabiiknolaa
set_option linter.unusedVariables false
set_option linter.unusedSimpArgs false
namespace Go.Eng
open Go.RowKit

section
variable {P : Program} {w w' : World} {v : Value} {B s n : Nat} {xs : List Value} {t e : TypeId}

theorem Own.cut {h : Nat} (H : Eng.Own B e s w v n xs) (hh : h ≤ n) : Eng.Own B e s w (view v s 0 h) h (xs.take (h * s)) := by
  have hm : h * s ≤ n * s := Nat.mul_le_mul_right s hh
  refine ⟨by rw [List.length_take, H.1]; omega, ?_⟩
  rcases H.2 with ⟨rfl, rfl⟩ | ⟨g, cap, cur, rfl, h1, h2, h3, h4, h5, h6⟩
  · obtain rfl : h = 0 := by omega
    exact .inl ⟨rfl, rfl⟩
  · refine .inr ⟨g, cap, cur, ?_, h1, h2, by omega, h4, h5, ?_⟩
    · show sliced (some ⟨g, 0, none⟩) 0 h cap s = _
      unfold sliced
      have e0 : (⟨g, 0, none⟩ : Addr).add (0 * s) = ⟨g, 0, none⟩ := by rw [Nat.zero_mul]; rfl
      simp only [Option.map_some, e0, Nat.sub_zero, ite_self]
    · rw [← h6, List.take_take, Nat.min_eq_left hm]

theorem Own.put {k : Nat} {x : Value} (h : Eng.Own B e s w v n xs) (hk : k < xs.length) (hx : x.oneCell' = true) : (∃ u, w.cell? (ea v k) = some u) ∧ w.frozen? (ea v k) = false ∧ Gr (fun j => v.ownBlock = some j) w (w.setCell (ea v k) x) ∧ Eng.Own B e s (w.setCell (ea v k) x) v n (xs.set k x) := by
  have := Own.set (K := fun w' => Gr (fun j => v.ownBlock = some j) w w' ∧ Eng.Own B e s w' v n (xs.set k x)) h hk hx (fun w' hg h' => ⟨hg, h'⟩)
  simp only [St] at this
  exact ⟨this.2.1, this.2.2.1, (this.2.2.2 w (Ext.refl w)).1, (this.2.2.2 w (Ext.refl w)).2⟩

theorem clear_own {z : Value} (hz : z.oneCell' = true) {g cap : Nat} (hv : v = .slice (some ⟨g, 0, none⟩) n cap) : ∀ (m i : Nat) (w : World) (xs : List Value), Eng.Own B e 1 w v n xs → i + m ≤ n →
    ∃ ys, Gr (fun j => v.ownBlock = some j) w (w.setCells g i (List.replicate m z)) ∧ Eng.Own B e 1 (w.setCells g i (List.replicate m z)) v n ys ∧ ys.take i = xs.take i
  | 0, i, w, xs, h, _ => ⟨xs, Gr.ofExt (Ext.refl w), h, rfl⟩
  | m + 1, i, w, xs, h, hi => by
    have hl := h.1
    have hea : ea v i = ⟨g, i, none⟩ := by
      subst hv; simp only [ea]; unfold Addr.add; split <;> simp_all
    obtain ⟨_, _, hg, ho⟩ := Own.put h (k := i) (by omega) hz
    rw [hea] at hg ho
    obtain ⟨ys, hg2, ho2, ht⟩ := clear_own hz hv m (i + 1) _ _ ho (by omega)
    refine ⟨ys, hg.trans hg2, ho2, ?_⟩
    have e1 : ys.take i = (ys.take (i + 1)).take i := by rw [List.take_take, Nat.min_eq_left (by omega)]
    rw [e1, ht, List.take_take, Nat.min_eq_left (by omega)]
    rw [List.take_set]
    exact List.set_eq_of_length_le (by rw [List.length_take]; omega)

/-- 'clear(s[i:])', s the call's own row of one-cell elements, i short of its end. -/
theorem VE.clear {i b : Nat} {z : Value} {T : TypeId} {K : Value → World → Prop} (ht : P.underlying t = some (.slice e)) (he : Elem P e z 1 b) (hz : z.cells = #[z]) (hz1 : z.oneCell' = true) (H : Eng.Own B e 1 w v n xs) (hi : i < n)
    (hk : ∀ w' ys, Gr (fun j => v.ownBlock = some j) w w' → Eng.Own B e 1 w' v n ys → ys.take i = xs.take i → K (.tuple #[]) w') : VE P (Builtin.clear_ #[t] T #[view v 1 i n]) w K := by
  simp only [VE]
  intro w1 hw1
  have H1 := Own.ext H hw1
  rcases H1.2 with ⟨rfl, h0⟩ | ⟨g, cap, cur, hv, h1, h2, h3, h4, h5, h6⟩
  · omega
  · obtain ⟨ys, hg, ho, hy⟩ := clear_own hz1 hv (n - i) i w1 xs H1 (by omega)
    obtain ⟨i0, hinf, hzv, _, _⟩ := he.info
    have hzr : ∀ w, (zeroValue e).run P w = .ok z w := fun w => by simp [zeroValue, typeInfo, Sem.run_bind, run_program, hinf, hzv]
    have hvw : view v 1 i n = .slice (some ⟨g, i, none⟩) (n - i) (cap - i) := by
      subst hv
      show sliced (some ⟨g, 0, none⟩) i n cap 1 = _
      unfold sliced
      have e0 : (⟨g, 0, none⟩ : Addr).add (i * 1) = ⟨g, i, none⟩ := by rw [Nat.mul_one]; unfold Addr.add; split <;> simp_all
      rw [if_neg (by omega)]
      simp only [Option.map_some, e0]
    have hcell : ∀ j, j < n - i → (w1.cell? ⟨g, i + j, none⟩).isSome = true ∧ w1.frozen? ⟨g, i + j, none⟩ = false := fun j hj => by
      have hl := H1.1
      obtain ⟨⟨u, hu⟩, hf, _, _⟩ := Own.put H1 (k := i + j) (x := z) (by omega) hz1
      have hea : ea v (i + j) = ⟨g, i + j, none⟩ := by
        subst hv; simp only [ea]; unfold Addr.add; split <;> simp_all
      rw [hea] at hu hf
      exact ⟨by rw [hu]; rfl, hf⟩
    have hrun := Go.Lib.run_clear_slice (P := P) w1 t e T z ht hzr hz hz1 g i (n - i) (cap - i) (by omega) (fun j hj => (hcell j hj).1) (fun j hj => (hcell j hj).2)
    rw [← hvw] at hrun
    exact ⟨_, _, hrun, _, Ext.refl _, hk _ ys ((Gr.ofExt hw1).trans hg) ho hy⟩
end
end Go.Eng
set_option linter.unusedVariables false
set_option linter.unusedSimpArgs false
namespace Go.Eng
open Go.RowKit

/-- a slice of one-cell elements, anywhere in a block of the call's own -/
def OwnQ (B : Nat) (e : TypeId) (w : World) (v : Value) (n : Nat) (xs : List Value) : Prop :=
  xs.length = n ∧ ((v = .slice none 0 0 ∧ n = 0) ∨ ∃ g off cap cur, v = .slice (some ⟨g, off, none⟩) n cap ∧ B ≤ g ∧ w.heap[g]? = some (.cells cur e (0, 0)) ∧ n ≤ cap ∧ cap ≤ maxLen ∧ off + cap ≤ cur.size ∧ (cur.toList.drop off).take n = xs)
abbrev qb (v : Value) : Option Nat := v.ownBlock

section
variable {P : Program} {B : Nat} {e t : TypeId} {w w' : World} {v : Value} {n : Nat} {xs : List Value}
theorem OwnQ.of (h : Eng.Own B e 1 w v n xs) : OwnQ B e w v n xs := by
  refine ⟨by have := h.1; omega, ?_⟩
  rcases h.2 with h1 | ⟨g, cap, cur, rfl, h1, h2, h3, h4, h5, h6⟩
  · exact .inl h1
  · exact .inr ⟨g, 0, cap, cur, rfl, h1, h2, h3, h4, by omega, by rw [List.drop_zero]; rw [Nat.mul_one] at h6; exact h6⟩
theorem OwnQ.gr {S : Nat → Prop} (h : OwnQ B e w v n xs) (hg : Gr S w w') (hs : ∀ k, qb v = some k → ¬ S k) : OwnQ B e w' v n xs := by
  refine ⟨h.1, ?_⟩
  rcases h.2 with hn | ⟨g, off, cap, cur, rfl, hb, hgg, rest⟩
  · exact .inl hn
  · refine .inr ⟨g, off, cap, cur, rfl, hb, ?_, rest⟩
    rw [hg.block g (Array.getElem?_eq_some_iff.1 hgg).1 (hs g rfl)]
    exact hgg
theorem OwnQ.ext (h : OwnQ B e w v n xs) (hg : Ext w w') : OwnQ B e w' v n xs := h.gr hg fun _ _ hf => hf
theorem OwnQ.lt (h : OwnQ B e w v n xs) : ∀ k, qb v = some k → B ≤ k ∧ k < w.heap.size := by
  intro k hk
  rcases h.2 with ⟨rfl, _⟩ | ⟨g, off, cap, cur, rfl, hb, hgg, _⟩
  · cases hk
  · cases hk; exact ⟨hb, (Array.getElem?_eq_some_iff.1 hgg).1⟩
theorem OwnQ.ne {B' : Nat} {e' : TypeId} {s' : Nat} {v' : Value} {n' : Nat} {xs' : List Value} (h : OwnQ B e w v n xs) (h' : Eng.Own B' e' s' w v' n' xs') (he : e ≠ e') : ∀ k, qb v = some k → v'.ownBlock ≠ some k := by
  intro k hk hk'
  rcases h.2 with ⟨rfl, _⟩ | ⟨g, off, cap, cur, rfl, _, hg, _⟩
  · cases hk
  · rcases h'.2 with ⟨rfl, _⟩ | ⟨g', cap', cur', rfl, _, hg', _⟩
    · simp [Value.ownBlock] at hk'
    · cases hk
      simp [Value.ownBlock] at hk'
      subst hk'
      rw [hg] at hg'
      simp at hg'
      exact he hg'.2
theorem OwnQ.sl (h : OwnQ B e w v n xs) : Sl 1 w v n xs := by
  obtain ⟨hl, h⟩ := h
  rcases h with ⟨rfl, rfl⟩ | ⟨g, off, cap, cur, rfl, hb, hg, h1, h2, h3, h4⟩
  · exact ⟨none, 0, rfl, Nat.le_refl _, Nat.zero_le _, by omega, .inl rfl⟩
  · refine ⟨_, cap, rfl, h1, h2, by omega, .inr ⟨_, rfl, fun i x hx => ?_⟩⟩
    rw [Addr.add_lit]
    simp only [World.cell?, hg]
    have hi : i < xs.length := (List.getElem?_eq_some_iff.1 hx).1
    rw [← h4, List.getElem?_take, if_pos (by omega), List.getElem?_drop] at hx
    simpa using hx
theorem OwnQ.cut1 (h : OwnQ B e w v n xs) (hn : 1 ≤ n) : OwnQ B e w (view v 1 1 n) (n - 1) (xs.drop 1) ∧ ∀ k, qb (view v 1 1 n) = some k → qb v = some k := by
  obtain ⟨hl, h⟩ := h
  rcases h with ⟨rfl, rfl⟩ | ⟨g, off, cap, cur, rfl, hb, hg, h1, h2, h3, h4⟩
  · omega
  · by_cases hc : cap = 1
    · have hn1 : n = 1 := by omega
      subst hn1 hc
      have e1 : view (.slice (some ⟨g, off, none⟩) 1 1) 1 1 1 = .slice (some ⟨g, off, none⟩) 0 0 := by simp [view, sliced]
      rw [e1]
      have hx : xs.drop 1 = [] := List.drop_eq_nil_iff.2 (by omega)
      rw [hx]
      exact ⟨⟨rfl, .inr ⟨g, off, 0, cur, rfl, hb, hg, Nat.le_refl _, Nat.zero_le _, by omega, by simp⟩⟩, fun k hk => hk⟩
    · have e1 : view (.slice (some ⟨g, off, none⟩) n cap) 1 1 n = .slice (some ⟨g, off + 1, none⟩) (n - 1) (cap - 1) := by
        simp only [view, sliced, if_neg hc, Option.map_some, Nat.mul_one, Addr.add_lit]
      rw [e1]
      refine ⟨⟨by rw [List.length_drop]; omega, .inr ⟨g, off + 1, cap - 1, cur, rfl, hb, hg, by omega, by unfold maxLen at *; omega, by omega, ?_⟩⟩, fun k hk => hk⟩
      rw [← h4, List.drop_take, List.drop_drop]
theorem VE.appQ {a : World} {T : TypeId} {z x y : Value} {b : Nat} {K : Value → World → Prop} (ht : P.underlying t = some (.slice e)) (he : Elem P e z 1 b) (hzs : z.cells.size = 1)
    (H : OwnQ B e w v n xs) (hx : Ext a w) (hB : a.heap.size = B) (Hx : Sl 1 w x 1 [y]) (h1 : y.oneCell' = true) (h63 : n + 1 ≤ 9223372036854775807) (hb : (n + 1) * b ≤ 140737488355328)
    (hk : ∀ v' w', Ext a w' → Gr (fun k => qb v = some k) w w' → OwnQ B e w' v' (n + 1) (xs ++ [y]) → (∀ k, qb v' = some k → qb v = some k ∨ w.heap.size ≤ k) → K v' w') : VE P (Builtin.append_ #[t, t] T #[v, x]) w K := by
  refine VE.mk fun w1 hw1 => ?_
  obtain ⟨i, hi, hz, hsz, hby⟩ := he.info
  have H1 := H.ext hw1
  have hx1 := hx.trans hw1
  have hgrow : ∀ {v' w'}, w1.grownBy w' none → w'.ownsRow w1.heap.size e 1 v' (n + 1) (xs ++ [y]) → K v' w' := fun {v' w'} hg ho => by
    have hg1 : Ext w1 w' := (Gr.ofGrown hg).mono fun k _ hk => by cases hk
    have ho2 : Eng.Own w1.heap.size e 1 w' v' (n + 1) (xs ++ [y]) := ho
    have hs1 := hw1.size
    have hs2 := hx.size
    refine hk v' w' (hx1.trans hg1) (Gr.ofExt (hw1.trans hg1)) (OwnQ.of (Own.base ho2 (by omega))) fun k hk => .inr ?_
    have := (OwnQ.of ho2).lt k hk
    omega
  obtain ⟨ax, c, rfl, hc1, hc2, hc3, hat⟩ := Hx.ext hw1
  rcases hat with h0 | ⟨p, rfl, hat⟩
  · omega
  obtain ⟨hl, h⟩ := H1
  rcases h with ⟨rfl, rfl⟩ | ⟨g, off, cap, cur, rfl, hbg, hg, h2, h3, h4, h5⟩
  · obtain ⟨v', w', hr, ho, hg, _⟩ := run_append_own w1 (P := P) w1.heap.size t T e i z 1 b ht hi hz hsz hby hzs (by decide) (.slice none 0 0) 0 [] Own.nil p 1 c [y] (by simp) (fun j u hu => hat j u hu) (by intro u hu; simp at hu; subst hu; exact h1) (by unfold maxLen; omega) hb (Nat.le_refl _)
    have hxs : xs = [] := List.eq_nil_of_length_eq_zero hl
    subst hxs
    exact ⟨v', w', hr, hgrow hg ho⟩
  · by_cases hroom : n + 1 ≤ cap
    · have hlt : off + n < cur.size := by omega
      have hr := run_append_room_cells (P := P) w1 t T e i ht hi g off n cap p 1 c [y] (by rw [hsz]; rfl) (fun j u hu => hat j u hu) (by intro u hu; simp at hu; subst hu; exact h1) hroom
        (by intro j hj
            have : j = 0 := by simpa using hj
            subst this
            rw [hsz]; simp only [World.cell?, hg]; simp; omega)
        (by intro j hj; simp only [World.frozen?, hg]; rfl)
      rw [hsz, Nat.mul_one] at hr
      have hset : w1.setCells g (off + n) [y] = w1.setCell ⟨g, off + n, none⟩ y := rfl
      rw [hset] at hr
      refine ⟨_, _, hr, hk _ _ (hx1.new (Gr.setCell (S := fun k => k = g) (p := ⟨g, off + n, none⟩) (Gr.refl _ _) rfl y) fun k h6 h7 => by have := hx.size; omega) (Gr.setCell (S := fun k => qb (.slice (some ⟨g, off, none⟩) n cap) = some k) (p := ⟨g, off + n, none⟩) (Gr.ofExt hw1) rfl y) ?_ fun k hk => .inl hk⟩
      have hgl := (Array.getElem?_eq_some_iff.1 hg).1
      refine ⟨by simp [hl], .inr ⟨g, off, cap, cur.set (off + n) y, rfl, hbg, ?_, hroom, h3, by simpa using h4, ?_⟩⟩
      · simp only [World.setCell]
        rw [Array.getElem?_modify, if_pos rfl, hg]
        simp [Array.setIfInBounds, hlt]
      · have e1 : (cur.set (off + n) y).toList = cur.toList.set (off + n) y := by simp
        rw [e1, List.drop_set, if_neg (by omega), show off + n - off = n by omega]
        have hdl : n < (cur.toList.drop off).length := by simp; omega
        rw [List.take_set, ← h5]
        apply List.ext_getElem?
        intro j
        rw [List.getElem?_set, List.length_take]
        by_cases hj : n = j
        · subst hj
          rw [if_pos rfl]
          have e2 : (List.take n (cur.toList.drop off)).length = n := by rw [List.length_take]; omega
          rw [if_pos (by omega), List.getElem?_append_right (by omega), e2, Nat.sub_self]; rfl
        · rw [if_neg hj, List.getElem?_take]
          by_cases hj2 : j < n
          · rw [if_pos (by omega), List.getElem?_append_left (by simp; omega), List.getElem?_take, if_pos hj2]
          · rw [if_neg (by omega)]
            rw [List.getElem?_eq_none]
            simp; omega
    · obtain ⟨v', w', hr, ho, hg'⟩ := run_append_arg_grows (P := P) w1 t T e i z 1 b ht hi hz hsz hby hzs (by decide) ⟨g, off, none⟩ n cap xs (by omega) (fun j u hu => by
          rw [Addr.add_lit]; simp only [World.cell?, hg]
          have hi : j < xs.length := (List.getElem?_eq_some_iff.1 hu).1
          rw [← h5, List.getElem?_take, if_pos (by omega), List.getElem?_drop] at hu
          simpa using hu) p 1 c [y] (by rfl) (fun j u hu => hat j u hu) (by omega) (by unfold maxLen; omega) hb
      exact ⟨v', w', hr, hgrow hg' ho⟩
end
end Go.Eng
set_option linter.unusedVariables false
set_option linter.unusedSimpArgs false
namespace Go.Proofs.Ytclbiabiiknolaa
open Go.Eng
set_option maxRecDepth 100000
set_option maxHeartbeats 4000000

theorem Sl.len1 {w : World} {v : Value} {n : Nat} {xs : List Value} (h : Sl 1 w v n xs) : xs.length = n := by
  obtain ⟨_, _, _, _, _, h, _⟩ := h
  omega
/-- the two lists of rows as they grow -/
structure MrS (W0 w : World) (rr : List (List Int)) (vs : List Value) (tv ov : Value) (us : List Value) (c d : Nat) : Prop where
  ex : Ext W0 w
  hq : OwnQ W0.heap.size 24 w tv c us
  row : ∀ i, i < c → OI w (us.getD i undef) ((turnR rr).getD i [])
  ho : OwnQ W0.heap.size 24 w ov d (vs.reverse.take d)
  dj : ∀ k, tv.ownBlock = some k → ov.ownBlock ≠ some k
section
variable {W0 w : World} {rr : List (List Int)} {vs : List Value} {tv ov : Value} {us : List Value} {c d : Nat}
theorem MrS.ext (h : MrS W0 w rr vs tv ov us c d) {w' : World} (hx : Ext w w') : MrS W0 w' rr vs tv ov us c d :=
  ⟨h.ex.trans hx, h.hq.ext hx, fun i hi => Own.ext (h.row i hi) hx, h.ho.ext hx, h.dj⟩
theorem MrS.nil (rr : List (List Int)) (vs : List Value) : MrS w w rr vs (.slice none 0 0) (.slice none 0 0) [] 0 0 :=
  ⟨Ext.refl _, OwnQ.of Own.nil, fun i hi => absurd hi (Nat.not_lt_zero _), OwnQ.of Own.nil, fun k hk => by cases hk⟩
theorem MrS.addT (h : MrS W0 w rr vs tv ov us c d) {x lv : Value} {K : Value → World → Prop} (Hl : Sl 1 w x 1 [lv]) (HR : OI w lv ((turnR rr).getD c [])) (hc : c ≤ 1000)
    (hK : ∀ v' w', Gr (fun k => qb tv = some k) w w' → MrS W0 w' rr vs v' ov (us ++ [lv]) (c + 1) d → K v' w') : VE Try.prog (Builtin.append_ #[22, 22] 22 #[tv, x]) w K :=
  VE.appQ Try.underlying22 eRow rfl h.hq h.ex rfl Hl (Sl.cells (Own.sl HR)).2 (by omega) (by omega) fun v' w' hx hg ho hb => hK v' w' hg
    ⟨hx, ho, fun i hi => by
      have hl := h.hq.1
      by_cases e : i = c
      · subst e
        rw [show (us ++ [lv]).getD i undef = lv by rw [List.getD, List.getElem?_append_right (by omega), hl]; simp]
        exact Own.gr HR hg fun k hk hS => h.hq.ne HR (by decide) k hS hk
      · rw [show (us ++ [lv]).getD i undef = us.getD i undef by rw [List.getD, List.getD, List.getElem?_append_left (by omega)]]
        exact Own.gr (h.row i (by omega)) hg fun k hk hS => h.hq.ne (h.row i (by omega)) (by decide) k hS hk,
    h.ho.gr hg (fun k hk hS => h.dj k hS hk), fun k hk ho2 => by
      rcases hb k hk with h1 | h1
      · exact h.dj k h1 ho2
      · have := (h.ho.lt k ho2).2; omega⟩
theorem MrS.addO (h : MrS W0 w rr vs tv ov us c d) {x y : Value} {K : Value → World → Prop} (Hl : Sl 1 w x 1 [y]) (hy : y.oneCell' = true) (hd : d < vs.length) (hd2 : d ≤ 1000) (he : y = vs.getD (vs.length - 1 - d) undef)
    (hK : ∀ v' w', Gr (fun k => qb ov = some k) w w' → MrS W0 w' rr vs tv v' us c (d + 1) → K v' w') : VE Try.prog (Builtin.append_ #[22, 22] 22 #[ov, x]) w K :=
  VE.appQ Try.underlying22 eRow rfl h.ho h.ex rfl Hl hy (by omega) (by omega) fun v' w' hx hg ho hb => hK v' w' hg
    ⟨hx, h.hq.gr hg (fun k hk hS => h.dj k hk hS), fun i hi => Own.gr (h.row i hi) hg (fun k hk hS => h.ho.ne (h.row i hi) (by decide) k hS hk), by
      have e : vs.reverse.take (d + 1) = vs.reverse.take d ++ [y] := by
        have h2 : d < vs.reverse.length := by rw [List.length_reverse]; exact hd
        rw [List.take_succ_eq_append_getElem h2, he, ← rev_getS hd, List.getD, List.getElem?_eq_getElem h2]; rfl
      rw [e]; exact ho, fun k hk ho2 => by
      rcases hb k ho2 with h1 | h1
      · exact h.dj k hk h1
      · have := (h.hq.lt k hk).2; omega⟩
theorem MrS.mat (h : MrS W0 w rr vs tv ov us rr.length rr.length) : Mat w tv us (turnR rr) := ⟨by rw [turn_len]; exact h.hq.sl, fun i hi => by rw [turn_len] at hi; exact Own.sl (h.row i hi)⟩
theorem MrS.mat2 (h : MrS W0 w rr vs tv ov us rr.length rr.length) {vv : Value} (Hv : Mat w vv vs rr) : Mat w ov vs.reverse rr.reverse := by
  have hl : vs.length = rr.length := Sl.len1 Hv.top
  have h1 := h.ho.sl
  rw [List.take_of_length_le (by rw [List.length_reverse, hl]; exact Nat.le_refl _)] at h1
  refine ⟨by rw [List.length_reverse]; exact h1, fun i hi => ?_⟩
  rw [List.length_reverse] at hi
  rw [rev_getS hi, rev_getS (by omega), hl]
  exact Hv.row _ (by omega)
end
theorem revs_take {l : List Int} {d : Nat} (h : d < l.length) : l.reverse.take (d + 1) = l.reverse.take d ++ [l.getD (l.length - 1 - d) 0] := by
  have h2 : d < l.reverse.length := by rw [List.length_reverse]; exact h
  rw [List.take_succ_eq_append_getElem h2, ← rev_getS h, List.getD, List.getElem?_eq_getElem h2]; rfl
theorem OB.snoc31 {B : Nat} {w : World} {v : Value} {l : List Int} {x : Int} (h : Go.Eng.Own B 3 1 w v (l.length + 1) (l.map i64v ++ [.int .i64 x])) : OB B w v (l ++ [x]) := by
  show Go.Eng.Own _ _ _ _ _ (l ++ [x]).length ((l ++ [x]).map i64v)
  rw [List.length_append, List.map_append]; exact h
theorem stripmirrors_pc {w : World} {vv : Value} {vs : List Value} {rr : List (List Int)} (Hv : Mat w vv vs rr) : PC Try.prog 6 [vv] w (.bool true) := by
  refine PC.mk tyOk Try.func6 rfl (by kernel_rfl) fun w1 E1 => ?_
  replace Hv := Hv.ext E1
  have EE := Ext.refl w1
  have cc := rsk_pc Hv
  by_cases hE : skE rr = 0
  · obtain ⟨mm, hmm⟩ : ∃ mm, mm = (rr.getD 0 []).length := ⟨_, rfl⟩
    have hk := sd_of hE
    rw [← hmm] at hk
    have hm0 := hk.m0
    have hm16 := hk.m16
    have hn1 := hk.n1
    have hn6 := hk.n6
    have hvl : vs.length = rr.length := Sl.len1 Hv.top
    rw [hE] at cc
    repeat' ((conv => whnf); first | (refine Dr.quiet tyOk (by kernel_rfl) ?_) | (refine VC.pure alive31_pc ?_) | (refine VC.pure cc ?_) | (refine VCQ.pure cc ?_) | (refine Rng.mk (by omega) ?_) | (refine Split.pos (by omega) ?_) | (refine Split.neg (by omega) ?_) | (refine Split.mk (fun h => ?_) (fun h => ?_)) | (refine Need.mk (by omega) ?_) | (refine Ints.ln (by assumption) ?_) | (refine Mat.ln (by assumption) ?_) | (refine Ints.ln (Mat.row (by assumption) _ (by omega)) ?_) | (refine Ints.ix (by assumption) (by omega) ?_) | (refine Mat.ix (by assumption) (by omega) ?_) | (refine Ints.ix (Mat.row (by assumption) _ (by omega)) (by omega) ?_) | (refine Ints.ix (c := 0) (by assumption) (by omega) ?_) | (refine Mat.ix (c := 0) (by assumption) (by omega) ?_) | (refine Ints.ix (c := 0) (Mat.row (by assumption) _ (by omega)) (by omega) ?_) | (refine Ints.ixI (by assumption) (by omega) ?_) | (refine Mat.ixI (by assumption) (by omega) ?_) | (refine Ints.ixI (Mat.row (by assumption) _ (by omega)) (by omega) ?_) | (refine Ints.ld (by assumption) (by omega) ?_) | (refine Mat.ld (by assumption) (by omega) ?_) | (refine Ints.ld (Mat.row (by assumption) _ (by omega)) (by omega) ?_) | (refine At.ld (by assumption) rfl ?_) | (refine At.ldN (by assumption) rfl ?_) | (refine Prs.ln (by assumption) ?_) | (refine Trs.ln (by assumption) ?_) | (refine Prs.ix (by assumption) (by omega) ?_) | (refine Trs.ix (by assumption) (by omega) ?_) | (refine Prs.ldN (by assumption) (by omega) ?_) | (refine Trs.ldN (by assumption) (by omega) ?_) | (refine At.ldN (Blk.at (by assumption)) rfl ?_) | (refine At.ld (Blk.at (by assumption)) rfl ?_) | (refine IxA.mk (by omega) ?_) | (refine Sl.ln (Own.sl (by assumption)) ?_) | (refine Ints.ix (Own.sl (by assumption)) (by omega) ?_) | (refine Ints.ixI (Own.sl (by assumption)) (by omega) ?_) | (refine Ints.ld (Own.sl (by assumption)) (by omega) ?_))
    have Hv__1 := Hv
    have EE__1 := EE
    have hz1 := Nat.le_trans E1.size EE.size
    refine Lp.mk tyOk [false, false, false, false, true, true, true, true, true, false, false, false, false, false, false, false, false, false, false, false, false, false, false, false, false, false, false, true, true, true, true, true, true, true, true, true, true, true, true, true, true, true, true, true, true, true, true, true, true, true, true, true, true, true, true, true, true, true, true, true, true, true, true, true, true, true, true, true] (fun m fr wr => getK fr 6 fun i => getK fr 4 fun tv => getK fr 5 fun ov => ∃ c : Nat, c ≤ rr.length ∧ m = rr.length - c ∧ i = .int .i64 (c : Int) ∧ ((∃ us, MrS w1 wr rr vs tv ov us c c)) ∧ Ext w1 wr) (rr.length) ?_ ?_
    · exact ⟨0, Nat.zero_le _, rfl, rfl, ⟨[], MrS.nil rr vs⟩, Ext.refl _⟩
    · intro m w2 u4 u5 u6 u7 u8 u27 u28 u29 u30 u31 u32 u33 u34 u35 u36 u37 u38 u39 u40 u41 u42 u43 u44 u45 u46 u47 u48 u49 u50 u51 u52 u53 u54 u55 u56 u57 u58 u59 u60 u61 u62 u63 u64 u65 u66 u67 hR
      obtain ⟨c, hc, rfl, rfl, HS, EL1⟩ := hR
      replace Hv := Hv__1.ext EL1
      replace EE := EE__1.ext EL1
      obtain ⟨us, HS⟩ := HS
      by_cases hcl : c < rr.length
      · have hrow := hk.row c hcl
        repeat' ((conv => whnf); first | (refine Dr.quiet tyOk (by kernel_rfl) ?_) | (refine Rng.mk (by omega) ?_) | (refine Split.pos (by omega) ?_) | (refine Split.neg (by omega) ?_) | (refine Split.mk (fun h => ?_) (fun h => ?_)) | (refine Need.mk (by omega) ?_) | (refine Ints.ln (by assumption) ?_) | (refine Mat.ln (by assumption) ?_) | (refine Ints.ln (Mat.row (by assumption) _ (by omega)) ?_) | (refine Ints.ix (by assumption) (by omega) ?_) | (refine Mat.ix (by assumption) (by omega) ?_) | (refine Ints.ix (Mat.row (by assumption) _ (by omega)) (by omega) ?_) | (refine Ints.ix (c := 0) (by assumption) (by omega) ?_) | (refine Mat.ix (c := 0) (by assumption) (by omega) ?_) | (refine Ints.ix (c := 0) (Mat.row (by assumption) _ (by omega)) (by omega) ?_) | (refine Ints.ixI (by assumption) (by omega) ?_) | (refine Mat.ixI (by assumption) (by omega) ?_) | (refine Ints.ixI (Mat.row (by assumption) _ (by omega)) (by omega) ?_) | (refine Ints.ld (by assumption) (by omega) ?_) | (refine Mat.ld (by assumption) (by omega) ?_) | (refine Ints.ld (Mat.row (by assumption) _ (by omega)) (by omega) ?_) | (refine At.ld (by assumption) rfl ?_) | (refine At.ldN (by assumption) rfl ?_) | (refine Prs.ln (by assumption) ?_) | (refine Trs.ln (by assumption) ?_) | (refine Prs.ix (by assumption) (by omega) ?_) | (refine Trs.ix (by assumption) (by omega) ?_) | (refine Prs.ldN (by assumption) (by omega) ?_) | (refine Trs.ldN (by assumption) (by omega) ?_) | (refine At.ldN (Blk.at (by assumption)) rfl ?_) | (refine At.ld (Blk.at (by assumption)) rfl ?_) | (refine IxA.mk (by omega) ?_) | (refine Sl.ln (Own.sl (by assumption)) ?_) | (refine Ints.ix (Own.sl (by assumption)) (by omega) ?_) | (refine Ints.ixI (Own.sl (by assumption)) (by omega) ?_) | (refine Ints.ld (Own.sl (by assumption)) (by omega) ?_))
        have Hv__2 := Hv
        have EE__2 := EE
        have EL1__2 := EL1
        have HS__2 := HS
        have hz2 := Nat.le_trans E1.size EE.size
        refine Lp.mk tyOk [false, false, false, false, false, false, false, true, true, false, false, false, false, false, false, false, false, false, false, false, false, false, false, false, false, false, false, false, false, false, false, false, false, false, false, false, false, false, false, true, true, true, true, true, true, true, true, true, true, true, true, true, true] (fun m fr wr => getK fr 8 fun k => getK fr 7 fun lv => ∃ d : Nat, d ≤ mm ∧ m = mm - d ∧ k = .int .i64 ((mm : Int) - 1 - (d : Int)) ∧ (OB w2.heap.size wr lv ((rr.getD c []).reverse.take d)) ∧ Ext w2 wr) (mm) ?_ ?_
        · exact ⟨0, Nat.zero_le _, rfl, (congrArg (Value.int .i64) (by omega)), Own.nil, Ext.refl _⟩
        · intro m w3 u7 u8 u39 u40 u41 u42 u43 u44 u45 u46 u47 u48 u49 u50 u51 u52 hR
          obtain ⟨d, hd, rfl, rfl, HR, EL2⟩ := hR
          replace Hv := Hv__2.ext EL2
          replace EE := EE__2.ext EL2
          replace EL1 := EL1__2.ext EL2
          replace HS := HS__2.ext EL2
          have hlt : d ≤ mm → ((rr.getD c []).reverse.take d).length = d := fun h => by rw [List.length_take, List.length_reverse]; omega
          by_cases hdl : d < mm
          · have hi : (mm : Int) - 1 - (d : Int) = ((mm - 1 - d : Nat) : Int) := by omega
            have hlt2 := hlt (by omega)
            rw [hi]
            repeat' ((conv => whnf); first | (refine Dr.quiet tyOk (by kernel_rfl) ?_) | (refine Rng.mk (by omega) ?_) | (refine Split.pos (by omega) ?_) | (refine Split.neg (by omega) ?_) | (refine Split.mk (fun h => ?_) (fun h => ?_)) | (refine Need.mk (by omega) ?_) | (refine Ints.ln (by assumption) ?_) | (refine Mat.ln (by assumption) ?_) | (refine Ints.ln (Mat.row (by assumption) _ (by omega)) ?_) | (refine Ints.ix (by assumption) (by omega) ?_) | (refine Mat.ix (by assumption) (by omega) ?_) | (refine Ints.ix (Mat.row (by assumption) _ (by omega)) (by omega) ?_) | (refine Ints.ix (c := 0) (by assumption) (by omega) ?_) | (refine Mat.ix (c := 0) (by assumption) (by omega) ?_) | (refine Ints.ix (c := 0) (Mat.row (by assumption) _ (by omega)) (by omega) ?_) | (refine Ints.ixI (by assumption) (by omega) ?_) | (refine Mat.ixI (by assumption) (by omega) ?_) | (refine Ints.ixI (Mat.row (by assumption) _ (by omega)) (by omega) ?_) | (refine Ints.ld (by assumption) (by omega) ?_) | (refine Mat.ld (by assumption) (by omega) ?_) | (refine Ints.ld (Mat.row (by assumption) _ (by omega)) (by omega) ?_) | (refine At.ld (by assumption) rfl ?_) | (refine At.ldN (by assumption) rfl ?_) | (refine Prs.ln (by assumption) ?_) | (refine Trs.ln (by assumption) ?_) | (refine Prs.ix (by assumption) (by omega) ?_) | (refine Trs.ix (by assumption) (by omega) ?_) | (refine Prs.ldN (by assumption) (by omega) ?_) | (refine Trs.ldN (by assumption) (by omega) ?_) | (refine At.ldN (Blk.at (by assumption)) rfl ?_) | (refine At.ld (Blk.at (by assumption)) rfl ?_) | (refine IxA.mk (by omega) ?_) | (refine Sl.ln (Own.sl (by assumption)) ?_) | (refine Ints.ix (Own.sl (by assumption)) (by omega) ?_) | (refine Ints.ixI (Own.sl (by assumption)) (by omega) ?_) | (refine Ints.ld (Own.sl (by assumption)) (by omega) ?_))
            refine VE.lit1 Try.underlying24 eInt rfl fun xv w20 E20 Hl => ?_
            have HR0 := Own.ext HR E20
            conv => whnf
            refine VE.app Try.underlying24 eInt rfl (by omega) HR0 (EL2.trans E20) rfl Hl (by simp [Value.oneCell']) (by omega) (by omega) fun v8 w21 E21 G21 H8 => ?_
            repeat' ((conv => whnf); first | (refine Dr.quiet tyOk (by kernel_rfl) ?_) | (refine Rng.mk (by omega) ?_) | (refine Split.pos (by omega) ?_) | (refine Split.neg (by omega) ?_) | (refine Split.mk (fun h => ?_) (fun h => ?_)) | (refine Need.mk (by omega) ?_) | (refine Ints.ln (by assumption) ?_) | (refine Mat.ln (by assumption) ?_) | (refine Ints.ln (Mat.row (by assumption) _ (by omega)) ?_) | (refine Ints.ix (by assumption) (by omega) ?_) | (refine Mat.ix (by assumption) (by omega) ?_) | (refine Ints.ix (Mat.row (by assumption) _ (by omega)) (by omega) ?_) | (refine Ints.ix (c := 0) (by assumption) (by omega) ?_) | (refine Mat.ix (c := 0) (by assumption) (by omega) ?_) | (refine Ints.ix (c := 0) (Mat.row (by assumption) _ (by omega)) (by omega) ?_) | (refine Ints.ixI (by assumption) (by omega) ?_) | (refine Mat.ixI (by assumption) (by omega) ?_) | (refine Ints.ixI (Mat.row (by assumption) _ (by omega)) (by omega) ?_) | (refine Ints.ld (by assumption) (by omega) ?_) | (refine Mat.ld (by assumption) (by omega) ?_) | (refine Ints.ld (Mat.row (by assumption) _ (by omega)) (by omega) ?_) | (refine At.ld (by assumption) rfl ?_) | (refine At.ldN (by assumption) rfl ?_) | (refine Prs.ln (by assumption) ?_) | (refine Trs.ln (by assumption) ?_) | (refine Prs.ix (by assumption) (by omega) ?_) | (refine Trs.ix (by assumption) (by omega) ?_) | (refine Prs.ldN (by assumption) (by omega) ?_) | (refine Trs.ldN (by assumption) (by omega) ?_) | (refine At.ldN (Blk.at (by assumption)) rfl ?_) | (refine At.ld (Blk.at (by assumption)) rfl ?_) | (refine IxA.mk (by omega) ?_) | (refine Sl.ln (Own.sl (by assumption)) ?_) | (refine Ints.ix (Own.sl (by assumption)) (by omega) ?_) | (refine Ints.ixI (Own.sl (by assumption)) (by omega) ?_) | (refine Ints.ld (Own.sl (by assumption)) (by omega) ?_))
            refine ⟨_, (by omega : mm - (d + 1) < mm - d), rfl, d + 1, by omega, rfl, (congrArg (Value.int .i64) (by omega)), (by rw [revs_take (by omega), hrow]; exact OB.snoc31 H8), E21⟩
          · obtain rfl : d = mm := by omega
            rw [List.take_of_length_le (by rw [List.length_reverse]; omega)] at HR
            have HRO : OI w3 u7 ((turnR rr).getD c []) := by rw [turn_at]; exact Own.base HR (Nat.zero_le _)
            repeat' ((conv => whnf); first | (refine Dr.quiet tyOk (by kernel_rfl) ?_) | (refine Rng.mk (by omega) ?_) | (refine Split.pos (by omega) ?_) | (refine Split.neg (by omega) ?_) | (refine Split.mk (fun h => ?_) (fun h => ?_)) | (refine Need.mk (by omega) ?_) | (refine Ints.ln (by assumption) ?_) | (refine Mat.ln (by assumption) ?_) | (refine Ints.ln (Mat.row (by assumption) _ (by omega)) ?_) | (refine Ints.ix (by assumption) (by omega) ?_) | (refine Mat.ix (by assumption) (by omega) ?_) | (refine Ints.ix (Mat.row (by assumption) _ (by omega)) (by omega) ?_) | (refine Ints.ix (c := 0) (by assumption) (by omega) ?_) | (refine Mat.ix (c := 0) (by assumption) (by omega) ?_) | (refine Ints.ix (c := 0) (Mat.row (by assumption) _ (by omega)) (by omega) ?_) | (refine Ints.ixI (by assumption) (by omega) ?_) | (refine Mat.ixI (by assumption) (by omega) ?_) | (refine Ints.ixI (Mat.row (by assumption) _ (by omega)) (by omega) ?_) | (refine Ints.ld (by assumption) (by omega) ?_) | (refine Mat.ld (by assumption) (by omega) ?_) | (refine Ints.ld (Mat.row (by assumption) _ (by omega)) (by omega) ?_) | (refine At.ld (by assumption) rfl ?_) | (refine At.ldN (by assumption) rfl ?_) | (refine Prs.ln (by assumption) ?_) | (refine Trs.ln (by assumption) ?_) | (refine Prs.ix (by assumption) (by omega) ?_) | (refine Trs.ix (by assumption) (by omega) ?_) | (refine Prs.ldN (by assumption) (by omega) ?_) | (refine Trs.ldN (by assumption) (by omega) ?_) | (refine At.ldN (Blk.at (by assumption)) rfl ?_) | (refine At.ld (Blk.at (by assumption)) rfl ?_) | (refine IxA.mk (by omega) ?_) | (refine Sl.ln (Own.sl (by assumption)) ?_) | (refine Ints.ix (Own.sl (by assumption)) (by omega) ?_) | (refine Ints.ixI (Own.sl (by assumption)) (by omega) ?_) | (refine Ints.ld (Own.sl (by assumption)) (by omega) ?_))
            refine VE.lit1 Try.underlying22 eRow (Sl.cells (Own.sl HRO)).1 fun xv w20 E20 Hl => ?_
            conv => whnf
            refine MrS.addT (HS.ext E20) Hl (Own.ext HRO E20) (by omega) fun v8 w21 G21 HS21 => ?_
            have HV21 := Hv__1.ext HS21.ex
            repeat' ((conv => whnf); first | (refine Dr.quiet tyOk (by kernel_rfl) ?_) | (refine Mat.ln HV21 ?_) | (refine Mat.ixI HV21 (by omega) ?_) | (refine Mat.ld HV21 (by omega) ?_) | (refine Rng.mk (by omega) ?_) | (refine Split.pos (by omega) ?_) | (refine Split.neg (by omega) ?_) | (refine Split.mk (fun h => ?_) (fun h => ?_)) | (refine Need.mk (by omega) ?_) | (refine Ints.ln (by assumption) ?_) | (refine Mat.ln (by assumption) ?_) | (refine Ints.ln (Mat.row (by assumption) _ (by omega)) ?_) | (refine Ints.ix (by assumption) (by omega) ?_) | (refine Mat.ix (by assumption) (by omega) ?_) | (refine Ints.ix (Mat.row (by assumption) _ (by omega)) (by omega) ?_) | (refine Ints.ix (c := 0) (by assumption) (by omega) ?_) | (refine Mat.ix (c := 0) (by assumption) (by omega) ?_) | (refine Ints.ix (c := 0) (Mat.row (by assumption) _ (by omega)) (by omega) ?_) | (refine Ints.ixI (by assumption) (by omega) ?_) | (refine Mat.ixI (by assumption) (by omega) ?_) | (refine Ints.ixI (Mat.row (by assumption) _ (by omega)) (by omega) ?_) | (refine Ints.ld (by assumption) (by omega) ?_) | (refine Mat.ld (by assumption) (by omega) ?_) | (refine Ints.ld (Mat.row (by assumption) _ (by omega)) (by omega) ?_) | (refine At.ld (by assumption) rfl ?_) | (refine At.ldN (by assumption) rfl ?_) | (refine Prs.ln (by assumption) ?_) | (refine Trs.ln (by assumption) ?_) | (refine Prs.ix (by assumption) (by omega) ?_) | (refine Trs.ix (by assumption) (by omega) ?_) | (refine Prs.ldN (by assumption) (by omega) ?_) | (refine Trs.ldN (by assumption) (by omega) ?_) | (refine At.ldN (Blk.at (by assumption)) rfl ?_) | (refine At.ld (Blk.at (by assumption)) rfl ?_) | (refine IxA.mk (by omega) ?_) | (refine Sl.ln (Own.sl (by assumption)) ?_) | (refine Ints.ix (Own.sl (by assumption)) (by omega) ?_) | (refine Ints.ixI (Own.sl (by assumption)) (by omega) ?_) | (refine Ints.ld (Own.sl (by assumption)) (by omega) ?_))
            have hix : ((rr.length : Int) - 1 - (c : Int)).toNat = rr.length - 1 - c := by omega
            have HRv := Hv__1.row (rr.length - 1 - c) (by omega)
            rw [hix]
            refine VE.lit1 Try.underlying22 eRow (Sl.cells HRv).1 fun yv w22 E22 Hl2 => ?_
            conv => whnf
            refine MrS.addO (HS21.ext E22) Hl2 (Sl.cells HRv).2 (by omega) (by omega) (by rw [hvl]) fun v9 w23 G23 HS23 => ?_
            repeat' ((conv => whnf); first | (refine Dr.quiet tyOk (by kernel_rfl) ?_) | (refine Rng.mk (by omega) ?_) | (refine Split.pos (by omega) ?_) | (refine Split.neg (by omega) ?_) | (refine Split.mk (fun h => ?_) (fun h => ?_)) | (refine Need.mk (by omega) ?_) | (refine Ints.ln (by assumption) ?_) | (refine Mat.ln (by assumption) ?_) | (refine Ints.ln (Mat.row (by assumption) _ (by omega)) ?_) | (refine Ints.ix (by assumption) (by omega) ?_) | (refine Mat.ix (by assumption) (by omega) ?_) | (refine Ints.ix (Mat.row (by assumption) _ (by omega)) (by omega) ?_) | (refine Ints.ix (c := 0) (by assumption) (by omega) ?_) | (refine Mat.ix (c := 0) (by assumption) (by omega) ?_) | (refine Ints.ix (c := 0) (Mat.row (by assumption) _ (by omega)) (by omega) ?_) | (refine Ints.ixI (by assumption) (by omega) ?_) | (refine Mat.ixI (by assumption) (by omega) ?_) | (refine Ints.ixI (Mat.row (by assumption) _ (by omega)) (by omega) ?_) | (refine Ints.ld (by assumption) (by omega) ?_) | (refine Mat.ld (by assumption) (by omega) ?_) | (refine Ints.ld (Mat.row (by assumption) _ (by omega)) (by omega) ?_) | (refine At.ld (by assumption) rfl ?_) | (refine At.ldN (by assumption) rfl ?_) | (refine Prs.ln (by assumption) ?_) | (refine Trs.ln (by assumption) ?_) | (refine Prs.ix (by assumption) (by omega) ?_) | (refine Trs.ix (by assumption) (by omega) ?_) | (refine Prs.ldN (by assumption) (by omega) ?_) | (refine Trs.ldN (by assumption) (by omega) ?_) | (refine At.ldN (Blk.at (by assumption)) rfl ?_) | (refine At.ld (Blk.at (by assumption)) rfl ?_) | (refine IxA.mk (by omega) ?_) | (refine Sl.ln (Own.sl (by assumption)) ?_) | (refine Ints.ix (Own.sl (by assumption)) (by omega) ?_) | (refine Ints.ixI (Own.sl (by assumption)) (by omega) ?_) | (refine Ints.ld (Own.sl (by assumption)) (by omega) ?_))
            refine ⟨_, (by omega : rr.length - (c + 1) < rr.length - c), rfl, c + 1, by omega, rfl, rfl, ⟨_, HS23⟩, HS23.ex⟩
      · obtain rfl : c = rr.length := by omega
        have HT := HS.mat
        have HO := HS.mat2 Hv
        have eT := skE_sd (turn_sd hk)
        have eO := skE_sd (opp_sd hk)
        repeat' ((conv => whnf); first | (refine Dr.quiet tyOk (by kernel_rfl) ?_) | (refine Rng.mk (by omega) ?_) | (refine Split.pos (by omega) ?_) | (refine Split.neg (by omega) ?_) | (refine Split.mk (fun h => ?_) (fun h => ?_)) | (refine Need.mk (by omega) ?_) | (refine Ints.ln (by assumption) ?_) | (refine Mat.ln (by assumption) ?_) | (refine Ints.ln (Mat.row (by assumption) _ (by omega)) ?_) | (refine Ints.ix (by assumption) (by omega) ?_) | (refine Mat.ix (by assumption) (by omega) ?_) | (refine Ints.ix (Mat.row (by assumption) _ (by omega)) (by omega) ?_) | (refine Ints.ix (c := 0) (by assumption) (by omega) ?_) | (refine Mat.ix (c := 0) (by assumption) (by omega) ?_) | (refine Ints.ix (c := 0) (Mat.row (by assumption) _ (by omega)) (by omega) ?_) | (refine Ints.ixI (by assumption) (by omega) ?_) | (refine Mat.ixI (by assumption) (by omega) ?_) | (refine Ints.ixI (Mat.row (by assumption) _ (by omega)) (by omega) ?_) | (refine Ints.ld (by assumption) (by omega) ?_) | (refine Mat.ld (by assumption) (by omega) ?_) | (refine Ints.ld (Mat.row (by assumption) _ (by omega)) (by omega) ?_) | (refine At.ld (by assumption) rfl ?_) | (refine At.ldN (by assumption) rfl ?_) | (refine Prs.ln (by assumption) ?_) | (refine Trs.ln (by assumption) ?_) | (refine Prs.ix (by assumption) (by omega) ?_) | (refine Trs.ix (by assumption) (by omega) ?_) | (refine Prs.ldN (by assumption) (by omega) ?_) | (refine Trs.ldN (by assumption) (by omega) ?_) | (refine At.ldN (Blk.at (by assumption)) rfl ?_) | (refine At.ld (Blk.at (by assumption)) rfl ?_) | (refine IxA.mk (by omega) ?_) | (refine Sl.ln (Own.sl (by assumption)) ?_) | (refine Ints.ix (Own.sl (by assumption)) (by omega) ?_) | (refine Ints.ixI (Own.sl (by assumption)) (by omega) ?_) | (refine Ints.ld (Own.sl (by assumption)) (by omega) ?_))
        conv => whnf
        refine VC.rc (sbest_rc Hv) ?_
        rintro _ w4 E4 ⟨x1, rfl, _, hB1⟩
        replace Hv := Hv.ext E4
        replace EE := EE.ext E4
        replace EL1 := EL1.ext E4
        replace HS := HS.ext E4
        replace HT := HT.ext E4
        replace HO := HO.ext E4
        rw [bL_ok hE, hE]
        repeat' ((conv => whnf); first | (refine Dr.quiet tyOk (by kernel_rfl) ?_) | (refine Rng.mk (by omega) ?_) | (refine Split.pos (by omega) ?_) | (refine Split.neg (by omega) ?_) | (refine Split.mk (fun h => ?_) (fun h => ?_)) | (refine Need.mk (by omega) ?_) | (refine Ints.ln (by assumption) ?_) | (refine Mat.ln (by assumption) ?_) | (refine Ints.ln (Mat.row (by assumption) _ (by omega)) ?_) | (refine Ints.ix (by assumption) (by omega) ?_) | (refine Mat.ix (by assumption) (by omega) ?_) | (refine Ints.ix (Mat.row (by assumption) _ (by omega)) (by omega) ?_) | (refine Ints.ix (c := 0) (by assumption) (by omega) ?_) | (refine Mat.ix (c := 0) (by assumption) (by omega) ?_) | (refine Ints.ix (c := 0) (Mat.row (by assumption) _ (by omega)) (by omega) ?_) | (refine Ints.ixI (by assumption) (by omega) ?_) | (refine Mat.ixI (by assumption) (by omega) ?_) | (refine Ints.ixI (Mat.row (by assumption) _ (by omega)) (by omega) ?_) | (refine Ints.ld (by assumption) (by omega) ?_) | (refine Mat.ld (by assumption) (by omega) ?_) | (refine Ints.ld (Mat.row (by assumption) _ (by omega)) (by omega) ?_) | (refine At.ld (by assumption) rfl ?_) | (refine At.ldN (by assumption) rfl ?_) | (refine Prs.ln (by assumption) ?_) | (refine Trs.ln (by assumption) ?_) | (refine Prs.ix (by assumption) (by omega) ?_) | (refine Trs.ix (by assumption) (by omega) ?_) | (refine Prs.ldN (by assumption) (by omega) ?_) | (refine Trs.ldN (by assumption) (by omega) ?_) | (refine At.ldN (Blk.at (by assumption)) rfl ?_) | (refine At.ld (Blk.at (by assumption)) rfl ?_) | (refine IxA.mk (by omega) ?_) | (refine Sl.ln (Own.sl (by assumption)) ?_) | (refine Ints.ix (Own.sl (by assumption)) (by omega) ?_) | (refine Ints.ixI (Own.sl (by assumption)) (by omega) ?_) | (refine Ints.ld (Own.sl (by assumption)) (by omega) ?_))
        conv => whnf
        refine VC.rc (sbest_rc HT) ?_
        rintro _ w5 E5 ⟨x2, rfl, _, hB2⟩
        replace Hv := Hv.ext E5
        replace EE := EE.ext E5
        replace EL1 := EL1.ext E5
        replace HS := HS.ext E5
        replace HT := HT.ext E5
        replace HO := HO.ext E5
        rw [bL_ok eT, eT]
        repeat' ((conv => whnf); first | (refine Dr.quiet tyOk (by kernel_rfl) ?_) | (refine Rng.mk (by omega) ?_) | (refine Split.pos (by omega) ?_) | (refine Split.neg (by omega) ?_) | (refine Split.mk (fun h => ?_) (fun h => ?_)) | (refine Need.mk (by omega) ?_) | (refine Ints.ln (by assumption) ?_) | (refine Mat.ln (by assumption) ?_) | (refine Ints.ln (Mat.row (by assumption) _ (by omega)) ?_) | (refine Ints.ix (by assumption) (by omega) ?_) | (refine Mat.ix (by assumption) (by omega) ?_) | (refine Ints.ix (Mat.row (by assumption) _ (by omega)) (by omega) ?_) | (refine Ints.ix (c := 0) (by assumption) (by omega) ?_) | (refine Mat.ix (c := 0) (by assumption) (by omega) ?_) | (refine Ints.ix (c := 0) (Mat.row (by assumption) _ (by omega)) (by omega) ?_) | (refine Ints.ixI (by assumption) (by omega) ?_) | (refine Mat.ixI (by assumption) (by omega) ?_) | (refine Ints.ixI (Mat.row (by assumption) _ (by omega)) (by omega) ?_) | (refine Ints.ld (by assumption) (by omega) ?_) | (refine Mat.ld (by assumption) (by omega) ?_) | (refine Ints.ld (Mat.row (by assumption) _ (by omega)) (by omega) ?_) | (refine At.ld (by assumption) rfl ?_) | (refine At.ldN (by assumption) rfl ?_) | (refine Prs.ln (by assumption) ?_) | (refine Trs.ln (by assumption) ?_) | (refine Prs.ix (by assumption) (by omega) ?_) | (refine Trs.ix (by assumption) (by omega) ?_) | (refine Prs.ldN (by assumption) (by omega) ?_) | (refine Trs.ldN (by assumption) (by omega) ?_) | (refine At.ldN (Blk.at (by assumption)) rfl ?_) | (refine At.ld (Blk.at (by assumption)) rfl ?_) | (refine IxA.mk (by omega) ?_) | (refine Sl.ln (Own.sl (by assumption)) ?_) | (refine Ints.ix (Own.sl (by assumption)) (by omega) ?_) | (refine Ints.ixI (Own.sl (by assumption)) (by omega) ?_) | (refine Ints.ld (Own.sl (by assumption)) (by omega) ?_))
        conv => whnf
        refine VC.rc (sbest_rc HO) ?_
        rintro _ w6 E6 ⟨x3, rfl, _, hB3⟩
        replace Hv := Hv.ext E6
        replace EE := EE.ext E6
        replace EL1 := EL1.ext E6
        replace HS := HS.ext E6
        replace HT := HT.ext E6
        replace HO := HO.ext E6
        rw [bL_ok eO, eO]
        have q1 := turn_best hk (hB1 hE) (hB2 eT)
        have q2 := opp_best hk (hB1 hE) (hB3 eO)
        rw [← q1, ← q2]
        repeat' ((conv => whnf); first | (refine Dr.quiet tyOk (by kernel_rfl) ?_) | (refine Rng.mk (by omega) ?_) | (refine Split.pos (by omega) ?_) | (refine Split.neg (by omega) ?_) | (refine Split.mk (fun h => ?_) (fun h => ?_)) | (refine Need.mk (by omega) ?_) | (refine Ints.ln (by assumption) ?_) | (refine Mat.ln (by assumption) ?_) | (refine Ints.ln (Mat.row (by assumption) _ (by omega)) ?_) | (refine Ints.ix (by assumption) (by omega) ?_) | (refine Mat.ix (by assumption) (by omega) ?_) | (refine Ints.ix (Mat.row (by assumption) _ (by omega)) (by omega) ?_) | (refine Ints.ix (c := 0) (by assumption) (by omega) ?_) | (refine Mat.ix (c := 0) (by assumption) (by omega) ?_) | (refine Ints.ix (c := 0) (Mat.row (by assumption) _ (by omega)) (by omega) ?_) | (refine Ints.ixI (by assumption) (by omega) ?_) | (refine Mat.ixI (by assumption) (by omega) ?_) | (refine Ints.ixI (Mat.row (by assumption) _ (by omega)) (by omega) ?_) | (refine Ints.ld (by assumption) (by omega) ?_) | (refine Mat.ld (by assumption) (by omega) ?_) | (refine Ints.ld (Mat.row (by assumption) _ (by omega)) (by omega) ?_) | (refine At.ld (by assumption) rfl ?_) | (refine At.ldN (by assumption) rfl ?_) | (refine Prs.ln (by assumption) ?_) | (refine Trs.ln (by assumption) ?_) | (refine Prs.ix (by assumption) (by omega) ?_) | (refine Trs.ix (by assumption) (by omega) ?_) | (refine Prs.ldN (by assumption) (by omega) ?_) | (refine Trs.ldN (by assumption) (by omega) ?_) | (refine At.ldN (Blk.at (by assumption)) rfl ?_) | (refine At.ld (Blk.at (by assumption)) rfl ?_) | (refine IxA.mk (by omega) ?_) | (refine Sl.ln (Own.sl (by assumption)) ?_) | (refine Ints.ix (Own.sl (by assumption)) (by omega) ?_) | (refine Ints.ixI (Own.sl (by assumption)) (by omega) ?_) | (refine Ints.ld (Own.sl (by assumption)) (by omega) ?_))
        exact ⟨rfl, EE⟩
  · repeat' ((conv => whnf); first | (refine Dr.quiet tyOk (by kernel_rfl) ?_) | (refine VC.pure alive31_pc ?_) | (refine VC.pure cc ?_) | (refine VCQ.pure cc ?_) | (refine Rng.mk (by omega) ?_) | (refine Split.pos (by omega) ?_) | (refine Split.neg (by omega) ?_) | (refine Split.mk (fun h => ?_) (fun h => ?_)) | (refine Need.mk (by omega) ?_) | (refine Ints.ln (by assumption) ?_) | (refine Mat.ln (by assumption) ?_) | (refine Ints.ln (Mat.row (by assumption) _ (by omega)) ?_) | (refine Ints.ix (by assumption) (by omega) ?_) | (refine Mat.ix (by assumption) (by omega) ?_) | (refine Ints.ix (Mat.row (by assumption) _ (by omega)) (by omega) ?_) | (refine Ints.ix (c := 0) (by assumption) (by omega) ?_) | (refine Mat.ix (c := 0) (by assumption) (by omega) ?_) | (refine Ints.ix (c := 0) (Mat.row (by assumption) _ (by omega)) (by omega) ?_) | (refine Ints.ixI (by assumption) (by omega) ?_) | (refine Mat.ixI (by assumption) (by omega) ?_) | (refine Ints.ixI (Mat.row (by assumption) _ (by omega)) (by omega) ?_) | (refine Ints.ld (by assumption) (by omega) ?_) | (refine Mat.ld (by assumption) (by omega) ?_) | (refine Ints.ld (Mat.row (by assumption) _ (by omega)) (by omega) ?_) | (refine At.ld (by assumption) rfl ?_) | (refine At.ldN (by assumption) rfl ?_) | (refine Prs.ln (by assumption) ?_) | (refine Trs.ln (by assumption) ?_) | (refine Prs.ix (by assumption) (by omega) ?_) | (refine Trs.ix (by assumption) (by omega) ?_) | (refine Prs.ldN (by assumption) (by omega) ?_) | (refine Trs.ldN (by assumption) (by omega) ?_) | (refine At.ldN (Blk.at (by assumption)) rfl ?_) | (refine At.ld (Blk.at (by assumption)) rfl ?_) | (refine IxA.mk (by omega) ?_) | (refine Sl.ln (Own.sl (by assumption)) ?_) | (refine Ints.ix (Own.sl (by assumption)) (by omega) ?_) | (refine Ints.ixI (Own.sl (by assumption)) (by omega) ?_) | (refine Ints.ld (Own.sl (by assumption)) (by omega) ?_))
    exact ⟨rfl, EE⟩

open Go.ChangeShapes Go.WideShapes Go.ChangeAt Go.RowKit Go.Eng in
theorem stripMirrors_lifted (os : Os) (started : os.Started) (H : Type) (enc : TypeId × Value → H) :
    ReturnsInHanded {} Try.checked os 6 .any (Rows.stripMirrorsSpec.pre6 enc Try.prog Try.f6 Rows.stripMirrorsRow.domain false) (Rows.stripMirrorsSpec.post enc Try.prog Try.f6 false true false false) := by
  refine returnsInHanded_of_change (C := Try.checked) own started (by kernel_rfl) Try.func6
    (ChangeSpec.witness6 (enc := enc) (C := Try.checked) false ⟨#[], #[.slice none 0 0], []⟩ 8 (by kernel_rfl) (by kernel_rfl) (by kernel_rfl) (by kernel_rfl)) ?_
  intro W base args ds gs before hval0 hW hcnd _
  have hval : ∀ (j : Nat) t v, Try.f6.params[j]? = some t → args[j]? = some v → Value.okWide Try.prog W .any base t v := hval0
  have hW' := hW
  obtain ⟨p, q, hA0, hV, e0, hfz, hnd⟩ := hW
  have hA : DataW.TrodAll enc Try.prog W 0 (fun _ => true) true Try.f6.params.toList args.toList ds p := hA0
  rw [Try.params6] at hA hval
  clear hfz hnd hV e0 hval0
  obtain ⟨v0, vs0, d0, ds0, p0, q0, e0, rfl, f0, h0, t0⟩ := trodAll_cons hA
  obtain ⟨ee, rfl, _⟩ := trodAll_nil t0
  subst ee
  obtain rfl : args = #[v0] := Array.toList_inj.1 (by simpa using e0)
  obtain ⟨s0, r0, H0, R0⟩ := open_M Try.underlying22 Try.underlying24 Try.underlying3 (by kernel_rfl) (by kernel_rfl) (hval 0 22 _ rfl rfl) h0
  exact law_calls laidOut (by rw [Try.params6]; intro t ht; revert t; decide +kernel) rfl Try.underlying4 rfl ⟨rfl, rfl, rfl⟩ hW' (stripmirrors_pc H0)

theorem stripMirrors_holds : Rows.StripMirrorsSaid :=
  OpenClaim.holds_of_wide 6 Try.f6 rfl rfl rfl rfl rfl rfl rfl ⟨rfl, rfl, rfl, rfl, rfl⟩ rfl rfl rfl rfl rfl (by kernel_rfl) Try.func6 (by kernel_rfl)
    (of_decide_eq_true (by kernel_rfl)) (by unfold Func.isWrapper; first | (rw [if_pos (by decide +kernel)]; kernel_rfl) | (rw [if_neg (by decide +kernel)]; exact ⟨rfl, rfl⟩))
    (fun os started H enc _ => stripMirrors_lifted os started H enc)
end Go.Proofs.Ytclbiabiiknolaa
