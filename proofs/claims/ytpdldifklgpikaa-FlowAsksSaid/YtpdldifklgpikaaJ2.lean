/- Contracts of flow and its reference: Check, Great, SameInts, SameBools. -/
import Derived.Test.YtpdldifklgpikaaJ1
import Derived.Deep.Strs
set_option linter.unusedVariables false
set_option linter.unusedSimpArgs false
namespace Go.Proofs.Ytpdldifklgpikaa
open Go.Eng
set_option maxRecDepth 100000

theorem indexfuncI_pc {w : World} {sv : Value} {n : Nat} {xs : List Value} {g : FuncId} {cap : List Value} {p : Nat → Bool} (Hs : Sl 1 w sv n xs) (hf : ∀ i, i < n → PC Try.prog g (xs.getD i undef :: cap) w (.bool (p i))) :
    PC Try.prog 50 [sv, .func (.func g) #[] cap.toArray] w (.int .i64 (firstFrom p n 0)) := by
  refine PC.mk tyOk Try.func50 rfl (by kernel_rfl) fun w1 E1 => ?_
  replace Hs := Hs.ext E1
  replace hf := fun i hi => (hf i hi).ext E1
  have hle := Hs.le
  repeat' (conv => whnf
           first
           | (refine Dr.quiet tyOk (by kernel_rfl) ?_)
           | (refine Sl.ln (by assumption) ?_)
           | (refine Rng.mk (by omega) ?_)
           | (refine Split.pos (by omega) ?_)
           | (refine Split.neg (by omega) ?_)
           | (refine Split.mk (fun h => ?_) (fun h => ?_))
           | (refine Need.mk (by omega) ?_)
           | (refine Ints.ln (by assumption) ?_)
           | (refine Mat.ln (by assumption) ?_)
           | (refine Ints.ln (Mat.row (by assumption) _ (by omega)) ?_)
           | (refine Ints.ix (by assumption) (by omega) ?_)
           | (refine Mat.ix (by assumption) (by omega) ?_)
           | (refine Ints.ix (Mat.row (by assumption) _ (by omega)) (by omega) ?_)
           | (refine Ints.ix (c := 0) (by assumption) (by omega) ?_)
           | (refine Mat.ix (c := 0) (by assumption) (by omega) ?_)
           | (refine Ints.ix (c := 0) (Mat.row (by assumption) _ (by omega)) (by omega) ?_)
           | (refine Ints.ixI (by assumption) (by omega) ?_)
           | (refine Mat.ixI (by assumption) (by omega) ?_)
           | (refine Ints.ixI (Mat.row (by assumption) _ (by omega)) (by omega) ?_)
           | (refine Ints.ld (by assumption) (by omega) ?_)
           | (refine Mat.ld (by assumption) (by omega) ?_)
           | (refine Ints.ld (Mat.row (by assumption) _ (by omega)) (by omega) ?_)
           | (refine At.ld (by assumption) rfl ?_)
           | (refine At.ldN (by assumption) rfl ?_))
  refine Lp.mk tyOk [false, false, false, false, true, true, false, false, true, true, true, true, true, true, true, true, true, true, true] (fun m fr wr => getK fr 8 fun j => ∃ c : Nat, c ≤ n ∧ m = n - c ∧ j = .int .i64 (c : Int) ∧ firstFrom p n 0 = firstFrom p (n - c) c ∧ wr = w1) n ?_ ?_
  · exact ⟨0, Nat.zero_le _, rfl, rfl, rfl, rfl⟩
  · intro m w3 u4 u5 u8 u9 u10 u11 u12 u13 u14 u15 u16 u17 u18 hR
    obtain ⟨c, hc, rfl, rfl, he, rfl⟩ := hR
    by_cases hlt : c < n
    · have hs : firstFrom p (n - c) c = if p c = true then (c : Int) else firstFrom p (n - (c + 1)) (c + 1) := by rw [show n - c = (n - (c + 1)) + 1 by omega]; rfl
      have hfc := hf c hlt
      cases hp : p c with
      | true =>
        rw [hp] at hfc hs
        repeat' (conv => whnf
                 first
                 | (refine Dr.quiet tyOk (by kernel_rfl) ?_)
                 | (refine Sl.ix (by assumption) (by omega) ?_)
                 | (refine Sl.ld1 (by assumption) (by omega) ?_)
                 | (refine VC.pure hfc ?_)
                 | (refine Rng.mk (by omega) ?_)
                 | (refine Split.pos (by omega) ?_)
                 | (refine Split.neg (by omega) ?_)
                 | (refine Split.mk (fun h => ?_) (fun h => ?_))
                 | (refine Need.mk (by omega) ?_)
                 | (refine Ints.ln (by assumption) ?_)
                 | (refine Mat.ln (by assumption) ?_)
                 | (refine Ints.ln (Mat.row (by assumption) _ (by omega)) ?_)
                 | (refine Ints.ix (by assumption) (by omega) ?_)
                 | (refine Mat.ix (by assumption) (by omega) ?_)
                 | (refine Ints.ix (Mat.row (by assumption) _ (by omega)) (by omega) ?_)
                 | (refine Ints.ix (c := 0) (by assumption) (by omega) ?_)
                 | (refine Mat.ix (c := 0) (by assumption) (by omega) ?_)
                 | (refine Ints.ix (c := 0) (Mat.row (by assumption) _ (by omega)) (by omega) ?_)
                 | (refine Ints.ixI (by assumption) (by omega) ?_)
                 | (refine Mat.ixI (by assumption) (by omega) ?_)
                 | (refine Ints.ixI (Mat.row (by assumption) _ (by omega)) (by omega) ?_)
                 | (refine Ints.ld (by assumption) (by omega) ?_)
                 | (refine Mat.ld (by assumption) (by omega) ?_)
                 | (refine Ints.ld (Mat.row (by assumption) _ (by omega)) (by omega) ?_)
                 | (refine At.ld (by assumption) rfl ?_)
                 | (refine At.ldN (by assumption) rfl ?_))
        rw [he, hs]; exact ⟨rfl, Ext.refl _⟩
      | false =>
        rw [hp] at hfc hs
        repeat' (conv => whnf
                 first
                 | (refine Dr.quiet tyOk (by kernel_rfl) ?_)
                 | (refine Sl.ix (by assumption) (by omega) ?_)
                 | (refine Sl.ld1 (by assumption) (by omega) ?_)
                 | (refine VC.pure hfc ?_)
                 | (refine Rng.mk (by omega) ?_)
                 | (refine Split.pos (by omega) ?_)
                 | (refine Split.neg (by omega) ?_)
                 | (refine Split.mk (fun h => ?_) (fun h => ?_))
                 | (refine Need.mk (by omega) ?_)
                 | (refine Ints.ln (by assumption) ?_)
                 | (refine Mat.ln (by assumption) ?_)
                 | (refine Ints.ln (Mat.row (by assumption) _ (by omega)) ?_)
                 | (refine Ints.ix (by assumption) (by omega) ?_)
                 | (refine Mat.ix (by assumption) (by omega) ?_)
                 | (refine Ints.ix (Mat.row (by assumption) _ (by omega)) (by omega) ?_)
                 | (refine Ints.ix (c := 0) (by assumption) (by omega) ?_)
                 | (refine Mat.ix (c := 0) (by assumption) (by omega) ?_)
                 | (refine Ints.ix (c := 0) (Mat.row (by assumption) _ (by omega)) (by omega) ?_)
                 | (refine Ints.ixI (by assumption) (by omega) ?_)
                 | (refine Mat.ixI (by assumption) (by omega) ?_)
                 | (refine Ints.ixI (Mat.row (by assumption) _ (by omega)) (by omega) ?_)
                 | (refine Ints.ld (by assumption) (by omega) ?_)
                 | (refine Mat.ld (by assumption) (by omega) ?_)
                 | (refine Ints.ld (Mat.row (by assumption) _ (by omega)) (by omega) ?_)
                 | (refine At.ld (by assumption) rfl ?_)
                 | (refine At.ldN (by assumption) rfl ?_))
        exact ⟨_, (by omega : n - (c + 1) < n - c), rfl, c + 1, by omega, rfl, rfl, by rw [he, hs]; rfl, rfl⟩
    · obtain rfl : c = n := by omega
      repeat' (conv => whnf
               first
               | (refine Dr.quiet tyOk (by kernel_rfl) ?_)
               | (refine Rng.mk (by omega) ?_)
               | (refine Split.pos (by omega) ?_)
               | (refine Split.neg (by omega) ?_)
               | (refine Split.mk (fun h => ?_) (fun h => ?_))
               | (refine Need.mk (by omega) ?_)
               | (refine Ints.ln (by assumption) ?_)
               | (refine Mat.ln (by assumption) ?_)
               | (refine Ints.ln (Mat.row (by assumption) _ (by omega)) ?_)
               | (refine Ints.ix (by assumption) (by omega) ?_)
               | (refine Mat.ix (by assumption) (by omega) ?_)
               | (refine Ints.ix (Mat.row (by assumption) _ (by omega)) (by omega) ?_)
               | (refine Ints.ix (c := 0) (by assumption) (by omega) ?_)
               | (refine Mat.ix (c := 0) (by assumption) (by omega) ?_)
               | (refine Ints.ix (c := 0) (Mat.row (by assumption) _ (by omega)) (by omega) ?_)
               | (refine Ints.ixI (by assumption) (by omega) ?_)
               | (refine Mat.ixI (by assumption) (by omega) ?_)
               | (refine Ints.ixI (Mat.row (by assumption) _ (by omega)) (by omega) ?_)
               | (refine Ints.ld (by assumption) (by omega) ?_)
               | (refine Mat.ld (by assumption) (by omega) ?_)
               | (refine Ints.ld (Mat.row (by assumption) _ (by omega)) (by omega) ?_)
               | (refine At.ld (by assumption) rfl ?_)
               | (refine At.ldN (by assumption) rfl ?_))
      rw [he, Nat.sub_self]; exact ⟨rfl, Ext.refl _⟩

theorem containsfuncI_pc {w : World} {sv : Value} {n : Nat} {xs : List Value} {g : FuncId} {cap : List Value} {p : Nat → Bool} (Hs : Sl 1 w sv n xs) (hf : ∀ i, i < n → PC Try.prog g (xs.getD i undef :: cap) w (.bool (p i))) :
    PC Try.prog 47 [sv, .func (.func g) #[] cap.toArray] w (.bool (tf (∃ i, i < n ∧ p i = true))) := by
  refine PC.mk tyOk Try.func47 rfl (by kernel_rfl) fun w1 E1 => ?_
  replace Hs := Hs.ext E1
  replace hf := fun i hi => (hf i hi).ext E1
  have hs := firstFrom_spec p n 0
  repeat' (conv => whnf
           first
           | (refine Dr.quiet tyOk (by kernel_rfl) ?_)
           | (refine VC.pure (indexfuncI_pc Hs hf) ?_)
           | (refine Rng.mk (by omega) ?_)
           | (refine Split.pos (by omega) ?_)
           | (refine Split.neg (by omega) ?_)
           | (refine Split.mk (fun h => ?_) (fun h => ?_))
           | (refine Need.mk (by omega) ?_)
           | (refine Ints.ln (by assumption) ?_)
           | (refine Mat.ln (by assumption) ?_)
           | (refine Ints.ln (Mat.row (by assumption) _ (by omega)) ?_)
           | (refine Ints.ix (by assumption) (by omega) ?_)
           | (refine Mat.ix (by assumption) (by omega) ?_)
           | (refine Ints.ix (Mat.row (by assumption) _ (by omega)) (by omega) ?_)
           | (refine Ints.ix (c := 0) (by assumption) (by omega) ?_)
           | (refine Mat.ix (c := 0) (by assumption) (by omega) ?_)
           | (refine Ints.ix (c := 0) (Mat.row (by assumption) _ (by omega)) (by omega) ?_)
           | (refine Ints.ixI (by assumption) (by omega) ?_)
           | (refine Mat.ixI (by assumption) (by omega) ?_)
           | (refine Ints.ixI (Mat.row (by assumption) _ (by omega)) (by omega) ?_)
           | (refine Ints.ld (by assumption) (by omega) ?_)
           | (refine Mat.ld (by assumption) (by omega) ?_)
           | (refine Ints.ld (Mat.row (by assumption) _ (by omega)) (by omega) ?_)
           | (refine At.ld (by assumption) rfl ?_)
           | (refine At.ldN (by assumption) rfl ?_))
  · rw [tf_t (p := ∃ i, i < n ∧ p i = true) (by
      rcases hs with ⟨j, h1, h2, h3, _⟩ | ⟨h1, _⟩
      · exact ⟨j, by omega, h3⟩
      · omega)]; exact ⟨rfl, Ext.refl _⟩
  · rw [tf_f (p := ∃ i, i < n ∧ p i = true) (by
      rintro ⟨i, hi, hp⟩
      rcases hs with ⟨j, h1, h2, h3, h4, _⟩ | ⟨_, h2⟩
      · omega
      · have := h2 i (by omega) (by omega); rw [hp] at this; cases this)]; exact ⟨rfl, Ext.refl _⟩

def odd (x : Int) : Bool := decide (x < 0) || decide (1000 < x)
theorem Ints.elem {w : World} {v : Value} {l : List Int} {i : Nat} (h : i < l.length) : (l.map i64v).getD i undef = .int .i64 (l.getD i 0) := by simp [List.getD, h, i64v]

end Go.Proofs.Ytpdldifklgpikaa
set_option linter.unusedVariables false
set_option linter.unusedSimpArgs false
namespace Go.Proofs.Ytpdldifklgpikaa
open Go.Eng
set_option maxRecDepth 100000

theorem eInt : Elem Try.prog 3 (.int .i64 0) 1 8 := by unfold Elem; kernel_rfl
theorem eRow : Elem Try.prog 26 (.slice none 0 0) 1 24 := by unfold Elem; kernel_rfl
/-- A row of ints, and a matrix, that the call has made. -/
abbrev OI (w : World) (v : Value) (l : List Int) : Prop := Own 0 3 1 w v l.length (l.map i64v)
theorem OI.of {B n : Nat} {w : World} {v : Value} {l : List Int} (h : Own B 3 1 w v n (l.map i64v)) : OI w v l := by
  have e : n = l.length := by have := Own.len h; simpa using this.symm
  subst e; exact Own.base h (Nat.zero_le _)
structure OM (B : Nat) (w : World) (v : Value) (vs : List Value) (rr : List (List Int)) : Prop where
  top : Own B 26 1 w v rr.length vs
  row : ∀ i, i < rr.length → OI w (vs.getD i undef) (rr.getD i [])
theorem OM.mat {B : Nat} {w : World} {v : Value} {vs : List Value} {rr : List (List Int)} (h : OM B w v vs rr) : Mat w v vs rr := ⟨h.top.sl, fun i hi => (h.row i hi).sl⟩
theorem OM.ext {B : Nat} {w w' : World} {v : Value} {vs : List Value} {rr : List (List Int)} (h : OM B w v vs rr) (hg : Ext w w') : OM B w' v vs rr := ⟨Own.ext h.top hg, fun i hi => Own.ext (h.row i hi) hg⟩
theorem OM.base {B B' : Nat} {w : World} {v : Value} {vs : List Value} {rr : List (List Int)} (h : OM B w v vs rr) (hB : B' ≤ B) : OM B' w v vs rr := ⟨Own.base h.top hB, h.row⟩
theorem OM.nil {B : Nat} {w : World} : OM B w (.slice none 0 0) [] [] := ⟨Own.nil, fun _ hi => absurd hi (Nat.not_lt_zero _)⟩
theorem OM.push {B B' : Nat} {w w' : World} {v v' x : Value} {vs : List Value} {rr : List (List Int)} {l : List Int} (h : OM B w v vs rr) (hr : OI w x l) (hg : Gr (fun k => v.ownBlock = some k) w w') (ho : Own B' 26 1 w' v' (rr.length + 1) (vs ++ [x])) :
    OM B' w' v' (vs ++ [x]) (rr ++ [l]) := by
  have hl : vs.length = rr.length := by have := h.top.len; omega
  refine ⟨by simpa using ho, fun i hi => ?_⟩
  have keep : ∀ {y : Value} {m : List Int}, OI w y m → OI w' y m := fun {y m} hy => Own.gr hy hg fun k hk hk' => Own.ne hy h.top (by decide) k hk hk'
  by_cases e : i < rr.length
  · have := keep (h.row i e)
    simpa [List.getD, List.getElem?_append_left, hl, e] using this
  · have e2 : i = rr.length := by simp at hi; omega
    subst e2
    have := keep hr
    simpa [List.getD, hl] using this

end Go.Proofs.Ytpdldifklgpikaa
set_option linter.unusedVariables false
set_option linter.unusedSimpArgs false
namespace Go.Proofs.Ytpdldifklgpikaa
open Go.Eng
set_option maxRecDepth 100000

theorem cells3 : Try.prog.cellsOf 3 = 1 := by kernel_rfl

theorem take_snoc {α : Type} (d : α) (l : List α) (c : Nat) (h : c < l.length) : l.take (c + 1) = l.take c ++ [l.getD c d] := by
  rw [List.take_succ_eq_append_getElem h]
  simp [List.getD, h]

end Go.Proofs.Ytpdldifklgpikaa
set_option linter.unusedVariables false
set_option linter.unusedSimpArgs false
namespace Go.Proofs.Ytpdldifklgpikaa
open Go.Eng
set_option maxRecDepth 100000

theorem map_range_succ {α : Type} (f : Nat → α) (c : Nat) : (List.range (c + 1)).map f = (List.range c).map f ++ [f c] := by simp [List.range_succ]

theorem flatP_snoc (l : List (Int × Int)) (x y : Int) : flatP l ++ [.int .i64 x, .int .i64 y] = flatP (l ++ [(x, y)]) := by rw [flatP_app]; rfl

end Go.Proofs.Ytpdldifklgpikaa
set_option linter.unusedVariables false
set_option linter.unusedSimpArgs false
namespace Go.Proofs.Ytpdldifklgpikaa
open Go.Eng
set_option maxRecDepth 100000

/-- the row of values when c goods are counted -/
def rowTo (a r : List Int) (n c : Nat) : List Int := (List.range n).map fun (k : Nat) => worth a r k c
theorem rowTo_len (a r : List Int) (n c : Nat) : (rowTo a r n c).length = n := by simp [rowTo]
theorem rowTo_get {a r : List Int} {n c k : Nat} (h : k < n) : (rowTo a r n c).getD k 0 = worth a r k c := by simp [rowTo, List.getD, h]
theorem rowTo_set {a r : List Int} {n c : Nat} {k : Int} (hk : a.getD c 0 = k) (h0 : 0 ≤ k) (h : k < n) : (rowTo a r n c).set k.toNat ((rowTo a r n c).getD k.toNat 0 + r.getD c 0) = rowTo a r n (c + 1) := by
  apply ext_getD 0
  · simp [rowTo]
  · intro i hi
    have hi' : i < n := by simpa [rowTo] using hi
    rw [rowTo_get hi', rowTo_get (by omega : k.toNat < n)]
    by_cases e : i = k.toNat
    · subst e
      have e2 : ((k.toNat : Nat) : Int) = k := by omega
      rw [List.getD, List.getElem?_set_self (by rw [rowTo_len]; exact hi')]
      simp only [Option.getD_some, worth, e2, if_pos hk]
    · rw [List.getD, List.getElem?_set_ne (fun h => e h.symm)]
      have : (rowTo a r n c)[i]?.getD 0 = worth a r i c := by have := rowTo_get (a := a) (r := r) (c := c) hi'; simpa [List.getD] using this
      rw [this]
      simp only [worth]
      rw [if_neg (by omega)]; omega
theorem rowTo_skip {a r : List Int} {n c : Nat} (h : a.getD c 0 < 0) : rowTo a r n (c + 1) = rowTo a r n c := by
  apply ext_getD 0
  · simp [rowTo]
  · intro i hi
    have hi' : i < n := by simpa [rowTo] using hi
    rw [rowTo_get hi', rowTo_get hi']
    simp only [worth]
    rw [if_neg (by omega)]; omega
theorem rowTo_zero (a r : List Int) (n : Nat) : (rowTo a r n 0).map i64v = List.replicate n (.int .i64 0) := by
  rw [List.eq_replicate_iff]; simp [rowTo, worth, i64v]

theorem set_map (l : List Int) (k : Nat) (x : Int) : (l.map i64v).set k (.int .i64 x) = (l.set k x).map i64v := by rw [List.map_set]; rfl

theorem vals_len (rr : List (List Int)) (a : List Int) : (vals rr a).length = rr.length := by simp [vals]
theorem vals_row {rr : List (List Int)} {a : List Int} {i : Nat} (h : i < rr.length) : (vals rr a).getD i [] = (List.range rr.length).map fun (k : Nat) => wth rr a i k := by simp [vals, List.getD, h]
theorem vals_rlen {rr : List (List Int)} {a : List Int} {i : Nat} (h : i < rr.length) : ((vals rr a).getD i []).length = rr.length := by rw [vals_row h]; simp
theorem vals_get {rr : List (List Int)} {a : List Int} {i k : Nat} (h : i < rr.length) (hk : k < rr.length) : ((vals rr a).getD i []).getD k 0 = wth rr a i k := by rw [vals_row h]; simp [List.getD, hk]

end Go.Proofs.Ytpdldifklgpikaa
set_option linter.unusedVariables false
set_option linter.unusedSimpArgs false
namespace Go.Proofs.Ytpdldifklgpikaa
open Go.Eng
abbrev OB (B : Nat) (w : World) (v : Value) (l : List Int) : Prop := Own B 3 1 w v l.length (l.map i64v)
theorem OB.set {B k : Nat} {x : Int} {w : World} {v : Value} {l : List Int} {K : World → Prop} (h : OB B w v l) (hk : k < l.length) (hK : ∀ w', Gr (fun j => v.ownBlock = some j) w w' → OB B w' v (l.set k x) → K w') : St w (ea v k) (.int .i64 x) K :=
  Own.set h (by rw [List.length_map]; exact hk) rfl fun w' hg h' => hK w' hg (by
    rw [set_map] at h'
    show Own B 3 1 w' v (l.set k x).length _
    rw [List.length_set]; exact h')
theorem OB.made {B n : Nat} {w : World} {v : Value} (h : Own B 3 1 w v n (List.replicate n (.int .i64 0))) : OB B w v (List.replicate n 0) := by
  show Own B 3 1 w v (List.replicate n (0 : Int)).length ((List.replicate n (0 : Int)).map i64v)
  rw [List.length_replicate, List.map_replicate]; exact h
end Go.Proofs.Ytpdldifklgpikaa
set_option linter.unusedVariables false
set_option linter.unusedSimpArgs false
namespace Go.Proofs.Ytpdldifklgpikaa
open Go.Eng

/-- the sum of the first n values -/
def sumK (f : Nat → Int) : Nat → Int
  | 0 => 0
  | k + 1 => sumK f k + f k

theorem sumK_congr {f g : Nat → Int} : ∀ {n : Nat}, (∀ k, k < n → f k = g k) → sumK f n = sumK g n
  | 0, _ => rfl
  | n + 1, h => by simp only [sumK]; rw [sumK_congr (fun k hk => h k (by omega)), h n (by omega)]
theorem sumK_add (f g : Nat → Int) : ∀ n, sumK (fun k => f k + g k) n = sumK f n + sumK g n
  | 0 => rfl
  | n + 1 => by simp only [sumK, sumK_add f g n]; omega
theorem sumK_zero : ∀ n, sumK (fun _ => 0) n = 0
  | 0 => rfl
  | n + 1 => by simp only [sumK, sumK_zero n]; rfl
theorem sumK_le {f g : Nat → Int} : ∀ {n : Nat}, (∀ k, k < n → f k ≤ g k) → sumK f n ≤ sumK g n
  | 0, _ => Int.le_refl _
  | n + 1, h => by have := sumK_le (f := f) (g := g) (n := n) (fun k hk => h k (by omega)); have := h n (by omega); simp only [sumK]; omega
theorem sumK_const (x : Int) : ∀ n : Nat, sumK (fun _ => x) n = (n : Int) * x
  | 0 => by simp [sumK]
  | n + 1 => by simp only [sumK, sumK_const x n, Int.natCast_add, Int.add_mul]; simp
theorem sumK_ind (v x : Int) : ∀ n : Nat, sumK (fun k : Nat => if v = (k : Int) then x else 0) n = if 0 ≤ v ∧ v < n then x else 0
  | 0 => by simp only [sumK]; rw [if_neg (by omega)]
  | n + 1 => by
    simp only [sumK, sumK_ind v x n]
    by_cases h : v = (n : Int)
    · rw [if_pos h, if_neg (by omega), if_pos (by omega)]; omega
    · by_cases h2 : 0 ≤ v ∧ v < n
      · rw [if_neg h, if_pos h2, if_pos (by omega)]; omega
      · rw [if_neg h, if_neg h2, if_neg (by omega)]; omega

/-- the value by the row r of the goods, of the first c, that somebody gets -/
def someTo (a r : List Int) : Nat → Int
  | 0 => 0
  | c + 1 => someTo a r c + if 0 ≤ a.getD c 0 then r.getD c 0 else 0

theorem sumK_worth {a r : List Int} {n : Nat} : ∀ {c : Nat}, (∀ j, j < c → a.getD j 0 < n) → sumK (fun k : Nat => worth a r k c) n = someTo a r c
  | 0, _ => by simp only [worth, someTo]; exact sumK_zero n
  | c + 1, h => by
    simp only [worth, someTo]
    rw [sumK_add, sumK_worth (fun j hj => h j (by omega)), sumK_ind]
    have := h c (by omega)
    by_cases h0 : 0 ≤ a.getD c 0
    · rw [if_pos h0, if_pos ⟨h0, this⟩]
    · rw [if_neg h0, if_neg (by omega)]

theorem someTo_all {a r : List Int} : ∀ {c : Nat}, (∀ j, j < c → 0 ≤ a.getD j 0) → someTo a r c = sumTo r c
  | 0, _ => rfl
  | c + 1, h => by simp only [someTo, sumTo]; rw [someTo_all (fun j hj => h j (by omega)), if_pos (h c (by omega))]

theorem someTo_bd {a r : List Int} (h : ∀ j, 0 ≤ r.getD j 0 ∧ r.getD j 0 ≤ 1000) : ∀ c : Nat, 0 ≤ someTo a r c ∧ someTo a r c ≤ 1000 * c
  | 0 => by simp [someTo]
  | c + 1 => by have := someTo_bd (a := a) h c; have := h c; simp only [someTo]; split <;> omega

/-- The bundles' values of a valid allocation. -/
theorem sum_wth {rr : List (List Int)} {a : List Int} (h : vld rr a = 0) (i : Nat) : sumK (fun k : Nat => wth rr a i k) rr.length = someTo a (rr.getD i []) a.length := by
  have hal := al_of_vld h
  exact sumK_worth (fun j hj => (hal.rng j (by rw [← hal.len]; exact hj)).2)

theorem sum_wth_all {rr : List (List Int)} {a : List Int} (h : vld rr a = 0) (hc : ∀ k, k < a.length → 0 ≤ a.getD k 0) {i : Nat} (hi : i < rr.length) : sumK (fun k : Nat => wth rr a i k) rr.length = allv rr i := by
  have hal := al_of_vld h
  rw [sum_wth h, someTo_all hc, allv, hal.row i hi, hal.len]

/-! ### members -/
theorem mem_envRow {f : Nat → Int} {i : Nat} {p : Int × Int} : ∀ {c : Nat}, p ∈ envRow f i c ↔ ∃ k, k < c ∧ f i < f k ∧ p = ((i : Int), (k : Int))
  | 0 => by simp [envRow]
  | c + 1 => by
    simp only [envRow, List.mem_append, mem_envRow (c := c)]
    constructor
    · rintro (⟨k, h1, h2, h3⟩ | h)
      · exact ⟨k, by omega, h2, h3⟩
      · split at h
        · simp at h; exact ⟨c, by omega, by assumption, h⟩
        · simp at h
    · rintro ⟨k, h1, h2, h3⟩
      by_cases e : k = c
      · subst e; right; rw [if_pos h2, h3]; simp
      · left; exact ⟨k, by omega, h2, h3⟩
theorem mem_envTo {f : Nat → Nat → Int} {n : Nat} {p : Int × Int} : ∀ {c : Nat}, p ∈ envTo f n c ↔ ∃ i k, i < c ∧ k < n ∧ f i i < f i k ∧ p = ((i : Int), (k : Int))
  | 0 => by simp [envTo]
  | c + 1 => by
    simp only [envTo, List.mem_append, mem_envTo (c := c), mem_envRow]
    constructor
    · rintro (⟨i, k, h1, h2, h3, h4⟩ | ⟨k, h1, h2, h3⟩)
      · exact ⟨i, k, by omega, h2, h3, h4⟩
      · exact ⟨c, k, by omega, h1, h2, h3⟩
    · rintro ⟨i, k, h1, h2, h3, h4⟩
      by_cases e : i = c
      · subst e; right; exact ⟨k, h2, h3, h4⟩
      · left; exact ⟨i, k, by omega, h2, h3, h4⟩
theorem mem_filt {p : Nat → Bool} {x : Int} : ∀ {c : Nat}, x ∈ filt p c ↔ ∃ i, i < c ∧ p i = true ∧ x = (i : Int)
  | 0 => by simp [filt]
  | c + 1 => by
    simp only [filt, List.mem_append, mem_filt (c := c)]
    constructor
    · rintro (⟨i, h1, h2, h3⟩ | h)
      · exact ⟨i, by omega, h2, h3⟩
      · split at h
        · simp at h; exact ⟨c, by omega, by assumption, h⟩
        · simp at h
    · rintro ⟨i, h1, h2, h3⟩
      by_cases e : i = c
      · subst e; right; rw [if_pos h2, h3]; simp
      · left; exact ⟨i, by omega, h2, h3⟩

/-- Who is poor in a complete allocation envies somebody. -/
theorem poor_envies {rr : List (List Int)} {a : List Int} (h : vld rr a = 0) (hc : ∀ k, k < a.length → 0 ≤ a.getD k 0) {i : Nat} (hi : i < rr.length) (hp : isPoor rr a i = true) : ∃ k, k < rr.length ∧ wth rr a i i < wth rr a i k := by
  apply Classical.byContradiction
  intro hn
  have hle : ∀ k, k < rr.length → wth rr a i k ≤ wth rr a i i := fun k hk => by
    apply Classical.byContradiction; intro e; exact hn ⟨k, hk, by omega⟩
  have h1 := sumK_le (f := fun k : Nat => wth rr a i k) (g := fun _ => wth rr a i i) hle
  rw [sum_wth_all h hc hi, sumK_const] at h1
  simp only [isPoor, decide_eq_true_eq] at hp
  omega

theorem poor_found {rr : List (List Int)} {a : List Int} (h : vld rr a = 0) (hc : ∀ k, k < a.length → 0 ≤ a.getD k 0) {x : Int} (hx : x ∈ poor rr a) : ∃ y, (x, y) ∈ envs rr a := by
  obtain ⟨i, hi, hp, rfl⟩ := mem_filt.1 hx
  obtain ⟨k, hk, hl⟩ := poor_envies h hc hi hp
  exact ⟨(k : Int), mem_envTo.2 ⟨i, k, hi, hk, hl, rfl⟩⟩

/-- Two agents: who is not poor envies nobody. -/
theorem two_fair {rr : List (List Int)} {a : List Int} (h : vld rr a = 0) (hc : ∀ k, k < a.length → 0 ≤ a.getD k 0) (h2 : rr.length = 2) (hp : poor rr a = []) : envs rr a = [] := by
  apply List.eq_nil_iff_forall_not_mem.2
  intro p hpm
  obtain ⟨i, k, hi, hk, hl, rfl⟩ := mem_envTo.1 hpm
  have hnp : ¬ isPoor rr a i = true := fun hh => by
    have : (i : Int) ∈ poor rr a := mem_filt.2 ⟨i, hi, hh, rfl⟩
    rw [hp] at this; simp at this
  simp only [isPoor, decide_eq_true_eq] at hnp
  have hs := sum_wth_all h hc hi
  rw [h2] at hs hnp
  simp only [sumK] at hs
  have hi' : i = 0 ∨ i = 1 := by omega
  have hk' : k = 0 ∨ k = 1 := by omega
  rcases hi' with rfl | rfl <;> rcases hk' with rfl | rfl <;> simp at hs hnp hl ⊢ <;> omega

/-! ### places in the lists -/
theorem envRow_pre {f : Nat → Int} {i c : Nat} : ∀ {d : Nat}, c ≤ d → envRow f i c <+: envRow f i d
  | 0, h => by rw [Nat.le_zero.1 h]; exact List.prefix_refl _
  | d + 1, h => by
    by_cases e : c = d + 1
    · rw [e]; exact List.prefix_refl _
    · exact (envRow_pre (d := d) (by omega)).trans (by simp only [envRow]; exact List.prefix_append _ _)
theorem envTo_pre {f : Nat → Nat → Int} {n c : Nat} : ∀ {d : Nat}, c ≤ d → envTo f n c <+: envTo f n d
  | 0, h => by rw [Nat.le_zero.1 h]; exact List.prefix_refl _
  | d + 1, h => by
    by_cases e : c = d + 1
    · rw [e]; exact List.prefix_refl _
    · exact (envTo_pre (d := d) (by omega)).trans (by simp only [envTo]; exact List.prefix_append _ _)
theorem filt_pre {p : Nat → Bool} {c : Nat} : ∀ {d : Nat}, c ≤ d → filt p c <+: filt p d
  | 0, h => by rw [Nat.le_zero.1 h]; exact List.prefix_refl _
  | d + 1, h => by
    by_cases e : c = d + 1
    · rw [e]; exact List.prefix_refl _
    · exact (filt_pre (d := d) (by omega)).trans (by simp only [filt]; exact List.prefix_append _ _)
theorem pre_get {α : Type} {l m : List α} {x d : α} (h : l ++ [x] <+: m) : l.length < m.length ∧ m.getD l.length d = x := by
  obtain ⟨t, rfl⟩ := h
  constructor
  · simp
  · simp [List.getD]
theorem env_at {f : Nat → Nat → Int} {n c k : Nat} (hc : c < n) (hk : k < n) (hl : f c c < f c k) :
    (envTo f n c ++ envRow (f c) c k).length < (envTo f n n).length ∧ (envTo f n n).getD (envTo f n c ++ envRow (f c) c k).length (0, 0) = ((c : Int), (k : Int)) := by
  apply pre_get
  have h1 : envTo f n c ++ envRow (f c) c (k + 1) <+: envTo f n (c + 1) := by
    simp only [envTo]
    exact (List.prefix_append_right_inj _).2 (envRow_pre (by omega))
  have h2 : envTo f n c ++ envRow (f c) c k ++ [((c : Int), (k : Int))] = envTo f n c ++ envRow (f c) c (k + 1) := by simp only [envRow, if_pos hl, List.append_assoc]
  rw [h2]
  exact h1.trans (envTo_pre hc)
theorem filt_at {p : Nat → Bool} {n c : Nat} (hc : c < n) (hp : p c = true) : (filt p c).length < (filt p n).length ∧ (filt p n).getD (filt p c).length 0 = (c : Int) := by
  apply pre_get
  have h2 : filt p c ++ [(c : Int)] = filt p (c + 1) := by simp only [filt, if_pos hp]
  rw [h2]
  exact filt_pre hc
theorem sumK_bd {f : Nat → Int} {X : Int} (h : ∀ k, 0 ≤ f k ∧ f k ≤ X) : ∀ n : Nat, 0 ≤ sumK f n ∧ sumK f n ≤ X * n
  | 0 => by simp [sumK]
  | n + 1 => by
    have := sumK_bd h n; have h2 := h n
    simp only [sumK]
    have e : X * ((n + 1 : Nat) : Int) = X * n + X := by rw [Int.natCast_add, Int.mul_add]; simp
    omega
end Go.Proofs.Ytpdldifklgpikaa
set_option linter.unusedVariables false
set_option linter.unusedSimpArgs false
namespace Go.Proofs.Ytpdldifklgpikaa
open Go.Eng

/-- how often j stands among the first c -/
def cntTo (o : List Int) (j : Int) : Nat → Int
  | 0 => 0
  | c + 1 => cntTo o j c + if o.getD c 0 = j then 1 else 0
/-- how many of the first c lie below n -/
def inTo (o : List Int) (n : Nat) : Nat → Int
  | 0 => 0
  | c + 1 => inTo o n c + if 0 ≤ o.getD c 0 ∧ o.getD c 0 < n then 1 else 0
theorem cntTo_bd (o : List Int) (j : Int) : ∀ c : Nat, 0 ≤ cntTo o j c ∧ cntTo o j c ≤ c
  | 0 => by simp [cntTo]
  | c + 1 => by have := cntTo_bd o j c; simp only [cntTo]; split <;> omega
theorem inTo_bd (o : List Int) (n : Nat) : ∀ c : Nat, 0 ≤ inTo o n c ∧ inTo o n c ≤ c
  | 0 => by simp [inTo]
  | c + 1 => by have := inTo_bd o n c; simp only [inTo]; split <;> omega
theorem sum_cnt (o : List Int) (n : Nat) : ∀ c : Nat, sumK (fun j : Nat => cntTo o j c) n = inTo o n c
  | 0 => by simp only [cntTo, inTo]; exact sumK_zero n
  | c + 1 => by simp only [cntTo, inTo]; rw [sumK_add, sum_cnt o n c, sumK_ind]
theorem inTo_all {o : List Int} {n : Nat} : ∀ {c : Nat}, inTo o n c = c → ∀ i, i < c → 0 ≤ o.getD i 0 ∧ o.getD i 0 < n
  | 0, _, i, hi => absurd hi (Nat.not_lt_zero _)
  | c + 1, h, i, hi => by
    have hb := inTo_bd o n c
    simp only [inTo] at h
    by_cases hc : 0 ≤ o.getD c 0 ∧ o.getD c 0 < n
    · rw [if_pos hc] at h
      by_cases e : i = c
      · subst e; exact hc
      · exact inTo_all (c := c) (by omega) i (by omega)
    · rw [if_neg hc] at h; omega
theorem cntTo_pos {o : List Int} {j : Int} : ∀ {c : Nat}, 1 ≤ cntTo o j c ↔ ∃ i, i < c ∧ o.getD i 0 = j
  | 0 => by simp [cntTo]
  | c + 1 => by
    have hb := cntTo_bd o j c
    simp only [cntTo]
    constructor
    · intro h
      by_cases e : o.getD c 0 = j
      · exact ⟨c, by omega, e⟩
      · rw [if_neg e] at h
        obtain ⟨i, hi, e2⟩ := (cntTo_pos (o := o) (j := j) (c := c)).1 (by omega)
        exact ⟨i, by omega, e2⟩
    · rintro ⟨i, hi, e⟩
      by_cases hic : i = c
      · subst hic; rw [if_pos e]; omega
      · have := (cntTo_pos (c := c)).2 ⟨i, by omega, e⟩
        split <;> omega
theorem sumK_ones {f : Nat → Int} : ∀ {n : Nat}, (∀ k, k < n → 1 ≤ f k) → (n : Int) ≤ sumK f n ∧ (sumK f n ≤ n → ∀ k, k < n → f k = 1)
  | 0, _ => ⟨by simp [sumK], fun _ k hk => absurd hk (Nat.not_lt_zero _)⟩
  | n + 1, h => by
    obtain ⟨h1, h2⟩ := sumK_ones (f := f) (n := n) (fun k hk => h k (by omega))
    have h3 := h n (by omega)
    refine ⟨by simp only [sumK]; omega, fun h4 k hk => ?_⟩
    simp only [sumK] at h4
    by_cases e : k = n
    · subst e; omega
    · exact h2 (by omega) k (by omega)

/-- An assignment of n agents. -/
def asg (o : List Int) (n : Nat) : Prop := o.length = n ∧ ∀ j : Nat, j < n → cntTo o j n = 1
theorem asg_iff {o : List Int} {n : Nat} (hl : o.length = n) : asg o n ↔ (∀ i, i < n → 0 ≤ o.getD i 0 ∧ o.getD i 0 < n) ∧ ∀ j : Nat, j < n → ∃ i, i < n ∧ o.getD i 0 = (j : Int) := by
  constructor
  · rintro ⟨_, h⟩
    have hs : sumK (fun j : Nat => cntTo o j n) n = n := by
      rw [sumK_congr (g := fun _ => (1 : Int)) h, sumK_const]; simp
    rw [sum_cnt] at hs
    exact ⟨inTo_all hs, fun j hj => cntTo_pos.1 (by rw [h j hj]; exact Int.le_refl _)⟩
  · rintro ⟨_, h2⟩
    refine ⟨hl, ?_⟩
    have h3 : ∀ k : Nat, k < n → 1 ≤ cntTo o k n := fun k hk => cntTo_pos.2 (h2 k hk)
    refine (sumK_ones (f := fun k : Nat => cntTo o k n) h3).2 ?_
    rw [sum_cnt]; exact (inTo_bd o n n).2

/-- the last place of x among the first c, or -1 -/
def lastTo (o : List Int) (x : Int) : Nat → Int
  | 0 => -1
  | c + 1 => if o.getD c 0 = x then (c : Int) else lastTo o x c
theorem lastTo_bd (o : List Int) (x : Int) : ∀ c : Nat, -1 ≤ lastTo o x c ∧ lastTo o x c < c
  | 0 => by simp [lastTo]
  | c + 1 => by have := lastTo_bd o x c; simp only [lastTo]; split <;> omega
theorem lastTo_neg {o : List Int} {x : Int} : ∀ {c : Nat}, lastTo o x c = -1 ↔ ∀ i, i < c → o.getD i 0 ≠ x
  | 0 => by simp [lastTo]
  | c + 1 => by
    simp only [lastTo]
    constructor
    · intro h i hi
      by_cases e : o.getD c 0 = x
      · rw [if_pos e] at h; omega
      · rw [if_neg e] at h
        by_cases hic : i = c
        · subst hic; exact e
        · exact (lastTo_neg (c := c)).1 h i (by omega)
    · intro h
      rw [if_neg (h c (by omega))]
      exact lastTo_neg.2 fun i hi => h i (by omega)
theorem lastTo_at {o : List Int} {x : Int} : ∀ {c : Nat}, lastTo o x c ≠ -1 → o.getD (lastTo o x c).toNat 0 = x
  | 0, h => absurd rfl h
  | c + 1, h => by
    simp only [lastTo] at h ⊢
    by_cases e : o.getD c 0 = x
    · rw [if_pos e]; simpa using e
    · rw [if_neg e] at h ⊢
      exact lastTo_at h

/-- what passing bundles gives -/
def passV (a o : List Int) : List Int := (List.range a.length).map fun k => lastTo o (a.getD k 0) o.length
open Classical in
noncomputable def passE (rr : List (List Int)) (a o : List Int) : Int := if vld rr a ≠ 0 then vld rr a else if asg o rr.length then 0 else 2
noncomputable def passR (rr : List (List Int)) (a o : List Int) : List Int := open Classical in if vld rr a = 0 ∧ asg o rr.length then passV a o else []

/-- what giving a good gives -/
def giveOk (rr : List (List Int)) (a : List Int) (good agent : Int) : Prop := 0 ≤ good ∧ good < a.length ∧ -1 ≤ agent ∧ agent < rr.length
open Classical in
noncomputable def giveE (rr : List (List Int)) (a : List Int) (good agent : Int) : Int := if vld rr a ≠ 0 then vld rr a else if giveOk rr a good agent then 0 else 2
noncomputable def giveR (rr : List (List Int)) (a : List Int) (good agent : Int) : List Int := open Classical in if vld rr a = 0 ∧ giveOk rr a good agent then a.set good.toNat agent else []
end Go.Proofs.Ytpdldifklgpikaa
set_option linter.unusedVariables false
set_option linter.unusedSimpArgs false
namespace Go.Proofs.Ytpdldifklgpikaa
open Go.Eng

theorem vld_of {rr : List (List Int)} {a b : List Int} (h : vld rr a = 0) (hl : b.length = a.length) (hr : ∀ k, k < b.length → -1 ≤ b.getD k 0 ∧ b.getD k 0 < rr.length) : vld rr b = 0 := by
  obtain ⟨h1, h2⟩ := vld_zero h
  refine vld_ok h1 ?_
  rintro (h3 | ⟨k, hk, h3⟩)
  · exact h2 (.inl (by omega))
  · have := hr k hk; omega

theorem passV_len (a o : List Int) : (passV a o).length = a.length := by simp [passV]
theorem passV_get {a o : List Int} {k : Nat} (h : k < a.length) : (passV a o).getD k 0 = lastTo o (a.getD k 0) o.length := by simp [passV, List.getD, h]
theorem vld_pass {rr : List (List Int)} {a o : List Int} (h : vld rr a = 0) (ho : asg o rr.length) : vld rr (passV a o) = 0 := by
  refine vld_of h (passV_len a o) fun k hk => ?_
  rw [passV_len] at hk
  rw [passV_get hk]
  have := lastTo_bd o (a.getD k 0) o.length
  have := ho.1
  omega

theorem cntTo_two {o : List Int} {x : Int} {i k : Nat} (hik : i < k) (hi : o.getD i 0 = x) (hk : o.getD k 0 = x) : ∀ {c : Nat}, k < c → 2 ≤ cntTo o x c
  | 0, h => absurd h (Nat.not_lt_zero _)
  | c + 1, h => by
    simp only [cntTo]
    by_cases e : k = c
    · subst e
      have := (cntTo_pos (o := o) (j := x) (c := k)).2 ⟨i, hik, hi⟩
      rw [if_pos hk]; omega
    · have := cntTo_two hik hi hk (c := c) (by omega)
      split <;> omega
/-- In an assignment every agent has one place. -/
theorem asg_inj {o : List Int} {n : Nat} (ho : asg o n) {i k : Nat} (hi : i < n) (hk : k < n) (e : o.getD i 0 = o.getD k 0) : i = k := by
  have hr := ((asg_iff ho.1).1 ho).1
  have h1 : cntTo o (o.getD k 0) n = 1 := by
    have := ho.2 (o.getD k 0).toNat (by have := hr k hk; omega)
    rwa [Int.toNat_of_nonneg (hr k hk).1] at this
  rcases Nat.lt_trichotomy i k with h | h | h
  · have := cntTo_two h e rfl hk; omega
  · exact h
  · have := cntTo_two h rfl e (x := o.getD k 0) hi; omega
theorem last_is {o : List Int} {n : Nat} (ho : asg o n) {i : Nat} (hi : i < n) : lastTo o (o.getD i 0) n = (i : Int) := by
  have hne : lastTo o (o.getD i 0) n ≠ -1 := fun h => lastTo_neg.1 h i hi rfl
  have hb := lastTo_bd o (o.getD i 0) n
  have hat := lastTo_at hne
  have := asg_inj ho (i := (lastTo o (o.getD i 0) n).toNat) (k := i) (by omega) hi hat
  omega
theorem last_in {o : List Int} {n k : Nat} (ho : asg o n) (hk : k < n) : 0 ≤ lastTo o k n ∧ lastTo o k n < n ∧ o.getD (lastTo o k n).toNat 0 = (k : Int) := by
  obtain ⟨i, hi, e⟩ := ((asg_iff ho.1).1 ho).2 k hk
  rw [← e, last_is ho hi]
  exact ⟨by omega, by omega, by simp [e]⟩

/-- the inverse order -/
def backV (o : List Int) (n : Nat) : List Int := (List.range n).map fun k : Nat => lastTo o k n
theorem backV_len (o : List Int) (n : Nat) : (backV o n).length = n := by simp [backV]
theorem backV_get {o : List Int} {n k : Nat} (h : k < n) : (backV o n).getD k 0 = lastTo o k n := by simp [backV, List.getD, h]
theorem back_asg {o : List Int} {n : Nat} (ho : asg o n) : asg (backV o n) n := by
  refine (asg_iff (backV_len o n)).2 ⟨fun i hi => ?_, fun j hj => ?_⟩
  · rw [backV_get hi]; have := last_in ho hi; exact ⟨this.1, this.2.1⟩
  · have hr := ((asg_iff ho.1).1 ho).1 j hj
    refine ⟨(o.getD j 0).toNat, by omega, ?_⟩
    rw [backV_get (by omega), Int.toNat_of_nonneg hr.1, last_is ho hj]
theorem last_back {o : List Int} {n i : Nat} (ho : asg o n) (hi : i < n) : lastTo (backV o n) i n = o.getD i 0 := by
  have hr := ((asg_iff ho.1).1 ho).1 i hi
  have h1 := last_is (back_asg ho) (i := (o.getD i 0).toNat) (by omega)
  rw [backV_get (by omega), Int.toNat_of_nonneg hr.1, last_is ho hi] at h1
  exact h1
theorem lastTo_minus {o : List Int} {n : Nat} (ho : asg o n) {x : Int} (hx : x < 0) : lastTo o x n = -1 :=
  lastTo_neg.2 fun i hi e => by have := ((asg_iff ho.1).1 ho).1 i hi; omega
theorem pass_back {rr : List (List Int)} {a o : List Int} (h : vld rr a = 0) (ho : asg o rr.length) : passV (passV a o) (backV o rr.length) = a := by
  have hal := al_of_vld h
  apply ext_getD 0
  · rw [passV_len, passV_len]
  · intro k hk
    rw [passV_len, passV_len] at hk
    rw [passV_get (by rw [passV_len]; exact hk), passV_get hk, backV_len, ho.1]
    have hr := hal.rng k (by rw [← hal.len]; exact hk)
    by_cases h0 : 0 ≤ a.getD k 0
    · obtain ⟨h1, h2, h3⟩ := last_in ho (k := (a.getD k 0).toNat) (by omega)
      rw [Int.toNat_of_nonneg h0] at h1 h2 h3
      have := last_back ho (i := (lastTo o (a.getD k 0) rr.length).toNat) (by omega)
      rw [Int.toNat_of_nonneg h1, h3] at this
      exact this
    · rw [lastTo_minus ho (by omega), lastTo_minus (back_asg ho) (by omega)]; omega

/-- Each agent has the value that the other one's bundle had for it. -/
theorem worth_pass {rr : List (List Int)} {a o r : List Int} (h : vld rr a = 0) (ho : asg o rr.length) {m : Nat} (hm : m < rr.length) : ∀ c : Nat, c ≤ a.length → worth (passV a o) r m c = worth a r (o.getD m 0) c
  | 0, _ => rfl
  | c + 1, hc => by
    have hal := al_of_vld h
    simp only [worth]
    rw [worth_pass h ho hm c (by omega), passV_get (by omega), ho.1]
    have hr := hal.rng c (by rw [← hal.len]; omega)
    have hom := ((asg_iff ho.1).1 ho).1 m hm
    by_cases e : a.getD c 0 = o.getD m 0
    · rw [if_pos e, e, last_is ho hm, if_pos rfl]
    · rw [if_neg e, if_neg]
      intro e2
      by_cases h0 : 0 ≤ a.getD c 0
      · have h3 := (last_in ho (k := (a.getD c 0).toNat) (by omega)).2.2
        rw [Int.toNat_of_nonneg h0, e2] at h3
        exact e (by simpa using h3.symm)
      · rw [lastTo_minus ho (by omega)] at e2; omega
theorem wth_pass {rr : List (List Int)} {a o : List Int} (h : vld rr a = 0) (ho : asg o rr.length) {m : Nat} (hm : m < rr.length) : wth rr (passV a o) m m = wth rr a m (o.getD m 0) := by
  unfold wth; rw [passV_len]; exact worth_pass h ho hm _ (Nat.le_refl _)

/-! ### giving -/
theorem set_get {a : List Int} {x : Int} {i k : Nat} (hi : i < a.length) : (a.set i x).getD k 0 = if k = i then x else a.getD k 0 := by
  simp only [List.getD, List.getElem?_set]
  by_cases e : k = i
  · subst e; simp [hi]
  · rw [if_neg (fun h => e h.symm), if_neg e]
theorem vld_give {rr : List (List Int)} {a : List Int} {good agent : Int} (h : vld rr a = 0) (hg : giveOk rr a good agent) : vld rr (a.set good.toNat agent) = 0 := by
  have hal := al_of_vld h
  obtain ⟨h1, h2, h3, h4⟩ := hg
  refine vld_of h (by simp) fun k hk => ?_
  rw [set_get (by omega)]
  split
  · exact ⟨h3, h4⟩
  · exact hal.rng k (by rw [← hal.len]; simpa using hk)
theorem give_back {a : List Int} {x : Int} {i : Nat} (hi : i < a.length) : (a.set i x).set i (a.getD i 0) = a := by
  rw [List.set_set]
  apply ext_getD 0
  · simp
  · intro k _
    rw [set_get hi]; split
    · rename_i e; rw [e]
    · rfl
end Go.Proofs.Ytpdldifklgpikaa
set_option linter.unusedVariables false
set_option linter.unusedSimpArgs false
namespace Go.Proofs.Ytpdldifklgpikaa
open Go.Eng

/-- lists made row by row -/
def gRow {β : Type} (h : Nat → Nat → List β) (i : Nat) : Nat → List β
  | 0 => []
  | c + 1 => gRow h i c ++ h i c
def gTo {β : Type} (h : Nat → Nat → List β) (n : Nat) : Nat → List β
  | 0 => []
  | c + 1 => gTo h n c ++ gRow h c n
theorem gRow_len {β : Type} {h : Nat → Nat → List β} {i : Nat} (h1 : ∀ k, (h i k).length ≤ 1) : ∀ c, (gRow h i c).length ≤ c
  | 0 => Nat.le_refl _
  | c + 1 => by have := gRow_len h1 c; have := h1 c; simp only [gRow, List.length_append]; omega
theorem gTo_len {β : Type} {h : Nat → Nat → List β} {n : Nat} (h1 : ∀ i k, (h i k).length ≤ 1) : ∀ c, (gTo h n c).length ≤ c * n
  | 0 => by simp [gTo]
  | c + 1 => by have := gTo_len (n := n) h1 c; have := gRow_len (h1 c) n; simp only [gTo, List.length_append, Nat.add_mul, Nat.one_mul]; omega
theorem gRow_congr {β : Type} {h g : Nat → Nat → List β} {i : Nat} : ∀ {c : Nat}, (∀ k, k < c → h i k = g i k) → gRow h i c = gRow g i c
  | 0, _ => rfl
  | c + 1, e => by simp only [gRow]; rw [gRow_congr (fun k hk => e k (by omega)), e c (by omega)]
theorem gTo_congr {β : Type} {h g : Nat → Nat → List β} {n : Nat} : ∀ {c : Nat}, (∀ i k, i < c → k < n → h i k = g i k) → gTo h n c = gTo g n c
  | 0, _ => rfl
  | c + 1, e => by simp only [gTo]; rw [gTo_congr (fun i k hi hk => e i k (by omega) hk), gRow_congr (fun k hk => e c k (by omega) hk)]
theorem mem_gRow {β : Type} {h : Nat → Nat → List β} {i : Nat} {x : β} : ∀ {c : Nat}, x ∈ gRow h i c ↔ ∃ k, k < c ∧ x ∈ h i k
  | 0 => by simp [gRow]
  | c + 1 => by
    simp only [gRow, List.mem_append, mem_gRow (c := c)]
    constructor
    · rintro (⟨k, hk, hx⟩ | hx)
      · exact ⟨k, by omega, hx⟩
      · exact ⟨c, by omega, hx⟩
    · rintro ⟨k, hk, hx⟩
      by_cases e : k = c
      · subst e; exact .inr hx
      · exact .inl ⟨k, by omega, hx⟩
theorem mem_gTo {β : Type} {h : Nat → Nat → List β} {n : Nat} {x : β} : ∀ {c : Nat}, x ∈ gTo h n c ↔ ∃ i k, i < c ∧ k < n ∧ x ∈ h i k
  | 0 => by simp [gTo]
  | c + 1 => by
    simp only [gTo, List.mem_append, mem_gTo (c := c), mem_gRow]
    constructor
    · rintro (⟨i, k, hi, hk, hx⟩ | ⟨k, hk, hx⟩)
      · exact ⟨i, k, by omega, hk, hx⟩
      · exact ⟨c, k, by omega, hk, hx⟩
    · rintro ⟨i, k, hi, hk, hx⟩
      by_cases e : i = c
      · subst e; exact .inr ⟨k, hk, hx⟩
      · exact .inl ⟨i, k, by omega, hk, hx⟩

/-- A list over who envies whom. -/
theorem flat_envRow {β : Type} {f : Nat → Int} {i : Nat} {g : Int → Int → List β} : ∀ c : Nat, (envRow f i c).flatMap (fun p => g p.1 p.2) = gRow (fun (i k : Nat) => if f i < f k then g i k else []) i c
  | 0 => rfl
  | c + 1 => by
    simp only [envRow, gRow, List.flatMap_append, flat_envRow c]
    congr 1
    split <;> simp
theorem flat_envTo {β : Type} {f : Nat → Nat → Int} {n : Nat} {g : Int → Int → List β} : ∀ c : Nat, (envTo f n c).flatMap (fun p => g p.1 p.2) = gTo (fun (i k : Nat) => if f i i < f i k then g i k else []) n c
  | 0 => rfl
  | c + 1 => by
    simp only [envTo, gTo, List.flatMap_append, flat_envTo c, flat_envRow]
    congr 1
    exact gRow_congr fun k _ => rfl

/-- by how much agent k's bundle is worth more for agent i -/
def moreV (rr : List (List Int)) (a : List Int) (i k : Nat) : Int := wth rr a i k - wth rr a i i
/-- the first good of agent k's bundle whose value for agent i is at least x, or is not -/
def firstG (rr : List (List Int)) (a : List Int) (i k x : Int) (b : Bool) : Int := firstFrom (fun j => decide (a.getD j 0 = k) && (decide (x ≤ val rr i.toNat j) == b)) a.length 0
theorem firstG_bd (rr : List (List Int)) (a : List Int) (i k x : Int) (b : Bool) : -1 ≤ firstG rr a i k x b ∧ firstG rr a i k x b < a.length := by
  rcases firstFrom_spec (fun j => decide (a.getD j 0 = k) && (decide (x ≤ val rr i.toNat j) == b)) a.length 0 with ⟨j, _, h2, _, h4, _⟩ | ⟨h, _⟩
  · unfold firstG; rw [h4]; omega
  · unfold firstG; rw [h]; omega

/-- all envy -/
def evs (rr : List (List Int)) (a : List Int) : List T3 := (envs rr a).map fun p => (p.1, p.2, moreV rr a p.1.toNat p.2.toNat)
noncomputable def evsR (rr : List (List Int)) (a : List Int) : List T3 := if vld rr a = 0 then evs rr a else []
def markOf (rr : List (List Int)) (a : List Int) (b : Bool) (x : T3) : List T3 := if 0 ≤ firstG rr a x.1 x.2.1 x.2.2 b then [(x.1, x.2.1, firstG rr a x.1 x.2.1 x.2.2 b)] else []
def missOf (rr : List (List Int)) (a : List Int) (x : T3) : List (Int × Int) := if 0 ≤ firstG rr a x.1 x.2.1 x.2.2 true then [] else [(x.1, x.2.1)]
noncomputable def oneM (rr : List (List Int)) (a : List Int) : List T3 := (evsR rr a).flatMap (markOf rr a true)
noncomputable def oneX (rr : List (List Int)) (a : List Int) : List (Int × Int) := (evsR rr a).flatMap (missOf rr a)
noncomputable def anyM (rr : List (List Int)) (a : List Int) : List T3 := (evsR rr a).flatMap (markOf rr a false)

theorem evs_flat {β : Type} (rr : List (List Int)) (a : List Int) (g : T3 → List β) : (evs rr a).flatMap g = gTo (fun (i k : Nat) => if wth rr a i i < wth rr a i k then g (i, k, moreV rr a i k) else []) rr.length rr.length := by
  have h := flat_envTo (f := fun i (k : Nat) => wth rr a i k) (n := rr.length) (g := fun x y => g (x, y, moreV rr a x.toNat y.toNat)) rr.length
  unfold evs envs
  rw [List.flatMap_map]
  exact h

/-- Whether agent i does not envy agent k, if a good is left out (-1: none). -/
def content (rr : List (List Int)) (a : List Int) (i k : Nat) (good : Int) : Prop := wth rr a i k - (if 0 ≤ good ∧ a.getD good.toNat 0 = k then val rr i good.toNat else 0) ≤ wth rr a i i
end Go.Proofs.Ytpdldifklgpikaa
set_option linter.unusedVariables false
set_option linter.unusedSimpArgs false
namespace Go.Proofs.Ytpdldifklgpikaa
open Go.Eng
set_option maxRecDepth 100000
set_option maxHeartbeats 4000000

theorem VS.conv {src dst : TypeId} {d : TypeDesc} {k q : IntKind} {n : Int} {w : World} {K : Value → Prop} (hs : Try.prog.underlying src = some d) (hd : Try.prog.underlying dst = some (.int k)) (hn : k.wrap n = n) (hk : K (.int k n)) : VS Try.prog (convert src dst (.int q n)) w K :=
  VS.mk (fun w1 _ => by
    simp only [convert, Sem.run_bind, run_underlying hs, run_underlying hd, Result.andThen_ok]
    show Result.ok (Value.int k (k.wrap n)) w1 = _
    rw [hn]) hk

theorem VS.gtr {T : TypeId} {x y : Operand} {k : IntKind} {a b : Int} {w : World} {K : Value → Prop} (h : Split (b < a) (K (.bool true)) (K (.bool false))) : VS Try.prog (binSem .gtr T x y (.int k a) (.int k b)) w K := by
  simp only [Split] at h
  have hg : eqGuard .gtr T x y (.int k a) (.int k b) = pure () := rfl
  have hb : binSem .gtr T x y (.int k a) (.int k b) = binOp .gtr T (.int k a) (.int k b) := by unfold binSem; rw [hg]; rfl
  by_cases hab : b < a
  · exact VS.mk (v := .bool true) (fun w1 _ => by rw [hb]; simp [binOp, Op.intCmp, hab]) (h.1 hab)
  · exact VS.mk (v := .bool false) (fun w1 _ => by rw [hb]; simp [binOp, Op.intCmp, hab]) (h.2 hab)

theorem wrap64 {n : Int} (h : 0 ≤ n ∧ n ≤ 1000) : IntKind.u64.wrap n = n := by
  simp only [IntKind.wrap, IntKind.signed, IntKind.bits]
  simp; omega
theorem wrapI {n : Int} (h : 0 ≤ n ∧ n ≤ 1000) : IntKind.i64.wrap n = n := IntWalk.i64_in _ (by omega)

theorem repl_step {c d e : Nat} (he : e = min d (c - d)) (_hd : d ≤ c) : (List.replicate d (i64v (-1)) ++ List.replicate (c - d) (i64v 0)).take d ++ (List.replicate d (i64v (-1))).take e ++ (List.replicate d (i64v (-1)) ++ List.replicate (c - d) (i64v 0)).drop (d + e) = List.replicate (d + e) (i64v (-1)) ++ List.replicate (c - (d + e)) (i64v 0) := by
  have h1 : (List.replicate d (i64v (-1)) ++ List.replicate (c - d) (i64v 0)).take d = List.replicate d (i64v (-1)) := by rw [List.take_append]; simp
  have h2 : (List.replicate d (i64v (-1))).take e = List.replicate e (i64v (-1)) := by rw [List.take_replicate]; congr 1; omega
  have h3 : (List.replicate d (i64v (-1)) ++ List.replicate (c - d) (i64v 0)).drop (d + e) = List.replicate (c - (d + e)) (i64v 0) := by
    rw [List.drop_append]; simp; omega
  rw [h1, h2, h3, List.replicate_append_replicate]

end Go.Proofs.Ytpdldifklgpikaa
set_option linter.unusedVariables false
set_option linter.unusedSimpArgs false
namespace Go.Proofs.Ytpdldifklgpikaa
open Go.Eng
set_option maxRecDepth 100000
set_option maxHeartbeats 4000000

theorem mem_getD {l : List Int} {x : Int} : x ∈ l ↔ ∃ i, i < l.length ∧ l.getD i 0 = x := by
  constructor
  · intro h
    obtain ⟨i, hi, e⟩ := List.getElem_of_mem h
    exact ⟨i, hi, by rw [List.getD, List.getElem?_eq_getElem hi]; exact e⟩
  · rintro ⟨i, hi, rfl⟩
    rw [List.getD, List.getElem?_eq_getElem hi]; exact List.getElem_mem hi

end Go.Proofs.Ytpdldifklgpikaa
set_option linter.unusedVariables false
set_option linter.unusedSimpArgs false
namespace Go.Proofs.Ytpdldifklgpikaa
open Go.Eng
set_option maxRecDepth 100000
set_option maxHeartbeats 4000000

/-- a list of m numbers of which the first c are laid -/
def resTo (f : Nat → Int) (m c : Nat) : List Int := (List.range m).map fun k => if k < c then f k else 0
theorem resTo_len (f : Nat → Int) (m c : Nat) : (resTo f m c).length = m := by simp [resTo]
theorem resTo_zero (f : Nat → Int) (m : Nat) : (resTo f m 0).map i64v = List.replicate m (.int .i64 0) := by rw [List.eq_replicate_iff]; simp [resTo, i64v]
theorem resTo_all (f : Nat → Int) (m : Nat) : resTo f m m = (List.range m).map f := by
  apply List.map_congr_left
  intro k hk
  rw [if_pos (List.mem_range.1 hk)]
theorem resTo_set (f : Nat → Int) {m c : Nat} (h : c < m) : (resTo f m c).set c (f c) = resTo f m (c + 1) := by
  apply List.ext_getElem
  · simp [resTo]
  · intro i h1 h2
    rw [List.getElem_set]
    split
    · rename_i e; subst e; simp [resTo]
    · simp only [resTo, List.getElem_map, List.getElem_range]
      by_cases hi : i < c
      · rw [if_pos hi, if_pos (by omega)]
      · rw [if_neg hi, if_neg (by omega)]

end Go.Proofs.Ytpdldifklgpikaa
set_option linter.unusedVariables false
set_option linter.unusedSimpArgs false
namespace Go.Proofs.Ytpdldifklgpikaa
open Go.Eng
set_option maxRecDepth 100000
set_option maxHeartbeats 4000000

theorem give_list {a : List Int} {good agent : Int} (h0 : 0 ≤ good) : (List.range a.length).map (fun k : Nat => if (k : Int) = good then agent else a.getD k 0) = a.set good.toNat agent := by
  apply List.ext_getElem
  · simp
  · intro i h1 h2
    rw [List.getElem_set]
    simp only [List.getElem_map, List.getElem_range]
    have hi : i < a.length := by simpa using h1
    by_cases e : (i : Int) = good
    · rw [if_pos e, if_pos (by omega)]
    · rw [if_neg e, if_neg (by omega)]; simp [List.getD, hi]

end Go.Proofs.Ytpdldifklgpikaa
set_option linter.unusedVariables false
set_option linter.unusedSimpArgs false
namespace Go.Proofs.Ytpdldifklgpikaa
open Go.Eng
set_option maxRecDepth 100000
set_option maxHeartbeats 4000000

/-- the places of the agents in the first c of an order -/
def toTo (o : List Int) (n c : Nat) : List Int := (List.range n).map fun k : Nat => lastTo o k c
theorem toTo_len (o : List Int) (n c : Nat) : (toTo o n c).length = n := by simp [toTo]
theorem toTo_zero (o : List Int) (n : Nat) : toTo o n 0 = List.replicate n (-1) := by rw [List.eq_replicate_iff]; simp [toTo, lastTo]
theorem toTo_get {o : List Int} {n c k : Nat} (h : k < n) : (toTo o n c).getD k 0 = lastTo o k c := by simp [toTo, List.getD, h]
theorem toTo_set {o : List Int} {n c : Nat} (h0 : 0 ≤ o.getD c 0) : (toTo o n c).set (o.getD c 0).toNat (c : Int) = toTo o n (c + 1) := by
  apply List.ext_getElem
  · simp [toTo]
  · intro i h1 h2
    rw [List.getElem_set]
    simp only [toTo, List.getElem_map, List.getElem_range, lastTo]
    by_cases e : o.getD c 0 = (i : Int)
    · rw [if_pos e, if_pos (by omega)]
    · rw [if_neg e, if_neg (by omega)]
theorem asg_to {o : List Int} {n : Nat} (hl : o.length = n) (hw : ∀ i, i < o.length → 0 ≤ o.getD i 0 ∧ o.getD i 0 < n) : asg o n ↔ ¬ (-1 : Int) ∈ toTo o n o.length := by
  rw [asg_iff hl, mem_getD]
  constructor
  · rintro ⟨_, h2⟩ ⟨k, hk, e⟩
    rw [toTo_len] at hk
    rw [toTo_get hk, lastTo_neg] at e
    obtain ⟨i, hi, e2⟩ := h2 k hk
    exact e i (by omega) e2
  · intro h
    refine ⟨fun i hi => hw i (by omega), fun j hj => Classical.byContradiction fun hn => h ⟨j, by rw [toTo_len]; exact hj, ?_⟩⟩
    rw [toTo_get hj, lastTo_neg]
    exact fun i hi e => hn ⟨i, by omega, e⟩

end Go.Proofs.Ytpdldifklgpikaa
set_option linter.unusedVariables false
set_option linter.unusedSimpArgs false
namespace Go.Proofs.Ytpdldifklgpikaa
open Go.Eng
set_option maxRecDepth 100000

theorem own : ownKnob Try.prog.godebug = none := by kernel_rfl
theorem laidOut : laidOutB Try.prog = true := by kernel_rfl
end Go.Proofs.Ytpdldifklgpikaa
set_option linter.unusedVariables false
set_option linter.unusedSimpArgs false
namespace Go.Proofs.Ytpdldifklgpikaa
open Go.Eng
set_option maxRecDepth 100000

def gvn : List (List Int) := [[5, 3, 1], [2, 2, 2]]

theorem gvn_chk : chk gvn = 0 := by
  refine chk_ok ?_ ?_
  · rintro (h | ⟨i, hi, h⟩)
    · exact absurd h (by decide)
    · match i, hi with
      | 0, _ => exact absurd h (by decide)
      | 1, _ => exact absurd h (by decide)
  · rintro (h | ⟨i, hi, h | ⟨j, hj, h⟩⟩)
    · exact absurd h (by decide)
    · match i, hi with
      | 0, _ => exact absurd h (by decide)
      | 1, _ => exact absurd h (by decide)
    · match i, hi, j, hj with
      | 0, _, 0, _ => exact absurd h (by decide)
      | 0, _, 1, _ => exact absurd h (by decide)
      | 0, _, 2, _ => exact absurd h (by decide)
      | 1, _, 0, _ => exact absurd h (by decide)
      | 1, _, 1, _ => exact absurd h (by decide)
      | 1, _, 2, _ => exact absurd h (by decide)
theorem gvn_vld {x y z : Int} (hx : -1 ≤ x ∧ x < 2) (hy : -1 ≤ y ∧ y < 2) (hz : -1 ≤ z ∧ z < 2) : vld gvn [x, y, z] = 0 := by
  refine vld_ok gvn_chk ?_
  rintro (h | ⟨k, hk, h⟩)
  · exact absurd rfl h
  · match k, hk with
    | 0, _ => simp [gvn] at h; omega
    | 1, _ => simp [gvn] at h; omega
    | 2, _ => simp [gvn] at h; omega

end Go.Proofs.Ytpdldifklgpikaa
set_option linter.unusedVariables false
set_option linter.unusedSimpArgs false
namespace Go.Eng
theorem Gr.ext {a b c : World} (h : Ext a b) (k : Ext b c) : Ext a c := Gr.trans h k
theorem all_succ {p : Nat → Prop} {c : Nat} (h : ∀ i, i < c → p i) (h1 : p c) : ∀ i, i < c + 1 → p i := fun i hi => by
  by_cases e : i = c
  · subst e; exact h1
  · exact h i (by omega)
theorem VS.b3 {P : Program} {w : World} {t : TypeId} {f0 f1 f2 : Field} {N b : Nat} {z0 z1 z2 : Value} {x y z : Int} {K : Value → Prop} (ht : P.underlying t = some (.struct #[f0, f1, f2])) (hz : Elem P t (.agg #[z0, z1, z2]) N b)
    (hg : P.cellsOf f0.type = 1 ∧ P.cellsOf f1.type = 1 ∧ P.cellsOf f2.type = 1) (ho : f0.offset = 0 ∧ f1.offset = 1 ∧ f2.offset = 2) (hk : K (.agg #[.int .i64 x, .int .i64 y, .int .i64 z])) :
    VS P (Instr.build t [(0, .int .i64 x), (1, .int .i64 y), (2, .int .i64 z)].toArray) w K :=
  VS.fields (l := [f0, f1, f2]) (ps := [(0, .int .i64 x), (1, .int .i64 y), (2, .int .i64 z)]) ht hz (by simp [hg.1, hg.2.1, hg.2.2]) (by simp [ho.1, ho.2.1, ho.2.2, List.range, List.range.loop]) rfl rfl rfl (by simp [Value.cells]) hk
end Go.Eng
namespace Go.Proofs.Ytpdldifklgpikaa
open Go.Eng
end Go.Proofs.Ytpdldifklgpikaa
set_option linter.unusedVariables false
set_option linter.unusedSimpArgs false
namespace Go.Eng
open Go.RowKit Go.ChangeShapes Go.WideShapes Go.ChangeAt

section
variable {H : Type} {enc : TypeId × Value → H} {P : Program} {w : World} {base b0 : Nat} {spare : Nat → Bool} {held : Bool} {r : Reach} {v : Value} {d : DataW H} {ps : List MemPlace}

theorem open_I {t : TypeId} (ht : P.underlying t = some (.int .i64)) (hv : Value.okWide P w r b0 t v) (hd : DataW.Trod enc P w base spare held t v d ps) : ∃ n, v = .int .i64 n ∧ I64 n := by
  obtain ⟨n, rfl⟩ := okWide_int ht hv
  obtain ⟨fuel, h⟩ := hd
  obtain ⟨m, hm, hr⟩ := read_i64 ht h
  simp [Value.cells] at hm; subst hm
  exact ⟨_, rfl, hr⟩

theorem open_B {t : TypeId} (ht : P.underlying t = some .bool) (hv : Value.okWide P w r b0 t v) : ∃ n, v = .bool n := okWide_bool ht hv

theorem open_L {t e : TypeId} (ht : P.underlying t = some (.slice e)) (he : P.underlying e = some (.int .i64)) (hs : P.cellsOf e = 1) (hv : Value.okWide P w r b0 t v) (hd : DataW.Trod enc P w base spare held t v d ps) : ∃ l, Ints w v l ∧ ∀ i, I64 (l.getD i 0) := by
  obtain ⟨a, n, c, rfl⟩ := okWide_slice ht hv
  obtain ⟨fuel, h⟩ := hd
  obtain ⟨m, l, hm, h1, h2⟩ := read_ints ht he hs h
  simp [Value.cells] at hm; subst hm
  exact ⟨l, h1, h2⟩

theorem open_M {t e q : TypeId} (ht : P.underlying t = some (.slice e)) (he : P.underlying e = some (.slice q)) (hq : P.underlying q = some (.int .i64)) (hs : P.cellsOf e = 1) (hs2 : P.cellsOf q = 1) (hv : Value.okWide P w r b0 t v) (hd : DataW.Trod enc P w base spare held t v d ps) :
    ∃ vs rr, Mat w v vs rr ∧ ∀ i j, I64 ((rr.getD i []).getD j 0) := by
  obtain ⟨a, n, c, rfl⟩ := okWide_slice ht hv
  obtain ⟨fuel, h⟩ := hd
  obtain ⟨m, vs, rr, hm, h1, h2⟩ := read_mat ht he hq hs hs2 h
  simp [Value.cells] at hm; subst hm
  exact ⟨vs, rr, h1, h2⟩

/-- A struct of one matrix. -/
theorem open_G {t e q : TypeId} {f : Field} (ht : P.underlying t = some (.struct #[f])) (ho : f.offset = 0) (hc : P.cellsOf t = 1) (hcf : P.cellsOf f.type = 1) (hf : P.underlying f.type = some (.slice e)) (he : P.underlying e = some (.slice q)) (hq : P.underlying q = some (.int .i64)) (hs : P.cellsOf e = 1) (hs2 : P.cellsOf q = 1)
    (hv : Value.okWide P w r b0 t v) (hd : DataW.Trod enc P w base spare held t v d ps) : ∃ gv vs rr, v = .agg #[gv] ∧ Mat w gv vs rr ∧ ∀ i j, I64 ((rr.getD i []).getD j 0) := by
  obtain ⟨cs, rfl, hcs⟩ := okWide_struct ht hv
  obtain ⟨fuel, h⟩ := hd
  obtain ⟨y, n, _, hl, hy⟩ := trod_struct1 ht h
  rw [ho, hcf] at hy
  obtain ⟨u, vs, rr, hm, h1, h2⟩ := read_mat hf he hq hs hs2 hy
  have hsz : cs.size = 1 := by omega
  have : cs = #[u] := by
    apply Array.toList_inj.1
    simp only [Value.cells, List.drop_zero] at hm
    rw [List.take_of_length_le (by simp [hsz])] at hm
    simpa using hm
  subst this
  exact ⟨u, vs, rr, rfl, h1, h2⟩
end
end Go.Eng
set_option linter.unusedVariables false
set_option linter.unusedSimpArgs false
namespace Go.Eng
open Go.RowKit Go.ChangeShapes Go.WideShapes Go.ChangeAt Go.Deep

section
variable {H : Type} {enc : TypeId × Value → H} {P : Program} {w : World} {base b0 : Nat} {spare : Nat → Bool} {held : Bool} {r : Reach} {v : Value} {d : DataW H} {ps : List MemPlace}

theorem read_three {t : TypeId} {f0 f1 f2 : Field} {fuel : Nat} {cs : List Value} {x : DataW H × List MemPlace} (ht : P.underlying t = some (.struct #[f0, f1, f2])) (ho : f0.offset = 0 ∧ f1.offset = 1 ∧ f2.offset = 2) (hc : P.cellsOf t = 3)
    (hs : P.cellsOf f0.type = 1 ∧ P.cellsOf f1.type = 1 ∧ P.cellsOf f2.type = 1) (h0 : P.underlying f0.type = some (.int .i64)) (h1 : P.underlying f1.type = some (.int .i64)) (h2 : P.underlying f2.type = some (.int .i64))
    (h : DataW.trod enc P w base spare held fuel t cs = some x) : ∃ a b c, cs = [.int .i64 a, .int .i64 b, .int .i64 c] ∧ I64 a ∧ I64 b ∧ I64 c := by
  obtain ⟨y0, y1, y2, n, _, hl, e0, e1, e2⟩ := trod_struct3 ht h
  rw [ho.1, hs.1] at e0
  rw [ho.2.1, hs.2.1] at e1
  rw [ho.2.2, hs.2.2] at e2
  obtain ⟨a, ha, ra⟩ := read_i64 h0 e0
  obtain ⟨b, hb, rb⟩ := read_i64 h1 e1
  obtain ⟨c, hc', rc⟩ := read_i64 h2 e2
  refine ⟨a, b, c, ?_, ra, rb, rc⟩
  rw [hc] at hl
  match cs, hl with
  | [x, y, z], _ =>
    simp at ha hb hc'
    rw [ha, hb, hc']

/-- A struct of three ints. -/
theorem open_P {t : TypeId} {f0 f1 f2 : Field} (ht : P.underlying t = some (.struct #[f0, f1, f2])) (ho : f0.offset = 0 ∧ f1.offset = 1 ∧ f2.offset = 2) (hc : P.cellsOf t = 3)
    (hs : P.cellsOf f0.type = 1 ∧ P.cellsOf f1.type = 1 ∧ P.cellsOf f2.type = 1) (h0 : P.underlying f0.type = some (.int .i64)) (h1 : P.underlying f1.type = some (.int .i64)) (h2 : P.underlying f2.type = some (.int .i64))
    (hv : Value.okWide P w r b0 t v) (hd : DataW.Trod enc P w base spare held t v d ps) : ∃ a b c, v = .agg #[.int .i64 a, .int .i64 b, .int .i64 c] ∧ I64 a ∧ I64 b ∧ I64 c := by
  obtain ⟨cs, rfl, hcs⟩ := okWide_struct ht hv
  obtain ⟨fuel, h⟩ := hd
  obtain ⟨a, b, c, e, ra, rb, rc⟩ := read_three ht ho hc hs h0 h1 h2 h
  refine ⟨a, b, c, ?_, ra, rb, rc⟩
  have : cs = #[.int .i64 a, .int .i64 b, .int .i64 c] := by
    apply Array.toList_inj.1
    simpa [Value.cells] using e
  rw [this]
end
end Go.Eng
set_option linter.unusedVariables false
set_option linter.unusedSimpArgs false
namespace Go.Eng
open Go.RowKit Go.ChangeShapes Go.WideShapes Go.ChangeAt Go.Deep

def bv (b : Bool) : Value := .bool b
/-- a slice of truth values -/
def Bls (w : World) (v : Value) (l : List Bool) : Prop := Sl 1 w v l.length (l.map bv)
section
variable {w w' : World} {v : Value} {l : List Bool} {K : Value → Prop}
theorem Bls.ext (h : Bls w v l) (hg : Ext w w') : Bls w' v l := Sl.ext h hg
theorem Bls.le (h : Bls w v l) : l.length ≤ 9223372036854775807 := Sl.le h
theorem Bls.ln (h : Bls w v l) (hk : K (.int .i64 (l.length : Int))) : Ln v K := Sl.ln h hk
theorem Bls.ix {c : Nat} (h : Bls w v l) (hc : c < l.length) (hk : K (.pointer (some (ea v c)))) : Ix 1 v (.int .i64 (c : Int)) K :=
  Sl.ix h hc (by rw [Nat.mul_one]; exact hk)
theorem Bls.ixI {j : Int} (h : Bls w v l) (hc : 0 ≤ j ∧ j < l.length) (hk : K (.pointer (some (ea v j.toNat)))) : Ix 1 v (.int .i64 j) K :=
  Sl.ixI h hc (by rw [Nat.mul_one]; exact hk)
theorem Bls.ld {c : Nat} (h : Bls w v l) (hc : c < l.length) (hk : K (.bool (l.getD c false))) : Ld w (ea v c) K :=
  Sl.ld h (x := .bool (l.getD c false)) (by simp [hc, bv]) hk
theorem Bls.ldv {c : Nat} {b : Bool} (h : Bls w v l) (hv : l.getD c false = b) (hc : c < l.length) (hk : K (.bool b)) : Ld w (ea v c) K :=
  Bls.ld h hc (by rw [hv]; exact hk)
end
theorem one_bools (l : List Bool) : ∀ u ∈ l.map bv, u.oneCell' = true := by
  intro u hu
  obtain ⟨x, _, rfl⟩ := List.mem_map.1 hu
  rfl
theorem T3.ixI {w : World} {v : Value} {l : List T3} {K : Value → Prop} {j : Int} (h : Trs w v l) (hc : 0 ≤ j ∧ j < l.length) (hk : K (.pointer (some (ea v (j.toNat * 3))))) : Ix 3 v (.int .i64 j) K := Sl.ixI h hc hk

section
variable {H : Type} {enc : TypeId × Value → H} {P : Program} {w : World} {base b0 : Nat} {spare : Nat → Bool} {held : Bool} {r : Reach} {v : Value} {d : DataW H} {ps : List MemPlace}

theorem read_bools {t e fuel : Nat} {cs : List Value} {x : DataW H × List MemPlace} (ht : P.underlying t = some (.slice e)) (he : P.underlying e = some .bool) (hs : P.cellsOf e = 1) (h : DataW.trod enc P w base spare held fuel t cs = some x) :
    ∃ v l, cs = [v] ∧ Bls w v l := by
  obtain ⟨v, n, xs, rfl, hsl, hel⟩ := read_sl ht hs h
  have each : ∀ i, i < n → ∃ z : Bool, xs[i]? = some (bv z) := fun i hi => by
    obtain ⟨fuel', y, hy⟩ := hel i hi
    obtain ⟨z, hz⟩ := read_bool he hy
    exact ⟨z, take_one hz⟩
  obtain ⟨l, hl, hp⟩ := choose_list each
  have hxl : xs.length = n := by obtain ⟨_, _, _, _, _, h3, _⟩ := id hsl; omega
  have exs : xs = l.map bv := by
    apply List.ext_getElem?
    intro i
    by_cases hi : i < n
    · have h1 := hp i hi
      rw [h1]
      simp [List.getElem?_eq_getElem (show i < l.length by omega), List.getD]
    · rw [List.getElem?_eq_none (by omega), List.getElem?_eq_none (by simp; omega)]
  refine ⟨v, l, rfl, ?_⟩
  unfold Bls; rw [hl, ← exs]; exact hsl
theorem open_Z {t e : TypeId} (ht : P.underlying t = some (.slice e)) (he : P.underlying e = some .bool) (hs : P.cellsOf e = 1) (hv : Value.okWide P w r b0 t v) (hd : DataW.Trod enc P w base spare held t v d ps) : ∃ l, Bls w v l := by
  obtain ⟨a, n, c, rfl⟩ := okWide_slice ht hv
  obtain ⟨fuel, h⟩ := hd
  obtain ⟨m, l, hm, h1⟩ := read_bools ht he hs h
  simp [Value.cells] at hm; subst hm
  exact ⟨l, h1⟩

theorem read_trs {t e fuel : Nat} {f0 f1 f2 : Field} {cs : List Value} {x : DataW H × List MemPlace} (ht : P.underlying t = some (.slice e)) (he : P.underlying e = some (.struct #[f0, f1, f2])) (ho : f0.offset = 0 ∧ f1.offset = 1 ∧ f2.offset = 2) (hc : P.cellsOf e = 3)
    (hs : P.cellsOf f0.type = 1 ∧ P.cellsOf f1.type = 1 ∧ P.cellsOf f2.type = 1) (h0 : P.underlying f0.type = some (.int .i64)) (h1 : P.underlying f1.type = some (.int .i64)) (h2 : P.underlying f2.type = some (.int .i64))
    (h : DataW.trod enc P w base spare held fuel t cs = some x) : ∃ v l, cs = [v] ∧ Trs w v l ∧ ∀ i, I64 (l.getD i (0, 0, 0)).1 ∧ I64 (l.getD i (0, 0, 0)).2.1 ∧ I64 (l.getD i (0, 0, 0)).2.2 := by
  obtain ⟨v, n, xs, rfl, hsl, hel⟩ := read_sl ht hc h
  have each : ∀ i, i < n → ∃ z : T3, ((xs.drop (i * 3)).take 3 = [.int .i64 z.1, .int .i64 z.2.1, .int .i64 z.2.2]) ∧ I64 z.1 ∧ I64 z.2.1 ∧ I64 z.2.2 := fun i hi => by
    obtain ⟨fuel', y, hy⟩ := hel i hi
    obtain ⟨a, b, c, e, ra, rb, rc⟩ := read_three he ho hc hs h0 h1 h2 hy
    exact ⟨(a, b, c), e, ra, rb, rc⟩
  obtain ⟨l, hl, hp⟩ := choose_list each
  have hxl : xs.length = n * 3 := by obtain ⟨_, _, _, _, _, h3, _⟩ := id hsl; omega
  have hd : (default : T3) = (0, 0, 0) := rfl
  have exs : xs = flat3 l := by
    apply List.ext_getElem?
    intro k
    by_cases hk : k < n * 3
    · have hi : k / 3 < n := by omega
      have e := (hp (k / 3) hi).1
      rw [hd] at e
      have e5 : k / 3 * 3 + k % 3 = k := by omega
      have e2 := congrArg (fun l => l[k % 3]?) e
      have h3 : k % 3 < 3 := by omega
      simp only [List.getElem?_take, if_pos h3, List.getElem?_drop, e5] at e2
      rw [e2]
      obtain ⟨g0, g1, g2⟩ := flat3_get l (k / 3) (by omega)
      rcases (by omega : k % 3 = 0 ∨ k % 3 = 1 ∨ k % 3 = 2) with h | h | h
      · rw [h] at e5 ⊢; rw [show (flat3 l)[k]? = (flat3 l)[k / 3 * 3]? by rw [show k / 3 * 3 = k by omega], g0]; rfl
      · rw [h] at e5 ⊢; rw [show (flat3 l)[k]? = (flat3 l)[k / 3 * 3 + 1]? by rw [e5], g1]; rfl
      · rw [h] at e5 ⊢; rw [show (flat3 l)[k]? = (flat3 l)[k / 3 * 3 + 2]? by rw [e5], g2]; rfl
    · rw [List.getElem?_eq_none (by omega), List.getElem?_eq_none (by rw [flat3_len]; omega)]
  refine ⟨v, l, rfl, ?_, fun i => ?_⟩
  · unfold Trs; rw [hl, ← exs]; exact hsl
  · by_cases hi : i < n
    · exact (hp i hi).2
    · simp [List.getD, List.getElem?_eq_none (show l.length ≤ i by omega), I64]

/-- A struct of an int and a slice of structs of three ints. -/
theorem open_N {t s e : TypeId} {f0 f1 g0 g1 g2 : Field} (ht : P.underlying t = some (.struct #[f0, f1])) (ho : f0.offset = 0 ∧ f1.offset = 1) (hc : P.cellsOf t = 2) (hcf : P.cellsOf f0.type = 1 ∧ P.cellsOf f1.type = 1)
    (h0 : P.underlying f0.type = some (.int .i64)) (h1 : P.underlying f1.type = some (.slice e)) (he : P.underlying e = some (.struct #[g0, g1, g2])) (hg : g0.offset = 0 ∧ g1.offset = 1 ∧ g2.offset = 2) (hce : P.cellsOf e = 3)
    (hs : P.cellsOf g0.type = 1 ∧ P.cellsOf g1.type = 1 ∧ P.cellsOf g2.type = 1) (k0 : P.underlying g0.type = some (.int .i64)) (k1 : P.underlying g1.type = some (.int .i64)) (k2 : P.underlying g2.type = some (.int .i64))
    (hv : Value.okWide P w r b0 t v) (hd : DataW.Trod enc P w base spare held t v d ps) : ∃ n sv l, v = .agg #[.int .i64 n, sv] ∧ I64 n ∧ Trs w sv l ∧ ∀ i, I64 (l.getD i (0, 0, 0)).1 ∧ I64 (l.getD i (0, 0, 0)).2.1 ∧ I64 (l.getD i (0, 0, 0)).2.2 := by
  obtain ⟨cs, rfl, hcs⟩ := okWide_struct ht hv
  obtain ⟨fuel, h⟩ := hd
  obtain ⟨y0, y1, n, _, hl, e0, e1⟩ := trod_struct2 ht h
  rw [ho.1, hcf.1] at e0
  rw [ho.2, hcf.2] at e1
  obtain ⟨n, hn, rn⟩ := read_i64 h0 e0
  obtain ⟨sv, l, hsv, hT, rT⟩ := read_trs h1 he hg hce hs k0 k1 k2 e1
  have hsz : cs.size = 2 := by omega
  have : cs = #[.int .i64 n, sv] := by
    apply Array.toList_inj.1
    simp only [Value.cells] at hn hsv
    have hl2 : cs.toList.length = 2 := by simpa using hsz
    match hcl : cs.toList, hl2 with
    | [a, b], _ =>
      rw [hcl] at hn hsv
      simp at hn hsv
      simp [hn, hsv]
  subst this
  exact ⟨n, sv, l, rfl, rn, hT, rT⟩
end
end Go.Eng
set_option linter.unusedVariables false
set_option linter.unusedSimpArgs false
namespace Go.Proofs.Ytpdldifklgpikaa
open Go.Eng
set_option maxRecDepth 100000
set_option maxHeartbeats 4000000

def frm (A : List T3) (i : Nat) : Int := (A.getD i (0, 0, 0)).1
def too (A : List T3) (i : Nat) : Int := (A.getD i (0, 0, 0)).2.1
def cpy (A : List T3) (i : Nat) : Int := (A.getD i (0, 0, 0)).2.2
def badX (n : Int) (x : T3) : Prop := x.1 < 0 ∨ n ≤ x.1 ∨ x.2.1 < 0 ∨ n ≤ x.2.1 ∨ x.1 = x.2.1 ∨ x.2.2 < 0 ∨ 1000000 < x.2.2
open Classical in noncomputable def netE (n : Int) (A : List T3) : Int := if 40 < n ∨ 200 < A.length then 4 else if n < 2 ∨ ∃ i, i < A.length ∧ badX n (A.getD i (0, 0, 0)) then 8 else 0
structure NetOk (N : Nat) (A : List T3) : Prop where
  n2 : 2 ≤ N
  n40 : N ≤ 40
  a200 : A.length ≤ 200
  arc : ∀ i, i < A.length → (0 ≤ frm A i ∧ frm A i < N) ∧ (0 ≤ too A i ∧ too A i < N) ∧ frm A i ≠ too A i ∧ 0 ≤ cpy A i ∧ cpy A i ≤ 1000000
theorem netE_many {n : Int} {A : List T3} (h : 40 < n ∨ 200 < A.length) : netE n A = 4 := by unfold netE; rw [if_pos h]
theorem netE_bad {n : Int} {A : List T3} (h : ¬ (40 < n ∨ 200 < A.length)) (h2 : n < 2 ∨ ∃ i, i < A.length ∧ badX n (A.getD i (0, 0, 0))) : netE n A = 8 := by unfold netE; rw [if_neg h, if_pos h2]
theorem netE_ok {n : Int} {A : List T3} (h : ¬ (40 < n ∨ 200 < A.length)) (h2 : ¬ (n < 2 ∨ ∃ i, i < A.length ∧ badX n (A.getD i (0, 0, 0)))) : netE n A = 0 := by unfold netE; rw [if_neg h, if_neg h2]
theorem netOk {n : Int} {A : List T3} (h : netE n A = 0) : ∃ N : Nat, n = (N : Int) ∧ NetOk N A := by
  unfold netE at h
  split at h
  · omega
  · rename_i h1
    split at h
    · omega
    · rename_i h2
      refine ⟨n.toNat, by omega, by omega, by omega, by omega, fun i hi => ?_⟩
      have h3 : ¬ badX n (A.getD i (0, 0, 0)) := fun h => h2 (.inr ⟨i, hi, h⟩)
      unfold badX at h3
      unfold frm too cpy
      omega

/-! ### flows -/
/-- what comes into node v by the first c arcs, less what goes out -/
def bal (A : List T3) (f : List Int) (v : Int) : Nat → Int
  | 0 => 0
  | c + 1 => bal A f v c + (if too A c = v then f.getD c 0 else 0) - (if frm A c = v then f.getD c 0 else 0)
def balL (N : Nat) (A : List T3) (f : List Int) (c : Nat) : List Int := mk N fun v : Nat => bal A f v c
theorem balL_len (N : Nat) (A : List T3) (f : List Int) (c : Nat) : (balL N A f c).length = N := mk_len _ _
theorem balL_get {N : Nat} {A : List T3} {f : List Int} {c v : Nat} (h : v < N) : (balL N A f c).getD v 0 = bal A f v c := mk_get 0 h
theorem balL_zero (N : Nat) (A : List T3) (f : List Int) : List.replicate N 0 = balL N A f 0 := by
  refine ext_getD 0 (by rw [List.length_replicate, balL_len]) fun i hi => ?_
  rw [List.length_replicate] at hi
  rw [balL_get hi]
  simp [List.getD, hi, bal]
def isF (A : List T3) (f : List Int) : Prop := f.length = A.length ∧ ∀ i, i < f.length → 0 ≤ f.getD i 0 ∧ f.getD i 0 ≤ cpy A i
theorem bal_bd {A : List T3} {f : List Int} {v : Int} : ∀ {c : Nat}, (∀ i, i < c → 0 ≤ f.getD i 0 ∧ f.getD i 0 ≤ 1000000) → -(1000000 * (c : Int)) ≤ bal A f v c ∧ bal A f v c ≤ 1000000 * c
  | 0, _ => by simp [bal]
  | c + 1, h => by
    have := bal_bd (A := A) (v := v) (c := c) (fun i hi => h i (by omega))
    have := h c (by omega)
    simp only [bal]
    split <;> split <;> omega
theorem set_getD' {l : List Int} {i j : Nat} {x : Int} (hi : i < l.length) : (l.set i x).getD j 0 = if i = j then x else l.getD j 0 := by
  simp only [List.getD]
  rw [List.getElem?_set]
  by_cases e : i = j
  · subst e; rw [if_pos rfl, if_pos rfl, if_pos hi]; rfl
  · rw [if_neg e, if_neg e]
theorem balL_set {N : Nat} {A : List T3} {f : List Int} {c : Nat} (hf : 0 ≤ frm A c ∧ frm A c < N) (ht : 0 ≤ too A c ∧ too A c < N) (hn : frm A c ≠ too A c) :
    ((balL N A f c).set (frm A c).toNat (bal A f (frm A c) c - f.getD c 0)).set (too A c).toNat (bal A f (too A c) c + f.getD c 0) = balL N A f (c + 1) := by
  refine ext_getD 0 (by rw [List.length_set, List.length_set, balL_len, balL_len]) fun i hi => ?_
  rw [List.length_set, List.length_set, balL_len] at hi
  rw [set_getD' (by rw [List.length_set, balL_len]; omega), set_getD' (by rw [balL_len]; omega), balL_get hi, balL_get hi]
  simp only [bal]
  by_cases h1 : (too A c).toNat = i
  · have e1 : too A c = (i : Int) := by omega
    have e2 : frm A c ≠ (i : Int) := by omega
    rw [if_pos h1, if_pos e1, if_neg e2, e1]; omega
  · by_cases h2 : (frm A c).toNat = i
    · have e1 : too A c ≠ (i : Int) := by omega
      have e2 : frm A c = (i : Int) := by omega
      rw [if_neg h1, if_pos h2, if_neg e1, if_pos e2, e2]; omega
    · have e1 : too A c ≠ (i : Int) := by omega
      have e2 : frm A c ≠ (i : Int) := by omega
      rw [if_neg h1, if_neg h2, if_neg e1, if_neg e2]; omega
def midZ (N : Nat) (A : List T3) (f : List Int) : Prop := ∀ v : Nat, 1 ≤ v → v + 1 < N → bal A f v A.length = 0
def isW (N : Nat) (A : List T3) (f : List Int) : Prop := isF A f ∧ midZ N A f
open Classical in noncomputable def wV (N : Nat) (A : List T3) (f : List Int) : Int := if isW N A f then -bal A f 0 A.length else 0

/-! ### cuts -/
def sdOk (N : Nat) (s : List Bool) : Prop := s.length = N ∧ s.getD 0 false = true ∧ s.getD (N - 1) false = false
def cutTo (A : List T3) (s : List Bool) : Nat → Int
  | 0 => 0
  | c + 1 => cutTo A s c + if s.getD (frm A c).toNat false = true ∧ s.getD (too A c).toNat false = false then cpy A c else 0
theorem cutTo_bd {A : List T3} {s : List Bool} : ∀ {c : Nat}, (∀ i, i < c → 0 ≤ cpy A i ∧ cpy A i ≤ 1000000) → 0 ≤ cutTo A s c ∧ cutTo A s c ≤ 1000000 * c
  | 0, _ => by simp [cutTo]
  | c + 1, h => by
    have := cutTo_bd (A := A) (s := s) (c := c) (fun i hi => h i (by omega))
    have := h c (by omega)
    simp only [cutTo]
    split <;> omega
open Classical in noncomputable def cutV (N : Nat) (A : List T3) (s : List Bool) : Int := if sdOk N s then cutTo A s A.length else 0

/-! ### what is reached -/
def Edg (A : List T3) (f : List Int) (u v : Int) (i : Nat) : Prop := (frm A i = u ∧ too A i = v ∧ f.getD i 0 < cpy A i) ∨ (too A i = u ∧ frm A i = v ∧ 0 < f.getD i 0)
inductive Rch (A : List T3) (f : List Int) : Int → Prop
  | z : Rch A f 0
  | s {u v : Int} {i : Nat} : Rch A f u → i < A.length → Edg A f u v i → Rch A f v
open Classical in noncomputable def rchL (N : Nat) (A : List T3) (f : List Int) : List Bool := mk N fun v : Nat => tf (Rch A f v)
theorem rchL_len (N : Nat) (A : List T3) (f : List Int) : (rchL N A f).length = N := mk_len _ _

def cntF : List Bool → Nat
  | [] => 0
  | b :: l => cntF l + if b then 0 else 1
theorem cntF_set : ∀ {l : List Bool} {t : Nat}, t < l.length → l.getD t false = false → cntF (l.set t true) + 1 = cntF l
  | [], t, h, _ => by simp at h
  | b :: l, 0, _, h => by
    have : b = false := h
    subst this
    simp [cntF]
  | b :: l, t + 1, h, h2 => by
    have := cntF_set (l := l) (t := t) (by simpa using h) (by simpa using h2)
    simp only [List.set_cons_succ, cntF]; omega
theorem cntF_le : ∀ (l : List Bool), cntF l ≤ l.length
  | [] => Nat.le_refl _
  | b :: l => by
    have := cntF_le l
    simp only [cntF, List.length_cons]; split <;> omega
theorem setB_getD {l : List Bool} {i j : Nat} {x : Bool} (hi : i < l.length) : (l.set i x).getD j false = if i = j then x else l.getD j false := by
  simp only [List.getD]
  rw [List.getElem?_set]
  by_cases e : i = j
  · subst e; rw [if_pos rfl, if_pos rfl, if_pos hi]; rfl
  · rw [if_neg e, if_neg e]

structure RM (N : Nat) (A : List T3) (f : List Int) (M : List Bool) : Prop where
  len : M.length = N
  rch : ∀ u : Nat, M.getD u false = true → Rch A f u
  zero : M.getD 0 false = true
theorem RM.set {N : Nat} {A : List T3} {f : List Int} {M : List Bool} {t : Nat} (h : RM N A f M) (ht : t < N) (hr : Rch A f t) : RM N A f (M.set t true) :=
  ⟨by rw [List.length_set]; exact h.len, fun u hu => by
    rw [setB_getD (by rw [h.len]; exact ht)] at hu
    by_cases e : t = u
    · subst e; exact hr
    · rw [if_neg e] at hu; exact h.rch u hu, by
    rw [setB_getD (by rw [h.len]; exact ht)]
    split
    · rfl
    · exact h.zero⟩
theorem RM.done {N : Nat} {A : List T3} {f : List Int} {M : List Bool} (h : RM N A f M) (hk : NetOk N A) (hc : ∀ i, i < A.length → ∀ u v : Int, M.getD u.toNat false = true → Edg A f u v i → M.getD v.toNat false = true) : M = rchL N A f := by
  have all : ∀ v, Rch A f v → M.getD v.toNat false = true := by
    intro v hv
    induction hv with
    | z => exact h.zero
    | s _ hi he ih => exact hc _ hi _ _ ih he
  apply List.ext_getElem?
  intro i
  by_cases hi : i < N
  · have e1 : (rchL N A f).getD i false = tf (Rch A f (i : Int)) := mk_get false hi
    have e2 : M.getD i false = (rchL N A f).getD i false := by
      rw [e1]
      by_cases hm : M.getD i false = true
      · rw [hm, tf_t (h.rch i hm)]
      · rw [tf_f (fun hr => hm (by have := all _ hr; simpa using this))]; simpa using hm
    simp only [List.getD] at e2
    rw [List.getElem?_eq_getElem (by rw [h.len]; exact hi), List.getElem?_eq_getElem (by rw [rchL_len]; exact hi)] at e2 ⊢
    simpa using e2
  · rw [List.getElem?_eq_none (by rw [h.len]; omega), List.getElem?_eq_none (by rw [rchL_len]; omega)]

/-- the search with a stack; X: the node that is looked at -/
structure RI (N : Nat) (A : List T3) (f : List Int) (M : List Bool) (st : List Int) (X : Int → Prop) : Prop where
  rm : RM N A f M
  stk : ∀ u ∈ st, 0 ≤ u ∧ u < N ∧ M.getD u.toNat false = true
  cls : ∀ u : Int, 0 ≤ u → u < N → M.getD u.toNat false = true → u ∉ st → ¬ X u → ∀ i, i < A.length → ∀ t, Edg A f u t i → M.getD t.toNat false = true
theorem RI.push {N : Nat} {A : List T3} {f : List Int} {M : List Bool} {st : List Int} {X : Int → Prop} {t : Int} (h : RI N A f M st X) (h0 : 0 ≤ t) (ht : t < N) (hr : Rch A f t) : RI N A f (M.set t.toNat true) (st ++ [t]) X := by
  have hl : t.toNat < M.length := by rw [h.rm.len]; omega
  have mono : ∀ j, M.getD j false = true → (M.set t.toNat true).getD j false = true := fun j hj => by
    rw [setB_getD hl]; split
    · rfl
    · exact hj
  refine ⟨h.rm.set (by omega) (by rw [show ((t.toNat : Nat) : Int) = t by omega]; exact hr), fun u hu => ?_, fun u h1 h2 h3 h4 h5 i hi q hq => ?_⟩
  · rcases List.mem_append.1 hu with hu | hu
    · have := h.stk u hu; exact ⟨this.1, this.2.1, mono _ this.2.2⟩
    · rw [List.mem_singleton] at hu; subst hu
      exact ⟨h0, ht, by rw [setB_getD hl, if_pos rfl]⟩
  · rw [setB_getD hl] at h3
    have hne : t ≠ u := fun e => h4 (by subst e; simp)
    rw [if_neg (by omega)] at h3
    exact mono _ (h.cls u h1 h2 h3 (fun hm => h4 (List.mem_append_left _ hm)) h5 i hi q hq)
theorem RI.pop {N : Nat} {A : List T3} {f : List Int} {M : List Bool} {st : List Int} {v : Int} (h : RI N A f M (st ++ [v]) fun _ => False) : RI N A f M st fun u => u = v :=
  ⟨h.rm, fun u hu => h.stk u (List.mem_append_left _ hu), fun u h1 h2 h3 h4 h5 => h.cls u h1 h2 h3 (fun hm => by
    rcases List.mem_append.1 hm with hm | hm
    · exact h4 hm
    · exact h5 (by simpa using hm)) (fun h => h)⟩
theorem RI.shut {N : Nat} {A : List T3} {f : List Int} {M : List Bool} {st : List Int} {v : Int} (h : RI N A f M st fun u => u = v) (hv : ∀ i, i < A.length → ∀ t, Edg A f v t i → M.getD t.toNat false = true) : RI N A f M st fun _ => False :=
  ⟨h.rm, h.stk, fun u h1 h2 h3 h4 _ => by
    by_cases e : u = v
    · subst e; exact hv
    · exact h.cls u h1 h2 h3 h4 e⟩
theorem edg_rng {N : Nat} {A : List T3} {f : List Int} {u v : Int} {i : Nat} (hk : NetOk N A) (hi : i < A.length) (h : Edg A f u v i) : (0 ≤ u ∧ u < N) ∧ 0 ≤ v ∧ v < N := by
  have := hk.arc i hi
  unfold Edg at h
  omega
theorem RI.done {N : Nat} {A : List T3} {f : List Int} {M : List Bool} (h : RI N A f M [] fun _ => False) (hk : NetOk N A) : M = rchL N A f :=
  h.rm.done hk fun i hi u v hu he => h.cls u (edg_rng hk hi he).1.1 (edg_rng hk hi he).1.2 hu (by simp) (fun h => h) i hi v he
theorem RI.start {N : Nat} {A : List T3} {f : List Int} (hk : NetOk N A) : RI N A f ((List.replicate N false).set 0 true) [0] (fun _ => False) ∧ cntF ((List.replicate N false).set 0 true) + 1 = N := by
  have h2 := hk.n2
  have hg : ∀ j, ((List.replicate N false).set 0 true).getD j false = if 0 = j then true else false := fun j => by
    rw [setB_getD (by simp; omega)]
    split
    · rfl
    · simp only [List.getD]; rw [List.getElem?_replicate]; split <;> rfl
  refine ⟨⟨⟨by simp, fun u hu => ?_, by rw [hg]; rfl⟩, fun u hu => ?_, fun u h1 h2 h3 h4 _ => ?_⟩, ?_⟩
  · rw [hg] at hu
    by_cases e : 0 = u
    · subst e; exact Rch.z
    · rw [if_neg e] at hu; cases hu
  · rw [List.mem_singleton] at hu; subst hu
    exact ⟨by omega, by omega, by rw [hg]; rfl⟩
  · rw [hg] at h3
    by_cases e : 0 = u.toNat
    · exact absurd (by rw [List.mem_singleton]; omega) h4
    · rw [if_neg e] at h3; cases h3
  · have e : cntF (List.replicate N false) = N := by
      have : ∀ n, cntF (List.replicate n false) = n := fun n => by
        induction n with
        | zero => rfl
        | succ n ih => rw [List.replicate_succ]; simp only [cntF, ih]; rfl
      exact this N
    have := cntF_set (l := List.replicate N false) (t := 0) (by simp; omega) (by simp only [List.getD]; rw [List.getElem?_replicate]; split <;> rfl)
    omega
/-! ### cuts of slices with a bound by a sum -/
theorem VS.cutHI {P : Program} {w : World} {v : Value} {t e : TypeId} {s n : Nat} {xs : List Value} {h : Nat} {j : Int} {K : Value → Prop} (hj : j = (h : Int)) (ht : P.underlying t = some (.slice e)) (hs : P.cellsOf e = s) (hs0 : s ≠ 0) (H : Sl s w v n xs) (hh : h ≤ n) (hk : K (view v s 0 h)) : VS P (Instr.sliceAt t v none (some (.int .i64 j)) none) w K := by
  subst hj; exact VS.cutH ht hs hs0 H hh hk
theorem VS.cutLHI {P : Program} {w : World} {v : Value} {t e : TypeId} {s n : Nat} {xs : List Value} {l h : Nat} {i j : Int} {K : Value → Prop} (hi : i = (l : Int)) (hj : j = (h : Int)) (ht : P.underlying t = some (.slice e)) (hs : P.cellsOf e = s) (hs0 : s ≠ 0) (H : Sl s w v n xs) (hl : l ≤ h) (hh : h ≤ n) (hk : K (view v s l h)) : VS P (Instr.sliceAt t v (some (.int .i64 i)) (some (.int .i64 j)) none) w K := by
  subst hi hj; exact VS.cutLH ht hs hs0 H hl hh hk
end Go.Proofs.Ytpdldifklgpikaa
set_option linter.unusedVariables false
set_option linter.unusedSimpArgs false
namespace Go.Proofs.Ytpdldifklgpikaa
open Go.Eng
set_option maxRecDepth 100000
set_option maxHeartbeats 4000000

theorem eArc : Elem Try.prog 56 (.agg #[.int .i64 0, .int .i64 0, .int .i64 0]) 3 24 := by unfold Elem; kernel_rfl
theorem eBool : Elem Try.prog 4 (.bool false) 1 1 := by unfold Elem; kernel_rfl

theorem arcbad_pc {w : World} {n : Int} {x : T3} {b : Nat} {sv : Value} (Hb : At w ⟨b, 0, none⟩ [.int .i64 n, sv]) : PC Try.prog 37 [.agg #[.int .i64 x.1, .int .i64 x.2.1, .int .i64 x.2.2], .pointer (some ⟨b, 0, none⟩)] w (.bool (tf (badX n x))) := by
  refine PC.mk tyOk Try.func37 rfl (by kernel_rfl) fun w1 E1 => ?_
  replace Hb := Hb.ext E1
  have EE := Ext.refl w1
  refine Bx.agg fun b2 w2 E2 hb2 Hx _ => ?_
  replace Hb := Hb.ext E2
  replace EE := EE.ext E2
  repeat' (conv => whnf
           first
           | (refine Dr.quiet tyOk (by kernel_rfl) ?_)
           | (refine Rng.mk (by omega) ?_)
           | (refine Split.pos (by omega) ?_)
           | (refine Split.neg (by omega) ?_)
           | (refine Split.mk (fun h => ?_) (fun h => ?_))
           | (refine Need.mk (by omega) ?_)
           | (refine Ints.ln (by assumption) ?_)
           | (refine Mat.ln (by assumption) ?_)
           | (refine Ints.ln (Mat.row (by assumption) _ (by omega)) ?_)
           | (refine Ints.ix (by assumption) (by omega) ?_)
           | (refine Mat.ix (by assumption) (by omega) ?_)
           | (refine Ints.ix (Mat.row (by assumption) _ (by omega)) (by omega) ?_)
           | (refine Ints.ix (c := 0) (by assumption) (by omega) ?_)
           | (refine Mat.ix (c := 0) (by assumption) (by omega) ?_)
           | (refine Ints.ix (c := 0) (Mat.row (by assumption) _ (by omega)) (by omega) ?_)
           | (refine Ints.ixI (by assumption) (by omega) ?_)
           | (refine Mat.ixI (by assumption) (by omega) ?_)
           | (refine Ints.ixI (Mat.row (by assumption) _ (by omega)) (by omega) ?_)
           | (refine Ints.ld (by assumption) (by omega) ?_)
           | (refine Mat.ld (by assumption) (by omega) ?_)
           | (refine Ints.ld (Mat.row (by assumption) _ (by omega)) (by omega) ?_)
           | (refine At.ld (by assumption) rfl ?_)
           | (refine At.ldN (by assumption) rfl ?_)
           | (refine Prs.ln (by assumption) ?_)
           | (refine Trs.ln (by assumption) ?_)
           | (refine Prs.ix (by assumption) (by omega) ?_)
           | (refine Trs.ix (by assumption) (by omega) ?_)
           | (refine Prs.ldN (by assumption) (by omega) ?_)
           | (refine Trs.ldN (by assumption) (by omega) ?_)
           | (refine At.ldN (Blk.at (by assumption)) rfl ?_)
           | (refine At.ld (Blk.at (by assumption)) rfl ?_)
           | (refine IxA.mk (by omega) ?_)
           | (refine Sl.ln (Own.sl (by assumption)) ?_)
           | (refine Ints.ix (Own.sl (by assumption)) (by omega) ?_)
           | (refine Ints.ixI (Own.sl (by assumption)) (by omega) ?_)
           | (refine Ints.ld (Own.sl (by assumption)) (by omega) ?_))
  all_goals first
    | (rw [tf_t (p := badX n x) (by unfold badX; omega)]; exact ⟨rfl, EE⟩)
    | (rw [tf_f (p := badX n x) (by unfold badX; omega)]; exact ⟨rfl, EE⟩)

theorem indexfuncA_pc {w : World} {sv : Value} {A : List T3} {g : FuncId} {cap : List Value} {p : Nat → Bool} (Hs : Trs w sv A) (hf : ∀ i, i < A.length → PC Try.prog g (.agg #[.int .i64 (A.getD i (0, 0, 0)).1, .int .i64 (A.getD i (0, 0, 0)).2.1, .int .i64 (A.getD i (0, 0, 0)).2.2] :: cap) w (.bool (p i))) :
    PC Try.prog 45 [sv, .func (.func g) #[] cap.toArray] w (.int .i64 (firstFrom p A.length 0)) := by
  refine PC.mk tyOk Try.func45 rfl (by kernel_rfl) fun w1 E1 => ?_
  replace Hs := Hs.ext E1
  replace hf := fun i hi => (hf i hi).ext E1
  have hle := Hs.le
  repeat' (conv => whnf
           first
           | (refine Dr.quiet tyOk (by kernel_rfl) ?_)
           | (refine Trs.ln (by assumption) ?_)
           | (refine Rng.mk (by omega) ?_)
           | (refine Split.pos (by omega) ?_)
           | (refine Split.neg (by omega) ?_)
           | (refine Split.mk (fun h => ?_) (fun h => ?_))
           | (refine Need.mk (by omega) ?_)
           | (refine Ints.ln (by assumption) ?_)
           | (refine Mat.ln (by assumption) ?_)
           | (refine Ints.ln (Mat.row (by assumption) _ (by omega)) ?_)
           | (refine Ints.ix (by assumption) (by omega) ?_)
           | (refine Mat.ix (by assumption) (by omega) ?_)
           | (refine Ints.ix (Mat.row (by assumption) _ (by omega)) (by omega) ?_)
           | (refine Ints.ix (c := 0) (by assumption) (by omega) ?_)
           | (refine Mat.ix (c := 0) (by assumption) (by omega) ?_)
           | (refine Ints.ix (c := 0) (Mat.row (by assumption) _ (by omega)) (by omega) ?_)
           | (refine Ints.ixI (by assumption) (by omega) ?_)
           | (refine Mat.ixI (by assumption) (by omega) ?_)
           | (refine Ints.ixI (Mat.row (by assumption) _ (by omega)) (by omega) ?_)
           | (refine Ints.ld (by assumption) (by omega) ?_)
           | (refine Mat.ld (by assumption) (by omega) ?_)
           | (refine Ints.ld (Mat.row (by assumption) _ (by omega)) (by omega) ?_)
           | (refine At.ld (by assumption) rfl ?_)
           | (refine At.ldN (by assumption) rfl ?_))
  refine Lp.mk tyOk [false, false, false, false, true, true, false, false, true, true, true, true, true, true, true, true, true, true, true] (fun m fr wr => getK fr 8 fun j => ∃ c : Nat, c ≤ A.length ∧ m = A.length - c ∧ j = .int .i64 (c : Int) ∧ firstFrom p A.length 0 = firstFrom p (A.length - c) c ∧ wr = w1) A.length ?_ ?_
  · exact ⟨0, Nat.zero_le _, rfl, rfl, rfl, rfl⟩
  · intro m w3 u4 u5 u8 u9 u10 u11 u12 u13 u14 u15 u16 u17 u18 hR
    obtain ⟨c, hc, rfl, rfl, he, rfl⟩ := hR
    by_cases hlt : c < A.length
    · have hs : firstFrom p (A.length - c) c = if p c = true then (c : Int) else firstFrom p (A.length - (c + 1)) (c + 1) := by rw [show A.length - c = (A.length - (c + 1)) + 1 by omega]; rfl
      have hfc := hf c hlt
      cases hp : p c with
      | true =>
        rw [hp] at hfc hs
        repeat' (conv => whnf
                 first
                 | (refine Dr.quiet tyOk (by kernel_rfl) ?_)
                 | (refine Trs.ix (by assumption) (by omega) ?_)
                 | (refine Trs.ldN (by assumption) (by omega) ?_)
                 | (refine VC.pure hfc ?_)
                 | (refine Rng.mk (by omega) ?_)
                 | (refine Split.pos (by omega) ?_)
                 | (refine Split.neg (by omega) ?_)
                 | (refine Split.mk (fun h => ?_) (fun h => ?_))
                 | (refine Need.mk (by omega) ?_)
                 | (refine Ints.ln (by assumption) ?_)
                 | (refine Mat.ln (by assumption) ?_)
                 | (refine Ints.ln (Mat.row (by assumption) _ (by omega)) ?_)
                 | (refine Ints.ix (by assumption) (by omega) ?_)
                 | (refine Mat.ix (by assumption) (by omega) ?_)
                 | (refine Ints.ix (Mat.row (by assumption) _ (by omega)) (by omega) ?_)
                 | (refine Ints.ix (c := 0) (by assumption) (by omega) ?_)
                 | (refine Mat.ix (c := 0) (by assumption) (by omega) ?_)
                 | (refine Ints.ix (c := 0) (Mat.row (by assumption) _ (by omega)) (by omega) ?_)
                 | (refine Ints.ixI (by assumption) (by omega) ?_)
                 | (refine Mat.ixI (by assumption) (by omega) ?_)
                 | (refine Ints.ixI (Mat.row (by assumption) _ (by omega)) (by omega) ?_)
                 | (refine Ints.ld (by assumption) (by omega) ?_)
                 | (refine Mat.ld (by assumption) (by omega) ?_)
                 | (refine Ints.ld (Mat.row (by assumption) _ (by omega)) (by omega) ?_)
                 | (refine At.ld (by assumption) rfl ?_)
                 | (refine At.ldN (by assumption) rfl ?_))
        rw [he, hs]; exact ⟨rfl, Ext.refl _⟩
      | false =>
        rw [hp] at hfc hs
        repeat' (conv => whnf
                 first
                 | (refine Dr.quiet tyOk (by kernel_rfl) ?_)
                 | (refine Trs.ix (by assumption) (by omega) ?_)
                 | (refine Trs.ldN (by assumption) (by omega) ?_)
                 | (refine VC.pure hfc ?_)
                 | (refine Rng.mk (by omega) ?_)
                 | (refine Split.pos (by omega) ?_)
                 | (refine Split.neg (by omega) ?_)
                 | (refine Split.mk (fun h => ?_) (fun h => ?_))
                 | (refine Need.mk (by omega) ?_)
                 | (refine Ints.ln (by assumption) ?_)
                 | (refine Mat.ln (by assumption) ?_)
                 | (refine Ints.ln (Mat.row (by assumption) _ (by omega)) ?_)
                 | (refine Ints.ix (by assumption) (by omega) ?_)
                 | (refine Mat.ix (by assumption) (by omega) ?_)
                 | (refine Ints.ix (Mat.row (by assumption) _ (by omega)) (by omega) ?_)
                 | (refine Ints.ix (c := 0) (by assumption) (by omega) ?_)
                 | (refine Mat.ix (c := 0) (by assumption) (by omega) ?_)
                 | (refine Ints.ix (c := 0) (Mat.row (by assumption) _ (by omega)) (by omega) ?_)
                 | (refine Ints.ixI (by assumption) (by omega) ?_)
                 | (refine Mat.ixI (by assumption) (by omega) ?_)
                 | (refine Ints.ixI (Mat.row (by assumption) _ (by omega)) (by omega) ?_)
                 | (refine Ints.ld (by assumption) (by omega) ?_)
                 | (refine Mat.ld (by assumption) (by omega) ?_)
                 | (refine Ints.ld (Mat.row (by assumption) _ (by omega)) (by omega) ?_)
                 | (refine At.ld (by assumption) rfl ?_)
                 | (refine At.ldN (by assumption) rfl ?_))
        exact ⟨_, (by omega : A.length - (c + 1) < A.length - c), rfl, c + 1, by omega, rfl, rfl, by rw [he, hs]; rfl, rfl⟩
    · obtain rfl : c = A.length := by omega
      repeat' (conv => whnf
               first
               | (refine Dr.quiet tyOk (by kernel_rfl) ?_)
               | (refine Rng.mk (by omega) ?_)
               | (refine Split.pos (by omega) ?_)
               | (refine Split.neg (by omega) ?_)
               | (refine Split.mk (fun h => ?_) (fun h => ?_))
               | (refine Need.mk (by omega) ?_)
               | (refine Ints.ln (by assumption) ?_)
               | (refine Mat.ln (by assumption) ?_)
               | (refine Ints.ln (Mat.row (by assumption) _ (by omega)) ?_)
               | (refine Ints.ix (by assumption) (by omega) ?_)
               | (refine Mat.ix (by assumption) (by omega) ?_)
               | (refine Ints.ix (Mat.row (by assumption) _ (by omega)) (by omega) ?_)
               | (refine Ints.ix (c := 0) (by assumption) (by omega) ?_)
               | (refine Mat.ix (c := 0) (by assumption) (by omega) ?_)
               | (refine Ints.ix (c := 0) (Mat.row (by assumption) _ (by omega)) (by omega) ?_)
               | (refine Ints.ixI (by assumption) (by omega) ?_)
               | (refine Mat.ixI (by assumption) (by omega) ?_)
               | (refine Ints.ixI (Mat.row (by assumption) _ (by omega)) (by omega) ?_)
               | (refine Ints.ld (by assumption) (by omega) ?_)
               | (refine Mat.ld (by assumption) (by omega) ?_)
               | (refine Ints.ld (Mat.row (by assumption) _ (by omega)) (by omega) ?_)
               | (refine At.ld (by assumption) rfl ?_)
               | (refine At.ldN (by assumption) rfl ?_))
      rw [he, Nat.sub_self]; exact ⟨rfl, Ext.refl _⟩

theorem containsfuncA_pc {w : World} {sv : Value} {A : List T3} {g : FuncId} {cap : List Value} {p : Nat → Bool} (Hs : Trs w sv A) (hf : ∀ i, i < A.length → PC Try.prog g (.agg #[.int .i64 (A.getD i (0, 0, 0)).1, .int .i64 (A.getD i (0, 0, 0)).2.1, .int .i64 (A.getD i (0, 0, 0)).2.2] :: cap) w (.bool (p i))) :
    PC Try.prog 36 [sv, .func (.func g) #[] cap.toArray] w (.bool (tf (∃ i, i < A.length ∧ p i = true))) := by
  refine PC.mk tyOk Try.func36 rfl (by kernel_rfl) fun w1 E1 => ?_
  replace Hs := Hs.ext E1
  replace hf := fun i hi => (hf i hi).ext E1
  have hs := firstFrom_spec p A.length 0
  repeat' (conv => whnf
           first
           | (refine Dr.quiet tyOk (by kernel_rfl) ?_)
           | (refine VC.pure (indexfuncA_pc Hs hf) ?_)
           | (refine Rng.mk (by omega) ?_)
           | (refine Split.pos (by omega) ?_)
           | (refine Split.neg (by omega) ?_)
           | (refine Split.mk (fun h => ?_) (fun h => ?_))
           | (refine Need.mk (by omega) ?_)
           | (refine Ints.ln (by assumption) ?_)
           | (refine Mat.ln (by assumption) ?_)
           | (refine Ints.ln (Mat.row (by assumption) _ (by omega)) ?_)
           | (refine Ints.ix (by assumption) (by omega) ?_)
           | (refine Mat.ix (by assumption) (by omega) ?_)
           | (refine Ints.ix (Mat.row (by assumption) _ (by omega)) (by omega) ?_)
           | (refine Ints.ix (c := 0) (by assumption) (by omega) ?_)
           | (refine Mat.ix (c := 0) (by assumption) (by omega) ?_)
           | (refine Ints.ix (c := 0) (Mat.row (by assumption) _ (by omega)) (by omega) ?_)
           | (refine Ints.ixI (by assumption) (by omega) ?_)
           | (refine Mat.ixI (by assumption) (by omega) ?_)
           | (refine Ints.ixI (Mat.row (by assumption) _ (by omega)) (by omega) ?_)
           | (refine Ints.ld (by assumption) (by omega) ?_)
           | (refine Mat.ld (by assumption) (by omega) ?_)
           | (refine Ints.ld (Mat.row (by assumption) _ (by omega)) (by omega) ?_)
           | (refine At.ld (by assumption) rfl ?_)
           | (refine At.ldN (by assumption) rfl ?_))
  · rw [tf_t (p := ∃ i, i < A.length ∧ p i = true) (by
      rcases hs with ⟨j, h1, h2, h3, _⟩ | ⟨h1, _⟩
      · exact ⟨j, by omega, h3⟩
      · omega)]; exact ⟨rfl, Ext.refl _⟩
  · rw [tf_f (p := ∃ i, i < A.length ∧ p i = true) (by
      rintro ⟨i, hi, hp⟩
      rcases hs with ⟨j, h1, h2, h3, h4, _⟩ | ⟨_, h2⟩
      · omega
      · have := h2 i (by omega) (by omega); rw [hp] at this; cases this)]; exact ⟨rfl, Ext.refl _⟩

theorem gnet_pc {w : World} {n : Int} {sv : Value} {A : List T3} (HA : Trs w sv A) : PC Try.prog 15 [.agg #[.int .i64 n, sv]] w (.int .i64 (netE n A)) := by
  refine PC.mk tyOk Try.func15 rfl (by kernel_rfl) fun w1 E1 => ?_
  replace HA := HA.ext E1
  have EE := Ext.refl w1
  refine Bx.agg fun b2 w2 E2 hb2 Hb _ => ?_
  replace HA := HA.ext E2
  replace EE := EE.ext E2
  have hle := HA.le
  have cc := containsfuncA_pc (g := 37) (cap := [.pointer (some ⟨b2, 0, none⟩)]) (p := fun i => tf (badX n (A.getD i (0, 0, 0)))) HA (fun i hi => arcbad_pc Hb)
  have hex : (∃ i, i < A.length ∧ tf (badX n (A.getD i (0, 0, 0))) = true) ↔ ∃ i, i < A.length ∧ badX n (A.getD i (0, 0, 0)) := by
    constructor
    · rintro ⟨i, hi, h⟩
      refine ⟨i, hi, Classical.byContradiction fun hn => ?_⟩
      rw [tf_f hn] at h; cases h
    · rintro ⟨i, hi, h⟩; exact ⟨i, hi, tf_t h⟩
  by_cases hm : 40 < n ∨ 200 < A.length
  · rw [netE_many hm]
    repeat' (conv => whnf
             first
             | (refine Dr.quiet tyOk (by kernel_rfl) ?_)
             | (refine Rng.mk (by omega) ?_)
             | (refine Split.pos (by omega) ?_)
             | (refine Split.neg (by omega) ?_)
             | (refine Split.mk (fun h => ?_) (fun h => ?_))
             | (refine Need.mk (by omega) ?_)
             | (refine Ints.ln (by assumption) ?_)
             | (refine Mat.ln (by assumption) ?_)
             | (refine Ints.ln (Mat.row (by assumption) _ (by omega)) ?_)
             | (refine Ints.ix (by assumption) (by omega) ?_)
             | (refine Mat.ix (by assumption) (by omega) ?_)
             | (refine Ints.ix (Mat.row (by assumption) _ (by omega)) (by omega) ?_)
             | (refine Ints.ix (c := 0) (by assumption) (by omega) ?_)
             | (refine Mat.ix (c := 0) (by assumption) (by omega) ?_)
             | (refine Ints.ix (c := 0) (Mat.row (by assumption) _ (by omega)) (by omega) ?_)
             | (refine Ints.ixI (by assumption) (by omega) ?_)
             | (refine Mat.ixI (by assumption) (by omega) ?_)
             | (refine Ints.ixI (Mat.row (by assumption) _ (by omega)) (by omega) ?_)
             | (refine Ints.ld (by assumption) (by omega) ?_)
             | (refine Mat.ld (by assumption) (by omega) ?_)
             | (refine Ints.ld (Mat.row (by assumption) _ (by omega)) (by omega) ?_)
             | (refine At.ld (by assumption) rfl ?_)
             | (refine At.ldN (by assumption) rfl ?_)
             | (refine Prs.ln (by assumption) ?_)
             | (refine Trs.ln (by assumption) ?_)
             | (refine Prs.ix (by assumption) (by omega) ?_)
             | (refine Trs.ix (by assumption) (by omega) ?_)
             | (refine Prs.ldN (by assumption) (by omega) ?_)
             | (refine Trs.ldN (by assumption) (by omega) ?_)
             | (refine At.ldN (Blk.at (by assumption)) rfl ?_)
             | (refine At.ld (Blk.at (by assumption)) rfl ?_)
             | (refine IxA.mk (by omega) ?_)
             | (refine Sl.ln (Own.sl (by assumption)) ?_)
             | (refine Ints.ix (Own.sl (by assumption)) (by omega) ?_)
             | (refine Ints.ixI (Own.sl (by assumption)) (by omega) ?_)
             | (refine Ints.ld (Own.sl (by assumption)) (by omega) ?_))
    all_goals exact ⟨rfl, EE⟩
  · by_cases hb : ∃ i, i < A.length ∧ badX n (A.getD i (0, 0, 0))
    · rw [tf_t (hex.2 hb)] at cc
      rw [netE_bad hm (.inr hb)]
      repeat' (conv => whnf
               first
               | (refine Dr.quiet tyOk (by kernel_rfl) ?_)
               | (refine VC.pure cc ?_)
               | (refine Rng.mk (by omega) ?_)
               | (refine Split.pos (by omega) ?_)
               | (refine Split.neg (by omega) ?_)
               | (refine Split.mk (fun h => ?_) (fun h => ?_))
               | (refine Need.mk (by omega) ?_)
               | (refine Ints.ln (by assumption) ?_)
               | (refine Mat.ln (by assumption) ?_)
               | (refine Ints.ln (Mat.row (by assumption) _ (by omega)) ?_)
               | (refine Ints.ix (by assumption) (by omega) ?_)
               | (refine Mat.ix (by assumption) (by omega) ?_)
               | (refine Ints.ix (Mat.row (by assumption) _ (by omega)) (by omega) ?_)
               | (refine Ints.ix (c := 0) (by assumption) (by omega) ?_)
               | (refine Mat.ix (c := 0) (by assumption) (by omega) ?_)
               | (refine Ints.ix (c := 0) (Mat.row (by assumption) _ (by omega)) (by omega) ?_)
               | (refine Ints.ixI (by assumption) (by omega) ?_)
               | (refine Mat.ixI (by assumption) (by omega) ?_)
               | (refine Ints.ixI (Mat.row (by assumption) _ (by omega)) (by omega) ?_)
               | (refine Ints.ld (by assumption) (by omega) ?_)
               | (refine Mat.ld (by assumption) (by omega) ?_)
               | (refine Ints.ld (Mat.row (by assumption) _ (by omega)) (by omega) ?_)
               | (refine At.ld (by assumption) rfl ?_)
               | (refine At.ldN (by assumption) rfl ?_)
               | (refine Prs.ln (by assumption) ?_)
               | (refine Trs.ln (by assumption) ?_)
               | (refine Prs.ix (by assumption) (by omega) ?_)
               | (refine Trs.ix (by assumption) (by omega) ?_)
               | (refine Prs.ldN (by assumption) (by omega) ?_)
               | (refine Trs.ldN (by assumption) (by omega) ?_)
               | (refine At.ldN (Blk.at (by assumption)) rfl ?_)
               | (refine At.ld (Blk.at (by assumption)) rfl ?_)
               | (refine IxA.mk (by omega) ?_)
               | (refine Sl.ln (Own.sl (by assumption)) ?_)
               | (refine Ints.ix (Own.sl (by assumption)) (by omega) ?_)
               | (refine Ints.ixI (Own.sl (by assumption)) (by omega) ?_)
               | (refine Ints.ld (Own.sl (by assumption)) (by omega) ?_))
      all_goals exact ⟨rfl, EE⟩
    · rw [tf_f (fun h => hb (hex.1 h))] at cc
      by_cases h2 : n < 2
      · rw [netE_bad hm (.inl h2)]
        repeat' (conv => whnf
                 first
                 | (refine Dr.quiet tyOk (by kernel_rfl) ?_)
                 | (refine VC.pure cc ?_)
                 | (refine Rng.mk (by omega) ?_)
                 | (refine Split.pos (by omega) ?_)
                 | (refine Split.neg (by omega) ?_)
                 | (refine Split.mk (fun h => ?_) (fun h => ?_))
                 | (refine Need.mk (by omega) ?_)
                 | (refine Ints.ln (by assumption) ?_)
                 | (refine Mat.ln (by assumption) ?_)
                 | (refine Ints.ln (Mat.row (by assumption) _ (by omega)) ?_)
                 | (refine Ints.ix (by assumption) (by omega) ?_)
                 | (refine Mat.ix (by assumption) (by omega) ?_)
                 | (refine Ints.ix (Mat.row (by assumption) _ (by omega)) (by omega) ?_)
                 | (refine Ints.ix (c := 0) (by assumption) (by omega) ?_)
                 | (refine Mat.ix (c := 0) (by assumption) (by omega) ?_)
                 | (refine Ints.ix (c := 0) (Mat.row (by assumption) _ (by omega)) (by omega) ?_)
                 | (refine Ints.ixI (by assumption) (by omega) ?_)
                 | (refine Mat.ixI (by assumption) (by omega) ?_)
                 | (refine Ints.ixI (Mat.row (by assumption) _ (by omega)) (by omega) ?_)
                 | (refine Ints.ld (by assumption) (by omega) ?_)
                 | (refine Mat.ld (by assumption) (by omega) ?_)
                 | (refine Ints.ld (Mat.row (by assumption) _ (by omega)) (by omega) ?_)
                 | (refine At.ld (by assumption) rfl ?_)
                 | (refine At.ldN (by assumption) rfl ?_)
                 | (refine Prs.ln (by assumption) ?_)
                 | (refine Trs.ln (by assumption) ?_)
                 | (refine Prs.ix (by assumption) (by omega) ?_)
                 | (refine Trs.ix (by assumption) (by omega) ?_)
                 | (refine Prs.ldN (by assumption) (by omega) ?_)
                 | (refine Trs.ldN (by assumption) (by omega) ?_)
                 | (refine At.ldN (Blk.at (by assumption)) rfl ?_)
                 | (refine At.ld (Blk.at (by assumption)) rfl ?_)
                 | (refine IxA.mk (by omega) ?_)
                 | (refine Sl.ln (Own.sl (by assumption)) ?_)
                 | (refine Ints.ix (Own.sl (by assumption)) (by omega) ?_)
                 | (refine Ints.ixI (Own.sl (by assumption)) (by omega) ?_)
                 | (refine Ints.ld (Own.sl (by assumption)) (by omega) ?_))
        all_goals exact ⟨rfl, EE⟩
      · rw [netE_ok hm (by rintro (h | h); exact h2 h; exact hb h)]
        repeat' (conv => whnf
                 first
                 | (refine Dr.quiet tyOk (by kernel_rfl) ?_)
                 | (refine VC.pure cc ?_)
                 | (refine Rng.mk (by omega) ?_)
                 | (refine Split.pos (by omega) ?_)
                 | (refine Split.neg (by omega) ?_)
                 | (refine Split.mk (fun h => ?_) (fun h => ?_))
                 | (refine Need.mk (by omega) ?_)
                 | (refine Ints.ln (by assumption) ?_)
                 | (refine Mat.ln (by assumption) ?_)
                 | (refine Ints.ln (Mat.row (by assumption) _ (by omega)) ?_)
                 | (refine Ints.ix (by assumption) (by omega) ?_)
                 | (refine Mat.ix (by assumption) (by omega) ?_)
                 | (refine Ints.ix (Mat.row (by assumption) _ (by omega)) (by omega) ?_)
                 | (refine Ints.ix (c := 0) (by assumption) (by omega) ?_)
                 | (refine Mat.ix (c := 0) (by assumption) (by omega) ?_)
                 | (refine Ints.ix (c := 0) (Mat.row (by assumption) _ (by omega)) (by omega) ?_)
                 | (refine Ints.ixI (by assumption) (by omega) ?_)
                 | (refine Mat.ixI (by assumption) (by omega) ?_)
                 | (refine Ints.ixI (Mat.row (by assumption) _ (by omega)) (by omega) ?_)
                 | (refine Ints.ld (by assumption) (by omega) ?_)
                 | (refine Mat.ld (by assumption) (by omega) ?_)
                 | (refine Ints.ld (Mat.row (by assumption) _ (by omega)) (by omega) ?_)
                 | (refine At.ld (by assumption) rfl ?_)
                 | (refine At.ldN (by assumption) rfl ?_)
                 | (refine Prs.ln (by assumption) ?_)
                 | (refine Trs.ln (by assumption) ?_)
                 | (refine Prs.ix (by assumption) (by omega) ?_)
                 | (refine Trs.ix (by assumption) (by omega) ?_)
                 | (refine Prs.ldN (by assumption) (by omega) ?_)
                 | (refine Trs.ldN (by assumption) (by omega) ?_)
                 | (refine At.ldN (Blk.at (by assumption)) rfl ?_)
                 | (refine At.ld (Blk.at (by assumption)) rfl ?_)
                 | (refine IxA.mk (by omega) ?_)
                 | (refine Sl.ln (Own.sl (by assumption)) ?_)
                 | (refine Ints.ix (Own.sl (by assumption)) (by omega) ?_)
                 | (refine Ints.ixI (Own.sl (by assumption)) (by omega) ?_)
                 | (refine Ints.ld (Own.sl (by assumption)) (by omega) ?_))
        all_goals exact ⟨rfl, EE⟩

theorem rnet_pc {w : World} {n : Int} {sv : Value} {A : List T3} (HA : Trs w sv A) : PC Try.prog 16 [.agg #[.int .i64 n, sv]] w (.int .i64 (netE n A)) := by
  refine PC.mk tyOk Try.func16 rfl (by kernel_rfl) fun w1 E1 => ?_
  replace HA := HA.ext E1
  have EE := Ext.refl w1
  refine Bx.agg fun b2 w2 E2 hb2 Hb _ => ?_
  replace HA := HA.ext E2
  replace EE := EE.ext E2
  have hle := HA.le
  by_cases hm : 40 < n ∨ 200 < A.length
  · rw [netE_many hm]
    repeat' (conv => whnf
             first
             | (refine Dr.quiet tyOk (by kernel_rfl) ?_)
             | (refine Rng.mk (by omega) ?_)
             | (refine Split.pos (by omega) ?_)
             | (refine Split.neg (by omega) ?_)
             | (refine Split.mk (fun h => ?_) (fun h => ?_))
             | (refine Need.mk (by omega) ?_)
             | (refine Ints.ln (by assumption) ?_)
             | (refine Mat.ln (by assumption) ?_)
             | (refine Ints.ln (Mat.row (by assumption) _ (by omega)) ?_)
             | (refine Ints.ix (by assumption) (by omega) ?_)
             | (refine Mat.ix (by assumption) (by omega) ?_)
             | (refine Ints.ix (Mat.row (by assumption) _ (by omega)) (by omega) ?_)
             | (refine Ints.ix (c := 0) (by assumption) (by omega) ?_)
             | (refine Mat.ix (c := 0) (by assumption) (by omega) ?_)
             | (refine Ints.ix (c := 0) (Mat.row (by assumption) _ (by omega)) (by omega) ?_)
             | (refine Ints.ixI (by assumption) (by omega) ?_)
             | (refine Mat.ixI (by assumption) (by omega) ?_)
             | (refine Ints.ixI (Mat.row (by assumption) _ (by omega)) (by omega) ?_)
             | (refine Ints.ld (by assumption) (by omega) ?_)
             | (refine Mat.ld (by assumption) (by omega) ?_)
             | (refine Ints.ld (Mat.row (by assumption) _ (by omega)) (by omega) ?_)
             | (refine At.ld (by assumption) rfl ?_)
             | (refine At.ldN (by assumption) rfl ?_)
             | (refine Prs.ln (by assumption) ?_)
             | (refine Trs.ln (by assumption) ?_)
             | (refine Prs.ix (by assumption) (by omega) ?_)
             | (refine Trs.ix (by assumption) (by omega) ?_)
             | (refine Prs.ldN (by assumption) (by omega) ?_)
             | (refine Trs.ldN (by assumption) (by omega) ?_)
             | (refine At.ldN (Blk.at (by assumption)) rfl ?_)
             | (refine At.ld (Blk.at (by assumption)) rfl ?_)
             | (refine IxA.mk (by omega) ?_)
             | (refine Sl.ln (Own.sl (by assumption)) ?_)
             | (refine Ints.ix (Own.sl (by assumption)) (by omega) ?_)
             | (refine Ints.ixI (Own.sl (by assumption)) (by omega) ?_)
             | (refine Ints.ld (Own.sl (by assumption)) (by omega) ?_))
    all_goals exact ⟨rfl, EE⟩
  · by_cases h2 : n < 2
    · rw [netE_bad hm (.inl h2)]
      repeat' (conv => whnf
               first
               | (refine Dr.quiet tyOk (by kernel_rfl) ?_)
               | (refine Rng.mk (by omega) ?_)
               | (refine Split.pos (by omega) ?_)
               | (refine Split.neg (by omega) ?_)
               | (refine Split.mk (fun h => ?_) (fun h => ?_))
               | (refine Need.mk (by omega) ?_)
               | (refine Ints.ln (by assumption) ?_)
               | (refine Mat.ln (by assumption) ?_)
               | (refine Ints.ln (Mat.row (by assumption) _ (by omega)) ?_)
               | (refine Ints.ix (by assumption) (by omega) ?_)
               | (refine Mat.ix (by assumption) (by omega) ?_)
               | (refine Ints.ix (Mat.row (by assumption) _ (by omega)) (by omega) ?_)
               | (refine Ints.ix (c := 0) (by assumption) (by omega) ?_)
               | (refine Mat.ix (c := 0) (by assumption) (by omega) ?_)
               | (refine Ints.ix (c := 0) (Mat.row (by assumption) _ (by omega)) (by omega) ?_)
               | (refine Ints.ixI (by assumption) (by omega) ?_)
               | (refine Mat.ixI (by assumption) (by omega) ?_)
               | (refine Ints.ixI (Mat.row (by assumption) _ (by omega)) (by omega) ?_)
               | (refine Ints.ld (by assumption) (by omega) ?_)
               | (refine Mat.ld (by assumption) (by omega) ?_)
               | (refine Ints.ld (Mat.row (by assumption) _ (by omega)) (by omega) ?_)
               | (refine At.ld (by assumption) rfl ?_)
               | (refine At.ldN (by assumption) rfl ?_)
               | (refine Prs.ln (by assumption) ?_)
               | (refine Trs.ln (by assumption) ?_)
               | (refine Prs.ix (by assumption) (by omega) ?_)
               | (refine Trs.ix (by assumption) (by omega) ?_)
               | (refine Prs.ldN (by assumption) (by omega) ?_)
               | (refine Trs.ldN (by assumption) (by omega) ?_)
               | (refine At.ldN (Blk.at (by assumption)) rfl ?_)
               | (refine At.ld (Blk.at (by assumption)) rfl ?_)
               | (refine IxA.mk (by omega) ?_)
               | (refine Sl.ln (Own.sl (by assumption)) ?_)
               | (refine Ints.ix (Own.sl (by assumption)) (by omega) ?_)
               | (refine Ints.ixI (Own.sl (by assumption)) (by omega) ?_)
               | (refine Ints.ld (Own.sl (by assumption)) (by omega) ?_))
      all_goals exact ⟨rfl, EE⟩
    · repeat' (conv => whnf
               first
               | (refine Dr.quiet tyOk (by kernel_rfl) ?_)
               | (refine Rng.mk (by omega) ?_)
               | (refine Split.pos (by omega) ?_)
               | (refine Split.neg (by omega) ?_)
               | (refine Split.mk (fun h => ?_) (fun h => ?_))
               | (refine Need.mk (by omega) ?_)
               | (refine Ints.ln (by assumption) ?_)
               | (refine Mat.ln (by assumption) ?_)
               | (refine Ints.ln (Mat.row (by assumption) _ (by omega)) ?_)
               | (refine Ints.ix (by assumption) (by omega) ?_)
               | (refine Mat.ix (by assumption) (by omega) ?_)
               | (refine Ints.ix (Mat.row (by assumption) _ (by omega)) (by omega) ?_)
               | (refine Ints.ix (c := 0) (by assumption) (by omega) ?_)
               | (refine Mat.ix (c := 0) (by assumption) (by omega) ?_)
               | (refine Ints.ix (c := 0) (Mat.row (by assumption) _ (by omega)) (by omega) ?_)
               | (refine Ints.ixI (by assumption) (by omega) ?_)
               | (refine Mat.ixI (by assumption) (by omega) ?_)
               | (refine Ints.ixI (Mat.row (by assumption) _ (by omega)) (by omega) ?_)
               | (refine Ints.ld (by assumption) (by omega) ?_)
               | (refine Mat.ld (by assumption) (by omega) ?_)
               | (refine Ints.ld (Mat.row (by assumption) _ (by omega)) (by omega) ?_)
               | (refine At.ld (by assumption) rfl ?_)
               | (refine At.ldN (by assumption) rfl ?_)
               | (refine Prs.ln (by assumption) ?_)
               | (refine Trs.ln (by assumption) ?_)
               | (refine Prs.ix (by assumption) (by omega) ?_)
               | (refine Trs.ix (by assumption) (by omega) ?_)
               | (refine Prs.ldN (by assumption) (by omega) ?_)
               | (refine Trs.ldN (by assumption) (by omega) ?_)
               | (refine At.ldN (Blk.at (by assumption)) rfl ?_)
               | (refine At.ld (Blk.at (by assumption)) rfl ?_)
               | (refine IxA.mk (by omega) ?_)
               | (refine Sl.ln (Own.sl (by assumption)) ?_)
               | (refine Ints.ix (Own.sl (by assumption)) (by omega) ?_)
               | (refine Ints.ixI (Own.sl (by assumption)) (by omega) ?_)
               | (refine Ints.ld (Own.sl (by assumption)) (by omega) ?_))
      have HA__1 := HA
      have EE__1 := EE
      have Hb__1 := Hb
      have hz1 := Nat.le_trans E1.size EE.size
      refine Lp.mk tyOk [false, false, true, true, true, false, false, false, false, false, false, false, false, false, false, false, false, true, true, true, true, true, true, true, true, true, true, true, true, true, true, true, true, true, true, true, true, true, true, true, true, true, true, true, true, true, true, true, true, true, true, true, true, true, true, true, true, true, true, true, true, true, true, true, true, true, true, true] (fun m fr wr => getK fr 3 fun j => ∃ c : Nat, c ≤ A.length ∧ m = A.length - c ∧ j = .int .i64 (c : Int) ∧ (∀ i, i < c → ¬ badX n (A.getD i (0, 0, 0))) ∧ Ext w2 wr) (A.length) ?_ ?_
      · exact ⟨0, Nat.zero_le _, rfl, rfl, (by first | exact fun _ hi => absurd hi (Nat.not_lt_zero _) | exact fun _ _ hi => absurd hi (Nat.not_lt_zero _) | assumption | exact Own.nil | omega | simp), Ext.refl _⟩
      · intro m w3 u2 u3 u4 u17 u18 u19 u20 u21 u22 u23 u24 u25 u26 u27 u28 u29 u30 u31 u32 u33 u34 u35 u36 u37 u38 u39 u40 u41 u42 u43 u44 u45 u46 u47 u48 u49 u50 u51 u52 u53 u54 u55 u56 u57 u58 u59 u60 u61 u62 u63 u64 u65 u66 u67 hR
        obtain ⟨c, hc, rfl, rfl, hv, EL1⟩ := hR
        replace HA := HA__1.ext EL1
        replace EE := EE__1.ext EL1
        replace Hb := Hb__1.ext EL1
        by_cases hcl : c < A.length
        · repeat' (conv => whnf
                   first
                   | (refine Dr.quiet tyOk (by kernel_rfl) ?_)
                   | (refine Rng.mk (by omega) ?_)
                   | (refine Split.pos (by omega) ?_)
                   | (refine Split.neg (by omega) ?_)
                   | (refine Split.mk (fun h => ?_) (fun h => ?_))
                   | (refine Need.mk (by omega) ?_)
                   | (refine Ints.ln (by assumption) ?_)
                   | (refine Mat.ln (by assumption) ?_)
                   | (refine Ints.ln (Mat.row (by assumption) _ (by omega)) ?_)
                   | (refine Ints.ix (by assumption) (by omega) ?_)
                   | (refine Mat.ix (by assumption) (by omega) ?_)
                   | (refine Ints.ix (Mat.row (by assumption) _ (by omega)) (by omega) ?_)
                   | (refine Ints.ix (c := 0) (by assumption) (by omega) ?_)
                   | (refine Mat.ix (c := 0) (by assumption) (by omega) ?_)
                   | (refine Ints.ix (c := 0) (Mat.row (by assumption) _ (by omega)) (by omega) ?_)
                   | (refine Ints.ixI (by assumption) (by omega) ?_)
                   | (refine Mat.ixI (by assumption) (by omega) ?_)
                   | (refine Ints.ixI (Mat.row (by assumption) _ (by omega)) (by omega) ?_)
                   | (refine Ints.ld (by assumption) (by omega) ?_)
                   | (refine Mat.ld (by assumption) (by omega) ?_)
                   | (refine Ints.ld (Mat.row (by assumption) _ (by omega)) (by omega) ?_)
                   | (refine At.ld (by assumption) rfl ?_)
                   | (refine At.ldN (by assumption) rfl ?_)
                   | (refine Prs.ln (by assumption) ?_)
                   | (refine Trs.ln (by assumption) ?_)
                   | (refine Prs.ix (by assumption) (by omega) ?_)
                   | (refine Trs.ix (by assumption) (by omega) ?_)
                   | (refine Prs.ldN (by assumption) (by omega) ?_)
                   | (refine Trs.ldN (by assumption) (by omega) ?_)
                   | (refine At.ldN (Blk.at (by assumption)) rfl ?_)
                   | (refine At.ld (Blk.at (by assumption)) rfl ?_)
                   | (refine IxA.mk (by omega) ?_)
                   | (refine Sl.ln (Own.sl (by assumption)) ?_)
                   | (refine Ints.ix (Own.sl (by assumption)) (by omega) ?_)
                   | (refine Ints.ixI (Own.sl (by assumption)) (by omega) ?_)
                   | (refine Ints.ld (Own.sl (by assumption)) (by omega) ?_))
          have HA__2 := HA
          have EE__2 := EE
          have Hb__2 := Hb
          have EL1__2 := EL1
          conv => whnf
          refine VE.alloc eArc fun xb w4 E4 hb_xb Hk => ?_
          replace HA := HA.ext E4
          replace EE := EE.ext E4
          replace Hb := Hb.ext E4
          replace EL1 := EL1.ext E4
          have EL2 := E4
          conv => whnf
          refine Blk.all Hk (by kernel_rfl) (by first | decide | simp) rfl rfl (by intro v hv; simp at hv; rcases hv with rfl | rfl | rfl | rfl | rfl <;> rfl) fun w5 G5 Hk' => ?_
          have E5 : Ext w3 w5 := EL2.new G5 fun i hi hk => by omega
          replace Hk := Hk'
          replace HA := HA__2.ext E5
          replace EE := EE__2.ext E5
          replace Hb := Hb__2.ext E5
          replace EL1 := EL1__2.ext E5
          replace EL2 := E5
          by_cases hbd : badX n (A.getD c (0, 0, 0))
          · have hb0 := hbd
            unfold badX at hbd
            rw [netE_bad hm (.inr ⟨c, hcl, hb0⟩)]
            repeat' (conv => whnf
                     first
                     | (refine Dr.quiet tyOk (by kernel_rfl) ?_)
                     | (refine Rng.mk (by omega) ?_)
                     | (refine Split.pos (by omega) ?_)
                     | (refine Split.neg (by omega) ?_)
                     | (refine Split.mk (fun h => ?_) (fun h => ?_))
                     | (refine Need.mk (by omega) ?_)
                     | (refine Ints.ln (by assumption) ?_)
                     | (refine Mat.ln (by assumption) ?_)
                     | (refine Ints.ln (Mat.row (by assumption) _ (by omega)) ?_)
                     | (refine Ints.ix (by assumption) (by omega) ?_)
                     | (refine Mat.ix (by assumption) (by omega) ?_)
                     | (refine Ints.ix (Mat.row (by assumption) _ (by omega)) (by omega) ?_)
                     | (refine Ints.ix (c := 0) (by assumption) (by omega) ?_)
                     | (refine Mat.ix (c := 0) (by assumption) (by omega) ?_)
                     | (refine Ints.ix (c := 0) (Mat.row (by assumption) _ (by omega)) (by omega) ?_)
                     | (refine Ints.ixI (by assumption) (by omega) ?_)
                     | (refine Mat.ixI (by assumption) (by omega) ?_)
                     | (refine Ints.ixI (Mat.row (by assumption) _ (by omega)) (by omega) ?_)
                     | (refine Ints.ld (by assumption) (by omega) ?_)
                     | (refine Mat.ld (by assumption) (by omega) ?_)
                     | (refine Ints.ld (Mat.row (by assumption) _ (by omega)) (by omega) ?_)
                     | (refine At.ld (by assumption) rfl ?_)
                     | (refine At.ldN (by assumption) rfl ?_)
                     | (refine Prs.ln (by assumption) ?_)
                     | (refine Trs.ln (by assumption) ?_)
                     | (refine Prs.ix (by assumption) (by omega) ?_)
                     | (refine Trs.ix (by assumption) (by omega) ?_)
                     | (refine Prs.ldN (by assumption) (by omega) ?_)
                     | (refine Trs.ldN (by assumption) (by omega) ?_)
                     | (refine At.ldN (Blk.at (by assumption)) rfl ?_)
                     | (refine At.ld (Blk.at (by assumption)) rfl ?_)
                     | (refine IxA.mk (by omega) ?_)
                     | (refine Sl.ln (Own.sl (by assumption)) ?_)
                     | (refine Ints.ix (Own.sl (by assumption)) (by omega) ?_)
                     | (refine Ints.ixI (Own.sl (by assumption)) (by omega) ?_)
                     | (refine Ints.ld (Own.sl (by assumption)) (by omega) ?_))
            all_goals exact ⟨rfl, EE⟩
          · have hb0 := hbd
            unfold badX at hbd
            repeat' (conv => whnf
                     first
                     | (refine Dr.quiet tyOk (by kernel_rfl) ?_)
                     | (refine Rng.mk (by omega) ?_)
                     | (refine Split.pos (by omega) ?_)
                     | (refine Split.neg (by omega) ?_)
                     | (refine Split.mk (fun h => ?_) (fun h => ?_))
                     | (refine Need.mk (by omega) ?_)
                     | (refine Ints.ln (by assumption) ?_)
                     | (refine Mat.ln (by assumption) ?_)
                     | (refine Ints.ln (Mat.row (by assumption) _ (by omega)) ?_)
                     | (refine Ints.ix (by assumption) (by omega) ?_)
                     | (refine Mat.ix (by assumption) (by omega) ?_)
                     | (refine Ints.ix (Mat.row (by assumption) _ (by omega)) (by omega) ?_)
                     | (refine Ints.ix (c := 0) (by assumption) (by omega) ?_)
                     | (refine Mat.ix (c := 0) (by assumption) (by omega) ?_)
                     | (refine Ints.ix (c := 0) (Mat.row (by assumption) _ (by omega)) (by omega) ?_)
                     | (refine Ints.ixI (by assumption) (by omega) ?_)
                     | (refine Mat.ixI (by assumption) (by omega) ?_)
                     | (refine Ints.ixI (Mat.row (by assumption) _ (by omega)) (by omega) ?_)
                     | (refine Ints.ld (by assumption) (by omega) ?_)
                     | (refine Mat.ld (by assumption) (by omega) ?_)
                     | (refine Ints.ld (Mat.row (by assumption) _ (by omega)) (by omega) ?_)
                     | (refine At.ld (by assumption) rfl ?_)
                     | (refine At.ldN (by assumption) rfl ?_)
                     | (refine Prs.ln (by assumption) ?_)
                     | (refine Trs.ln (by assumption) ?_)
                     | (refine Prs.ix (by assumption) (by omega) ?_)
                     | (refine Trs.ix (by assumption) (by omega) ?_)
                     | (refine Prs.ldN (by assumption) (by omega) ?_)
                     | (refine Trs.ldN (by assumption) (by omega) ?_)
                     | (refine At.ldN (Blk.at (by assumption)) rfl ?_)
                     | (refine At.ld (Blk.at (by assumption)) rfl ?_)
                     | (refine IxA.mk (by omega) ?_)
                     | (refine Sl.ln (Own.sl (by assumption)) ?_)
                     | (refine Ints.ix (Own.sl (by assumption)) (by omega) ?_)
                     | (refine Ints.ixI (Own.sl (by assumption)) (by omega) ?_)
                     | (refine Ints.ld (Own.sl (by assumption)) (by omega) ?_))
            refine ⟨_, (by omega : A.length - (c + 1) < A.length - c), rfl, c + 1, by omega, rfl, rfl, all_succ hv hb0, EL1⟩
        · repeat' (conv => whnf
                   first
                   | (refine Dr.quiet tyOk (by kernel_rfl) ?_)
                   | (refine Rng.mk (by omega) ?_)
                   | (refine Split.pos (by omega) ?_)
                   | (refine Split.neg (by omega) ?_)
                   | (refine Split.mk (fun h => ?_) (fun h => ?_))
                   | (refine Need.mk (by omega) ?_)
                   | (refine Ints.ln (by assumption) ?_)
                   | (refine Mat.ln (by assumption) ?_)
                   | (refine Ints.ln (Mat.row (by assumption) _ (by omega)) ?_)
                   | (refine Ints.ix (by assumption) (by omega) ?_)
                   | (refine Mat.ix (by assumption) (by omega) ?_)
                   | (refine Ints.ix (Mat.row (by assumption) _ (by omega)) (by omega) ?_)
                   | (refine Ints.ix (c := 0) (by assumption) (by omega) ?_)
                   | (refine Mat.ix (c := 0) (by assumption) (by omega) ?_)
                   | (refine Ints.ix (c := 0) (Mat.row (by assumption) _ (by omega)) (by omega) ?_)
                   | (refine Ints.ixI (by assumption) (by omega) ?_)
                   | (refine Mat.ixI (by assumption) (by omega) ?_)
                   | (refine Ints.ixI (Mat.row (by assumption) _ (by omega)) (by omega) ?_)
                   | (refine Ints.ld (by assumption) (by omega) ?_)
                   | (refine Mat.ld (by assumption) (by omega) ?_)
                   | (refine Ints.ld (Mat.row (by assumption) _ (by omega)) (by omega) ?_)
                   | (refine At.ld (by assumption) rfl ?_)
                   | (refine At.ldN (by assumption) rfl ?_)
                   | (refine Prs.ln (by assumption) ?_)
                   | (refine Trs.ln (by assumption) ?_)
                   | (refine Prs.ix (by assumption) (by omega) ?_)
                   | (refine Trs.ix (by assumption) (by omega) ?_)
                   | (refine Prs.ldN (by assumption) (by omega) ?_)
                   | (refine Trs.ldN (by assumption) (by omega) ?_)
                   | (refine At.ldN (Blk.at (by assumption)) rfl ?_)
                   | (refine At.ld (Blk.at (by assumption)) rfl ?_)
                   | (refine IxA.mk (by omega) ?_)
                   | (refine Sl.ln (Own.sl (by assumption)) ?_)
                   | (refine Ints.ix (Own.sl (by assumption)) (by omega) ?_)
                   | (refine Ints.ixI (Own.sl (by assumption)) (by omega) ?_)
                   | (refine Ints.ld (Own.sl (by assumption)) (by omega) ?_))
          rw [netE_ok hm (by rintro (h | ⟨i, hi, h⟩); exact h2 h; exact hv i (by omega) h)]
          exact ⟨rfl, EE⟩

def greatN (n : Int) (A : List T3) : Prop := (12 < n ∧ n ≤ 40) ∨ (30 < A.length ∧ A.length ≤ 200) ∨ 300 < A.length
theorem greatN_pc {w : World} {n : Int} {sv : Value} {A : List T3} (HA : Trs w sv A) : PC Try.prog 10 [.agg #[.int .i64 n, sv]] w (.bool (tf (greatN n A))) := by
  refine PC.mk tyOk Try.func10 rfl (by kernel_rfl) fun w1 E1 => ?_
  replace HA := HA.ext E1
  have EE := Ext.refl w1
  refine Bx.agg fun b2 w2 E2 hb2 Hb _ => ?_
  replace HA := HA.ext E2
  replace EE := EE.ext E2
  have hle := HA.le
  repeat' (conv => whnf
           first
           | (refine Dr.quiet tyOk (by kernel_rfl) ?_)
           | (refine Rng.mk (by omega) ?_)
           | (refine Split.pos (by omega) ?_)
           | (refine Split.neg (by omega) ?_)
           | (refine Split.mk (fun h => ?_) (fun h => ?_))
           | (refine Need.mk (by omega) ?_)
           | (refine Ints.ln (by assumption) ?_)
           | (refine Mat.ln (by assumption) ?_)
           | (refine Ints.ln (Mat.row (by assumption) _ (by omega)) ?_)
           | (refine Ints.ix (by assumption) (by omega) ?_)
           | (refine Mat.ix (by assumption) (by omega) ?_)
           | (refine Ints.ix (Mat.row (by assumption) _ (by omega)) (by omega) ?_)
           | (refine Ints.ix (c := 0) (by assumption) (by omega) ?_)
           | (refine Mat.ix (c := 0) (by assumption) (by omega) ?_)
           | (refine Ints.ix (c := 0) (Mat.row (by assumption) _ (by omega)) (by omega) ?_)
           | (refine Ints.ixI (by assumption) (by omega) ?_)
           | (refine Mat.ixI (by assumption) (by omega) ?_)
           | (refine Ints.ixI (Mat.row (by assumption) _ (by omega)) (by omega) ?_)
           | (refine Ints.ld (by assumption) (by omega) ?_)
           | (refine Mat.ld (by assumption) (by omega) ?_)
           | (refine Ints.ld (Mat.row (by assumption) _ (by omega)) (by omega) ?_)
           | (refine At.ld (by assumption) rfl ?_)
           | (refine At.ldN (by assumption) rfl ?_)
           | (refine Prs.ln (by assumption) ?_)
           | (refine Trs.ln (by assumption) ?_)
           | (refine Prs.ix (by assumption) (by omega) ?_)
           | (refine Trs.ix (by assumption) (by omega) ?_)
           | (refine Prs.ldN (by assumption) (by omega) ?_)
           | (refine Trs.ldN (by assumption) (by omega) ?_)
           | (refine At.ldN (Blk.at (by assumption)) rfl ?_)
           | (refine At.ld (Blk.at (by assumption)) rfl ?_)
           | (refine IxA.mk (by omega) ?_)
           | (refine Sl.ln (Own.sl (by assumption)) ?_)
           | (refine Ints.ix (Own.sl (by assumption)) (by omega) ?_)
           | (refine Ints.ixI (Own.sl (by assumption)) (by omega) ?_)
           | (refine Ints.ld (Own.sl (by assumption)) (by omega) ?_))
  all_goals first
    | (rw [tf_t (p := greatN n A) (by unfold greatN; omega)]; exact ⟨rfl, EE⟩)
    | (rw [tf_f (p := greatN n A) (by unfold greatN; omega)]; exact ⟨rfl, EE⟩)

theorem sameints_pc {w : World} {av bv : Value} {a b : List Int} (Ha : Ints w av a) (Hb : Ints w bv b) : PC Try.prog 17 [av, bv] w (.bool (tf (a = b))) := by
  refine PC.mk tyOk Try.func17 rfl (by kernel_rfl) fun w1 E1 => ?_
  replace Ha := Ha.ext E1
  replace Hb := Hb.ext E1
  have EE := Ext.refl w1
  have hle := Ha.le
  have hle2 := Hb.le
  by_cases hl : a.length = b.length
  · repeat' (conv => whnf
             first
             | (refine Dr.quiet tyOk (by kernel_rfl) ?_)
             | (refine Rng.mk (by omega) ?_)
             | (refine Split.pos (by omega) ?_)
             | (refine Split.neg (by omega) ?_)
             | (refine Split.mk (fun h => ?_) (fun h => ?_))
             | (refine Need.mk (by omega) ?_)
             | (refine Ints.ln (by assumption) ?_)
             | (refine Mat.ln (by assumption) ?_)
             | (refine Ints.ln (Mat.row (by assumption) _ (by omega)) ?_)
             | (refine Ints.ix (by assumption) (by omega) ?_)
             | (refine Mat.ix (by assumption) (by omega) ?_)
             | (refine Ints.ix (Mat.row (by assumption) _ (by omega)) (by omega) ?_)
             | (refine Ints.ix (c := 0) (by assumption) (by omega) ?_)
             | (refine Mat.ix (c := 0) (by assumption) (by omega) ?_)
             | (refine Ints.ix (c := 0) (Mat.row (by assumption) _ (by omega)) (by omega) ?_)
             | (refine Ints.ixI (by assumption) (by omega) ?_)
             | (refine Mat.ixI (by assumption) (by omega) ?_)
             | (refine Ints.ixI (Mat.row (by assumption) _ (by omega)) (by omega) ?_)
             | (refine Ints.ld (by assumption) (by omega) ?_)
             | (refine Mat.ld (by assumption) (by omega) ?_)
             | (refine Ints.ld (Mat.row (by assumption) _ (by omega)) (by omega) ?_)
             | (refine At.ld (by assumption) rfl ?_)
             | (refine At.ldN (by assumption) rfl ?_)
             | (refine Prs.ln (by assumption) ?_)
             | (refine Trs.ln (by assumption) ?_)
             | (refine Prs.ix (by assumption) (by omega) ?_)
             | (refine Trs.ix (by assumption) (by omega) ?_)
             | (refine Prs.ldN (by assumption) (by omega) ?_)
             | (refine Trs.ldN (by assumption) (by omega) ?_)
             | (refine At.ldN (Blk.at (by assumption)) rfl ?_)
             | (refine At.ld (Blk.at (by assumption)) rfl ?_)
             | (refine IxA.mk (by omega) ?_)
             | (refine Sl.ln (Own.sl (by assumption)) ?_)
             | (refine Ints.ix (Own.sl (by assumption)) (by omega) ?_)
             | (refine Ints.ixI (Own.sl (by assumption)) (by omega) ?_)
             | (refine Ints.ld (Own.sl (by assumption)) (by omega) ?_))
    refine Lp.mk tyOk [false, false, false, false, true, true, false, false, false, false, false, true, true, true, true, true, true, true, true, true, true, true, true, true, true, true] (fun m fr wr => getK fr 5 fun j => ∃ c : Nat, c ≤ a.length ∧ m = a.length - c ∧ j = .int .i64 (c : Int) ∧ (∀ i, i < c → a.getD i 0 = b.getD i 0) ∧ wr = w1) (a.length) ?_ ?_
    · exact ⟨0, Nat.zero_le _, rfl, rfl, (by first | exact fun _ hi => absurd hi (Nat.not_lt_zero _) | exact fun _ _ hi => absurd hi (Nat.not_lt_zero _) | assumption | exact Own.nil | omega | simp), rfl⟩
    · intro m w2 u4 u5 u11 u12 u13 u14 u15 u16 u17 u18 u19 u20 u21 u22 u23 u24 u25 hR
      obtain ⟨c, hc, rfl, rfl, hv, rfl⟩ := hR
      by_cases hcl : c < a.length
      · by_cases he : a.getD c 0 = b.getD c 0
        · repeat' (conv => whnf
                   first
                   | (refine Dr.quiet tyOk (by kernel_rfl) ?_)
                   | (refine Rng.mk (by omega) ?_)
                   | (refine Split.pos (by omega) ?_)
                   | (refine Split.neg (by omega) ?_)
                   | (refine Split.mk (fun h => ?_) (fun h => ?_))
                   | (refine Need.mk (by omega) ?_)
                   | (refine Ints.ln (by assumption) ?_)
                   | (refine Mat.ln (by assumption) ?_)
                   | (refine Ints.ln (Mat.row (by assumption) _ (by omega)) ?_)
                   | (refine Ints.ix (by assumption) (by omega) ?_)
                   | (refine Mat.ix (by assumption) (by omega) ?_)
                   | (refine Ints.ix (Mat.row (by assumption) _ (by omega)) (by omega) ?_)
                   | (refine Ints.ix (c := 0) (by assumption) (by omega) ?_)
                   | (refine Mat.ix (c := 0) (by assumption) (by omega) ?_)
                   | (refine Ints.ix (c := 0) (Mat.row (by assumption) _ (by omega)) (by omega) ?_)
                   | (refine Ints.ixI (by assumption) (by omega) ?_)
                   | (refine Mat.ixI (by assumption) (by omega) ?_)
                   | (refine Ints.ixI (Mat.row (by assumption) _ (by omega)) (by omega) ?_)
                   | (refine Ints.ld (by assumption) (by omega) ?_)
                   | (refine Mat.ld (by assumption) (by omega) ?_)
                   | (refine Ints.ld (Mat.row (by assumption) _ (by omega)) (by omega) ?_)
                   | (refine At.ld (by assumption) rfl ?_)
                   | (refine At.ldN (by assumption) rfl ?_)
                   | (refine Prs.ln (by assumption) ?_)
                   | (refine Trs.ln (by assumption) ?_)
                   | (refine Prs.ix (by assumption) (by omega) ?_)
                   | (refine Trs.ix (by assumption) (by omega) ?_)
                   | (refine Prs.ldN (by assumption) (by omega) ?_)
                   | (refine Trs.ldN (by assumption) (by omega) ?_)
                   | (refine At.ldN (Blk.at (by assumption)) rfl ?_)
                   | (refine At.ld (Blk.at (by assumption)) rfl ?_)
                   | (refine IxA.mk (by omega) ?_)
                   | (refine Sl.ln (Own.sl (by assumption)) ?_)
                   | (refine Ints.ix (Own.sl (by assumption)) (by omega) ?_)
                   | (refine Ints.ixI (Own.sl (by assumption)) (by omega) ?_)
                   | (refine Ints.ld (Own.sl (by assumption)) (by omega) ?_))
          refine ⟨_, (by omega : a.length - (c + 1) < a.length - c), rfl, c + 1, by omega, rfl, rfl, all_succ hv he, rfl⟩
        · rw [tf_f (p := a = b) (by rintro rfl; exact he rfl)]
          repeat' (conv => whnf
                   first
                   | (refine Dr.quiet tyOk (by kernel_rfl) ?_)
                   | (refine Rng.mk (by omega) ?_)
                   | (refine Split.pos (by omega) ?_)
                   | (refine Split.neg (by omega) ?_)
                   | (refine Split.mk (fun h => ?_) (fun h => ?_))
                   | (refine Need.mk (by omega) ?_)
                   | (refine Ints.ln (by assumption) ?_)
                   | (refine Mat.ln (by assumption) ?_)
                   | (refine Ints.ln (Mat.row (by assumption) _ (by omega)) ?_)
                   | (refine Ints.ix (by assumption) (by omega) ?_)
                   | (refine Mat.ix (by assumption) (by omega) ?_)
                   | (refine Ints.ix (Mat.row (by assumption) _ (by omega)) (by omega) ?_)
                   | (refine Ints.ix (c := 0) (by assumption) (by omega) ?_)
                   | (refine Mat.ix (c := 0) (by assumption) (by omega) ?_)
                   | (refine Ints.ix (c := 0) (Mat.row (by assumption) _ (by omega)) (by omega) ?_)
                   | (refine Ints.ixI (by assumption) (by omega) ?_)
                   | (refine Mat.ixI (by assumption) (by omega) ?_)
                   | (refine Ints.ixI (Mat.row (by assumption) _ (by omega)) (by omega) ?_)
                   | (refine Ints.ld (by assumption) (by omega) ?_)
                   | (refine Mat.ld (by assumption) (by omega) ?_)
                   | (refine Ints.ld (Mat.row (by assumption) _ (by omega)) (by omega) ?_)
                   | (refine At.ld (by assumption) rfl ?_)
                   | (refine At.ldN (by assumption) rfl ?_)
                   | (refine Prs.ln (by assumption) ?_)
                   | (refine Trs.ln (by assumption) ?_)
                   | (refine Prs.ix (by assumption) (by omega) ?_)
                   | (refine Trs.ix (by assumption) (by omega) ?_)
                   | (refine Prs.ldN (by assumption) (by omega) ?_)
                   | (refine Trs.ldN (by assumption) (by omega) ?_)
                   | (refine At.ldN (Blk.at (by assumption)) rfl ?_)
                   | (refine At.ld (Blk.at (by assumption)) rfl ?_)
                   | (refine IxA.mk (by omega) ?_)
                   | (refine Sl.ln (Own.sl (by assumption)) ?_)
                   | (refine Ints.ix (Own.sl (by assumption)) (by omega) ?_)
                   | (refine Ints.ixI (Own.sl (by assumption)) (by omega) ?_)
                   | (refine Ints.ld (Own.sl (by assumption)) (by omega) ?_))
          exact ⟨rfl, EE⟩
      · repeat' (conv => whnf
                 first
                 | (refine Dr.quiet tyOk (by kernel_rfl) ?_)
                 | (refine Rng.mk (by omega) ?_)
                 | (refine Split.pos (by omega) ?_)
                 | (refine Split.neg (by omega) ?_)
                 | (refine Split.mk (fun h => ?_) (fun h => ?_))
                 | (refine Need.mk (by omega) ?_)
                 | (refine Ints.ln (by assumption) ?_)
                 | (refine Mat.ln (by assumption) ?_)
                 | (refine Ints.ln (Mat.row (by assumption) _ (by omega)) ?_)
                 | (refine Ints.ix (by assumption) (by omega) ?_)
                 | (refine Mat.ix (by assumption) (by omega) ?_)
                 | (refine Ints.ix (Mat.row (by assumption) _ (by omega)) (by omega) ?_)
                 | (refine Ints.ix (c := 0) (by assumption) (by omega) ?_)
                 | (refine Mat.ix (c := 0) (by assumption) (by omega) ?_)
                 | (refine Ints.ix (c := 0) (Mat.row (by assumption) _ (by omega)) (by omega) ?_)
                 | (refine Ints.ixI (by assumption) (by omega) ?_)
                 | (refine Mat.ixI (by assumption) (by omega) ?_)
                 | (refine Ints.ixI (Mat.row (by assumption) _ (by omega)) (by omega) ?_)
                 | (refine Ints.ld (by assumption) (by omega) ?_)
                 | (refine Mat.ld (by assumption) (by omega) ?_)
                 | (refine Ints.ld (Mat.row (by assumption) _ (by omega)) (by omega) ?_)
                 | (refine At.ld (by assumption) rfl ?_)
                 | (refine At.ldN (by assumption) rfl ?_)
                 | (refine Prs.ln (by assumption) ?_)
                 | (refine Trs.ln (by assumption) ?_)
                 | (refine Prs.ix (by assumption) (by omega) ?_)
                 | (refine Trs.ix (by assumption) (by omega) ?_)
                 | (refine Prs.ldN (by assumption) (by omega) ?_)
                 | (refine Trs.ldN (by assumption) (by omega) ?_)
                 | (refine At.ldN (Blk.at (by assumption)) rfl ?_)
                 | (refine At.ld (Blk.at (by assumption)) rfl ?_)
                 | (refine IxA.mk (by omega) ?_)
                 | (refine Sl.ln (Own.sl (by assumption)) ?_)
                 | (refine Ints.ix (Own.sl (by assumption)) (by omega) ?_)
                 | (refine Ints.ixI (Own.sl (by assumption)) (by omega) ?_)
                 | (refine Ints.ld (Own.sl (by assumption)) (by omega) ?_))
        rw [tf_t (p := a = b) (ext_getD 0 (by omega) fun i hi => hv i (by omega))]; exact ⟨rfl, EE⟩
  · rw [tf_f (p := a = b) (fun h => hl (by rw [h]))]
    repeat' (conv => whnf
             first
             | (refine Dr.quiet tyOk (by kernel_rfl) ?_)
             | (refine Rng.mk (by omega) ?_)
             | (refine Split.pos (by omega) ?_)
             | (refine Split.neg (by omega) ?_)
             | (refine Split.mk (fun h => ?_) (fun h => ?_))
             | (refine Need.mk (by omega) ?_)
             | (refine Ints.ln (by assumption) ?_)
             | (refine Mat.ln (by assumption) ?_)
             | (refine Ints.ln (Mat.row (by assumption) _ (by omega)) ?_)
             | (refine Ints.ix (by assumption) (by omega) ?_)
             | (refine Mat.ix (by assumption) (by omega) ?_)
             | (refine Ints.ix (Mat.row (by assumption) _ (by omega)) (by omega) ?_)
             | (refine Ints.ix (c := 0) (by assumption) (by omega) ?_)
             | (refine Mat.ix (c := 0) (by assumption) (by omega) ?_)
             | (refine Ints.ix (c := 0) (Mat.row (by assumption) _ (by omega)) (by omega) ?_)
             | (refine Ints.ixI (by assumption) (by omega) ?_)
             | (refine Mat.ixI (by assumption) (by omega) ?_)
             | (refine Ints.ixI (Mat.row (by assumption) _ (by omega)) (by omega) ?_)
             | (refine Ints.ld (by assumption) (by omega) ?_)
             | (refine Mat.ld (by assumption) (by omega) ?_)
             | (refine Ints.ld (Mat.row (by assumption) _ (by omega)) (by omega) ?_)
             | (refine At.ld (by assumption) rfl ?_)
             | (refine At.ldN (by assumption) rfl ?_)
             | (refine Prs.ln (by assumption) ?_)
             | (refine Trs.ln (by assumption) ?_)
             | (refine Prs.ix (by assumption) (by omega) ?_)
             | (refine Trs.ix (by assumption) (by omega) ?_)
             | (refine Prs.ldN (by assumption) (by omega) ?_)
             | (refine Trs.ldN (by assumption) (by omega) ?_)
             | (refine At.ldN (Blk.at (by assumption)) rfl ?_)
             | (refine At.ld (Blk.at (by assumption)) rfl ?_)
             | (refine IxA.mk (by omega) ?_)
             | (refine Sl.ln (Own.sl (by assumption)) ?_)
             | (refine Ints.ix (Own.sl (by assumption)) (by omega) ?_)
             | (refine Ints.ixI (Own.sl (by assumption)) (by omega) ?_)
             | (refine Ints.ld (Own.sl (by assumption)) (by omega) ?_))
    exact ⟨rfl, EE⟩

theorem samebools_pc {w : World} {av bv : Value} {a b : List Bool} (Ha : Bls w av a) (Hb : Bls w bv b) (h : a = b) : PC Try.prog 18 [av, bv] w (.bool true) := by
  subst h
  refine PC.mk tyOk Try.func18 rfl (by kernel_rfl) fun w1 E1 => ?_
  replace Ha := Ha.ext E1
  replace Hb := Hb.ext E1
  have EE := Ext.refl w1
  have hle := Ha.le
  repeat' (conv => whnf
           first
           | (refine Dr.quiet tyOk (by kernel_rfl) ?_)
           | (refine Bls.ln (by assumption) ?_)
           | (refine Rng.mk (by omega) ?_)
           | (refine Split.pos (by omega) ?_)
           | (refine Split.neg (by omega) ?_)
           | (refine Split.mk (fun h => ?_) (fun h => ?_))
           | (refine Need.mk (by omega) ?_)
           | (refine Ints.ln (by assumption) ?_)
           | (refine Mat.ln (by assumption) ?_)
           | (refine Ints.ln (Mat.row (by assumption) _ (by omega)) ?_)
           | (refine Ints.ix (by assumption) (by omega) ?_)
           | (refine Mat.ix (by assumption) (by omega) ?_)
           | (refine Ints.ix (Mat.row (by assumption) _ (by omega)) (by omega) ?_)
           | (refine Ints.ix (c := 0) (by assumption) (by omega) ?_)
           | (refine Mat.ix (c := 0) (by assumption) (by omega) ?_)
           | (refine Ints.ix (c := 0) (Mat.row (by assumption) _ (by omega)) (by omega) ?_)
           | (refine Ints.ixI (by assumption) (by omega) ?_)
           | (refine Mat.ixI (by assumption) (by omega) ?_)
           | (refine Ints.ixI (Mat.row (by assumption) _ (by omega)) (by omega) ?_)
           | (refine Ints.ld (by assumption) (by omega) ?_)
           | (refine Mat.ld (by assumption) (by omega) ?_)
           | (refine Ints.ld (Mat.row (by assumption) _ (by omega)) (by omega) ?_)
           | (refine At.ld (by assumption) rfl ?_)
           | (refine At.ldN (by assumption) rfl ?_)
           | (refine Prs.ln (by assumption) ?_)
           | (refine Trs.ln (by assumption) ?_)
           | (refine Prs.ix (by assumption) (by omega) ?_)
           | (refine Trs.ix (by assumption) (by omega) ?_)
           | (refine Prs.ldN (by assumption) (by omega) ?_)
           | (refine Trs.ldN (by assumption) (by omega) ?_)
           | (refine At.ldN (Blk.at (by assumption)) rfl ?_)
           | (refine At.ld (Blk.at (by assumption)) rfl ?_)
           | (refine IxA.mk (by omega) ?_)
           | (refine Sl.ln (Own.sl (by assumption)) ?_)
           | (refine Ints.ix (Own.sl (by assumption)) (by omega) ?_)
           | (refine Ints.ixI (Own.sl (by assumption)) (by omega) ?_)
           | (refine Ints.ld (Own.sl (by assumption)) (by omega) ?_))
  refine Lp.mk tyOk [false, false, false, false, true, true, false, false, false, false, false, true, true, true, true, true, true, true, true, true, true, true, true, true, true, true] (fun m fr wr => getK fr 5 fun j => ∃ c : Nat, c ≤ a.length ∧ m = a.length - c ∧ j = .int .i64 (c : Int) ∧ wr = w1) (a.length) ?_ ?_
  · exact ⟨0, Nat.zero_le _, rfl, rfl, rfl⟩
  · intro m w2 u4 u5 u11 u12 u13 u14 u15 u16 u17 u18 u19 u20 u21 u22 u23 u24 u25 hR
    obtain ⟨c, hc, rfl, rfl, rfl⟩ := hR
    by_cases hc2 : c < a.length
    · cases hv : a.getD c false with
      | true =>
        repeat' (conv => whnf
                 first
                 | (refine Dr.quiet tyOk (by kernel_rfl) ?_)
                 | (refine Bls.ln (by assumption) ?_)
                 | (refine Bls.ix Ha (by omega) ?_)
                 | (refine Bls.ix Hb (by omega) ?_)
                 | (refine Bls.ldv Ha hv (by omega) ?_)
                 | (refine Bls.ldv Hb hv (by omega) ?_)
                 | (refine Rng.mk (by omega) ?_)
                 | (refine Split.pos (by omega) ?_)
                 | (refine Split.neg (by omega) ?_)
                 | (refine Split.mk (fun h => ?_) (fun h => ?_))
                 | (refine Need.mk (by omega) ?_)
                 | (refine Ints.ln (by assumption) ?_)
                 | (refine Mat.ln (by assumption) ?_)
                 | (refine Ints.ln (Mat.row (by assumption) _ (by omega)) ?_)
                 | (refine Ints.ix (by assumption) (by omega) ?_)
                 | (refine Mat.ix (by assumption) (by omega) ?_)
                 | (refine Ints.ix (Mat.row (by assumption) _ (by omega)) (by omega) ?_)
                 | (refine Ints.ix (c := 0) (by assumption) (by omega) ?_)
                 | (refine Mat.ix (c := 0) (by assumption) (by omega) ?_)
                 | (refine Ints.ix (c := 0) (Mat.row (by assumption) _ (by omega)) (by omega) ?_)
                 | (refine Ints.ixI (by assumption) (by omega) ?_)
                 | (refine Mat.ixI (by assumption) (by omega) ?_)
                 | (refine Ints.ixI (Mat.row (by assumption) _ (by omega)) (by omega) ?_)
                 | (refine Ints.ld (by assumption) (by omega) ?_)
                 | (refine Mat.ld (by assumption) (by omega) ?_)
                 | (refine Ints.ld (Mat.row (by assumption) _ (by omega)) (by omega) ?_)
                 | (refine At.ld (by assumption) rfl ?_)
                 | (refine At.ldN (by assumption) rfl ?_)
                 | (refine Prs.ln (by assumption) ?_)
                 | (refine Trs.ln (by assumption) ?_)
                 | (refine Prs.ix (by assumption) (by omega) ?_)
                 | (refine Trs.ix (by assumption) (by omega) ?_)
                 | (refine Prs.ldN (by assumption) (by omega) ?_)
                 | (refine Trs.ldN (by assumption) (by omega) ?_)
                 | (refine At.ldN (Blk.at (by assumption)) rfl ?_)
                 | (refine At.ld (Blk.at (by assumption)) rfl ?_)
                 | (refine IxA.mk (by omega) ?_)
                 | (refine Sl.ln (Own.sl (by assumption)) ?_)
                 | (refine Ints.ix (Own.sl (by assumption)) (by omega) ?_)
                 | (refine Ints.ixI (Own.sl (by assumption)) (by omega) ?_)
                 | (refine Ints.ld (Own.sl (by assumption)) (by omega) ?_))
        refine ⟨_, (by omega : a.length - (c + 1) < a.length - c), rfl, c + 1, by omega, rfl, rfl, rfl⟩
      | false =>
        repeat' (conv => whnf
                 first
                 | (refine Dr.quiet tyOk (by kernel_rfl) ?_)
                 | (refine Bls.ln (by assumption) ?_)
                 | (refine Bls.ix Ha (by omega) ?_)
                 | (refine Bls.ix Hb (by omega) ?_)
                 | (refine Bls.ldv Ha hv (by omega) ?_)
                 | (refine Bls.ldv Hb hv (by omega) ?_)
                 | (refine Rng.mk (by omega) ?_)
                 | (refine Split.pos (by omega) ?_)
                 | (refine Split.neg (by omega) ?_)
                 | (refine Split.mk (fun h => ?_) (fun h => ?_))
                 | (refine Need.mk (by omega) ?_)
                 | (refine Ints.ln (by assumption) ?_)
                 | (refine Mat.ln (by assumption) ?_)
                 | (refine Ints.ln (Mat.row (by assumption) _ (by omega)) ?_)
                 | (refine Ints.ix (by assumption) (by omega) ?_)
                 | (refine Mat.ix (by assumption) (by omega) ?_)
                 | (refine Ints.ix (Mat.row (by assumption) _ (by omega)) (by omega) ?_)
                 | (refine Ints.ix (c := 0) (by assumption) (by omega) ?_)
                 | (refine Mat.ix (c := 0) (by assumption) (by omega) ?_)
                 | (refine Ints.ix (c := 0) (Mat.row (by assumption) _ (by omega)) (by omega) ?_)
                 | (refine Ints.ixI (by assumption) (by omega) ?_)
                 | (refine Mat.ixI (by assumption) (by omega) ?_)
                 | (refine Ints.ixI (Mat.row (by assumption) _ (by omega)) (by omega) ?_)
                 | (refine Ints.ld (by assumption) (by omega) ?_)
                 | (refine Mat.ld (by assumption) (by omega) ?_)
                 | (refine Ints.ld (Mat.row (by assumption) _ (by omega)) (by omega) ?_)
                 | (refine At.ld (by assumption) rfl ?_)
                 | (refine At.ldN (by assumption) rfl ?_)
                 | (refine Prs.ln (by assumption) ?_)
                 | (refine Trs.ln (by assumption) ?_)
                 | (refine Prs.ix (by assumption) (by omega) ?_)
                 | (refine Trs.ix (by assumption) (by omega) ?_)
                 | (refine Prs.ldN (by assumption) (by omega) ?_)
                 | (refine Trs.ldN (by assumption) (by omega) ?_)
                 | (refine At.ldN (Blk.at (by assumption)) rfl ?_)
                 | (refine At.ld (Blk.at (by assumption)) rfl ?_)
                 | (refine IxA.mk (by omega) ?_)
                 | (refine Sl.ln (Own.sl (by assumption)) ?_)
                 | (refine Ints.ix (Own.sl (by assumption)) (by omega) ?_)
                 | (refine Ints.ixI (Own.sl (by assumption)) (by omega) ?_)
                 | (refine Ints.ld (Own.sl (by assumption)) (by omega) ?_))
        refine ⟨_, (by omega : a.length - (c + 1) < a.length - c), rfl, c + 1, by omega, rfl, rfl, rfl⟩
    · repeat' (conv => whnf
               first
               | (refine Dr.quiet tyOk (by kernel_rfl) ?_)
               | (refine Bls.ln (by assumption) ?_)
               | (refine Rng.mk (by omega) ?_)
               | (refine Split.pos (by omega) ?_)
               | (refine Split.neg (by omega) ?_)
               | (refine Split.mk (fun h => ?_) (fun h => ?_))
               | (refine Need.mk (by omega) ?_)
               | (refine Ints.ln (by assumption) ?_)
               | (refine Mat.ln (by assumption) ?_)
               | (refine Ints.ln (Mat.row (by assumption) _ (by omega)) ?_)
               | (refine Ints.ix (by assumption) (by omega) ?_)
               | (refine Mat.ix (by assumption) (by omega) ?_)
               | (refine Ints.ix (Mat.row (by assumption) _ (by omega)) (by omega) ?_)
               | (refine Ints.ix (c := 0) (by assumption) (by omega) ?_)
               | (refine Mat.ix (c := 0) (by assumption) (by omega) ?_)
               | (refine Ints.ix (c := 0) (Mat.row (by assumption) _ (by omega)) (by omega) ?_)
               | (refine Ints.ixI (by assumption) (by omega) ?_)
               | (refine Mat.ixI (by assumption) (by omega) ?_)
               | (refine Ints.ixI (Mat.row (by assumption) _ (by omega)) (by omega) ?_)
               | (refine Ints.ld (by assumption) (by omega) ?_)
               | (refine Mat.ld (by assumption) (by omega) ?_)
               | (refine Ints.ld (Mat.row (by assumption) _ (by omega)) (by omega) ?_)
               | (refine At.ld (by assumption) rfl ?_)
               | (refine At.ldN (by assumption) rfl ?_)
               | (refine Prs.ln (by assumption) ?_)
               | (refine Trs.ln (by assumption) ?_)
               | (refine Prs.ix (by assumption) (by omega) ?_)
               | (refine Trs.ix (by assumption) (by omega) ?_)
               | (refine Prs.ldN (by assumption) (by omega) ?_)
               | (refine Trs.ldN (by assumption) (by omega) ?_)
               | (refine At.ldN (Blk.at (by assumption)) rfl ?_)
               | (refine At.ld (Blk.at (by assumption)) rfl ?_)
               | (refine IxA.mk (by omega) ?_)
               | (refine Sl.ln (Own.sl (by assumption)) ?_)
               | (refine Ints.ix (Own.sl (by assumption)) (by omega) ?_)
               | (refine Ints.ixI (Own.sl (by assumption)) (by omega) ?_)
               | (refine Ints.ld (Own.sl (by assumption)) (by omega) ?_))
      exact ⟨rfl, EE⟩
end Go.Proofs.Ytpdldifklgpikaa
