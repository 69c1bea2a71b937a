/- The engine, part H: arguments as they are read, and the frame of a law. -/
import Derived.Test.YtiahjkhfkbcjhaaEngG
import Derived.ProofKit
set_option linter.unusedVariables false
set_option linter.unusedSimpArgs false
namespace Go.Eng
open Go.RowKit Go.ChangeShapes Go.WideShapes Go.ChangeAt

section
variable {H : Type} {enc : TypeId × Value → H} {P : Program} {w : World} {base : Nat} {spare : Nat → Bool} {held : Bool}

theorem read_sl {t e s fuel : Nat} {cs : List Value} {x : DataW H × List MemPlace} (ht : P.underlying t = some (.slice e)) (hs : P.cellsOf e = s) (h : DataW.trod enc P w base spare held fuel t cs = some x) :
    ∃ v n xs, cs = [v] ∧ Sl s w v n xs ∧ ∀ i, i < n → ∃ fuel y, DataW.trod enc P w base spare held fuel e ((xs.drop (i * s)).take s) = some y := by
  rcases DataW.trod_slice ht h with ⟨rfl, _⟩ | ⟨a, len, cap, elems, rest, n, rfl, rfl, _, hb, hl, hm, hlen, hel, _⟩
  · exact ⟨_, 0, [], rfl, ⟨none, 0, rfl, Nat.le_refl _, Nat.zero_le _, by simp, .inl rfl⟩, fun i hi => absurd hi (Nat.not_lt_zero _)⟩
  · subst hs
    have each : ∀ i, i < len → ∃ L y, w.cells? base (a.add (i * P.cellsOf e)) (P.cellsOf e) = some L ∧ DataW.trod enc P w base spare held n e L = some y := by
      intro i hi
      have h1 := hel i hi
      rw [List.getElem?_eq_getElem (by omega)] at h1
      cases hc : w.cells? base (a.add (i * P.cellsOf e)) (P.cellsOf e) with
      | none => rw [hc] at h1; simp at h1
      | some L => rw [hc] at h1; exact ⟨L, _, rfl, h1⟩
    have cell : ∀ i L, w.cells? base (a.add (i * P.cellsOf e)) (P.cellsOf e) = some L → L.length = P.cellsOf e ∧ ∀ j, j < P.cellsOf e → w.cell? (a.add (i * P.cellsOf e + j)) = L[j]? := by
      intro i L hL
      obtain ⟨_, h2, h3⟩ := World.cells?_some hL
      refine ⟨h2, fun j hj => ?_⟩
      rw [← add_add]
      exact h3 j hj
    let xs : List Value := (List.range (len * P.cellsOf e)).map fun k => (w.cell? (a.add k)).getD undef
    have hxs : xs = (List.range (len * P.cellsOf e)).map fun k => (w.cell? (a.add k)).getD undef := rfl
    refine ⟨_, len, xs, rfl, ⟨some a, cap, rfl, hl, hm, by simp [hxs], .inr ⟨a, rfl, ?_⟩⟩, fun i hi => ?_⟩
    · intro k y hk
      have hkl : k < len * P.cellsOf e := by
        have := (List.getElem?_eq_some_iff.1 hk).1
        simpa [hxs] using this
      have hs0 : 0 < P.cellsOf e := by
        rcases Nat.eq_zero_or_pos (P.cellsOf e) with h0 | h0
        · rw [h0] at hkl; omega
        · exact h0
      have hdiv : k / P.cellsOf e < len := Nat.div_lt_of_lt_mul (by rw [Nat.mul_comm]; exact hkl)
      obtain ⟨L, y', hL, _⟩ := each _ hdiv
      obtain ⟨hLl, hLc⟩ := cell _ _ hL
      have h4 := hLc (k % P.cellsOf e) (Nat.mod_lt _ hs0)
      have e5 : k / P.cellsOf e * P.cellsOf e + k % P.cellsOf e = k := by rw [Nat.mul_comm]; exact Nat.div_add_mod k _
      rw [e5] at h4
      have e6 : xs[k]? = some ((w.cell? (a.add k)).getD undef) := by simp [hxs, hkl]
      rw [e6] at hk
      rw [List.getElem?_eq_getElem (by rw [hLl]; exact Nat.mod_lt _ hs0)] at h4
      rw [h4] at hk ⊢
      exact hk
    · obtain ⟨L, y, hL, hy⟩ := each i hi
      obtain ⟨hLl, hLc⟩ := cell _ _ hL
      have hmul : i * P.cellsOf e + P.cellsOf e ≤ len * P.cellsOf e := by
        have := Nat.mul_le_mul_right (P.cellsOf e) (show i + 1 ≤ len from hi)
        rw [Nat.add_mul, Nat.one_mul] at this; exact this
      have eL : (xs.drop (i * P.cellsOf e)).take (P.cellsOf e) = L := by
        apply List.ext_getElem?
        intro j
        by_cases hj : j < P.cellsOf e
        · rw [List.getElem?_take, if_pos hj, List.getElem?_drop, ← hLc j hj]
          have : i * P.cellsOf e + j < len * P.cellsOf e := by omega
          have h5 := hLc j hj
          rw [List.getElem?_eq_getElem (by omega)] at h5
          simp [hxs, this, h5]
        · rw [List.getElem?_take, if_neg hj, List.getElem?_eq_none (by omega)]
      rw [eL]
      exact ⟨n, y, hy⟩

def I64 (n : Int) : Prop := -9223372036854775808 ≤ n ∧ n ≤ 9223372036854775807

theorem read_i64 {t fuel : Nat} {cs : List Value} {x : DataW H × List MemPlace} (ht : P.underlying t = some (.int .i64)) (h : DataW.trod enc P w base spare held fuel t cs = some x) : ∃ n, cs = [.int .i64 n] ∧ I64 n := by
  obtain ⟨n, rfl, _, wf⟩ := DataW.trod_int ht h
  refine ⟨n, rfl, ?_⟩
  simpa [I64, Lit.wf, IntKind.min, IntKind.max, IntKind.signed, IntKind.bits] using wf

theorem read_bool {t fuel : Nat} {cs : List Value} {x : DataW H × List MemPlace} (ht : P.underlying t = some .bool) (h : DataW.trod enc P w base spare held fuel t cs = some x) : ∃ b, cs = [.bool b] := by
  cases fuel with
  | zero => simp [DataW.trod] at h
  | succ n =>
    unfold DataW.trod at h
    rw [ht] at h
    split at h <;> simp_all

theorem choose_list {α : Type} [Inhabited α] {n : Nat} {p : Nat → α → Prop} (h : ∀ i, i < n → ∃ a, p i a) : ∃ l : List α, l.length = n ∧ ∀ i, i < n → p i (l.getD i default) := by
  classical
  refine ⟨(List.range n).map fun i => if hi : i < n then Classical.choose (h i hi) else default, by simp, fun i hi => ?_⟩
  have := Classical.choose_spec (h i hi)
  simpa [List.getD, hi] using this

theorem take_one {xs : List Value} {i : Nat} {v : Value} (h : (xs.drop (i * 1)).take 1 = [v]) : xs[i]? = some v := by
  have := congrArg (fun l => l[0]?) h
  simpa using this

theorem read_ints {t e fuel : Nat} {cs : List Value} {x : DataW H × List MemPlace} (ht : P.underlying t = some (.slice e)) (he : P.underlying e = some (.int .i64)) (hs : P.cellsOf e = 1) (h : DataW.trod enc P w base spare held fuel t cs = some x) :
    ∃ v l, cs = [v] ∧ Ints w v l ∧ ∀ i, I64 (l.getD i 0) := by
  obtain ⟨v, n, xs, rfl, hsl, hel⟩ := read_sl ht hs h
  have each : ∀ i, i < n → ∃ z : Int, xs[i]? = some (i64v z) ∧ I64 z := fun i hi => by
    obtain ⟨fuel', y, hy⟩ := hel i hi
    obtain ⟨z, hz, hr⟩ := read_i64 he hy
    exact ⟨z, take_one hz, hr⟩
  obtain ⟨l, hl, hp⟩ := choose_list each
  have hxl : xs.length = n := by obtain ⟨_, _, _, _, _, h3, _⟩ := id hsl; omega
  have exs : xs = l.map i64v := by
    apply List.ext_getElem?
    intro i
    by_cases hi : i < n
    · have h1 := (hp i hi).1
      rw [h1]
      simp [List.getElem?_eq_getElem (show i < l.length by omega), List.getD]
    · rw [List.getElem?_eq_none (by omega), List.getElem?_eq_none (by simp; omega)]
  refine ⟨v, l, rfl, ?_, fun i => ?_⟩
  · unfold Ints; rw [hl, ← exs]; exact hsl
  · by_cases hi : i < n
    · exact (hp i hi).2
    · simp [List.getD, List.getElem?_eq_none (show l.length ≤ i by omega), I64]

theorem read_mat {t e q fuel : Nat} {cs : List Value} {x : DataW H × List MemPlace} (ht : P.underlying t = some (.slice e)) (he : P.underlying e = some (.slice q)) (hq : P.underlying q = some (.int .i64)) (hs : P.cellsOf e = 1) (hs2 : P.cellsOf q = 1)
    (h : DataW.trod enc P w base spare held fuel t cs = some x) : ∃ v vs rr, cs = [v] ∧ Mat w v vs rr ∧ ∀ i j, I64 ((rr.getD i []).getD j 0) := by
  obtain ⟨v, n, xs, rfl, hsl, hel⟩ := read_sl ht hs h
  have each : ∀ i, i < n → ∃ z : List Int, (∃ u, xs[i]? = some u ∧ Ints w u z) ∧ ∀ j, I64 (z.getD j 0) := fun i hi => by
    obtain ⟨fuel', y, hy⟩ := hel i hi
    obtain ⟨u, z, hz, hI, hr⟩ := read_ints he hq hs2 hy
    exact ⟨z, ⟨u, take_one hz, hI⟩, hr⟩
  obtain ⟨rr, hl, hp⟩ := choose_list each
  refine ⟨v, xs, rr, rfl, ⟨by rw [hl]; exact hsl, fun i hi => ?_⟩, fun i j => ?_⟩
  · obtain ⟨⟨u, hu, hI⟩, _⟩ := hp i (by omega)
    simp only [List.getD, hu, Option.getD_some]
    exact hI
  · by_cases hi : i < n
    · exact (hp i hi).2 j
    · simp [List.getD, List.getElem?_eq_none (show rr.length ≤ i by omega), I64]
end

/-! ### the frame of a law -/
section
variable {H : Type} {enc : TypeId × Value → H} {P : Program}

theorem trodAll_stays (hl : laidOutB P = true) {W W' : World} (hb : Below W.heap.size W W') : ∀ {ts : List TypeId} {vs : List Value} {ds : List (DataW H)} {ps : List MemPlace}, (∀ t ∈ ts, P.readableRec t = true ∧ t < P.types.size) → (∀ x ∈ ps, x.block < W.heap.size) →
    DataW.TrodAll enc P W 0 (fun _ => true) true ts vs ds ps → DataW.TrodAll enc P W' 0 (fun b => decide (b < W.heap.size)) true ts vs ds ps
  | [], [], [], _, _, _, h => h
  | t :: ts, v :: vs, d :: ds, _, hr, hlt, ⟨p, q, h1, h2, e⟩ => by
    subst e
    exact ⟨p, q, Below.trod hl (hr t (by simp)).1 (hr t (by simp)).2 h1 hb (fun x hx => hlt x (by simp [hx])), trodAll_stays hl hb (fun t ht => hr t (by simp [ht])) (fun x hx => hlt x (by simp [hx])) h2, rfl⟩
  | [], [], _ :: _, _, _, _, h => h.elim
  | [], _ :: _, _, _, _, _, h => by cases ‹List (DataW H)› <;> exact h.elim
  | _ :: _, [], _, _, _, _, h => by cases ‹List (DataW H)› <;> exact h.elim
  | _ :: _, _ :: _, [], _, _, _, h => h.elim

theorem law_post {f : Func} {s : ChangeSpec} {fresh handsOn : Bool} {W W' : World} {args : Array Value} {ds gs : List (DataW H)} {before : List MemPlace} {T : TypeId} (hl : laidOutB P = true)
    (hr : ∀ t ∈ f.params.toList, P.readableRec t = true ∧ t < P.types.size) (hres : f.resultTypes = #[T]) (hT : P.underlying T = some .bool) (hv : s.vars = [])
    (hspec : (s.fn H (ds ++ [])).results = [.lit (.bool true)] ∧ (s.fn H (ds ++ [])).args = ds ∧ (s.fn H (ds ++ [])).vars = [])
    (hW : DataW.Whole enc P f.params.toList s.vars false W args.toList ds gs before) (hb : Below W.heap.size W W') : s.post enc P f false fresh handsOn false W args (.bool true) W' := by
  have hW' := hW
  obtain ⟨p, q, hA, hV, rfl, _, _⟩ := hW
  rw [hv] at hV
  have hg : gs = [] ∧ q = [] := by cases gs with
    | nil => exact ⟨rfl, hV⟩
    | cons _ _ => exact hV.elim
  obtain ⟨rfl, rfl⟩ := hg
  have hlt : ∀ x ∈ p, x.block < W.heap.size := fun x hx => hW'.lt x (by simp [hx])
  refine ⟨ds, [], p ++ [], [], p, [], hW', ?_, ?_, ?_, hb.frame _, fun h => by cases h⟩
  · rw [hspec.1, hres]
    exact trodAll_mk1 (shut_bool hT true)
  · rw [hspec.2.1]
    exact trodAll_stays hl hb hr hlt hA
  · rw [hspec.2.2, hv]; rfl

/-- A law from its pure contract. -/
theorem law_calls {f : Func} {F : FuncId} {s : ChangeSpec} {fresh handsOn : Bool} {W : World} {args : Array Value} {ds gs : List (DataW H)} {before : List MemPlace} {T : TypeId} (hl : laidOutB P = true)
    (hr : ∀ t ∈ f.params.toList, P.readableRec t = true ∧ t < P.types.size) (hres : f.resultTypes = #[T]) (hT : P.underlying T = some .bool) (hv : s.vars = [])
    (hspec : (s.fn H (ds ++ [])).results = [.lit (.bool true)] ∧ (s.fn H (ds ++ [])).args = ds ∧ (s.fn H (ds ++ [])).vars = [])
    (hW : DataW.Whole enc P f.params.toList s.vars false W args.toList ds gs before) (hp : PC P F args.toList W (.bool true)) :
    Calls P F args W fun e W' => ∃ v, e = .returned v ∧ s.post enc P f false fresh handsOn false W args v W' := by
  simp only [PC] at hp
  refine (hp.2 W (Ext.refl W)).mono ?_
  rintro e W' ⟨rfl, hx⟩
  exact ⟨_, rfl, law_post hl hr hres hT hv hspec hW hx.below⟩
end
end Go.Eng
