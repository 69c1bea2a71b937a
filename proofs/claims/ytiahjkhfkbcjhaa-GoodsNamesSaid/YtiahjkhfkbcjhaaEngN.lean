/- The engine, part N: cuts of slices, and copies. -/
import Derived.Test.YtiahjkhfkbcjhaaEngM
import Derived.Laws.IdiomCopy
import Derived.Laws.CopyRow
set_option linter.unusedVariables false
set_option linter.unusedSimpArgs false
namespace Go.Eng

/-- v[l:h] -/
def view (v : Value) (s l h : Nat) : Value := match v with
  | .slice a _ cap => sliced a l h cap s
  | _ => undef

section
variable {P : Program} {w w' : World} {v : Value} {s n : Nat} {xs : List Value} {t e : TypeId}
theorem elem_eq (ht : P.underlying t = some (.slice e)) : P.elem t = e := by unfold Program.elem; rw [ht]

theorem Sl.view {l h : Nat} (H : Sl s w v n xs) (hl : l ≤ h) (hh : h ≤ n) : Sl s w (view v s l h) (h - l) ((xs.drop (l * s)).take ((h - l) * s)) := by
  obtain ⟨a, cap, rfl, h1, h2, h3, h4⟩ := H
  have hm : l * s + (h - l) * s ≤ n * s := by rw [← Nat.add_mul]; exact Nat.mul_le_mul_right s (by omega)
  refine ⟨_, cap - l, rfl, by omega, by unfold maxLen at *; omega, by simp; omega, ?_⟩
  by_cases e0 : h - l = 0
  · exact .inl e0
  · rcases h4 with h4 | ⟨p, rfl, h4⟩
    · omega
    · right
      refine ⟨p.add (l * s), by rw [if_neg (by omega)]; rfl, fun i x hx => ?_⟩
      rw [add_add]
      refine h4 _ x ?_
      rw [List.getElem?_take] at hx
      split at hx
      · rw [List.getElem?_drop] at hx; exact hx
      · simp at hx

theorem cut_run {lo hi : Option Value} {l h : Nat} (ht : P.underlying t = some (.slice e)) (hs : P.cellsOf e = s) (hs0 : s ≠ 0) (H : Sl s w v n xs) (hl : l ≤ h) (hh : h ≤ n)
    (e1 : (lo = none ∧ l = 0) ∨ lo = some (.int .i64 (l : Int))) (e2 : (hi = none ∧ h = n) ∨ hi = some (.int .i64 (h : Int))) (w1 : World) :
    (Instr.sliceAt t v lo hi none).run P w1 = .ok (view v s l h) w1 := by
  obtain ⟨a, cap, rfl, h1, h2, h3, h4⟩ := H
  have he := elem_eq ht
  have ht' : P.underlying t = some (.slice (P.elem t)) := by rw [he]; exact ht
  have hz := sizeOf_run (P := P) (t := e) hs hs0 w1
  rw [run_sliceAt_slice w1 t _ _ _ _ ht', run_slice_any w1 t a n cap ht']
  have hb : (Instr.sliceBounds true n cap lo hi none).run P w1 = .ok (l, h, cap) w1 := by
    rcases e1 with ⟨rfl, rfl⟩ | rfl <;> rcases e2 with ⟨rfl, rfl⟩ | rfl
    · simp [Instr.sliceBounds]
    · simp [Instr.sliceBounds, run_sliceBound, (by omega : (h : Int) ≤ cap)]
    · simp [Instr.sliceBounds, run_sliceBound, (by omega : (l : Int) ≤ h)]
    · simp [Instr.sliceBounds, run_sliceBound, (by omega : (h : Int) ≤ cap), (by omega : (l : Int) ≤ h)]
  rw [hb]
  simp only [Result.andThen_ok, he, hz]
  rfl

/-- 'x[l:]', 'x[:h]', 'x[l:h]'. -/
theorem VS.cutL {l : Nat} {K : Value → Prop} (ht : P.underlying t = some (.slice e)) (hs : P.cellsOf e = s) (hs0 : s ≠ 0) (H : Sl s w v n xs) (hl : l ≤ n) (hk : K (view v s l n)) : VS P (Instr.sliceAt t v (some (.int .i64 (l : Int))) none none) w K :=
  VS.mk (fun w1 _ => cut_run ht hs hs0 H hl (Nat.le_refl _) (.inr rfl) (.inl ⟨rfl, rfl⟩) w1) hk
theorem VS.cutH {h : Nat} {K : Value → Prop} (ht : P.underlying t = some (.slice e)) (hs : P.cellsOf e = s) (hs0 : s ≠ 0) (H : Sl s w v n xs) (hh : h ≤ n) (hk : K (view v s 0 h)) : VS P (Instr.sliceAt t v none (some (.int .i64 (h : Int))) none) w K :=
  VS.mk (fun w1 _ => cut_run ht hs hs0 H (Nat.zero_le _) hh (.inl ⟨rfl, rfl⟩) (.inr rfl) w1) hk
theorem VS.cutLH {l h : Nat} {K : Value → Prop} (ht : P.underlying t = some (.slice e)) (hs : P.cellsOf e = s) (hs0 : s ≠ 0) (H : Sl s w v n xs) (hl : l ≤ h) (hh : h ≤ n) (hk : K (view v s l h)) : VS P (Instr.sliceAt t v (some (.int .i64 (l : Int))) (some (.int .i64 (h : Int))) none) w K :=
  VS.mk (fun w1 _ => cut_run ht hs hs0 H hl hh (.inr rfl) (.inr rfl) w1) hk

theorem view_all (H : Sl s w v n xs) : view v s 0 n = v := by
  obtain ⟨a, cap, rfl, h1, h2, h3, h4⟩ := H
  simp only [view, sliced, Nat.sub_zero, Nat.zero_mul]
  have : a.map (·.add 0) = a := by cases a <;> rfl
  rw [this]; simp

theorem splice_take {α : Type} {X Y : List α} {l c n : Nat} (hy : Y.length = c) (hn : l + c ≤ n) (hX : n ≤ X.length) : (X.take l ++ Y ++ X.drop (l + c)).take n = (X.take n).take l ++ Y ++ (X.take n).drop (l + c) := by
  rw [List.take_take, Nat.min_eq_left (by omega), List.take_append, List.take_of_length_le (by simp; omega)]
  congr 1
  rw [List.drop_take]
  congr 1
  simp; omega

theorem Gr.setRow {S : Nat → Prop} {a b : World} (h : Gr S a b) {g : Nat} (hg : S g) (cs : Array Value) : Gr S a (b.setRow g cs) :=
  h.trans ⟨rfl, rfl, rfl, by simp, fun k _ hn => setRow_other b g k cs (fun e => hn (e ▸ hg))⟩

/-- 'copy(v[l:], x)', v a row of one's own. -/
theorem VE.copy {B b l m c : Nat} {dT sT T : TypeId} {z sv : Value} {ys : List Value} {K : Value → World → Prop} (ht : P.underlying dT = some (.slice e)) (he : Elem P e z 1 b) (Ho : Own B e 1 w v n xs) (hl : l ≤ n) (Hs : Sl 1 w sv m ys)
    (h1 : ∀ u ∈ ys, u.oneCell' = true) (hc : c = min m (n - l)) (hk : ∀ w', Gr (fun k => v.ownBlock = some k) w w' → Own B e 1 w' v n (xs.take l ++ ys.take c ++ xs.drop (l + c)) → K (.int .i64 (c : Int)) w') :
    VE P (Builtin.copy_ #[dT, sT] T #[view v 1 l n, sv]) w K := by
  refine VE.mk fun w1 hw1 => ?_
  obtain ⟨i, hi, _, hsz, _⟩ := he.info
  have hs1 : (P.info? e).map (·.size) = some 1 := by rw [hi]; simp [hsz]
  have hlen : xs.length = n := by have := Ho.len; omega
  have Ho1 := Own.ext Ho hw1
  have Hs1 := Sl.ext Hs hw1
  have hgo : goInt c = .int .i64 (c : Int) := rfl
  by_cases hc0 : c = 0
  · refine ⟨.int .i64 (c : Int), w1, ?_, hk w1 (Gr.ofExt hw1) ?_⟩
    · obtain ⟨a, cap, rfl, _⟩ := Hs1
      obtain ⟨a', cap', rfl, _⟩ := Own.sl Ho1
      simp only [view, sliced]
      rw [run_copy_none w1 dT sT T e _ _ _ _ _ _ ht hs1 (by show min _ _ = 0; omega), hc0]
      rfl
    · subst hc0; simpa using Ho1
  · obtain ⟨a, cap, rfl, g1, g2, g3, g4⟩ := Hs1
    rcases g4 with g4 | ⟨p, rfl, g4⟩
    · omega
    · rcases Ho1.2 with ⟨rfl, hx⟩ | ⟨g, cap', cur, rfl, hB, hg, k1, k2, k3, k4⟩
      · have : n = 0 := by simp [hx] at hlen; omega
        omega
      · refine ⟨.int .i64 (c : Int), w1.setRow g (cur.toList.take l ++ ys.take c ++ cur.toList.drop (l + (ys.take c).length)).toArray, ?_, hk _ (Gr.setRow (S := fun j => Value.ownBlock (.slice (some ⟨g, 0, none⟩) n cap') = some j) (Gr.ofExt hw1) rfl _) ?_⟩
        · have hv : view (.slice (some ⟨g, 0, none⟩) n cap') 1 l n = .slice (some ⟨g, l, none⟩) (n - l) (cap' - l) := by
            simp only [view, sliced]
            rw [if_neg (by omega), Option.map_some, add0, Nat.mul_one]
          rw [hv]
          have hyl : (ys.take c).length = c := by simp; omega
          rw [run_copy_row P w1 dT sT T e g l (n - l) (cap' - l) p m cap cur e (ys.take c) ht hs1 hg (by rw [hyl]; exact hc) (fun j u hu => by
            rw [List.getElem?_take] at hu
            split at hu
            · exact g4 j u hu
            · simp at hu) (by rw [hyl]; omega) (fun u hu => h1 u (List.mem_of_mem_take hu))]
          rw [hyl]; rfl
        · have hyl : (ys.take c).length = c := by simp; omega
          refine ⟨?_, .inr ⟨g, cap', _, rfl, hB, setRow_heap _ _ _ _ _ _ hg, k1, k2, ?_, ?_⟩⟩
          · simp; omega
          · simp; omega
          · rw [hyl]
            have hx : xs = cur.toList.take n := by rw [Nat.mul_one] at k4; exact k4.symm
            rw [hx, Nat.mul_one]
            exact splice_take hyl (by omega) (by simp; omega)

/-- 'copy(v, x)', v a row of one's own. -/
theorem VE.copy0 {B b m c : Nat} {dT sT T : TypeId} {z sv : Value} {ys : List Value} {K : Value → World → Prop} (ht : P.underlying dT = some (.slice e)) (he : Elem P e z 1 b) (Ho : Own B e 1 w v n xs) (Hs : Sl 1 w sv m ys)
    (h1 : ∀ u ∈ ys, u.oneCell' = true) (hc : c = min m n) (hk : ∀ w', Gr (fun k => v.ownBlock = some k) w w' → Own B e 1 w' v n (ys.take c ++ xs.drop c) → K (.int .i64 (c : Int)) w') :
    VE P (Builtin.copy_ #[dT, sT] T #[v, sv]) w K := by
  have h := VE.copy (P := P) (K := K) (l := 0) (c := c) (dT := dT) (sT := sT) (T := T) ht he Ho (Nat.zero_le _) Hs h1 (by simpa using hc) (fun w' hg ho => hk w' hg (by simpa using ho))
  rw [view_all (Own.sl Ho)] at h
  exact h
end
end Go.Eng
