/- The statement GoodsTells. -/
import Derived.Test.YtiahjkhfkbcjhaaRows
import Derived.Test.YtiahjkhfkbcjhaaEngL
import Derived.Test.YtiahjkhfkbcjhaaL16a
import Derived.ProofKit
namespace Go.Proofs.Ytiahjkhfkbcjhaa
set_option maxRecDepth 100000

open Go.ChangeShapes Go.WideShapes Go.ChangeAt Go.RowKit Go.Eng in
theorem goodsTells_lifted (os : Os) (started : os.Started) (H : Type) (enc : TypeId × Value → H) :
    ReturnsInHanded {} Try.checked os 3 .any (Rows.goodsTellsSpec.pre6 enc Try.prog Try.f3 Rows.goodsTellsRow.domain false) (Rows.goodsTellsSpec.post enc Try.prog Try.f3 false true false false) := by
  refine returnsInHanded_of_change (C := Try.checked) own started (by kernel_rfl) Try.func3
    (ChangeSpec.witness6 (enc := enc) (C := Try.checked) false ⟨#[], #[.agg #[.slice none 0 0], .slice none 0 0], []⟩ 8 (by kernel_rfl) (by kernel_rfl) (by kernel_rfl) (by kernel_rfl)) ?_
  intro W base args ds gs before hval0 hW hcnd _
  have hval : ∀ (j : Nat) t v, Try.f3.params[j]? = some t → args[j]? = some v → Value.okWide Try.prog W .any base t v := hval0
  have hW' := hW
  obtain ⟨p, q, hA0, hV, e0, hfz, hnd⟩ := hW
  have hA : DataW.TrodAll enc Try.prog W 0 (fun _ => true) true Try.f3.params.toList args.toList ds p := hA0
  rw [Try.params3] at hA hval
  clear hfz hnd hV e0 hval0
  obtain ⟨v0, vs0, d0, ds0, p0, q0, e0, rfl, f0, h0, t0⟩ := trodAll_cons hA
  obtain ⟨v1, vs1, d1, ds1, p1, q1, e1, rfl, f1, h1, t1⟩ := trodAll_cons t0
  subst e1
  obtain ⟨ee, rfl, _⟩ := trodAll_nil t1
  subst ee
  obtain rfl : args = #[v0, v1] := Array.toList_inj.1 (by simpa using e0)
  obtain ⟨g0, s0, r0, rfl, H0, R0⟩ := open_G Try.underlying24 rfl (by kernel_rfl) (by kernel_rfl) Try.underlying22 Try.underlying25 Try.underlying3 (by kernel_rfl) (by kernel_rfl) (hval 0 24 _ rfl rfl) h0
  obtain ⟨l1, H1, R1⟩ := open_L Try.underlying25 Try.underlying3 (by kernel_rfl) (hval 1 25 _ rfl rfl) h1
  exact law_calls laidOut (by rw [Try.params3]; intro t ht; revert t; decide +kernel) rfl Try.underlying4 rfl ⟨rfl, rfl, rfl⟩ hW' (tells_pc H0 H1)

theorem goodsTells_holds : Rows.GoodsTellsSaid :=
  OpenClaim.holds_of_wide 3 Try.f3 rfl rfl rfl rfl rfl rfl rfl ⟨rfl, rfl, rfl, rfl, rfl⟩ rfl rfl rfl rfl rfl (by kernel_rfl) Try.func3 (by kernel_rfl)
    (of_decide_eq_true (by kernel_rfl)) (by unfold Func.isWrapper; first | (rw [if_pos (by decide +kernel)]; kernel_rfl) | (rw [if_neg (by decide +kernel)]; exact ⟨rfl, rfl⟩))
    (fun os started H enc _ => goodsTells_lifted os started H enc)
end Go.Proofs.Ytiahjkhfkbcjhaa
