/- ClosetStuck: whatever the closets and the list are, the law returns true and what was handed in reads as it did; no conditions. -/
import Derived.Test.YtokhmghgghjmhaaRows
import Derived.Test.YtokhmghgghjmhaaChecked
import Derived.Test.YtokhmghgghjmhaaJ8
import Derived.Test.YtokhmghgghjmhaaJ9
import Derived.Test.YtokhmghgghjmhaaJ10
import Derived.Test.YtokhmghgghjmhaaJ11
import Derived.WalkKit
import Derived.ProofKit
import Derived.OpenShut
import Derived.ShutString
import Derived.ChangeOld
import Derived.Below
import Derived.SizedLaws
import Derived.Test.YtokhmghgghjmhaaJ0
import Derived.Test.YtokhmghgghjmhaaJ1
import Derived.Test.YtokhmghgghjmhaaJ2
import Derived.Test.YtokhmghgghjmhaaJ3
import Derived.Test.YtokhmghgghjmhaaJ4
import Derived.Test.YtokhmghgghjmhaaJ5
import Derived.Test.YtokhmghgghjmhaaJ6
import Derived.Test.YtokhmghgghjmhaaJ7
/- ClosetStuck: whatever the closets and the other arguments are, the law returns true; what was handed in reads as1 it did. -/
namespace Go.Proofs.Ytokhmghgghjmhaa.closetStuck
open Go.ChangeShapes Go.WideShapes Go.ChangeAt Go.RowKit Go.Proofs.Ytokhmghgghjmhaa.Q
set_option linter.unusedVariables false
set_option maxRecDepth 100000 in
theorem lifted (os : Os) (started : os.Started) (H : Type) (enc : TypeId × Value → H) :
    ReturnsInHanded {} Try.checked os 3 .any (Rows.closetStuckSpec.pre6 enc Try.prog Try.f3 Rows.closetStuckRow.domain false) (Rows.closetStuckSpec.post enc Try.prog Try.f3 false true false false) := by
  refine returnsInHanded_of_change_sized (C := Try.checked) own started (by kernel_rfl) Try.func3
    (ChangeSpec.witness6 (enc := enc) (C := Try.checked) false ⟨#[], #[.agg #[.int .i64 0, .int .i64 0, .slice none 0 0, .slice none 0 0, .slice none 0 0], .slice none 0 0], []⟩ 8 (by kernel_rfl) (by kernel_rfl) (by kernel_rfl) (by kernel_rfl)) ?_
  intro W base args ds gs before hval0 hW hcnd hsz0 _
  have hval : ∀ (j : Nat) t v, Try.f3.params[j]? = some t → args[j]? = some v → Value.okWide Try.prog W .any base t v := hval0
  have hW' := hW
  obtain ⟨p, q, hA0, hV, rfl, hfz, hnd⟩ := hW
  have hA : DataW.TrodAll enc Try.prog W 0 (fun _ => true) true Try.f3.params.toList args.toList ds p := hA0
  rw [Try.params3] at hA hval
  obtain ⟨v0, vs0, d0, ds0, p0, q0, hargs, rfl, rfl, h0, r0⟩ := trodAll_cons hA
  obtain ⟨v1, vs1, d1, ds1, p1, q1, rfl, rfl, rfl, h1, r1⟩ := trodAll_cons r0
  obtain ⟨rfl, rfl, rfl⟩ := trodAll_nil r1
  obtain rfl : args = #[v0, v1] := by cases args; simp_all
  obtain ⟨rfl, rfl⟩ := trodVars_none hV
  have k0 := h0
  have lt0 : ∀ x ∈ p0, x.block < W.heap.size := by obtain ⟨m, hm⟩ := k0; exact DataW.trod_lt m _ _ _ hm
  obtain ⟨cs0, cl0, A20, hs0, c20, A30, hung0, c30, A40, looks0, c40, rfl, ⟨hC20, hl20⟩, ⟨hC30, hl30⟩, ⟨hC40, hl40⟩⟩ := open_closet (hval 0 26 v0 rfl rfl) h0
  have k1 := h1
  have lt1 : ∀ x ∈ p1, x.block < W.heap.size := by obtain ⟨m, hm⟩ := k1; exact DataW.trod_lt m _ _ _ hm
  obtain ⟨A1, l1, c1, rfl, hC1, hl1⟩ := open_list (hval 1 23 v1 rfl rfl) h1
  refine (stuck_walk ⟨hC20, hl20, hC30, hl30, hC40, hl40⟩ hC1 hl1).mono fun e W' ⟨he, bel⟩ => ?_
  subst he
  exact ⟨_, rfl, _, _, _, [], _, [], hW', trodAll_mk1 (shut_bool Try.underlying4 _), (trodAll_cons_mk (Below.trod laidOut (by kernel_rfl) (of_decide_eq_true (by kernel_rfl)) k0 bel lt0) (trodAll_cons_mk (Below.trod laidOut (by kernel_rfl) (of_decide_eq_true (by kernel_rfl)) k1 bel lt1) trodAll_mk0)), rfl, bel.frame _, fun h => by cases h⟩
set_option maxRecDepth 100000 in
theorem closed : joinedFacts Try.prog 3 Try.f3 Rows.closetStuckSpec Rows.closetStuckRow = true := by
  unfold joinedFacts
  rw [fact_enter, fact_lifts, laidOut, fact_rowed, fact_heard]
  kernel_rfl
theorem over : Rows.closetStuckRow.holds Try.pinned (OpenSpec.ofChange Rows.closetStuckSpec) :=
  OpenClaim.holds_of_wide 3 Try.f3 rfl rfl rfl rfl rfl rfl rfl ⟨rfl, rfl, rfl, rfl, rfl⟩ rfl rfl rfl rfl rfl (by kernel_rfl) Try.func3 closed
    (of_decide_eq_true (by kernel_rfl)) (by unfold Func.isWrapper; first | (rw [if_pos (by decide +kernel)]; kernel_rfl) | (rw [if_neg (by decide +kernel)]; exact ⟨rfl, rfl⟩))
    (fun os started H enc _ => lifted os started H enc)
theorem proved : Rows.ClosetStuckSaid := over
#print axioms proved
end Go.Proofs.Ytokhmghgghjmhaa.closetStuck
namespace Go.Proofs.Ytokhmghgghjmhaa
/-- The row, under a short name, for the claim. -/
theorem closetStuck_holds : Rows.ClosetStuckSaid := closetStuck.proved
end Go.Proofs.Ytokhmghgghjmhaa

