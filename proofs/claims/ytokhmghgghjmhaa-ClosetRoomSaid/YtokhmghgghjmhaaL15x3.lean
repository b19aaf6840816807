/- ClosetRoom: whatever the closets are, the law returns true; what was handed in reads as it did. -/
import Derived.Test.YtokhmghgghjmhaaRows
import Derived.Test.YtokhmghgghjmhaaChecked
import Derived.WalkKit
import Derived.ProofKit
import Derived.OpenShut
import Derived.ShutString
import Derived.ChangeOld
import Derived.Below
import Derived.SizedLaws
import Derived.Test.YtokhmghgghjmhaaA0
import Derived.Test.YtokhmghgghjmhaaA1
import Derived.Test.YtokhmghgghjmhaaA2
import Derived.Test.YtokhmghgghjmhaaA3
import Derived.Test.YtokhmghgghjmhaaA4
import Derived.Test.YtokhmghgghjmhaaB0
import Derived.Test.YtokhmghgghjmhaaB1
import Derived.Test.YtokhmghgghjmhaaB2
import Derived.Test.YtokhmghgghjmhaaB3
import Derived.Test.YtokhmghgghjmhaaB4
import Derived.Test.YtokhmghgghjmhaaB5
import Derived.Test.YtokhmghgghjmhaaB6
import Derived.Test.YtokhmghgghjmhaaL15x0
import Derived.Test.YtokhmghgghjmhaaL15x1
import Derived.Test.YtokhmghgghjmhaaL15x2
namespace Go.Proofs.Ytokhmghgghjmhaa.closetRoom
open Go.ChangeShapes Go.WideShapes Go.ChangeAt Go.RowKit Go.Proofs.Ytokhmghgghjmhaa.Q
set_option linter.unusedVariables false
set_option maxRecDepth 100000 in
theorem lifted (os : Os) (started : os.Started) (H : Type) (enc : TypeId × Value → H) :
    ReturnsInHanded {} Try.checked os 12 .any (Rows.closetRoomSpec.pre6 enc Try.prog Try.f12 Rows.closetRoomRow.domain false) (Rows.closetRoomSpec.post enc Try.prog Try.f12 false true false false) := by
  refine returnsInHanded_of_change_sized (C := Try.checked) own started (by kernel_rfl) Try.func12
    (ChangeSpec.witness6 (enc := enc) (C := Try.checked) false ⟨#[], #[.agg #[.int .i64 0, .int .i64 0, .slice none 0 0, .slice none 0 0, .slice none 0 0]], []⟩ 8 (by kernel_rfl) (by kernel_rfl) (by kernel_rfl) (by kernel_rfl)) ?_
  intro W base args ds gs before hval0 hW hcnd hsz0 _
  have hval : ∀ (j : Nat) t v, Try.f12.params[j]? = some t → args[j]? = some v → Value.okWide Try.prog W .any base t v := hval0
  have hW' := hW
  obtain ⟨p, q, hA0, hV, rfl, hfz, hnd⟩ := hW
  have hA : DataW.TrodAll enc Try.prog W 0 (fun _ => true) true Try.f12.params.toList args.toList ds p := hA0
  rw [Try.params12] at hA hval
  obtain ⟨v0, vs0, d0, ds0, p0, q0, hargs, rfl, rfl, h0, r0⟩ := trodAll_cons hA
  obtain ⟨rfl, rfl, rfl⟩ := trodAll_nil r0
  obtain rfl : args = #[v0] := by cases args; simp_all
  obtain ⟨rfl, rfl⟩ := trodVars_none hV
  have k0 := h0
  have lt0 : ∀ x ∈ p0, x.block < W.heap.size := by obtain ⟨m, hm⟩ := k0; exact DataW.trod_lt m _ _ _ hm
  obtain ⟨cs0, cl0, A20, hs0, c20, A30, hung0, c30, A40, looks0, c40, rfl, ⟨hC20, hl20⟩, ⟨hC30, hl30⟩, ⟨hC40, hl40⟩⟩ := open_closet (hval 0 26 v0 rfl rfl) h0
  refine (room_walk ⟨hC20, hl20, hC30, hl30, hC40, hl40⟩).mono fun e W' ⟨he, bel⟩ => ?_
  subst he
  exact ⟨_, rfl, _, _, _, [], _, [], hW', trodAll_mk1 (shut_bool Try.underlying4 _), (trodAll_cons_mk (Below.trod laidOut (by kernel_rfl) (of_decide_eq_true (by kernel_rfl)) k0 bel lt0) trodAll_mk0), rfl, bel.frame _, fun h => by cases h⟩
set_option maxRecDepth 100000 in
theorem closed : joinedFacts Try.prog 12 Try.f12 Rows.closetRoomSpec Rows.closetRoomRow = true := by
  unfold joinedFacts
  rw [fact_enter, fact_lifts, laidOut, fact_rowed, fact_heard, fz_inPlace, fz_unf, fz_rec, fz_named, show (Try.prog.make == some Rows.closetRoomRow.make) = true from fact_make]
  kernel_rfl
theorem over : Rows.closetRoomRow.holds Try.pinned (OpenSpec.ofChange Rows.closetRoomSpec) :=
  OpenClaim.holds_of_wide 12 Try.f12 rfl rfl rfl rfl rfl rfl rfl ⟨rfl, rfl, rfl, rfl, rfl⟩ rfl rfl rfl rfl rfl (by kernel_rfl) Try.func12 closed
    (of_decide_eq_true (by kernel_rfl)) (by unfold Func.isWrapper; first | (rw [if_pos (by decide +kernel)]; kernel_rfl) | (rw [if_neg (by decide +kernel)]; exact ⟨rfl, rfl⟩))
    (fun os started H enc _ => lifted os started H enc)
theorem proved : Rows.ClosetRoomSaid := over
end Go.Proofs.Ytokhmghgghjmhaa.closetRoom
namespace Go.Proofs.Ytokhmghgghjmhaa
/-- The row, under a short name, for the claim. -/
theorem closetRoom_holds : Rows.ClosetRoomSaid := closetRoom.proved
end Go.Proofs.Ytokhmghgghjmhaa
