/- Part A3 of the proof (C20, C21, C22, C23, C24, C25, C26, C27, C28, C29, C30, C31, C32, C33): contracts of functions, and plain lemmas about what they compute. -/
import Derived.Laws.Cover3
import Derived.Laws.CopyRow
import Derived.Laws.IdiomCopy
import Derived.Laws.CopyOwn
import Derived.WalkMore
import Derived.Maps.OwnSet
import Derived.DeepKeys4
import Derived.Test.YtokhmghgghjmhaaA0
import Derived.Test.YtokhmghgghjmhaaA1
import Derived.Test.YtokhmghgghjmhaaA2
namespace Go.Proofs.Ytokhmghgghjmhaa.Q
open Go.RowKit Go.Proofs.YtokhmghgghjmhaaW.PrintWords Go.Proofs.YtokhmghgghjmhaaW.PrintLast Go.Proofs.YtokhmghgghjmhaaW.PrintMore
set_option linter.unusedVariables false
set_option linter.unusedSimpArgs false
def minB (t : Int) : Bool := decide (0 ≤ t ∧ t ≤ 99)
/-- Is a minute right for a horse in a truth? -/
def rightP (hs : List S139) (p : List Int) (k : Nat) (t : Int) (d : Nat → Int) : Bool := decide (mins hs p d k ≤ t ∧ t ≤ mins hs p d k + (rd_T139 hs k).f2)
def cntN (hs : List S139) (p : List Int) (k : Nat) (t : Int) (ts : List (Nat → Int)) (n : Nat) : Nat := ((ts.take n).filter (rightP hs p k t)).length
theorem cnt_true {hs : List S139} {p : List Int} {k : Nat} {t : Int} {ts : List (Nat → Int)} {n : Nat} (h : n < ts.length) (hr : rightP hs p k t (rdN ts n) = true) : cntN hs p k t ts (n + 1) = cntN hs p k t ts n + 1 := by
  unfold cntN; rw [take_snocN ts n h]; simp [List.filter_append, hr]
theorem cnt_false {hs : List S139} {p : List Int} {k : Nat} {t : Int} {ts : List (Nat → Int)} {n : Nat} (h : n < ts.length) (hr : rightP hs p k t (rdN ts n) = false) : cntN hs p k t ts (n + 1) = cntN hs p k t ts n := by
  unfold cntN; rw [take_snocN ts n h]; simp [List.filter_append, hr]
theorem cnt_le (hs : List S139) (p : List Int) (k : Nat) (t : Int) (ts : List (Nat → Int)) (n : Nat) : cntN hs p k t ts n ≤ n := by
  unfold cntN
  exact Nat.le_trans (List.length_filter_le _ _) (by rw [List.length_take]; omega)
/-- In how many truths a minute is right for a horse. -/
def cntR (hs : List S139) (p : List Int) (k : Nat) (t : Int) (ts : List (Nat → Int)) : Nat := (ts.filter (rightP hs p k t)).length
theorem cnt_all (hs : List S139) (p : List Int) (k : Nat) (t : Int) (ts : List (Nat → Int)) : cntN hs p k t ts ts.length = cntR hs p k t ts := by
  unfold cntN cntR; rw [List.take_length]
def fineR (cs : Int) (hs : List S139) (p : List Int) (h t : Int) : Bool := fineB cs hs p && horseB hs.length h && minB t
/-- What Right says. -/
def rightR (cs cl : Int) (hs : List S139) (hung : List Int) (looks : List S140) (p : List Int) (h t : Int) : Int × Int :=
  if askCode cs cl hs hung looks (fineR cs hs p h t) ≠ 0 then (0, askCode cs cl hs hung looks (fineR cs hs p h t))
  else if cntR hs p h.toNat t (truthsT hs hung looks) = (truthsT hs hung looks).length then (1, 0) else if cntR hs p h.toNat t (truthsT hs hung looks) = 0 then (2, 0) else (3, 0)
set_option maxHeartbeats 4000000 in
set_option maxRecDepth 100000 in
theorem rightX_calls (cs cl : Int) {A2 A3 A4 A : Option Addr} {c2 c3 c4 c5 : Nat} {hs : List S139} {hung : List Int} {looks : List S140} {p : List Int} (h t : Int) {w : World} (M : Mem w A2 A3 A4 c2 c3 c4 hs hung looks)
    (hrp : Kd.C (Kd.int .i64) w A p.length p) (hcp : p.length ≤ c5) (hn : hs.length ≤ 1000) :
    Calls Try.prog 71 #[.agg #[.int .i64 cs, .int .i64 cl, .slice A2 hs.length c2, .slice A3 hung.length c3, .slice A4 looks.length c4], .slice A p.length c5, .int .i64 h, .int .i64 t] w
      fun e w' => e = .returned (.tuple #[.int .i64 (rightR cs cl hs hung looks p h t).1, .int .i64 (rightR cs cl hs hung looks p h t).2]) ∧ Below w.heap.size w w' := by
  have HM := Aside0.mk M
  have HRP := Aside0.mk hrp
  have HCP := Aside0.mk hcp
  have HN := Aside0.mk hn
  have HH := Aside0.mk (horse_f cs cl hs hung looks h)
  have HMI : Aside0 (closet_minute.f t = some (minB t)) := ⟨by unfold closet_minute.f; rw [within_f]; rfl⟩
  clear M hrp hcp hn
  obtain ⟨W0, hW0⟩ : ∃ W0, w.alloc (.cells #[.int .i64 cs, .int .i64 cl, .slice A2 hs.length c2, .slice A3 hung.length c3, .slice A4 looks.length c4] 35) = W0 := ⟨_, rfl⟩
  have HB0 := Aside0.mk (show Below w.heap.size w W0 from by rw [← hW0]; repeat (first | exact Below.refl _ _ | apply below_alloc))
  have HBK := Aside0.mk (show W0.heap[w.heap.size]? = some (.cells #[.int .i64 cs, .int .i64 cl, .slice A2 hs.length c2, .slice A3 hung.length c3, .slice A4 looks.length c4] 35 (0, 0)) from by rw [← hW0]; repeat (first | (refine blk_new_ ?_; simp; done) | refine blk_alloc ?_ _))
  have b0 : W0.cell? ⟨w.heap.size, 0, none⟩ = some (.int .i64 cs) := (blk_cell HBK.out 0).trans rfl
  have b1 : W0.cell? ⟨w.heap.size, 1, none⟩ = some (.int .i64 cl) := (blk_cell HBK.out 1).trans rfl
  have b2 : W0.cell? ⟨w.heap.size, 2, none⟩ = some (.slice A2 hs.length c2) := (blk_cell HBK.out 2).trans rfl
  have b3 : W0.cell? ⟨w.heap.size, 3, none⟩ = some (.slice A3 hung.length c3) := (blk_cell HBK.out 3).trans rfl
  have b4 : W0.cell? ⟨w.heap.size, 4, none⟩ = some (.slice A4 looks.length c4) := (blk_cell HBK.out 4).trans rfl
  obtain ⟨b, hb⟩ : ∃ b, fineB cs hs p = b := ⟨_, rfl⟩
  have HF := Aside0.mk hb
  obtain ⟨hq, hhq⟩ : ∃ hq, horseB hs.length h = hq := ⟨_, rfl⟩
  have HHQ := Aside0.mk hhq
  obtain ⟨mq, hmq⟩ : ∃ mq, minB t = mq := ⟨_, rfl⟩
  rw [hhq] at HH
  rw [hmq] at HMI
  have HFR : Aside0 (fineR cs hs p h t = (b && hq && mq)) := ⟨by unfold fineR; rw [hb, hhq, hmq]⟩
  clear hb hhq hmq
  go_enter Try.func71, Try.ntmps71
  go_wp2_with fail
  try rw [hW0]
  clear hW0
  cases b with
  | false =>
    rw [Bool.false_and, Bool.false_and] at HFR
    refine wp_region_held_drew (S := fun W' => Below W0.heap.size W0 W' ∧ W'.cell? ⟨w.heap.size, 0, none⟩ = some (.int .i64 cs) ∧ W'.cell? ⟨w.heap.size, 1, none⟩ = some (.int .i64 cl) ∧ W'.cell? ⟨w.heap.size, 2, none⟩ = some (.slice A2 hs.length c2) ∧ W'.cell? ⟨w.heap.size, 3, none⟩ = some (.slice A3 hung.length c3) ∧ W'.cell? ⟨w.heap.size, 4, none⟩ = some (.slice A4 looks.length c4)) (by kernel_rfl) ?hS (fun hHeld => ?_)
    case hS => exact ⟨below_drew (Below.refl _ _), b0, b1, b2, b3, b4⟩
    focus
      refine tkT 0 (some 17) (v := ?_) rfl rfl (.inl ⟨by rfl, ?_⟩) ?_
      rotate_left
      · (intro w hSw; (try dsimp only at hSw); go_simp; with_reducible rfl)
      try simp only [pS]
      refine tkT 1 (some 18) (v := ?_) rfl rfl (.inl ⟨by rfl, ?_⟩) ?_
      rotate_left
      · (intro w hSw; (try dsimp only at hSw); go_simp; with_reducible rfl)
      try simp only [pS]
      refine tkT 2 (some 19) (v := ?_) rfl rfl (.inl ⟨by rfl, ?_⟩) ?_
      rotate_left
      · (intro w hSw; (try dsimp only at hSw); go_simp; with_reducible rfl)
      try simp only [pS]
      refine wpAnyH_ready (rs := [3]) (by kernel_rfl) (by simp) ?_
      refine AllReadyH.cons (o := { dst := some 20, op := Op.call { callee := Callee.value (Operand.func 88), args := #[Operand.tmp 18, Operand.tmp 19], argTypes := #[35, 23] }, type := 4, pos := "ask.go:74", after := #[{ on := 1, ground := Ground.data }, { on := 2, ground := Ground.data }], guard := none }) rfl (fun K hK => ?_) ?_
      go_simp
      ((first | (go_at_call 88; refine (isPlace_all cs cl A2 A3 A4 A c2 c3 c4 c5 hs hung looks p _ (HM.out.later (below_step HB0.out hHeld.1)) (Kd.C_below HRP.out (below_step HB0.out hHeld.1)) HCP.out HN.out HF.out).mono ?_; rintro e wx ⟨rfl, hbx⟩; have HBX := Aside0.mk hbx; clear hbx) | (go_at_call 87; refine (asked_calls cs cl (HM.out.later (below_step HB0.out hHeld.1)) false).mono ?_; rintro e wy ⟨pt, c, rfl, hA⟩; have HBY := Aside0.mk hA.below; have HA := Aside0.mk hA; clear hA)))
      go_wp2_with fail
      refine hK.out _ _ ?_ ?_
      · ((try dsimp only); (first | (go_keep; done) | (go_split_ands; refine ⟨below_step (by assumption) (by first | exact HBY.out | exact HBX.out), ?_, ?_, ?_, ?_, ?_⟩ <;> first | exact later HBY.out (by assumption) | exact later HBX.out (by assumption))))
      try clear hHeld
      intro hHeld
      clear hK K
      try simp only [pS]
      refine tkT 4 (some 21) (v := ?_) rfl rfl (.inl ⟨by rfl, ?_⟩) ?_
      rotate_left
      · (intro w hSw; (try dsimp only at hSw); go_simp; with_reducible rfl)
      try simp only [pS]
      refine tkT 5 (some 22) (v := undef) rfl rfl (.inr ⟨by rfl, rfl⟩) ?_
      try simp only [pS]
      refine tkT 6 (some 23) (v := undef) rfl rfl (.inr ⟨by rfl, rfl⟩) ?_
      try simp only [pS]
      refine tkT 7 (some 24) (v := undef) rfl rfl (.inr ⟨by rfl, rfl⟩) ?_
      try simp only [pS]
      refine tkT 8 (some 25) (v := ?_) rfl rfl (.inl ⟨by rfl, ?_⟩) ?_
      rotate_left
      · (intro w hSw; (try dsimp only at hSw); go_simp; with_reducible rfl)
      try simp only [pS]
      refine tkT 9 (some 26) (v := ?_) rfl rfl (.inl ⟨by rfl, ?_⟩) ?_
      rotate_left
      · (intro w hSw; (try dsimp only at hSw); go_simp; with_reducible rfl)
      try simp only [pS]
      refine tkT 10 (some 27) (v := undef) rfl rfl (.inr ⟨by rfl, rfl⟩) ?_
      try simp only [pS]
      refine tkT 11 (some 28) (v := undef) rfl rfl (.inr ⟨by rfl, rfl⟩) ?_
      try simp only [pS]
      refine tkT 12 (some 29) (v := ?_) rfl rfl (.inl ⟨by rfl, ?_⟩) ?_
      rotate_left
      · (intro w hSw; (try dsimp only at hSw); go_simp; with_reducible rfl)
      try simp only [pS]
      refine wpAnyH_ready (rs := [13]) (by kernel_rfl) (by simp) ?_
      refine AllReadyH.cons (o := { dst := some 30, op := Op.call { callee := Callee.value (Operand.func 87), args := #[Operand.tmp 17, Operand.tmp 29], argTypes := #[35, 4] }, type := 133, pos := "ask.go:74", after := #[{ on := 0, ground := Ground.data }, { on := 12, ground := Ground.data }, { on := 11, ground := Ground.chain }], guard := none }) rfl (fun K hK => ?_) ?_
      go_simp
      ((first | (go_at_call 88; refine (isPlace_all cs cl A2 A3 A4 A c2 c3 c4 c5 hs hung looks p _ (HM.out.later (below_step HB0.out hHeld.1)) (Kd.C_below HRP.out (below_step HB0.out hHeld.1)) HCP.out HN.out HF.out).mono ?_; rintro e wx ⟨rfl, hbx⟩; have HBX := Aside0.mk hbx; clear hbx) | (go_at_call 87; refine (asked_calls cs cl (HM.out.later (below_step HB0.out hHeld.1)) false).mono ?_; rintro e wy ⟨pt, c, rfl, hA⟩; have HBY := Aside0.mk hA.below; have HA := Aside0.mk hA; clear hA)))
      go_wp2_with fail
      refine hK.out _ _ ?_ ?_
      · ((try dsimp only); (first | (go_keep; done) | (go_split_ands; refine ⟨below_step (by assumption) (by first | exact HBY.out | exact HBX.out), ?_, ?_, ?_, ?_, ?_⟩ <;> first | exact later HBY.out (by assumption) | exact later HBX.out (by assumption))))
      try clear hHeld
      intro hHeld
      clear hK K
      try simp only [pS]
      refine tkT 14 (some 16) (v := ?_) rfl rfl (.inl ⟨by rfl, ?_⟩) ?_
      rotate_left
      · (intro w hSw; (try dsimp only at hSw); go_simp; with_reducible rfl)
      try simp only [pS]
      refine tkT 15 (some 31) (v := ?_) rfl rfl (.inl ⟨by rfl, ?_⟩) ?_
      rotate_left
      · (intro w hSw; (try dsimp only at hSw); go_simp; with_reducible rfl)
      try simp only [pS]
      refine tkT 16 (some 32) (v := ?_) rfl rfl (.inl ⟨by rfl, ?_⟩) ?_
      rotate_left
      · (intro w hSw; (try dsimp only at hSw); go_simp; with_reducible rfl)
      try simp only [pS]
      refine tkT 17 (some 10) (v := ?_) rfl rfl (.inl ⟨by rfl, ?_⟩) ?_
      rotate_left
      · (intro w hSw; (try dsimp only at hSw); go_simp; with_reducible rfl)
      try simp only [pS]
      refine tkT 18 (some 11) (v := ?_) rfl rfl (.inl ⟨by rfl, ?_⟩) ?_
      rotate_left
      · (intro w hSw; (try dsimp only at hSw); go_simp; with_reducible rfl)
      try simp only [pS]
      refine wpAnyH_done (by kernel_rfl) ?_ _
      rotate_left
      exact AllReadyH.nil
      exact AllReadyH.nil
    have HL := Aside0.mk (below_step (Below.refl _ _) hHeld.1)
    have HLW := Aside0.mk (below_step HB0.out HL.out)
    clear hHeld b0 b1 b2 b3 b4
    rcases HA.out with ⟨h0, hc, rfl, _⟩ | ⟨_, _, _, hbt, _⟩
    · have h1 : (c != 0) = true := by rw [bne_iff_ne]; exact h0
      have HR : Aside0 (rightR cs cl hs hung looks p h t = (0, c)) := ⟨by unfold rightR; rw [HFR.out, ← hc, if_pos h0]⟩
      clear hc h0
      go_wp2_with fail
      go_ret2
      exact ⟨by rw [HR.out]; rfl, HLW.out⟩
    · cases hbt
  | true =>
  cases hq with
  | false =>
    rw [Bool.and_false, Bool.false_and] at HFR
    refine wp_region_held_drew (S := fun W' => Below W0.heap.size W0 W' ∧ W'.cell? ⟨w.heap.size, 0, none⟩ = some (.int .i64 cs) ∧ W'.cell? ⟨w.heap.size, 1, none⟩ = some (.int .i64 cl) ∧ W'.cell? ⟨w.heap.size, 2, none⟩ = some (.slice A2 hs.length c2) ∧ W'.cell? ⟨w.heap.size, 3, none⟩ = some (.slice A3 hung.length c3) ∧ W'.cell? ⟨w.heap.size, 4, none⟩ = some (.slice A4 looks.length c4)) (by kernel_rfl) ?hS (fun hHeld => ?_)
    case hS => exact ⟨below_drew (Below.refl _ _), b0, b1, b2, b3, b4⟩
    focus
      refine tkT 0 (some 17) (v := ?_) rfl rfl (.inl ⟨by rfl, ?_⟩) ?_
      rotate_left
      · (intro w hSw; (try dsimp only at hSw); go_simp; with_reducible rfl)
      try simp only [pS]
      refine tkT 1 (some 18) (v := ?_) rfl rfl (.inl ⟨by rfl, ?_⟩) ?_
      rotate_left
      · (intro w hSw; (try dsimp only at hSw); go_simp; with_reducible rfl)
      try simp only [pS]
      refine tkT 2 (some 19) (v := ?_) rfl rfl (.inl ⟨by rfl, ?_⟩) ?_
      rotate_left
      · (intro w hSw; (try dsimp only at hSw); go_simp; with_reducible rfl)
      try simp only [pS]
      refine wpAnyH_ready (rs := [3]) (by kernel_rfl) (by simp) ?_
      refine AllReadyH.cons (o := { dst := some 20, op := Op.call { callee := Callee.value (Operand.func 88), args := #[Operand.tmp 18, Operand.tmp 19], argTypes := #[35, 23] }, type := 4, pos := "ask.go:74", after := #[{ on := 1, ground := Ground.data }, { on := 2, ground := Ground.data }], guard := none }) rfl (fun K hK => ?_) ?_
      go_simp
      ((first | (go_at_call 88; refine (isPlace_all cs cl A2 A3 A4 A c2 c3 c4 c5 hs hung looks p _ (HM.out.later (below_step HB0.out hHeld.1)) (Kd.C_below HRP.out (below_step HB0.out hHeld.1)) HCP.out HN.out HF.out).mono ?_; rintro e wx ⟨rfl, hbx⟩; have HBX := Aside0.mk hbx; clear hbx) | (go_at_call 101; refine (closet_Closet_horse.calls cs cl A2 c2 hs A3 c3 hung A4 c4 looks h _ _ (Kd.C_below HM.out.h2 (below_step HB0.out hHeld.1)) HM.out.l2 (Kd.C_below HM.out.h3 (below_step HB0.out hHeld.1)) HM.out.l3 (Kd.C_below HM.out.h4 (below_step HB0.out hHeld.1)) HM.out.l4 HH.out).mono ?_; rintro e wq ⟨rfl, hbq⟩; have HBQ := Aside0.mk hbq; clear hbq) | (go_at_call 87; refine (asked_calls cs cl (HM.out.later (below_step HB0.out hHeld.1)) false).mono ?_; rintro e wy ⟨pt, c, rfl, hA⟩; have HBY := Aside0.mk hA.below; have HA := Aside0.mk hA; clear hA)))
      go_wp2_with fail
      refine hK.out _ _ ?_ ?_
      · ((try dsimp only); (first | (go_keep; done) | (go_split_ands; refine ⟨below_step (by assumption) (by first | exact HBY.out | exact HBQ.out | exact HBX.out), ?_, ?_, ?_, ?_, ?_⟩ <;> first | exact later HBY.out (by assumption) | exact later HBQ.out (by assumption) | exact later HBX.out (by assumption))))
      try clear hHeld
      intro hHeld
      clear hK K
      try simp only [pS]
      refine tkT 4 (some 21) (v := ?_) rfl rfl (.inl ⟨by rfl, ?_⟩) ?_
      rotate_left
      · (intro w hSw; (try dsimp only at hSw); go_simp; with_reducible rfl)
      try simp only [pS]
      refine tkT 5 (some 22) (v := ?_) rfl rfl (.inl ⟨by rfl, ?_⟩) ?_
      rotate_left
      · (intro w hSw; (try dsimp only at hSw); go_simp; with_reducible rfl)
      try simp only [pS]
      refine tkT 6 (some 23) (v := ?_) rfl rfl (.inl ⟨by rfl, ?_⟩) ?_
      rotate_left
      · (intro w hSw; (try dsimp only at hSw); go_simp; with_reducible rfl)
      try simp only [pS]
      refine wpAnyH_ready (rs := [7]) (by kernel_rfl) (by simp) ?_
      refine AllReadyH.cons (o := { dst := some 24, op := Op.call { callee := Callee.value (Operand.func 101), args := #[Operand.tmp 22, Operand.tmp 23], argTypes := #[35, 3] }, type := 4, pos := "ask.go:74", after := #[{ on := 5, ground := Ground.data }, { on := 6, ground := Ground.data }, { on := 4, ground := Ground.chain }, { on := 4, ground := Ground.guard }], guard := some (4, true) }) rfl (fun K hK => ?_) ?_
      go_simp
      ((first | (go_at_call 88; refine (isPlace_all cs cl A2 A3 A4 A c2 c3 c4 c5 hs hung looks p _ (HM.out.later (below_step HB0.out hHeld.1)) (Kd.C_below HRP.out (below_step HB0.out hHeld.1)) HCP.out HN.out HF.out).mono ?_; rintro e wx ⟨rfl, hbx⟩; have HBX := Aside0.mk hbx; clear hbx) | (go_at_call 101; refine (closet_Closet_horse.calls cs cl A2 c2 hs A3 c3 hung A4 c4 looks h _ _ (Kd.C_below HM.out.h2 (below_step HB0.out hHeld.1)) HM.out.l2 (Kd.C_below HM.out.h3 (below_step HB0.out hHeld.1)) HM.out.l3 (Kd.C_below HM.out.h4 (below_step HB0.out hHeld.1)) HM.out.l4 HH.out).mono ?_; rintro e wq ⟨rfl, hbq⟩; have HBQ := Aside0.mk hbq; clear hbq) | (go_at_call 87; refine (asked_calls cs cl (HM.out.later (below_step HB0.out hHeld.1)) false).mono ?_; rintro e wy ⟨pt, c, rfl, hA⟩; have HBY := Aside0.mk hA.below; have HA := Aside0.mk hA; clear hA)))
      go_wp2_with fail
      refine hK.out _ _ ?_ ?_
      · ((try dsimp only); (first | (go_keep; done) | (go_split_ands; refine ⟨below_step (by assumption) (by first | exact HBY.out | exact HBQ.out | exact HBX.out), ?_, ?_, ?_, ?_, ?_⟩ <;> first | exact later HBY.out (by assumption) | exact later HBQ.out (by assumption) | exact later HBX.out (by assumption))))
      try clear hHeld
      intro hHeld
      clear hK K
      try simp only [pS]
      refine tkT 8 (some 25) (v := ?_) rfl rfl (.inl ⟨by rfl, ?_⟩) ?_
      rotate_left
      · (intro w hSw; (try dsimp only at hSw); go_simp; with_reducible rfl)
      try simp only [pS]
      refine tkT 9 (some 26) (v := ?_) rfl rfl (.inl ⟨by rfl, ?_⟩) ?_
      rotate_left
      · (intro w hSw; (try dsimp only at hSw); go_simp; with_reducible rfl)
      try simp only [pS]
      refine tkT 10 (some 27) (v := undef) rfl rfl (.inr ⟨by rfl, rfl⟩) ?_
      try simp only [pS]
      refine tkT 11 (some 28) (v := undef) rfl rfl (.inr ⟨by rfl, rfl⟩) ?_
      try simp only [pS]
      refine tkT 12 (some 29) (v := ?_) rfl rfl (.inl ⟨by rfl, ?_⟩) ?_
      rotate_left
      · (intro w hSw; (try dsimp only at hSw); go_simp; with_reducible rfl)
      try simp only [pS]
      refine wpAnyH_ready (rs := [13]) (by kernel_rfl) (by simp) ?_
      refine AllReadyH.cons (o := { dst := some 30, op := Op.call { callee := Callee.value (Operand.func 87), args := #[Operand.tmp 17, Operand.tmp 29], argTypes := #[35, 4] }, type := 133, pos := "ask.go:74", after := #[{ on := 0, ground := Ground.data }, { on := 12, ground := Ground.data }, { on := 11, ground := Ground.chain }], guard := none }) rfl (fun K hK => ?_) ?_
      go_simp
      ((first | (go_at_call 88; refine (isPlace_all cs cl A2 A3 A4 A c2 c3 c4 c5 hs hung looks p _ (HM.out.later (below_step HB0.out hHeld.1)) (Kd.C_below HRP.out (below_step HB0.out hHeld.1)) HCP.out HN.out HF.out).mono ?_; rintro e wx ⟨rfl, hbx⟩; have HBX := Aside0.mk hbx; clear hbx) | (go_at_call 101; refine (closet_Closet_horse.calls cs cl A2 c2 hs A3 c3 hung A4 c4 looks h _ _ (Kd.C_below HM.out.h2 (below_step HB0.out hHeld.1)) HM.out.l2 (Kd.C_below HM.out.h3 (below_step HB0.out hHeld.1)) HM.out.l3 (Kd.C_below HM.out.h4 (below_step HB0.out hHeld.1)) HM.out.l4 HH.out).mono ?_; rintro e wq ⟨rfl, hbq⟩; have HBQ := Aside0.mk hbq; clear hbq) | (go_at_call 87; refine (asked_calls cs cl (HM.out.later (below_step HB0.out hHeld.1)) false).mono ?_; rintro e wy ⟨pt, c, rfl, hA⟩; have HBY := Aside0.mk hA.below; have HA := Aside0.mk hA; clear hA)))
      go_wp2_with fail
      refine hK.out _ _ ?_ ?_
      · ((try dsimp only); (first | (go_keep; done) | (go_split_ands; refine ⟨below_step (by assumption) (by first | exact HBY.out | exact HBQ.out | exact HBX.out), ?_, ?_, ?_, ?_, ?_⟩ <;> first | exact later HBY.out (by assumption) | exact later HBQ.out (by assumption) | exact later HBX.out (by assumption))))
      try clear hHeld
      intro hHeld
      clear hK K
      try simp only [pS]
      refine tkT 14 (some 16) (v := ?_) rfl rfl (.inl ⟨by rfl, ?_⟩) ?_
      rotate_left
      · (intro w hSw; (try dsimp only at hSw); go_simp; with_reducible rfl)
      try simp only [pS]
      refine tkT 15 (some 31) (v := ?_) rfl rfl (.inl ⟨by rfl, ?_⟩) ?_
      rotate_left
      · (intro w hSw; (try dsimp only at hSw); go_simp; with_reducible rfl)
      try simp only [pS]
      refine tkT 16 (some 32) (v := ?_) rfl rfl (.inl ⟨by rfl, ?_⟩) ?_
      rotate_left
      · (intro w hSw; (try dsimp only at hSw); go_simp; with_reducible rfl)
      try simp only [pS]
      refine tkT 17 (some 10) (v := ?_) rfl rfl (.inl ⟨by rfl, ?_⟩) ?_
      rotate_left
      · (intro w hSw; (try dsimp only at hSw); go_simp; with_reducible rfl)
      try simp only [pS]
      refine tkT 18 (some 11) (v := ?_) rfl rfl (.inl ⟨by rfl, ?_⟩) ?_
      rotate_left
      · (intro w hSw; (try dsimp only at hSw); go_simp; with_reducible rfl)
      try simp only [pS]
      refine wpAnyH_done (by kernel_rfl) ?_ _
      rotate_left
      exact AllReadyH.nil
      exact AllReadyH.nil
      exact AllReadyH.nil
    have HL := Aside0.mk (below_step (Below.refl _ _) hHeld.1)
    have HLW := Aside0.mk (below_step HB0.out HL.out)
    clear hHeld b0 b1 b2 b3 b4
    rcases HA.out with ⟨h0, hc, rfl, _⟩ | ⟨_, _, _, hbt, _⟩
    · have h1 : (c != 0) = true := by rw [bne_iff_ne]; exact h0
      have HR : Aside0 (rightR cs cl hs hung looks p h t = (0, c)) := ⟨by unfold rightR; rw [HFR.out, ← hc, if_pos h0]⟩
      clear hc h0
      go_wp2_with fail
      go_ret2
      exact ⟨by rw [HR.out]; rfl, HLW.out⟩
    · cases hbt
  | true =>
    rw [Bool.and_true, Bool.true_and] at HFR
    refine wp_region_held_drew (S := fun W' => Below W0.heap.size W0 W' ∧ W'.cell? ⟨w.heap.size, 0, none⟩ = some (.int .i64 cs) ∧ W'.cell? ⟨w.heap.size, 1, none⟩ = some (.int .i64 cl) ∧ W'.cell? ⟨w.heap.size, 2, none⟩ = some (.slice A2 hs.length c2) ∧ W'.cell? ⟨w.heap.size, 3, none⟩ = some (.slice A3 hung.length c3) ∧ W'.cell? ⟨w.heap.size, 4, none⟩ = some (.slice A4 looks.length c4)) (by kernel_rfl) ?hS (fun hHeld => ?_)
    case hS => exact ⟨below_drew (Below.refl _ _), b0, b1, b2, b3, b4⟩
    focus
      refine tkT 0 (some 17) (v := ?_) rfl rfl (.inl ⟨by rfl, ?_⟩) ?_
      rotate_left
      · (intro w hSw; (try dsimp only at hSw); go_simp; with_reducible rfl)
      try simp only [pS]
      refine tkT 1 (some 18) (v := ?_) rfl rfl (.inl ⟨by rfl, ?_⟩) ?_
      rotate_left
      · (intro w hSw; (try dsimp only at hSw); go_simp; with_reducible rfl)
      try simp only [pS]
      refine tkT 2 (some 19) (v := ?_) rfl rfl (.inl ⟨by rfl, ?_⟩) ?_
      rotate_left
      · (intro w hSw; (try dsimp only at hSw); go_simp; with_reducible rfl)
      try simp only [pS]
      refine wpAnyH_ready (rs := [3]) (by kernel_rfl) (by simp) ?_
      refine AllReadyH.cons (o := { dst := some 20, op := Op.call { callee := Callee.value (Operand.func 88), args := #[Operand.tmp 18, Operand.tmp 19], argTypes := #[35, 23] }, type := 4, pos := "ask.go:74", after := #[{ on := 1, ground := Ground.data }, { on := 2, ground := Ground.data }], guard := none }) rfl (fun K hK => ?_) ?_
      go_simp
      ((first | (go_at_call 88; refine (isPlace_all cs cl A2 A3 A4 A c2 c3 c4 c5 hs hung looks p _ (HM.out.later (below_step HB0.out hHeld.1)) (Kd.C_below HRP.out (below_step HB0.out hHeld.1)) HCP.out HN.out HF.out).mono ?_; rintro e wx ⟨rfl, hbx⟩; have HBX := Aside0.mk hbx; clear hbx) | (go_at_call 101; refine (closet_Closet_horse.calls cs cl A2 c2 hs A3 c3 hung A4 c4 looks h _ _ (Kd.C_below HM.out.h2 (below_step HB0.out hHeld.1)) HM.out.l2 (Kd.C_below HM.out.h3 (below_step HB0.out hHeld.1)) HM.out.l3 (Kd.C_below HM.out.h4 (below_step HB0.out hHeld.1)) HM.out.l4 HH.out).mono ?_; rintro e wq ⟨rfl, hbq⟩; have HBQ := Aside0.mk hbq; clear hbq) | (go_at_call 111; refine (closet_minute.calls t _ _ HMI.out).mono ?_; rintro e wq2 ⟨rfl, nd, rfl⟩; have HBN := Aside0.mk (pw_below_drewN (Below.refl wq.heap.size wq) nd)) | (go_at_call 87; refine (asked_calls cs cl (HM.out.later (below_step HB0.out hHeld.1)) mq).mono ?_; rintro e wy ⟨pt, c, rfl, hA⟩; have HBY := Aside0.mk hA.below; have HA := Aside0.mk hA; clear hA)))
      go_wp2_with fail
      refine hK.out _ _ ?_ ?_
      · ((try dsimp only); (first | (go_keep; done) | (go_split_ands; refine ⟨below_step (by assumption) (by first | exact HBY.out | exact HBN.out | exact HBQ.out | exact HBX.out), ?_, ?_, ?_, ?_, ?_⟩ <;> first | exact later HBY.out (by assumption) | exact later HBN.out (by assumption) | exact later HBQ.out (by assumption) | exact later HBX.out (by assumption))))
      try clear hHeld
      intro hHeld
      clear hK K
      try simp only [pS]
      refine tkT 4 (some 21) (v := ?_) rfl rfl (.inl ⟨by rfl, ?_⟩) ?_
      rotate_left
      · (intro w hSw; (try dsimp only at hSw); go_simp; with_reducible rfl)
      try simp only [pS]
      refine tkT 5 (some 22) (v := ?_) rfl rfl (.inl ⟨by rfl, ?_⟩) ?_
      rotate_left
      · (intro w hSw; (try dsimp only at hSw); go_simp; with_reducible rfl)
      try simp only [pS]
      refine tkT 6 (some 23) (v := ?_) rfl rfl (.inl ⟨by rfl, ?_⟩) ?_
      rotate_left
      · (intro w hSw; (try dsimp only at hSw); go_simp; with_reducible rfl)
      try simp only [pS]
      refine wpAnyH_ready (rs := [7]) (by kernel_rfl) (by simp) ?_
      refine AllReadyH.cons (o := { dst := some 24, op := Op.call { callee := Callee.value (Operand.func 101), args := #[Operand.tmp 22, Operand.tmp 23], argTypes := #[35, 3] }, type := 4, pos := "ask.go:74", after := #[{ on := 5, ground := Ground.data }, { on := 6, ground := Ground.data }, { on := 4, ground := Ground.chain }, { on := 4, ground := Ground.guard }], guard := some (4, true) }) rfl (fun K hK => ?_) ?_
      go_simp
      ((first | (go_at_call 88; refine (isPlace_all cs cl A2 A3 A4 A c2 c3 c4 c5 hs hung looks p _ (HM.out.later (below_step HB0.out hHeld.1)) (Kd.C_below HRP.out (below_step HB0.out hHeld.1)) HCP.out HN.out HF.out).mono ?_; rintro e wx ⟨rfl, hbx⟩; have HBX := Aside0.mk hbx; clear hbx) | (go_at_call 101; refine (closet_Closet_horse.calls cs cl A2 c2 hs A3 c3 hung A4 c4 looks h _ _ (Kd.C_below HM.out.h2 (below_step HB0.out hHeld.1)) HM.out.l2 (Kd.C_below HM.out.h3 (below_step HB0.out hHeld.1)) HM.out.l3 (Kd.C_below HM.out.h4 (below_step HB0.out hHeld.1)) HM.out.l4 HH.out).mono ?_; rintro e wq ⟨rfl, hbq⟩; have HBQ := Aside0.mk hbq; clear hbq) | (go_at_call 111; refine (closet_minute.calls t _ _ HMI.out).mono ?_; rintro e wq2 ⟨rfl, nd, rfl⟩; have HBN := Aside0.mk (pw_below_drewN (Below.refl wq.heap.size wq) nd)) | (go_at_call 87; refine (asked_calls cs cl (HM.out.later (below_step HB0.out hHeld.1)) mq).mono ?_; rintro e wy ⟨pt, c, rfl, hA⟩; have HBY := Aside0.mk hA.below; have HA := Aside0.mk hA; clear hA)))
      go_wp2_with fail
      refine hK.out _ _ ?_ ?_
      · ((try dsimp only); (first | (go_keep; done) | (go_split_ands; refine ⟨below_step (by assumption) (by first | exact HBY.out | exact HBN.out | exact HBQ.out | exact HBX.out), ?_, ?_, ?_, ?_, ?_⟩ <;> first | exact later HBY.out (by assumption) | exact later HBN.out (by assumption) | exact later HBQ.out (by assumption) | exact later HBX.out (by assumption))))
      try clear hHeld
      intro hHeld
      clear hK K
      try simp only [pS]
      refine tkT 8 (some 25) (v := ?_) rfl rfl (.inl ⟨by rfl, ?_⟩) ?_
      rotate_left
      · (intro w hSw; (try dsimp only at hSw); go_simp; with_reducible rfl)
      try simp only [pS]
      refine tkT 9 (some 26) (v := ?_) rfl rfl (.inl ⟨by rfl, ?_⟩) ?_
      rotate_left
      · (intro w hSw; (try dsimp only at hSw); go_simp; with_reducible rfl)
      try simp only [pS]
      refine tkT 10 (some 27) (v := ?_) rfl rfl (.inl ⟨by rfl, ?_⟩) ?_
      rotate_left
      · (intro w hSw; (try dsimp only at hSw); go_simp; with_reducible rfl)
      try simp only [pS]
      refine wpAnyH_ready (rs := [11]) (by kernel_rfl) (by simp) ?_
      refine AllReadyH.cons (o := { dst := some 28, op := Op.call { callee := Callee.value (Operand.func 111), args := #[Operand.tmp 27], argTypes := #[3] }, type := 4, pos := "ask.go:74", after := #[{ on := 10, ground := Ground.data }, { on := 9, ground := Ground.chain }, { on := 9, ground := Ground.guard }], guard := some (9, true) }) rfl (fun K hK => ?_) ?_
      go_simp
      ((first | (go_at_call 88; refine (isPlace_all cs cl A2 A3 A4 A c2 c3 c4 c5 hs hung looks p _ (HM.out.later (below_step HB0.out hHeld.1)) (Kd.C_below HRP.out (below_step HB0.out hHeld.1)) HCP.out HN.out HF.out).mono ?_; rintro e wx ⟨rfl, hbx⟩; have HBX := Aside0.mk hbx; clear hbx) | (go_at_call 101; refine (closet_Closet_horse.calls cs cl A2 c2 hs A3 c3 hung A4 c4 looks h _ _ (Kd.C_below HM.out.h2 (below_step HB0.out hHeld.1)) HM.out.l2 (Kd.C_below HM.out.h3 (below_step HB0.out hHeld.1)) HM.out.l3 (Kd.C_below HM.out.h4 (below_step HB0.out hHeld.1)) HM.out.l4 HH.out).mono ?_; rintro e wq ⟨rfl, hbq⟩; have HBQ := Aside0.mk hbq; clear hbq) | (go_at_call 111; refine (closet_minute.calls t _ _ HMI.out).mono ?_; rintro e wq2 ⟨rfl, nd, rfl⟩; have HBN := Aside0.mk (pw_below_drewN (Below.refl wq.heap.size wq) nd)) | (go_at_call 87; refine (asked_calls cs cl (HM.out.later (below_step HB0.out hHeld.1)) mq).mono ?_; rintro e wy ⟨pt, c, rfl, hA⟩; have HBY := Aside0.mk hA.below; have HA := Aside0.mk hA; clear hA)))
      go_wp2_with fail
      refine hK.out _ _ ?_ ?_
      · ((try dsimp only); (first | (go_keep; done) | (go_split_ands; refine ⟨below_step (by assumption) (by first | exact HBY.out | exact HBN.out | exact HBQ.out | exact HBX.out), ?_, ?_, ?_, ?_, ?_⟩ <;> first | exact later HBY.out (by assumption) | exact later HBN.out (by assumption) | exact later HBQ.out (by assumption) | exact later HBX.out (by assumption))))
      try clear hHeld
      intro hHeld
      clear hK K
      try simp only [pS]
      refine tkT 12 (some 29) (v := ?_) rfl rfl (.inl ⟨by rfl, ?_⟩) ?_
      rotate_left
      · (intro w hSw; (try dsimp only at hSw); go_simp; with_reducible rfl)
      try simp only [pS]
      refine wpAnyH_ready (rs := [13]) (by kernel_rfl) (by simp) ?_
      refine AllReadyH.cons (o := { dst := some 30, op := Op.call { callee := Callee.value (Operand.func 87), args := #[Operand.tmp 17, Operand.tmp 29], argTypes := #[35, 4] }, type := 133, pos := "ask.go:74", after := #[{ on := 0, ground := Ground.data }, { on := 12, ground := Ground.data }, { on := 11, ground := Ground.chain }], guard := none }) rfl (fun K hK => ?_) ?_
      go_simp
      ((first | (go_at_call 88; refine (isPlace_all cs cl A2 A3 A4 A c2 c3 c4 c5 hs hung looks p _ (HM.out.later (below_step HB0.out hHeld.1)) (Kd.C_below HRP.out (below_step HB0.out hHeld.1)) HCP.out HN.out HF.out).mono ?_; rintro e wx ⟨rfl, hbx⟩; have HBX := Aside0.mk hbx; clear hbx) | (go_at_call 101; refine (closet_Closet_horse.calls cs cl A2 c2 hs A3 c3 hung A4 c4 looks h _ _ (Kd.C_below HM.out.h2 (below_step HB0.out hHeld.1)) HM.out.l2 (Kd.C_below HM.out.h3 (below_step HB0.out hHeld.1)) HM.out.l3 (Kd.C_below HM.out.h4 (below_step HB0.out hHeld.1)) HM.out.l4 HH.out).mono ?_; rintro e wq ⟨rfl, hbq⟩; have HBQ := Aside0.mk hbq; clear hbq) | (go_at_call 111; refine (closet_minute.calls t _ _ HMI.out).mono ?_; rintro e wq2 ⟨rfl, nd, rfl⟩; have HBN := Aside0.mk (pw_below_drewN (Below.refl wq.heap.size wq) nd)) | (go_at_call 87; refine (asked_calls cs cl (HM.out.later (below_step HB0.out hHeld.1)) mq).mono ?_; rintro e wy ⟨pt, c, rfl, hA⟩; have HBY := Aside0.mk hA.below; have HA := Aside0.mk hA; clear hA)))
      go_wp2_with fail
      refine hK.out _ _ ?_ ?_
      · ((try dsimp only); (first | (go_keep; done) | (go_split_ands; refine ⟨below_step (by assumption) (by first | exact HBY.out | exact HBN.out | exact HBQ.out | exact HBX.out), ?_, ?_, ?_, ?_, ?_⟩ <;> first | exact later HBY.out (by assumption) | exact later HBN.out (by assumption) | exact later HBQ.out (by assumption) | exact later HBX.out (by assumption))))
      try clear hHeld
      intro hHeld
      clear hK K
      try simp only [pS]
      refine tkT 14 (some 16) (v := ?_) rfl rfl (.inl ⟨by rfl, ?_⟩) ?_
      rotate_left
      · (intro w hSw; (try dsimp only at hSw); go_simp; with_reducible rfl)
      try simp only [pS]
      refine tkT 15 (some 31) (v := ?_) rfl rfl (.inl ⟨by rfl, ?_⟩) ?_
      rotate_left
      · (intro w hSw; (try dsimp only at hSw); go_simp; with_reducible rfl)
      try simp only [pS]
      refine tkT 16 (some 32) (v := ?_) rfl rfl (.inl ⟨by rfl, ?_⟩) ?_
      rotate_left
      · (intro w hSw; (try dsimp only at hSw); go_simp; with_reducible rfl)
      try simp only [pS]
      refine tkT 17 (some 10) (v := ?_) rfl rfl (.inl ⟨by rfl, ?_⟩) ?_
      rotate_left
      · (intro w hSw; (try dsimp only at hSw); go_simp; with_reducible rfl)
      try simp only [pS]
      refine tkT 18 (some 11) (v := ?_) rfl rfl (.inl ⟨by rfl, ?_⟩) ?_
      rotate_left
      · (intro w hSw; (try dsimp only at hSw); go_simp; with_reducible rfl)
      try simp only [pS]
      refine wpAnyH_done (by kernel_rfl) ?_ _
      rotate_left
      exact AllReadyH.nil
      exact AllReadyH.nil
      exact AllReadyH.nil
      exact AllReadyH.nil
    have HL := Aside0.mk (below_step (Below.refl _ _) hHeld.1)
    have HLW := Aside0.mk (below_step HB0.out HL.out)
    clear hHeld b0 b1 b2 b3 b4
    rcases HA.out with ⟨h0, hc, rfl, _⟩ | ⟨rfl, hc, hk, rfl, hts, g, m, AT, cT, rfl, hA⟩
    · have h1 : (c != 0) = true := by rw [bne_iff_ne]; exact h0
      have HR : Aside0 (rightR cs cl hs hung looks p h t = (0, c)) := ⟨by unfold rightR; rw [HFR.out, ← hc, if_pos h0]⟩
      clear hc h0
      go_wp2_with fail
      go_ret2
      exact ⟨by rw [HR.out]; rfl, HLW.out⟩
    · have HAS := Aside0.mk hA
      have HC := Aside0.mk hc
      have HK := Aside0.mk hk
      have HT := Aside0.mk hts
      have HV := Aside0.mk (valid_of hk)
      have HP := Aside0.mk (of_decide_eq_true (fine_place HV.out HF.out))
      have HSM := Aside0.mk (truths_small (hung := hung) (looks := looks) HV.out)
      have HTL := Aside0.mk (truths_len hk)
      have HBY2 := Aside0.mk (blk_below HBK.out HL.out)
      obtain ⟨k, rfl, hkl⟩ := horse_nat HHQ.out HN.out
      have HR : Aside0 (rightR cs cl hs hung looks p (k : Int) t = if cntR hs p k t (truthsT hs hung looks) = (truthsT hs hung looks).length then (1, 0) else if cntR hs p k t (truthsT hs hung looks) = 0 then (2, 0) else (3, 0)) := ⟨by unfold rightR; rw [HFR.out, HC.out, if_neg (by simp), Int.toNat_natCast]⟩
      clear hA hc hk hts
      obtain ⟨ts, hts⟩ : ∃ ts, truthsT hs hung looks = ts := ⟨_, rfl⟩
      have HWK := Aside0.mk HAS.out.work
      rw [hts] at HT HSM HTL HR HWK
      clear hts HAS
      obtain ⟨k0, k1, k2, k3, k4, k5, k6⟩ := HWK.out.cells
      have hgz : g < wy.heap.size := blk_lt HWK.out.blk
      have bz : w.heap.size < wy.heap.size := blk_lt HBY2.out
      have y2 : wy.cell? ⟨w.heap.size, 2, none⟩ = some (.slice A2 hs.length c2) := (blk_cell HBY2.out 2).trans rfl
      go_wp2_with fail
      go_loopg [12, 41] ts.length (fun kq m v wr => ∃ n : Nat, m = .int .i64 (cntN hs p k t ts n : Nat) ∧ v = .int .i64 n ∧ Aside0 (n + kq = ts.length) ∧ Aside0 (Below wy.heap.size wy wr))
      case atStart => exact ⟨0, rfl, rfl, ⟨by omega⟩, ⟨Below.refl _ _⟩⟩
      case round =>
        obtain ⟨n, rfl, rfl, HNN, HB⟩ := hrel
        replace k0 := later HB.out k0
        replace k1 := later HB.out k1
        replace k2 := later HB.out k2
        replace k3 := later HB.out k3
        replace k4 := later HB.out k4
        replace k5 := later HB.out k5
        replace y2 := later HB.out y2
        have hz1 : g < wr.heap.size := by have := HB.out.size; omega
        have hz2 : w.heap.size < wr.heap.size := by have := HB.out.size; omega
        by_cases hlt : n < ts.length
        · obtain ⟨adt, et, ht0, ht1, ht2, ht3⟩ := at_N HWK.out.tr n hlt
          cases et
          replace ht0 := later HB.out ht0
          replace ht1 := later HB.out ht1
          replace ht2 := later HB.out ht2
          replace ht3 := later HB.out ht3
          obtain ⟨adh, eh, hh0, hh1, hh2, hh3⟩ := at_h HWK.out.mem.h2 k hkl
          cases eh
          replace hh3 := later HB.out hh3
          have hk4 : k < 4 := by have := HV.out.n4; omega
          have hidx := index4 (mins hs p (rdN ts n)) k hk4
          have hk0 : (0 : Int) ≤ (k : Int) := by omega
          have hk1 : (k : Int) < (hs.length : Int) := by omega
          go_wp2_with fail
          go_region_held3 (fun w' => w'.cell? ⟨g, 0, none⟩ = some (.int .i64 cs) ∧ w'.cell? ⟨g, 1, none⟩ = some (.int .i64 cl) ∧ w'.cell? ⟨g, 2, none⟩ = some (.slice (some adh) hs.length c2) ∧
              w'.cell? ⟨g, 3, none⟩ = some (.slice A3 hung.length c3) ∧ w'.cell? ⟨g, 4, none⟩ = some (.slice A4 looks.length c4) ∧
              w'.cell? ⟨wr.heap.size, 0, none⟩ = some (.int .i64 (rdN ts n 0)) ∧ w'.cell? ⟨wr.heap.size, 1, none⟩ = some (.int .i64 (rdN ts n 1)) ∧ w'.cell? ⟨wr.heap.size, 2, none⟩ = some (.int .i64 (rdN ts n 2)) ∧ w'.cell? ⟨wr.heap.size, 3, none⟩ = some (.int .i64 (rdN ts n 3)))
            (first
              | go_keep
              | (go_split_ands
                 refine ⟨?_, ?_, ?_, ?_, ?_, ?_, ?_, ?_, ?_⟩
                 all_goals exact later hba (by assumption)))
            (first
              | (go_at_call 99; refine (minutes_calls cs cl _ A3 A4 A hung.length looks.length c2 c3 c4 c5 hs p (rdN ts n) _ (Kd.C_below HWK.out.mem.h2 (by repeat (first | exact HB.out | apply below_alloc | apply below_drew))) (Kd.C_below HRP.out (below_step HLW.out (by repeat (first | exact HB.out | apply below_alloc | apply below_drew)))) HP.out.1 HV.out.n4 (fun i hi => ⟨(HP.out.2 i hi).1, by have := (HP.out.2 i hi).2.1; have := HV.out.c4; omega⟩) HV.out.wet (HSM.out n)).mono ?_; rintro e wa ⟨rfl, hba⟩))
          have HBW := Aside0.mk (below_step (by repeat (first | exact Below.refl _ _ | apply below_alloc | apply below_drew) : Below wr.heap.size wr _) hba)
          have HB2 := Aside0.mk (below_step HB.out HBW.out)
          have z2 := later HBW.out y2
          have q3 := later HBW.out hh3
          clear hba ht0 ht1 ht2 ht3 k0 k1 k2 k3 k4 k5 y2 hh0 hh1 hh2 hh3 hidx
          have hgr := HV.out.grace k hkl
          have hmb := mins_bd HV.out.wet p (rdN ts n) HP.out.1 HV.out.n4 (HSM.out n) k
          have hwr : IntKind.i64.wrap (mins hs p (rdN ts n) k + (rd_T139 hs (k : Int)).f2) = mins hs p (rdN ts n) k + (rd_T139 hs (k : Int)).f2 := IntWalk.i64_in _ (by omega)
          cases hd : rightP hs p k t (rdN ts n) with
          | true =>
            have HCT := Aside0.mk (cnt_true hlt hd)
            have HD := Aside0.mk hd
            clear hd
            go_wp2_with fail
            refine (closet_within.calls _ _ _ true _ (by rw [within_f]; congr 1; exact HD.out)).mono ?_
            rintro e wb ⟨rfl, nd, rfl⟩
            have hcl := cnt_le hs p k t ts n
            have := HTL.out
            go_wp2_with fail
            go_roundg (ts.length - (n + 1))
            case measure => have := HNN.out; omega
            case rel =>
              refine ⟨n + 1, ?_, by go_num, ⟨by have := HNN.out; omega⟩, ⟨pw_below_drewN HB2.out _⟩⟩
              rw [HCT.out]
              go_num
          | false =>
            have HCT := Aside0.mk (cnt_false hlt hd)
            have HD := Aside0.mk hd
            clear hd
            go_wp2_with fail
            refine (closet_within.calls _ _ _ false _ (by rw [within_f]; congr 1; exact HD.out)).mono ?_
            rintro e wb ⟨rfl, nd, rfl⟩
            have := HTL.out
            go_wp2_with fail
            go_roundg (ts.length - (n + 1))
            case measure => have := HNN.out; omega
            case rel =>
              refine ⟨n + 1, ?_, by go_num, ⟨by have := HNN.out; omega⟩, ⟨pw_below_drewN HB2.out _⟩⟩
              rw [HCT.out]
        · have hne : n = ts.length := by have := HNN.out; omega
          subst hne
          rw [cnt_all]
          obtain ⟨C, hC⟩ : ∃ C, cntR hs p k t ts = C := ⟨_, rfl⟩
          rw [hC] at HR ⊢
          clear hC
          by_cases h1 : C = ts.length
          · rw [if_pos h1] at HR
            subst h1
            go_wp2_with fail
            go_ret2
            exact ⟨by rw [HR.out]; rfl, below_step HLW.out HB.out⟩
          · rw [if_neg h1] at HR
            have q1 : ((C : Int) == (ts.length : Int)) = false := beq_eq_false_iff_ne.2 (by omega)
            by_cases h2 : C = 0
            · rw [if_pos h2] at HR
              have q2 : ((C : Int) == 0) = true := by rw [beq_iff_eq]; omega
              clear h1 h2
              go_wp2_with fail
              go_ret2
              exact ⟨by rw [HR.out]; rfl, below_step HLW.out HB.out⟩
            · rw [if_neg h2] at HR
              have q2 : ((C : Int) == 0) = false := beq_eq_false_iff_ne.2 (by omega)
              clear h1 h2
              go_wp2_with fail
              go_ret2
              exact ⟨by rw [HR.out]; rfl, below_step HLW.out HB.out⟩
end Go.Proofs.Ytokhmghgghjmhaa.Q
namespace Go.Proofs.Ytokhmghgghjmhaa.Q
open Go.RowKit Go.Proofs.YtokhmghgghjmhaaW.PrintWords Go.Proofs.YtokhmghgghjmhaaW.PrintLast Go.Proofs.YtokhmghgghjmhaaW.PrintMore
set_option linter.unusedVariables false
set_option linter.unusedSimpArgs false
def boundsL (hs : List S139) (p : List Int) (ts : List (Nat → Int)) (n : Nat) : List S61 := (List.range n).map fun i => ⟨(bnd (qv false hs p i) ts).1, (bnd (qv false hs p i) ts).2⟩
theorem boundsL_succ (hs : List S139) (p : List Int) (ts : List (Nat → Int)) (n : Nat) : boundsL hs p ts (n + 1) = boundsL hs p ts n ++ [⟨(bnd (qv false hs p n) ts).1, (bnd (qv false hs p n) ts).2⟩] := by
  simp [boundsL, List.range_succ]
/-- What Bounds says. -/
def boundsR (cs cl : Int) (hs : List S139) (hung : List Int) (looks : List S140) (p : List Int) : List S61 × Int :=
  if askCode cs cl hs hung looks (fineB cs hs p) ≠ 0 then ([], askCode cs cl hs hung looks (fineB cs hs p)) else (boundsL hs p (truthsT hs hung looks) hs.length, 0)
set_option maxHeartbeats 4000000 in
set_option maxRecDepth 100000 in
theorem boundsX_calls (cs cl : Int) {A2 A3 A4 A : Option Addr} {c2 c3 c4 c5 : Nat} {hs : List S139} {hung : List Int} {looks : List S140} {p : List Int} {w : World} (M : Mem w A2 A3 A4 c2 c3 c4 hs hung looks)
    (hrp : Kd.C (Kd.int .i64) w A p.length p) (hcp : p.length ≤ c5) (hn : hs.length ≤ 1000) :
    Calls Try.prog 70 #[.agg #[.int .i64 cs, .int .i64 cl, .slice A2 hs.length c2, .slice A3 hung.length c3, .slice A4 looks.length c4], .slice A p.length c5] w
      fun e w' => ∃ v, e = .returned (.tuple #[v, .int .i64 (boundsR cs cl hs hung looks p).2]) ∧ Kd.R k61 61 w' w.heap.size (fun _ => True) v (boundsR cs cl hs hung looks p).1 ∧ Below w.heap.size w w' := by
  have HM := Aside0.mk M
  have HRP := Aside0.mk hrp
  have HCP := Aside0.mk hcp
  have HN := Aside0.mk hn
  clear M hrp hcp hn
  obtain ⟨W0, hW0⟩ : ∃ W0, w.alloc (.cells #[.int .i64 cs, .int .i64 cl, .slice A2 hs.length c2, .slice A3 hung.length c3, .slice A4 looks.length c4] 35) = W0 := ⟨_, rfl⟩
  have HB0 := Aside0.mk (show Below w.heap.size w W0 from by rw [← hW0]; repeat (first | exact Below.refl _ _ | apply below_alloc))
  have HBK := Aside0.mk (show W0.heap[w.heap.size]? = some (.cells #[.int .i64 cs, .int .i64 cl, .slice A2 hs.length c2, .slice A3 hung.length c3, .slice A4 looks.length c4] 35 (0, 0)) from by rw [← hW0]; repeat (first | (refine blk_new_ ?_; simp; done) | refine blk_alloc ?_ _))
  have b0 : W0.cell? ⟨w.heap.size, 0, none⟩ = some (.int .i64 cs) := (blk_cell HBK.out 0).trans rfl
  have b1 : W0.cell? ⟨w.heap.size, 1, none⟩ = some (.int .i64 cl) := (blk_cell HBK.out 1).trans rfl
  have b2 : W0.cell? ⟨w.heap.size, 2, none⟩ = some (.slice A2 hs.length c2) := (blk_cell HBK.out 2).trans rfl
  have b3 : W0.cell? ⟨w.heap.size, 3, none⟩ = some (.slice A3 hung.length c3) := (blk_cell HBK.out 3).trans rfl
  have b4 : W0.cell? ⟨w.heap.size, 4, none⟩ = some (.slice A4 looks.length c4) := (blk_cell HBK.out 4).trans rfl
  obtain ⟨b, hb⟩ : ∃ b, fineB cs hs p = b := ⟨_, rfl⟩
  have HF := Aside0.mk hb
  clear hb
  go_enter Try.func70, Try.ntmps70
  go_wp2_with fail
  try rw [hW0]
  clear hW0
  refine wp_region_held_drew (S := fun W' => Below W0.heap.size W0 W' ∧ W'.cell? ⟨w.heap.size, 0, none⟩ = some (.int .i64 cs) ∧ W'.cell? ⟨w.heap.size, 1, none⟩ = some (.int .i64 cl) ∧ W'.cell? ⟨w.heap.size, 2, none⟩ = some (.slice A2 hs.length c2) ∧ W'.cell? ⟨w.heap.size, 3, none⟩ = some (.slice A3 hung.length c3) ∧ W'.cell? ⟨w.heap.size, 4, none⟩ = some (.slice A4 looks.length c4)) (by kernel_rfl) ?hS (fun hHeld => ?_)
  case hS => exact ⟨below_drew (Below.refl _ _), b0, b1, b2, b3, b4⟩
  focus
    refine tkT 0 (some 11) (v := ?_) rfl rfl (.inl ⟨by rfl, ?_⟩) ?_
    rotate_left
    · (intro w hSw; (try dsimp only at hSw); go_simp; with_reducible rfl)
    try simp only [pS]
    refine tkT 1 (some 12) (v := ?_) rfl rfl (.inl ⟨by rfl, ?_⟩) ?_
    rotate_left
    · (intro w hSw; (try dsimp only at hSw); go_simp; with_reducible rfl)
    try simp only [pS]
    refine tkT 2 (some 13) (v := ?_) rfl rfl (.inl ⟨by rfl, ?_⟩) ?_
    rotate_left
    · (intro w hSw; (try dsimp only at hSw); go_simp; with_reducible rfl)
    try simp only [pS]
    refine wpAnyH_ready (rs := [3]) (by kernel_rfl) (by simp) ?_
    refine AllReadyH.cons (o := { dst := some 14, op := Op.call { callee := Callee.value (Operand.func 88), args := #[Operand.tmp 12, Operand.tmp 13], argTypes := #[35, 23] }, type := 4, pos := "ask.go:61", after := #[{ on := 1, ground := Ground.data }, { on := 2, ground := Ground.data }], guard := none }) rfl (fun K hK => ?_) ?_
    go_simp
    ((first | (go_at_call 88; refine (isPlace_all cs cl A2 A3 A4 A c2 c3 c4 c5 hs hung looks p _ (HM.out.later (below_step HB0.out hHeld.1)) (Kd.C_below HRP.out (below_step HB0.out hHeld.1)) HCP.out HN.out HF.out).mono ?_; rintro e wx ⟨rfl, hbx⟩; have HBX := Aside0.mk hbx; clear hbx) | (go_at_call 87; refine (asked_calls cs cl (HM.out.later (below_step HB0.out hHeld.1)) b).mono ?_; rintro e wy ⟨pt, c, rfl, hA⟩; have HBY := Aside0.mk hA.below; have HA := Aside0.mk hA; clear hA)))
    go_wp2_with fail
    refine hK.out _ _ ?_ ?_
    · ((try dsimp only); (first | (go_keep; done) | (go_split_ands; refine ⟨below_step (by assumption) (by first | exact HBY.out | exact HBX.out), ?_, ?_, ?_, ?_, ?_⟩ <;> first | exact later HBY.out (by assumption) | exact later HBX.out (by assumption))))
    try clear hHeld
    intro hHeld
    clear hK K
    try simp only [pS]
    refine wpAnyH_ready (rs := [4]) (by kernel_rfl) (by simp) ?_
    refine AllReadyH.cons (o := { dst := some 15, op := Op.call { callee := Callee.value (Operand.func 87), args := #[Operand.tmp 11, Operand.tmp 14], argTypes := #[35, 4] }, type := 133, pos := "ask.go:61", after := #[{ on := 0, ground := Ground.data }, { on := 3, ground := Ground.data }, { on := 3, ground := Ground.chain }], guard := none }) rfl (fun K hK => ?_) ?_
    go_simp
    ((first | (go_at_call 88; refine (isPlace_all cs cl A2 A3 A4 A c2 c3 c4 c5 hs hung looks p _ (HM.out.later (below_step HB0.out hHeld.1)) (Kd.C_below HRP.out (below_step HB0.out hHeld.1)) HCP.out HN.out HF.out).mono ?_; rintro e wx ⟨rfl, hbx⟩; have HBX := Aside0.mk hbx; clear hbx) | (go_at_call 87; refine (asked_calls cs cl (HM.out.later (below_step HB0.out hHeld.1)) b).mono ?_; rintro e wy ⟨pt, c, rfl, hA⟩; have HBY := Aside0.mk hA.below; have HA := Aside0.mk hA; clear hA)))
    go_wp2_with fail
    refine hK.out _ _ ?_ ?_
    · ((try dsimp only); (first | (go_keep; done) | (go_split_ands; refine ⟨below_step (by assumption) (by first | exact HBY.out | exact HBX.out), ?_, ?_, ?_, ?_, ?_⟩ <;> first | exact later HBY.out (by assumption) | exact later HBX.out (by assumption))))
    try clear hHeld
    intro hHeld
    clear hK K
    try simp only [pS]
    refine tkT 5 (some 10) (v := ?_) rfl rfl (.inl ⟨by rfl, ?_⟩) ?_
    rotate_left
    · (intro w hSw; (try dsimp only at hSw); go_simp; with_reducible rfl)
    try simp only [pS]
    refine tkT 6 (some 16) (v := ?_) rfl rfl (.inl ⟨by rfl, ?_⟩) ?_
    rotate_left
    · (intro w hSw; (try dsimp only at hSw); go_simp; with_reducible rfl)
    try simp only [pS]
    refine tkT 7 (some 17) (v := ?_) rfl rfl (.inl ⟨by rfl, ?_⟩) ?_
    rotate_left
    · (intro w hSw; (try dsimp only at hSw); go_simp; with_reducible rfl)
    try simp only [pS]
    refine tkT 8 (some 6) (v := ?_) rfl rfl (.inl ⟨by rfl, ?_⟩) ?_
    rotate_left
    · (intro w hSw; (try dsimp only at hSw); go_simp; with_reducible rfl)
    try simp only [pS]
    refine tkT 9 (some 7) (v := ?_) rfl rfl (.inl ⟨by rfl, ?_⟩) ?_
    rotate_left
    · (intro w hSw; (try dsimp only at hSw); go_simp; with_reducible rfl)
    try simp only [pS]
    refine wpAnyH_done (by kernel_rfl) ?_ _
    rotate_left
    exact AllReadyH.nil
    exact AllReadyH.nil
  have HL := Aside0.mk (below_step (Below.refl _ _) hHeld.1)
  have HLW := Aside0.mk (below_step HB0.out HL.out)
  clear hHeld b0 b1 b2 b3 b4
  rcases HA.out with ⟨h0, hc, rfl, _⟩ | ⟨rfl, hc, hk, rfl, hts, g, m, AT, cT, rfl, hA⟩
  · have h1 : (c != 0) = true := by rw [bne_iff_ne]; exact h0
    have HR : Aside0 (boundsR cs cl hs hung looks p = ([], c)) := ⟨by unfold boundsR; rw [HF.out, ← hc, if_pos h0]⟩
    clear hc h0
    go_wp2_with fail
    go_ret2
    rw [HR.out]
    exact ⟨_, rfl, Kd.R_nil _ _ _ _ _, HLW.out⟩
  · have HAS := Aside0.mk hA
    have HC := Aside0.mk hc
    have HK := Aside0.mk hk
    have HT := Aside0.mk hts
    have HV := Aside0.mk (valid_of hk)
    have HP := Aside0.mk (fine_place HV.out HF.out)
    have HSM := Aside0.mk (truths_small (hung := hung) (looks := looks) HV.out)
    have HTL := Aside0.mk (truths_len hk)
    have HBY2 := Aside0.mk (blk_below HBK.out HL.out)
    have HR : Aside0 (boundsR cs cl hs hung looks p = (boundsL hs p (truthsT hs hung looks) hs.length, 0)) := ⟨by unfold boundsR; rw [HF.out, HC.out, if_neg (by simp)]⟩
    clear hA hc hk hts
    obtain ⟨ts, hts⟩ : ∃ ts, truthsT hs hung looks = ts := ⟨_, rfl⟩
    have HWK := Aside0.mk HAS.out.work
    rw [hts] at HT HSM HTL HR HWK
    clear hts HAS
    have bz : w.heap.size < wy.heap.size := blk_lt HBY2.out
    have y2 : wy.cell? ⟨w.heap.size, 2, none⟩ = some (.slice A2 hs.length c2) := (blk_cell HBY2.out 2).trans rfl
    go_wp2_with fail
    go_loopg [8, 24] hs.length (fun kq s v wr => ∃ (n : Nat) (As : Option Addr) (Cs : Nat), s = .slice As n Cs ∧ v = .int .i64 n ∧ Aside0 (Kd.R k61 61 wr wy.heap.size (fun _ => True) (.slice As n Cs) (boundsL hs p ts n)) ∧ Aside0 (n + kq = hs.length) ∧ Aside0 (Below wy.heap.size wy wr))
    case atStart => exact ⟨0, none, 0, rfl, rfl, ⟨Kd.R_nil _ _ _ _ _⟩, ⟨by omega⟩, ⟨Below.refl _ _⟩⟩
    case round =>
      obtain ⟨n, As, Cs, rfl, rfl, HS, HNN, HB⟩ := hrel
      by_cases hlt : n < hs.length
      · have hn4 := HV.out.n4
        go_wp2_with fail
        refine (bounds_from _ g (some m) cs cl A2 A3 A4 AT A c2 c3 c4 cT c5 hs hung looks ts p n HV.out (HWK.out.later HB.out) (Kd.C_below HRP.out (below_step HLW.out HB.out)) HP.out hlt HT.out HSM.out HTL.out).mono ?_
        rintro e wa ⟨rfl, hba⟩
        have HS2 := Aside0.mk (Kd.R_below HS.out hba)
        have HB2 := Aside0.mk (below_step HB.out hba)
        have HLO := Aside0.mk (below_step HLW.out HB2.out)
        clear hba
        have aP := k61_mkM wa wy.heap.size (fun _ => False) ⟨(bnd (qv false hs p n) ts).1, (bnd (qv false hs p n) ts).2⟩
        have aL : ((boundsL hs p ts n).length + 1) * 16 ≤ 140737488355328 := by simp only [boundsL, List.length_map, List.length_range]; omega
        go_wp2_with ((with_reducible refine gate_builtin (b := .append) (xs := #[.tmp 27, .tmp 33]) rfl ?_); at_builtin; refine Kd.R_append k61 (w0 := wy) wy.heap.size rfl (.tmp 27) (.tmp 33) 109 61 (.agg #[(.int .i64 0), (.int .i64 0)]) 16 rfl Try.underlying109 (by kernel_rfl) rfl (by decide) (by omega) (.slice As n Cs) (boundsL hs p ts n) ⟨(bnd (qv false hs p n) ts).1, (bnd (qv false hs p n) ts).2⟩ [.int .i64 (bnd (qv false hs p n) ts).1, .int .i64 (bnd (qv false hs p n) ts).2] (fun _ => True) (fun _ => False) rfl rfl aP (fun _ hk => hk.elim) (fun _ _ => trivial) HS2.out HB2.out (Below.size HB2.out) aL ?_; intro v1 w3 ho hb hg hat; rw [← boundsL_succ] at ho; obtain ⟨A1, C1, hv1⟩ := Kd.R_slice ho; rw [show (boundsL hs p ts (n + 1)).length = n + 1 from by simp [boundsL]] at hv1; subst hv1; have HO3 := Aside0.mk ho; have HB3 := Aside0.mk hb; have HG3 := Aside0.mk hg; clear ho hb hg hat)
        go_roundg (hs.length - (n + 1))
        case measure => have := HNN.out; omega
        case rel =>
          refine ⟨n + 1, A1, C1, rfl, by go_num, HO3, ⟨by have := HNN.out; omega⟩, HB3⟩
      · have hne : n = hs.length := by have := HNN.out; omega
        subst hne
        go_wp2_with fail
        go_ret2
        rw [HR.out]
        exact ⟨_, rfl, Kd.R_lower HS.out (Below.size HLW.out), below_step HLW.out HB.out⟩
end Go.Proofs.Ytokhmghgghjmhaa.Q
namespace Go.Proofs.Ytokhmghgghjmhaa.Q
open Go.RowKit Go.Proofs.YtokhmghgghjmhaaW.PrintWords Go.Proofs.YtokhmghgghjmhaaW.PrintLast Go.Proofs.YtokhmghgghjmhaaW.PrintMore
set_option linter.unusedVariables false
theorem eql_nil (A : Option Addr) (n c : Nat) (W : World) : (binOp .eql 23 (.slice A n c) (.slice none 0 0)).run Try.prog W = .ok (.bool A.isNone) W := by
  simp only [binOp]
  simp [run_equal_slice_nil W 23 3 A n c Try.underlying23]
set_option maxHeartbeats 4000000 in
set_option maxRecDepth 100000 in
theorem clone_calls (A : Option Addr) (c : Nat) (l : List Int) (w : World) (hr : Kd.C (Kd.int .i64) w A l.length l) (hc : l.length ≤ c) (hl : l.length < 1000000) :
    Calls Try.prog 93 #[.slice A l.length c] w fun e w' => ∃ v, e = .returned v ∧ Kd.R (Kd.int .i64) 3 w' w.heap.size (fun _ => True) v l ∧ Below w.heap.size w w' := by
  have heq := eql_nil
  have HRR := Aside0.mk hr
  have HL := Aside0.mk hl
  have HB := Aside0.mk (Below.refl w.heap.size w)
  clear hr hc hl
  cases A with
  | none =>
    have hz : l = [] := by
      have := Kd.C_get (i := 0) HRR.out 0
      cases l with
      | nil => rfl
      | cons a r =>
        obtain ⟨ad, c, e, _⟩ := Kd.C_get HRR.out 0 0 (by omega) (by simp)
        cases e
    subst hz
    go_enter Try.func93, Try.ntmps93
    go_wp2_with fail
    go_ret
    exact ⟨_, rfl, Kd.R_nil _ _ _ _ _, HB.out⟩
  | some ad =>
    go_enter Try.func93, Try.ntmps93
    go_wp2_with (first | ((with_reducible refine gate_dst (N := 5) rfl ?_); refine Kd.R_lit (Kd.int .i64) _ 3 ?hg (N := 5) ?hd (xs := ([] : List Int)) (inner := []) (ok := fun _ => True) (okp := fun _ => True) ?hr ?hp (fun _ hk => hk) trivial (Below.refl _ _) (Nat.le_refl _) (by simp) ?_; (case hd => rfl); (case hg => rfl); (case hr => first | (go_simp; done) | (go_simp; rfl)); (case hp => exact (Reps.none _ _)); intro v124 w3 ho4 hb hg_ hnew_; clear hg_ hnew_; have n0_ := Aside0.mk (Kd.R_lower ho4 (below_size HB.out)); have n1_ := Aside0.mk (below_step HB.out hb); clear HB; have HO125 := n0_; have HB := n1_; clear n0_ n1_; clear hb ho4) | ((with_reducible refine gate_builtin (b := .append) (xs := #[.tmp 5, .tmp 6]) rfl ?_); at_builtin; refine Kd.R_append_rows (Kd.int .i64) (w0 := w) w.heap.size rfl (.tmp 5) (.tmp 6) 23 3 (.int .i64 0) 8 rfl Try.underlying23 info3 rfl (by decide) (by omega) v124 [] l _ _ _ (fun _ => True) (fun _ => False) rfl rfl ?aO ?aR (fun _ _ h => h) (fun _ h => h.elim) ?aF ?aB ?aS ?aL ?_; (case aR => exact (Kd.C_below HRR.out HB.out)); (case aB => exact HB.out); (case aF => exact (fun _ _ => trivial)); (case aO => exact HO125.out); (case aS => exact (below_size HB.out)); (case aL => have := HL.out; simp only [List.length_nil]; omega); intro v127 w5 ho hb hg hat; have n0_ := Aside0.mk (hb); have n1_ := Aside0.mk (ho); clear HB; clear HO125; have HB := n0_; have HO128 := n1_; clear n0_ n1_; clear ho hb hg hat))
    go_ret
    exact ⟨_, rfl, HO128.out, HB.out⟩
end Go.Proofs.Ytokhmghgghjmhaa.Q
namespace Go.Proofs.Ytokhmghgghjmhaa.Q
open Go.RowKit Go.Proofs.YtokhmghgghjmhaaW.PrintWords Go.Proofs.YtokhmghgghjmhaaW.PrintLast Go.Proofs.YtokhmghgghjmhaaW.PrintMore
set_option linter.unusedVariables false
/-- A list of up to four numbers as1 a function of the place. -/
def nums (p : List Int) : Nat → Int := fun i => rd p i
theorem copy4 (W : World) (g : Nat) (A : Option Addr) (c : Nat) (p : List Int) (hg : W.heap[g]? = some (.cells #[.int .i64 0, .int .i64 0, .int .i64 0, .int .i64 0] 152 (0, 0))) (hr : Kd.C (Kd.int .i64) W A p.length p) (h4 : p.length ≤ 4) :
    ∃ W2, (Builtin.copy_ #[23, 23] 3 #[.slice (some ⟨g, 0, none⟩) 4 4, .slice A p.length c]).run Try.prog W = .ok (goInt p.length) W2 ∧
      W2.heap[g]? = some (.cells #[.int .i64 (nums p 0), .int .i64 (nums p 1), .int .i64 (nums p 2), .int .i64 (nums p 3)] 152 (0, 0)) ∧ ∀ N, N ≤ g → Below N W W2 := by
  have hs : (Try.prog.info? 3).map (·.size) = some 1 := by kernel_rfl
  by_cases h0 : p.length = 0
  · have hp : p = [] := List.length_eq_zero_iff.1 h0
    subst hp
    exact ⟨W, run_copy_none W 23 23 3 3 _ A 4 4 0 c Try.underlying23 hs rfl, hg, fun N _ => Below.refl _ _⟩
  · obtain ⟨ad, e, _⟩ := at_n hr 0 (by omega)
    subst e
    have hc := run_copy_row (P := Try.prog) W 23 23 3 3 g 0 4 4 ad p.length c _ 152 (p.map (fun v => .int .i64 v)) Try.underlying23 hs hg (by rw [List.length_map]; exact (Nat.min_eq_left h4).symm)
      (fun j v hj => by
        obtain ⟨ad', e', hc'⟩ := at_n hr j (by have := (List.getElem?_eq_some_iff.1 hj).1; simpa using this)
        cases e'
        rw [hc']
        rw [List.getElem?_map] at hj
        cases hq : p[j]? with
        | none => rw [hq] at hj; cases hj
        | some q =>
          rw [hq] at hj
          rw [rd_nn, List.getD_eq_getElem?_getD, hq]
          exact hj)
      (by simp; omega) (fun v hv => by obtain ⟨q, _, rfl⟩ := List.mem_map.1 hv; rfl)
    rw [List.length_map] at hc
    refine ⟨_, hc, ?_, fun N hN => below_setRow (Below.refl _ _) hN _⟩
    rw [setRow_heap W g _ _ 152 (0, 0) hg]
    refine congrArg (fun a => some (Obj.cells a 152 (0, 0))) ?_
    clear hc hr hg
    rcases p with _ | ⟨a, _ | ⟨b, _ | ⟨c, _ | ⟨d, _ | ⟨e, r⟩⟩⟩⟩⟩
    · simp [nums, rd]
    · simp [nums, rd]
    · simp [nums, rd]
    · simp [nums, rd]
    · simp [nums, rd]
    · simp at h4
/-- Are numbers listed those of all horses, each in its range? -/
def listedB (hs : List S139) (p : List Int) : Bool := decide (p.length = hs.length ∧ ∀ i : Nat, i < p.length → (rd_T139 hs i).f0.f0 ≤ rd p i ∧ rd p i ≤ (rd_T139 hs i).f0.f1)
theorem has_f (a b n : Int) : closet_Range_has.f a b n = some (decide (a ≤ n ∧ n ≤ b)) := by unfold closet_Range_has.f; rw [within_f]; rfl
set_option maxHeartbeats 4000000 in
set_option maxRecDepth 100000 in
theorem listed_calls (cs cl : Int) {A2 A3 A4 A : Option Addr} {c2 c3 c4 c5 : Nat} {hs : List S139} {hung : List Int} {looks : List S140} {p : List Int} {w : World} (M : Mem w A2 A3 A4 c2 c3 c4 hs hung looks)
    (hrp : Kd.C (Kd.int .i64) w A p.length p) (hcp : p.length ≤ c5) (hn : hs.length ≤ 4) :
    Calls Try.prog 98 #[.agg #[.int .i64 cs, .int .i64 cl, .slice A2 hs.length c2, .slice A3 hung.length c3, .slice A4 looks.length c4], .slice A p.length c5] w
      fun e w' => ∃ d : Nat → Int, e = .returned (.tuple #[.agg #[.int .i64 (d 0), .int .i64 (d 1), .int .i64 (d 2), .int .i64 (d 3)], .bool (listedB hs p)]) ∧ (listedB hs p = true → d = nums p) ∧ Below w.heap.size w w' := by
  have HM := Aside0.mk M
  have HRP := Aside0.mk hrp
  have HN := Aside0.mk hn
  clear M hrp hcp hn
  obtain ⟨W0, hW0⟩ : ∃ W0, (w.alloc (.cells #[.int .i64 cs, .int .i64 cl, .slice A2 hs.length c2, .slice A3 hung.length c3, .slice A4 looks.length c4] 35)).alloc (.cells #[.int .i64 0, .int .i64 0, .int .i64 0, .int .i64 0] 152) = W0 := ⟨_, rfl⟩
  have HB0 := Aside0.mk (show Below w.heap.size w W0 from by rw [← hW0]; repeat (first | exact Below.refl _ _ | apply below_alloc))
  have HBK := Aside0.mk (show W0.heap[w.heap.size]? = some (.cells #[.int .i64 cs, .int .i64 cl, .slice A2 hs.length c2, .slice A3 hung.length c3, .slice A4 looks.length c4] 35 (0, 0)) from by rw [← hW0]; repeat (first | (refine blk_new_ ?_; simp; done) | refine blk_alloc ?_ _))
  have HRB := Aside0.mk (show W0.heap[w.heap.size + 1]? = some (.cells #[.int .i64 0, .int .i64 0, .int .i64 0, .int .i64 0] 152 (0, 0)) from by rw [← hW0]; refine blk_new_ ?_; simp)
  have b2 : W0.cell? ⟨w.heap.size, 2, none⟩ = some (.slice A2 hs.length c2) := (blk_cell HBK.out 2).trans rfl
  have bz : w.heap.size + 1 < W0.heap.size := blk_lt HRB.out
  go_enter Try.func98, Try.ntmps98
  by_cases hl : p.length = hs.length
  · have hl1 : ((p.length : Int) != (hs.length : Int)) = false := by rw [bne_eq_false_iff_eq]; omega
    have HL := Aside0.mk hl
    clear hl
    go_wp2_with fail
    try rw [hW0]
    clear hW0
    go_loopg [17] p.length (fun kq v wr => ∃ n : Nat, v = .int .i64 n ∧ Aside0 (n + kq = p.length) ∧ Aside0 (∀ i : Nat, i < n → (rd_T139 hs i).f0.f0 ≤ rd p i ∧ rd p i ≤ (rd_T139 hs i).f0.f1) ∧ Aside0 (Below W0.heap.size W0 wr))
    case atStart => exact ⟨0, rfl, ⟨by omega⟩, ⟨fun i hi => absurd hi (by omega)⟩, ⟨Below.refl _ _⟩⟩
    case round =>
      obtain ⟨n, rfl, HNN, HA, HB⟩ := hrel
      have HRB1 := Aside0.mk (blk_below HRB.out HB.out)
      replace b2 := later HB.out b2
      have rz := blk_lt HRB1.out
      have r0 : wr.cell? ⟨w.heap.size + 1, 0, none⟩ = some (.int .i64 0) := (blk_cell HRB1.out 0).trans rfl
      have r1 : wr.cell? ⟨w.heap.size + 1, 1, none⟩ = some (.int .i64 0) := (blk_cell HRB1.out 1).trans rfl
      have r2 : wr.cell? ⟨w.heap.size + 1, 2, none⟩ = some (.int .i64 0) := (blk_cell HRB1.out 2).trans rfl
      have r3 : wr.cell? ⟨w.heap.size + 1, 3, none⟩ = some (.int .i64 0) := (blk_cell HRB1.out 3).trans rfl
      have f0 := blk_frozen HRB1.out 0
      have f1 := blk_frozen HRB1.out 1
      have f2 := blk_frozen HRB1.out 2
      have f3 := blk_frozen HRB1.out 3
      by_cases hlt : n < p.length
      · have hlt2 : n < hs.length := by have := HL.out; omega
        obtain ⟨ad, e, y0, y1, y2, y3⟩ := at_h HM.out.h2 n hlt2
        cases e
        obtain ⟨adp, ep, hp⟩ := at_n HRP.out n hlt
        cases ep
        replace y0 := later (below_step HB0.out HB.out) y0
        replace y1 := later (below_step HB0.out HB.out) y1
        replace hp := later (below_step HB0.out HB.out) hp
        have hi0 : (n : Int) < (hs.length : Int) := by omega
        have h4 := HN.out
        cases hd : decide ((rd_T139 hs n).f0.f0 ≤ rd p n ∧ rd p n ≤ (rd_T139 hs n).f0.f1) with
        | true =>
          have HD := Aside0.mk hd
          clear hd
          go_wp2_with fail
          refine (closet_Range_has.calls _ _ _ true _ (by rw [has_f]; congr 1; exact HD.out)).mono ?_
          rintro e wa ⟨rfl, hba⟩
          have HB2 := Aside0.mk (below_step HB.out hba)
          clear hba
          go_wp2_with fail
          go_roundg (p.length - (n + 1))
          case measure => have := HNN.out; omega
          case rel =>
            refine ⟨n + 1, by go_num, ⟨by have := HNN.out; omega⟩, ⟨fun i hi => ?_⟩, HB2⟩
            by_cases hin : i < n
            · exact HA.out i hin
            · obtain rfl : i = n := by omega
              exact of_decide_eq_true HD.out
        | false =>
          have HD := Aside0.mk hd
          clear hd
          have HR : Aside0 (listedB hs p = false) := ⟨decide_eq_false (fun h => (of_decide_eq_false HD.out) (h.2 n hlt))⟩
          go_wp2_with fail
          refine (closet_Range_has.calls _ _ _ false _ (by rw [has_f]; congr 1; exact HD.out)).mono ?_
          rintro e wa ⟨rfl, hba⟩
          have HB2 := Aside0.mk (below_step HB.out hba)
          have HRB2 := Aside0.mk (blk_below HRB1.out hba)
          replace r0 := later hba r0
          replace r1 := later hba r1
          replace r2 := later hba r2
          replace r3 := later hba r3
          have f0 := blk_frozen HRB2.out 0
          have f1 := blk_frozen HRB2.out 1
          have f2 := blk_frozen HRB2.out 2
          have f3 := blk_frozen HRB2.out 3
          clear hba
          go_wp2_with fail
          refine bodyPost_ret (results_list (rs := [.cell 4 152, .tmp 5]) rfl (by simp) (.cell (w.heap.size + 1) 152 #[.int .i64 0, .int .i64 0, .int .i64 0, .int .i64 0] (0, 0) _ rfl (blk_put (blk_put (blk_put (blk_put HRB2.out 0 _ rfl) 1 _ rfl) 2 _ rfl) 3 _ rfl) Try.underlying152 rfl (by kernel_rfl) (.tmp .nil))) rfl ⟨fun _ => 0, by rw [HR.out]; rfl, (fun h => by rw [HR.out] at h; cases h), (((((below_step HB0.out HB2.out).setCell (by simp) _).setCell (by simp) _).setCell (by simp) _).setCell (by simp) _)⟩
      · have HR : Aside0 (listedB hs p = true) := ⟨decide_eq_true ⟨HL.out, fun i hi => HA.out i (by have := HNN.out; omega)⟩⟩
        obtain ⟨W2, hcp, hb2, hbl⟩ := copy4 wr (w.heap.size + 1) A c5 p HRB1.out (Kd.C_below HRP.out (below_step HB0.out HB.out)) (by have := HL.out; have := HN.out; omega)
        have HR2 := Aside0.mk hb2
        have HBL := Aside0.mk hbl
        have rz2 := blk_lt hb2
        have s0 : W2.cell? ⟨w.heap.size + 1, 0, none⟩ = some (.int .i64 (nums p 0)) := (blk_cell HR2.out 0).trans rfl
        have s1 : W2.cell? ⟨w.heap.size + 1, 1, none⟩ = some (.int .i64 (nums p 1)) := (blk_cell HR2.out 1).trans rfl
        have s2 : W2.cell? ⟨w.heap.size + 1, 2, none⟩ = some (.int .i64 (nums p 2)) := (blk_cell HR2.out 2).trans rfl
        have s3 : W2.cell? ⟨w.heap.size + 1, 3, none⟩ = some (.int .i64 (nums p 3)) := (blk_cell HR2.out 3).trans rfl
        have t0 := blk_frozen HR2.out 0
        have t1 := blk_frozen HR2.out 1
        have t2 := blk_frozen HR2.out 2
        have t3 := blk_frozen HR2.out 3
        clear hb2 hbl
        go_wp2_with fail
        refine bodyPost_ret (results_list (rs := [.cell 4 152, .tmp 5]) rfl (by simp) (.cell (w.heap.size + 1) 152 #[.int .i64 (nums p 0), .int .i64 (nums p 1), .int .i64 (nums p 2), .int .i64 (nums p 3)] (0, 0) _ rfl (blk_put (blk_put (blk_put (blk_put HR2.out 0 _ rfl) 1 _ rfl) 2 _ rfl) 3 _ rfl) Try.underlying152 rfl (by kernel_rfl) (.tmp .nil))) rfl ⟨nums p, by rw [HR.out]; rfl, fun _ => rfl, (((((below_step HB0.out HB.out).trans (HBL.out _ (by omega))).setCell (by simp) _).setCell (by simp) _).setCell (by simp) _).setCell (by simp) _⟩
  · have hl1 : ((p.length : Int) != (hs.length : Int)) = true := by rw [bne_iff_ne]; omega
    have HR : Aside0 (listedB hs p = false) := ⟨decide_eq_false (fun h => hl h.1)⟩
    have hl2 : (p.length == hs.length) = false := beq_eq_false_iff_ne.2 hl
    clear hl
    have r0 : W0.cell? ⟨w.heap.size + 1, 0, none⟩ = some (.int .i64 0) := (blk_cell HRB.out 0).trans rfl
    have r1 : W0.cell? ⟨w.heap.size + 1, 1, none⟩ = some (.int .i64 0) := (blk_cell HRB.out 1).trans rfl
    have r2 : W0.cell? ⟨w.heap.size + 1, 2, none⟩ = some (.int .i64 0) := (blk_cell HRB.out 2).trans rfl
    have r3 : W0.cell? ⟨w.heap.size + 1, 3, none⟩ = some (.int .i64 0) := (blk_cell HRB.out 3).trans rfl
    have f0 := blk_frozen HRB.out 0
    have f1 := blk_frozen HRB.out 1
    have f2 := blk_frozen HRB.out 2
    have f3 := blk_frozen HRB.out 3
    go_wp2_with fail
    refine bodyPost_ret (results_list (rs := [.cell 4 152, .tmp 5]) rfl (by simp) (.cell (w.heap.size + 1) 152 #[.int .i64 0, .int .i64 0, .int .i64 0, .int .i64 0] (0, 0) _ rfl (blk_put (blk_put (blk_put (blk_put HRB.out 0 _ rfl) 1 _ rfl) 2 _ rfl) 3 _ rfl) Try.underlying152 rfl (by kernel_rfl) (.tmp .nil))) rfl ⟨fun _ => 0, by rw [HR.out]; rfl, (fun h => by rw [HR.out] at h; cases h), ((((HB0.out.setCell (by simp) _).setCell (by simp) _).setCell (by simp) _).setCell (by simp) _)⟩
end Go.Proofs.Ytokhmghgghjmhaa.Q
namespace Go.Proofs.Ytokhmghgghjmhaa.Q
open Go.RowKit Go.Proofs.YtokhmghgghjmhaaW.PrintWords Go.Proofs.YtokhmghgghjmhaaW.PrintLast Go.Proofs.YtokhmghgghjmhaaW.PrintMore
set_option linter.unusedVariables false
def firstL (f : Nat → Int) (n : Nat) : List Int := (List.range n).map f
theorem firstL_len (f : Nat → Int) (n : Nat) : (firstL f n).length = n := by simp [firstL]
theorem C4 {W : World} {g : Nat} {f : Nat → Int} {n : Nat} (hg : W.heap[g]? = some (.cells #[.int .i64 (f 0), .int .i64 (f 1), .int .i64 (f 2), .int .i64 (f 3)] 152 (0, 0))) (h4 : n ≤ 4) :
    Kd.C (Kd.int .i64) W (some ⟨g, 0, none⟩) (firstL f n).length (firstL f n) := by
  refine Kd.C_of_reads (d := 0) (h1 := fun _ => rfl) ⟨rfl, (by rw [firstL_len]; omega), fun _ => ⟨_, rfl, fun j hj => ?_⟩⟩
  rw [firstL_len] at hj
  have e : (firstL f n).getD j 0 = f j := by simp [firstL, List.getD_eq_getElem?_getD, hj]
  rw [e]
  have h := (blk_cell hg j).trans (get4 f j (by omega))
  rw [show (⟨g, 0, none⟩ : Addr).add j = ⟨g, j, none⟩ from by unfold Addr.add; split <;> simp_all]
  exact h
/-- What Play says. -/
def playR (cs cl : Int) (hs : List S139) (hung : List Int) (looks : List S140) (p d : List Int) : List Int × Int :=
  if checkB cs cl hs hung looks ≠ 0 then ([], checkB cs cl hs hung looks) else if listedB hs d = true ∧ fineB cs hs p = true then (firstL (mins hs p (nums d)) hs.length, 0) else ([], 2)
theorem nums_bd {cs cl : Int} {hs : List S139} {hung : List Int} {looks : List S140} {d : List Int} (V : Valid cs cl hs hung looks) (h : listedB hs d = true) (i : Nat) : 0 ≤ nums d i ∧ nums d i ≤ 60 := by
  obtain ⟨h1, h2⟩ := of_decide_eq_true h
  unfold nums
  by_cases hi : i < d.length
  · have := h2 i hi; have := V.dry i (by omega); omega
  · rw [rd_nn, List.getD_eq_getElem?_getD, List.getElem?_eq_none (by omega)]; simp
set_option maxHeartbeats 4000000 in
set_option maxRecDepth 100000 in
theorem playX_calls (cs cl : Int) {A2 A3 A4 A A' : Option Addr} {c2 c3 c4 c5 c6 : Nat} {hs : List S139} {hung : List Int} {looks : List S140} {p d : List Int} {w : World} (M : Mem w A2 A3 A4 c2 c3 c4 hs hung looks)
    (hrp : Kd.C (Kd.int .i64) w A p.length p) (hcp : p.length ≤ c5) (hrd : Kd.C (Kd.int .i64) w A' d.length d) (hcd : d.length ≤ c6) :
    Calls Try.prog 48 #[.agg #[.int .i64 cs, .int .i64 cl, .slice A2 hs.length c2, .slice A3 hung.length c3, .slice A4 looks.length c4], .slice A p.length c5, .slice A' d.length c6] w
      fun e w' => ∃ v, e = .returned (.tuple #[v, .int .i64 (playR cs cl hs hung looks p d).2]) ∧ Kd.R (Kd.int .i64) 3 w' w.heap.size (fun _ => True) v (playR cs cl hs hung looks p d).1 ∧ Below w.heap.size w w' := by
  have HM := Aside0.mk M
  have HRP := Aside0.mk hrp
  have HCP := Aside0.mk hcp
  have HRD := Aside0.mk hrd
  have HCD := Aside0.mk hcd
  clear M hrp hcp hrd hcd
  obtain ⟨W0, hW0⟩ : ∃ W0, w.alloc (.cells #[.int .i64 cs, .int .i64 cl, .slice A2 hs.length c2, .slice A3 hung.length c3, .slice A4 looks.length c4] 35) = W0 := ⟨_, rfl⟩
  have HB0 := Aside0.mk (show Below w.heap.size w W0 from by rw [← hW0]; repeat (first | exact Below.refl _ _ | apply below_alloc))
  have HBK := Aside0.mk (show W0.heap[w.heap.size]? = some (.cells #[.int .i64 cs, .int .i64 cl, .slice A2 hs.length c2, .slice A3 hung.length c3, .slice A4 looks.length c4] 35 (0, 0)) from by rw [← hW0]; repeat (first | (refine blk_new_ ?_; simp; done) | refine blk_alloc ?_ _))
  have b0 : W0.cell? ⟨w.heap.size, 0, none⟩ = some (.int .i64 cs) := (blk_cell HBK.out 0).trans rfl
  have b1 : W0.cell? ⟨w.heap.size, 1, none⟩ = some (.int .i64 cl) := (blk_cell HBK.out 1).trans rfl
  have b2 : W0.cell? ⟨w.heap.size, 2, none⟩ = some (.slice A2 hs.length c2) := (blk_cell HBK.out 2).trans rfl
  have b3 : W0.cell? ⟨w.heap.size, 3, none⟩ = some (.slice A3 hung.length c3) := (blk_cell HBK.out 3).trans rfl
  have b4 : W0.cell? ⟨w.heap.size, 4, none⟩ = some (.slice A4 looks.length c4) := (blk_cell HBK.out 4).trans rfl
  go_enter Try.func48, Try.ntmps48
  go_wp2_with fail
  try rw [hW0]
  clear hW0
  refine (check_calls cs cl (HM.out.later HB0.out)).mono ?_
  rintro e w1 ⟨rfl, hb⟩
  have HB1 := Aside0.mk (below_step HB0.out hb)
  have HBK1 := Aside0.mk (blk_below HBK.out hb)
  replace b0 := later hb b0
  replace b1 := later hb b1
  replace b2 := later hb b2
  replace b3 := later hb b3
  replace b4 := later hb b4
  clear hb
  by_cases h0 : checkB cs cl hs hung looks = 0
  case neg =>
    have h1 : (checkB cs cl hs hung looks != 0) = true := by rw [bne_iff_ne]; exact h0
    have HR : Aside0 (playR cs cl hs hung looks p d = ([], checkB cs cl hs hung looks)) := ⟨by unfold playR; rw [if_pos h0]⟩
    clear h0
    go_wp2_with fail
    go_ret2
    rw [HR.out]
    exact ⟨_, rfl, Kd.R_nil _ _ _ _ _, HB1.out⟩
  have HV := Aside0.mk (valid_of h0)
  have H0 := Aside0.mk h0
  rw [h0]
  clear h0
  have bz : w.heap.size < w1.heap.size := blk_lt HBK1.out
  go_wp2_with fail
  refine (listed_calls cs cl (HM.out.later HB1.out) (Kd.C_below HRD.out HB1.out) HCD.out HV.out.n4).mono ?_
  rintro e w2 ⟨N, rfl, hN, hb⟩
  have HB2 := Aside0.mk (below_step HB1.out hb)
  have HBK2 := Aside0.mk (blk_below HBK1.out hb)
  have HNN := Aside0.mk hN
  replace b0 := later hb b0
  replace b1 := later hb b1
  replace b2 := later hb b2
  replace b3 := later hb b3
  replace b4 := later hb b4
  clear hb hN
  have bz2 : w.heap.size < w2.heap.size := blk_lt HBK2.out
  cases hl : listedB hs d with
  | false =>
    have HR : Aside0 (playR cs cl hs hung looks p d = ([], 2)) := ⟨by unfold playR; rw [if_neg (by simp [H0.out]), if_neg (by simp [hl])]⟩
    go_wp2_with fail
    go_ret2
    rw [HR.out]
    exact ⟨_, rfl, Kd.R_nil _ _ _ _ _, below_alloc HB2.out _⟩
  | true =>
    have HNE := Aside0.mk (HNN.out hl)
    have HLI := Aside0.mk hl
    clear hl HNN
    obtain ⟨W3, hW3⟩ : ∃ W3, w2.alloc (.cells #[.int .i64 (N 0), .int .i64 (N 1), .int .i64 (N 2), .int .i64 (N 3)] 152) = W3 := ⟨_, rfl⟩
    have hb3 : Below w2.heap.size w2 W3 := by rw [← hW3]; exact below_alloc (Below.refl _ _) _
    have HB3 := Aside0.mk (below_step HB2.out hb3)
    have HBK3 := Aside0.mk (blk_below HBK2.out hb3)
    have HNB := Aside0.mk (show W3.heap[w2.heap.size]? = some (.cells #[.int .i64 (N 0), .int .i64 (N 1), .int .i64 (N 2), .int .i64 (N 3)] 152 (0, 0)) from by rw [← hW3]; exact blk_new _ _)
    replace b0 := later hb3 b0
    replace b1 := later hb3 b1
    replace b2 := later hb3 b2
    replace b3 := later hb3 b3
    replace b4 := later hb3 b4
    clear hb3
    have n0 : W3.cell? ⟨w2.heap.size, 0, none⟩ = some (.int .i64 (N 0)) := (blk_cell HNB.out 0).trans rfl
    have n1 : W3.cell? ⟨w2.heap.size, 1, none⟩ = some (.int .i64 (N 1)) := (blk_cell HNB.out 1).trans rfl
    have n2 : W3.cell? ⟨w2.heap.size, 2, none⟩ = some (.int .i64 (N 2)) := (blk_cell HNB.out 2).trans rfl
    have n3 : W3.cell? ⟨w2.heap.size, 3, none⟩ = some (.int .i64 (N 3)) := (blk_cell HNB.out 3).trans rfl
    go_wp2_with (rw [hW3])
    obtain ⟨fb, hfb⟩ : ∃ fb, fineB cs hs p = fb := ⟨_, rfl⟩
    have HF := Aside0.mk hfb
    clear hfb
    refine (isPlace_all cs cl A2 A3 A4 A c2 c3 c4 c5 hs hung looks p _ (HM.out.later HB3.out) (Kd.C_below HRP.out HB3.out) HCP.out (by have := HV.out.n4; omega) HF.out).mono ?_
    rintro e w4 ⟨rfl, hb⟩
    have HB4 := Aside0.mk (below_step HB3.out hb)
    have HBK4 := Aside0.mk (blk_below HBK3.out hb)
    replace b0 := later hb b0
    replace b1 := later hb b1
    replace b2 := later hb b2
    replace b3 := later hb b3
    replace b4 := later hb b4
    replace n0 := later hb n0
    replace n1 := later hb n1
    replace n2 := later hb n2
    replace n3 := later hb n3
    clear hb hW3
    have bz4 : w.heap.size < w4.heap.size := blk_lt HBK4.out
    cases fb with
    | false =>
      have HR : Aside0 (playR cs cl hs hung looks p d = ([], 2)) := ⟨by unfold playR; rw [if_neg (by simp [H0.out]), if_neg (by simp [HF.out])]⟩
      go_wp2_with fail
      go_ret2
      rw [HR.out]
      exact ⟨_, rfl, Kd.R_nil _ _ _ _ _, HB4.out⟩
    | true =>
      have HR : Aside0 (playR cs cl hs hung looks p d = (firstL (mins hs p (nums d)) hs.length, 0)) := ⟨by unfold playR; rw [if_neg (by simp [H0.out]), if_pos ⟨HLI.out, HF.out⟩]⟩
      have HP := Aside0.mk (of_decide_eq_true (fine_place HV.out HF.out))
      go_wp2_with fail
      refine (minutes_calls cs cl _ A3 A4 A hung.length looks.length c2 c3 c4 c5 hs p N _ (Kd.C_below HM.out.h2 HB4.out) (Kd.C_below HRP.out HB4.out) HP.out.1 HV.out.n4 (fun i hi => ⟨(HP.out.2 i hi).1, by have := (HP.out.2 i hi).2.1; have := HV.out.c4; omega⟩) HV.out.wet (by rw [HNE.out]; exact nums_bd HV.out HLI.out)).mono ?_
      rintro e w5 ⟨rfl, hb⟩
      have HB5 := Aside0.mk (below_step HB4.out hb)
      replace b2 := later hb b2
      have bz5 : w.heap.size < w5.heap.size := blk_lt (blk_below HBK4.out hb)
      clear hb b0 b1 b3 b4 n0 n1 n2 n3
      have hN := HNE.out
      subst hN
      obtain ⟨F, hF⟩ : ∃ F, mins hs p (nums d) = F := ⟨_, rfl⟩
      rw [hF] at HR ⊢
      clear hF
      obtain ⟨W6, hW6⟩ : ∃ W6, w5.alloc (.cells #[.int .i64 (F 0), .int .i64 (F 1), .int .i64 (F 2), .int .i64 (F 3)] 152) = W6 := ⟨_, rfl⟩
      have hb6 : Below w5.heap.size w5 W6 := by rw [← hW6]; exact below_alloc (Below.refl _ _) _
      have HB6 := Aside0.mk (below_step HB5.out hb6)
      have HFB := Aside0.mk (show W6.heap[w5.heap.size]? = some (.cells #[.int .i64 (F 0), .int .i64 (F 1), .int .i64 (F 2), .int .i64 (F 3)] 152 (0, 0)) from by rw [← hW6]; exact blk_new _ _)
      replace b2 := later hb6 b2
      clear hb6
      have h40 : (0 : Int) ≤ (hs.length : Int) := by omega
      have h41 : (hs.length : Int) ≤ 4 := by have := HV.out.n4; omega
      have h42 : hs.length ≤ 4 := HV.out.n4
      have HCL := Aside0.mk (clone_calls (some ⟨w5.heap.size, 0, none⟩) 4 (firstL F hs.length) W6 (C4 HFB.out h42) (by rw [firstL_len]; exact h42) (by rw [firstL_len]; omega))
      rw [firstL_len] at HCL
      go_wp2_with (rw [hW6])
      refine HCL.out.mono ?_
      rintro e w7 ⟨v, rfl, hv, hb⟩
      have HVV := Aside0.mk hv
      have HB7 := Aside0.mk (below_step HB6.out hb)
      clear hv hb HCL
      go_wp2_with fail
      go_ret2
      rw [HR.out]
      exact ⟨_, rfl, Kd.R_lower HVV.out (Below.size HB6.out), HB7.out⟩
end Go.Proofs.Ytokhmghgghjmhaa.Q
namespace Go.Proofs.Ytokhmghgghjmhaa.Q
open Go.RowKit Go.Proofs.YtokhmghgghjmhaaW.PrintWords Go.Proofs.YtokhmghgghjmhaaW.PrintLast Go.Proofs.YtokhmghgghjmhaaW.PrintMore
set_option linter.unusedVariables false
/-- What ProveTruth says. -/
def proveTR (cs cl : Int) (hs : List S139) (hung : List Int) (looks : List S140) (d : List Int) : Bool :=
  if checkB cs cl hs hung looks ≠ 0 then false else listedB hs d && rightB hs hung looks (nums d) []
set_option maxHeartbeats 4000000 in
set_option maxRecDepth 100000 in
theorem proveTruth_calls (cs cl : Int) {A2 A3 A4 A' : Option Addr} {c2 c3 c4 c6 : Nat} {hs : List S139} {hung : List Int} {looks : List S140} {d : List Int} {w : World} (M : Mem w A2 A3 A4 c2 c3 c4 hs hung looks)
    (hrd : Kd.C (Kd.int .i64) w A' d.length d) (hcd : d.length ≤ c6) :
    Calls Try.prog 62 #[.agg #[.int .i64 cs, .int .i64 cl, .slice A2 hs.length c2, .slice A3 hung.length c3, .slice A4 looks.length c4], .slice A' d.length c6] w
      fun e w' => e = .returned (.bool (proveTR cs cl hs hung looks d)) ∧ Below w.heap.size w w' := by
  have HM := Aside0.mk M
  have HRD := Aside0.mk hrd
  have HCD := Aside0.mk hcd
  clear M hrd hcd
  obtain ⟨W0, hW0⟩ : ∃ W0, w.alloc (.cells #[.int .i64 cs, .int .i64 cl, .slice A2 hs.length c2, .slice A3 hung.length c3, .slice A4 looks.length c4] 35) = W0 := ⟨_, rfl⟩
  have HB0 := Aside0.mk (show Below w.heap.size w W0 from by rw [← hW0]; repeat (first | exact Below.refl _ _ | apply below_alloc))
  have HBK := Aside0.mk (show W0.heap[w.heap.size]? = some (.cells #[.int .i64 cs, .int .i64 cl, .slice A2 hs.length c2, .slice A3 hung.length c3, .slice A4 looks.length c4] 35 (0, 0)) from by rw [← hW0]; repeat (first | (refine blk_new_ ?_; simp; done) | refine blk_alloc ?_ _))
  have b0 : W0.cell? ⟨w.heap.size, 0, none⟩ = some (.int .i64 cs) := (blk_cell HBK.out 0).trans rfl
  have b1 : W0.cell? ⟨w.heap.size, 1, none⟩ = some (.int .i64 cl) := (blk_cell HBK.out 1).trans rfl
  have b2 : W0.cell? ⟨w.heap.size, 2, none⟩ = some (.slice A2 hs.length c2) := (blk_cell HBK.out 2).trans rfl
  have b3 : W0.cell? ⟨w.heap.size, 3, none⟩ = some (.slice A3 hung.length c3) := (blk_cell HBK.out 3).trans rfl
  have b4 : W0.cell? ⟨w.heap.size, 4, none⟩ = some (.slice A4 looks.length c4) := (blk_cell HBK.out 4).trans rfl
  go_enter Try.func62, Try.ntmps62
  go_wp2_with fail
  try rw [hW0]
  clear hW0
  refine (check_calls cs cl (HM.out.later HB0.out)).mono ?_
  rintro e w1 ⟨rfl, hb⟩
  have HB1 := Aside0.mk (below_step HB0.out hb)
  have HBK1 := Aside0.mk (blk_below HBK.out hb)
  replace b0 := later hb b0
  replace b1 := later hb b1
  replace b2 := later hb b2
  replace b3 := later hb b3
  replace b4 := later hb b4
  clear hb
  by_cases h0 : checkB cs cl hs hung looks = 0
  case neg =>
    have h1 : (checkB cs cl hs hung looks != 0) = true := by rw [bne_iff_ne]; exact h0
    have HR : Aside0 (proveTR cs cl hs hung looks d = false) := ⟨by unfold proveTR; rw [if_pos h0]⟩
    clear h0
    go_wp2_with fail
    go_ret
    exact ⟨by rw [HR.out]; rfl, HB1.out⟩
  have HV := Aside0.mk (valid_of h0)
  have H0 := Aside0.mk h0
  rw [h0]
  clear h0
  have bz : w.heap.size < w1.heap.size := blk_lt HBK1.out
  go_wp2_with fail
  refine (listed_calls cs cl (HM.out.later HB1.out) (Kd.C_below HRD.out HB1.out) HCD.out HV.out.n4).mono ?_
  rintro e w2 ⟨N, rfl, hN, hb⟩
  have HB2 := Aside0.mk (below_step HB1.out hb)
  have HBK2 := Aside0.mk (blk_below HBK1.out hb)
  have HNN := Aside0.mk hN
  replace b0 := later hb b0
  replace b1 := later hb b1
  replace b2 := later hb b2
  replace b3 := later hb b3
  replace b4 := later hb b4
  clear hb hN
  have bz2 : w.heap.size < w2.heap.size := blk_lt HBK2.out
  cases hl : listedB hs d with
  | false =>
    have HR : Aside0 (proveTR cs cl hs hung looks d = false) := ⟨by unfold proveTR; rw [if_neg (by simp [H0.out]), hl]; rfl⟩
    go_wp2_with fail
    go_ret
    exact ⟨by rw [HR.out]; rfl, below_alloc HB2.out _⟩
  | true =>
    have HNE := Aside0.mk (HNN.out hl)
    have HLI := Aside0.mk hl
    clear hl HNN
    obtain ⟨W3, hW3⟩ : ∃ W3, w2.alloc (.cells #[.int .i64 (N 0), .int .i64 (N 1), .int .i64 (N 2), .int .i64 (N 3)] 152) = W3 := ⟨_, rfl⟩
    have hb3 : Below w2.heap.size w2 W3 := by rw [← hW3]; exact below_alloc (Below.refl _ _) _
    have HB3 := Aside0.mk (below_step HB2.out hb3)
    have HBK3 := Aside0.mk (blk_below HBK2.out hb3)
    have HNB := Aside0.mk (show W3.heap[w2.heap.size]? = some (.cells #[.int .i64 (N 0), .int .i64 (N 1), .int .i64 (N 2), .int .i64 (N 3)] 152 (0, 0)) from by rw [← hW3]; exact blk_new _ _)
    replace b0 := later hb3 b0
    replace b1 := later hb3 b1
    replace b2 := later hb3 b2
    replace b3 := later hb3 b3
    replace b4 := later hb3 b4
    clear hb3
    have n0 : W3.cell? ⟨w2.heap.size, 0, none⟩ = some (.int .i64 (N 0)) := (blk_cell HNB.out 0).trans rfl
    have n1 : W3.cell? ⟨w2.heap.size, 1, none⟩ = some (.int .i64 (N 1)) := (blk_cell HNB.out 1).trans rfl
    have n2 : W3.cell? ⟨w2.heap.size, 2, none⟩ = some (.int .i64 (N 2)) := (blk_cell HNB.out 2).trans rfl
    have n3 : W3.cell? ⟨w2.heap.size, 3, none⟩ = some (.int .i64 (N 3)) := (blk_cell HNB.out 3).trans rfl
    go_wp2_with (rw [hW3])
    refine (right_calls cs cl A2 A3 A4 none c2 c3 c4 0 hs hung looks N [] _ HV.out (HM.out.later HB3.out) (Kd.C_nil _ _) (Nat.le_refl _) (Nat.zero_le _) (by rw [HNE.out]; exact nums_bd HV.out HLI.out)).mono ?_
    rintro e w4 ⟨rfl, hb⟩
    have HB4 := Aside0.mk (below_step HB3.out hb)
    clear hb
    have HR : Aside0 (proveTR cs cl hs hung looks d = rightB hs hung looks N []) := ⟨by unfold proveTR; rw [if_neg (by simp [H0.out]), HLI.out, Bool.true_and, HNE.out]⟩
    go_wp2_with fail
    go_ret
    exact ⟨by rw [HR.out]; rfl, HB4.out⟩
end Go.Proofs.Ytokhmghgghjmhaa.Q
namespace Go.Proofs.Ytokhmghgghjmhaa.Q
open Go.RowKit Go.Proofs.YtokhmghgghjmhaaW.PrintWords Go.Proofs.YtokhmghgghjmhaaW.PrintLast Go.Proofs.YtokhmghgghjmhaaW.PrintMore
set_option linter.unusedVariables false
def stN : Option (List Int × Int) → Int
  | none => 0
  | some x => x.2
def stP : Option (List Int × Int) → List Int
  | none => []
  | some x => x.1
def better (cl : Int) (hs : List S139) (ts : List (Nat → Int)) (p : List Int) (st : Option (List Int × Int)) : Option (List Int × Int) :=
  if (doneR cl hs p ts).2 = hs.length ∧ (st.isSome = false ∨ (doneR cl hs p ts).1 < stN st) then some (p, (doneR cl hs p ts).1) else st
def tryN (cs cl : Int) (hs : List S139) (ts : List (Nat → Int)) : Nat → List Int → Option (List Int × Int) → Option (List Int × Int)
  | 0, p, st => better cl hs ts p st
  | d + 1, p, st => (List.range cs.toNat).foldl (fun st (i : Nat) => if p.contains (i : Int) then st else tryN cs cl hs ts d (p ++ [(i : Int)]) st) st
/-- A placement of the first horses. -/
def PartP (cs : Int) (p : List Int) : Prop := ∀ i : Nat, i < p.length → 0 ≤ rd p i ∧ rd p i ≤ cs - 1 ∧ (p.take i).contains (rd p i) = false
theorem PartP.snoc {cs : Int} {p : List Int} (h : PartP cs p) {i : Int} (h0 : 0 ≤ i) (h1 : i ≤ cs - 1) (hc : p.contains i = false) : PartP cs (p ++ [i]) := by
  intro j hj
  rw [List.length_append, List.length_singleton] at hj
  by_cases e : j < p.length
  · have e1 : rd (p ++ [i]) (j : Int) = rd p (j : Int) := by rw [rd_nn, rd_nn, List.getD_eq_getElem?_getD, List.getD_eq_getElem?_getD, List.getElem?_append_left e]
    have e2 : (p ++ [i]).take j = p.take j := by rw [List.take_append_of_le_length (by omega)]
    rw [e1, e2]
    exact h j e
  · have ej : j = p.length := by omega
    subst ej
    have e1 : rd (p ++ [i]) (p.length : Int) = i := by rw [rd_nn, List.getD_eq_getElem?_getD]; simp
    have e2 : (p ++ [i]).take p.length = p := by simp
    rw [e1, e2]
    exact ⟨h0, h1, hc⟩
theorem PartP.place {cs : Int} {p : List Int} (h : PartP cs p) : placeB (cs - 1) p.length p = true := decide_eq_true ⟨rfl, h⟩
theorem PartP.nil (cs : Int) : PartP cs [] := fun i hi => absurd hi (by simp)
/-- The variables that the search writes. -/
def BS (n N : Nat) (k : Nat) : Prop := k = n + 1 ∨ k = n + 2 ∨ k = N + 1
structure Bst (w : World) (N g m : Nat) (cs cl : Int) (A2 A3 A4 AT : Option Addr) (c2 c3 c4 cT : Nat) (hs : List S139) (hung : List Int) (looks : List S140) (ts : List (Nat → Int)) (st : Option (List Int × Int)) (W : World) : Prop where
  below : Below w.heap.size w W
  sz : N + 3 ≤ W.heap.size
  box : W.heap[w.heap.size]? = some (.cells #[.int .i64 cs, .int .i64 cl, .slice A2 hs.length c2, .slice A3 hung.length c3, .slice A4 looks.length c4] 35 (0, 0))
  ptr : W.heap[N]? = some (.cells #[.pointer (some ⟨g, 0, none⟩)] 132 (0, 0))
  try_ : W.heap[N + 2]? = some (.cells #[.func (.func 100) #[] #[.pointer (some ⟨w.heap.size, 0, none⟩), .pointer (some ⟨N, 0, none⟩), .pointer (some ⟨N + 1, 0, none⟩), .pointer (some ⟨w.heap.size + 2, 0, none⟩), .pointer (some ⟨w.heap.size + 1, 0, none⟩), .pointer (some ⟨N + 2, 0, none⟩)]] 156 (0, 0))
  work : Work W g (some m) cs cl A2 A3 A4 AT c2 c3 c4 cT hs hung looks ts
  found : W.heap[N + 1]? = some (.cells #[.bool st.isSome] 4 (0, 0))
  min : W.heap[w.heap.size + 2]? = some (.cells #[.int .i64 (stN st)] 3 (0, 0))
  place : ∃ v, W.heap[w.heap.size + 1]? = some (.cells #[v] 23 (0, 0)) ∧ Kd.R (Kd.int .i64) 3 W (N + 3) (fun k => N + 3 ≤ k) v (stP st)
section
variable {w : World} {N g m : Nat} {cs cl : Int} {A2 A3 A4 AT : Option Addr} {c2 c3 c4 cT : Nat} {hs : List S139} {hung : List Int} {looks : List S140} {ts : List (Nat → Int)} {st : Option (List Int × Int)} {W W' : World}
theorem Bst.later (h : Bst w N g m cs cl A2 A3 A4 AT c2 c3 c4 cT hs hung looks ts st W) (hb : Below W.heap.size W W') (hw : w.heap.size ≤ W.heap.size) : Bst w N g m cs cl A2 A3 A4 AT c2 c3 c4 cT hs hung looks ts st W' := by
  obtain ⟨v, h1, h2⟩ := h.place
  exact ⟨h.below.trans (hb.mono hw), Nat.le_trans h.sz hb.size, blk_below h.box hb, blk_below h.ptr hb, blk_below h.try_ hb, h.work.later hb, blk_below h.found hb, blk_below h.min hb, v, blk_below h1 hb, Kd.R_below h2 hb⟩
theorem tr_kept {ts : List (Nat → Int)} {n : Nat} (h : Kd.C kN W AT n ts) (hb : ∀ ad, AT = some ad → 0 < n → W'.heap[ad.block]? = W.heap[ad.block]?) : Kd.C kN W' AT n ts := by
  refine ⟨h.1, h.2.1, fun hn => ?_⟩
  obtain ⟨ad, e, hc⟩ := h.2.2 hn
  refine ⟨ad, e, fun j p hj => ?_⟩
  obtain ⟨c, hl, hK, hcell⟩ := hc j p hj
  have hc' := kN_open hK
  refine ⟨c, hl, by rw [hc']; exact kN.K_of_M (kN_mkM W' 0 (fun _ => True) p), fun i u hu => ?_⟩
  have := hcell i u hu
  rwa [World.cell?_of_block (w := W) (by rw [add_block]; exact hb ad e hn)]
theorem Bst.work_kept (M : Mem w A2 A3 A4 c2 c3 c4 hs hung looks) (hW : Work W g (some m) cs cl A2 A3 A4 AT c2 c3 c4 cT hs hung looks ts) (hb : Below w.heap.size w W') {S : Nat → Prop} (hk : Kept W W' S) (hg : ¬ S g)
    (hA : ∀ ad, AT = some ad → 0 < ts.length → ¬ S ad.block) : Work W' g (some m) cs cl A2 A3 A4 AT c2 c3 c4 cT hs hung looks ts := by
  refine ⟨blk_kept hW.blk hk hg, M.later hb, tr_kept hW.tr (fun ad e hn => ?_), hW.lt⟩
  obtain ⟨ad', e', h0, _⟩ := at_N hW.tr 0 hn
  rw [e] at e'
  cases e'
  have hlt := World.block_lt_of_cell? W _ h0
  rw [add_block] at hlt
  exact hk.2 _ hlt (hA ad e hn)
end
end Go.Proofs.Ytokhmghgghjmhaa.Q
namespace Go.Proofs.Ytokhmghgghjmhaa.Q
open Go.RowKit Go.Proofs.YtokhmghgghjmhaaW.PrintWords Go.Proofs.YtokhmghgghjmhaaW.PrintLast Go.Proofs.YtokhmghgghjmhaaW.PrintMore
set_option linter.unusedVariables false
theorem range_fold {α : Type} (f : α → Nat → α) (a : α) (n : Nat) : (List.range (n + 1)).foldl f a = f ((List.range n).foldl f a) n := by
  rw [List.range_succ, List.foldl_append]; rfl
set_option maxHeartbeats 8000000 in
set_option maxRecDepth 100000 in
theorem try_calls (w : World) (N g m : Nat) (cs cl : Int) {A2 A3 A4 AT : Option Addr} {c2 c3 c4 cT : Nat} {hs : List S139} {hung : List Int} {looks : List S140} {ts : List (Nat → Int)}
    (M : Mem w A2 A3 A4 c2 c3 c4 hs hung looks) (V : Valid cs cl hs hung looks) (hts : ts ≠ []) (hT : Small ts) (hl : ts.length ≤ 100000) (hN : w.heap.size + 3 ≤ N) (hg0 : w.heap.size + 3 ≤ g) (hgN : g < N)
    (hA : ∀ ad, AT = some ad → 0 < ts.length → w.heap.size + 3 ≤ ad.block ∧ ad.block < N) :
    ∀ (d : Nat) (p : List Int) (A : Option Addr) (c : Nat) (st : Option (List Int × Int)) (W : World), p.length + d = hs.length → PartP cs p → Bst w N g m cs cl A2 A3 A4 AT c2 c3 c4 cT hs hung looks ts st W → Kd.R (Kd.int .i64) 3 W (N + 3) (fun k => N + 3 ≤ k) (.slice A p.length c) p →
      Calls Try.prog 100 #[.slice A p.length c, .pointer (some ⟨w.heap.size, 0, none⟩), .pointer (some ⟨N, 0, none⟩), .pointer (some ⟨N + 1, 0, none⟩), .pointer (some ⟨w.heap.size + 2, 0, none⟩), .pointer (some ⟨w.heap.size + 1, 0, none⟩), .pointer (some ⟨N + 2, 0, none⟩)] W fun e W' => (∃ r, e = .returned r) ∧ Bst w N g m cs cl A2 A3 A4 AT c2 c3 c4 cT hs hung looks ts (tryN cs cl hs ts d p st) W' ∧ Kept W W' (BS w.heap.size N) := by
  have HM := Aside0.mk M
  have HV := Aside0.mk V
  have HTS := Aside0.mk hts
  have HT := Aside0.mk hT
  have HL := Aside0.mk hl
  have HA := Aside0.mk hA
  clear M V hts hT hl hA
  intro d
  induction d with
  | zero =>
    intro p A c st W hd hP hB hR
    have hlen : p.length = hs.length := by omega
    have HP := Aside0.mk (show placeB (cs - 1) hs.length p = true from by rw [← hlen]; exact hP.place)
    have HB := Aside0.mk hB
    have HR := Aside0.mk hR
    have bz := hB.sz
    have b2 : W.cell? ⟨w.heap.size, 2, none⟩ = some (.slice A2 hs.length c2) := (blk_cell hB.box 2).trans rfl
    have q0 : W.cell? ⟨N, 0, none⟩ = some (.pointer (some ⟨g, 0, none⟩)) := (blk_cell hB.ptr 0).trans rfl
    have he1 : ((p.length : Int) == (hs.length : Int)) = true := by rw [beq_iff_eq]; omega
    have he2 : (p.length == hs.length) = true := by rw [beq_iff_eq]; omega
    clear hlen
    clear hd hP hB hR
    go_enter Try.func100, Try.ntmps100
    refine wp_scope_straight ?_
    go_wp2_with fail
    refine (done_calls _ g (some m) cs cl A2 A3 A4 AT A c2 c3 c4 cT c hs hung looks ts p HV.out HB.out.work (Kd.R_reads' HR.out).2.2 HP.out HTS.out HT.out HL.out).mono ?_
    rintro e W1 ⟨rfl, hb⟩
    have HB1 := Aside0.mk (HB.out.later hb (by omega))
    have HR1 := Aside0.mk (Kd.R_below HR.out hb)
    have HW1 := Aside0.mk hb
    replace b2 := later hb b2
    have bz1 := HB1.out.sz
    clear hb q0
    obtain ⟨v0, hpl, hR0⟩ := HB1.out.place
    have HPL := Aside0.mk hpl
    clear hpl hR0
    obtain ⟨D, hD⟩ : ∃ D, doneR cl hs p ts = D := ⟨_, rfl⟩
    have HD := Aside0.mk hD
    rw [hD]
    clear hD
    have f0 : W1.cell? ⟨N + 1, 0, none⟩ = some (.bool st.isSome) := (blk_cell HB1.out.found 0).trans rfl
    have m0 : W1.cell? ⟨w.heap.size + 2, 0, none⟩ = some (.int .i64 (stN st)) := (blk_cell HB1.out.min 0).trans rfl
    have p0 : W1.cell? ⟨w.heap.size + 1, 0, none⟩ = some v0 := (blk_cell HPL.out 0).trans rfl
    have ff := blk_frozen HB1.out.found 0
    have fm := blk_frozen HB1.out.min 0
    have fp := blk_frozen HPL.out 0
    have hne1 : w.heap.size + 1 ≠ N + 1 := by omega
    have hne2 : w.heap.size + 2 ≠ N + 1 := by omega
    have hne3 : N + 1 ≠ w.heap.size + 1 := by omega
    have hne4 : N + 1 ≠ w.heap.size + 2 := by omega
    obtain ⟨D1, D2⟩ := D
    by_cases h1 : D2 = (hs.length : Int)
    · by_cases h2 : st.isSome = false ∨ D1 < stN st
      · have HE : Aside0 (tryN cs cl hs ts 0 p st = some (p, D1)) := ⟨by simp only [tryN, better]; rw [HD.out, if_pos ⟨h1, h2⟩]⟩
        have HS3 : Aside0 (Bst w N g m cs cl A2 A3 A4 AT c2 c3 c4 cT hs hung looks ts (some (p, D1)) (((W1.setCell ⟨w.heap.size + 1, 0, none⟩ (.slice A p.length c)).setCell ⟨w.heap.size + 2, 0, none⟩ (.int .i64 D1)).setCell ⟨N + 1, 0, none⟩ (.bool true)) ∧
            Kept W (((W1.setCell ⟨w.heap.size + 1, 0, none⟩ (.slice A p.length c)).setCell ⟨w.heap.size + 2, 0, none⟩ (.int .i64 D1)).setCell ⟨N + 1, 0, none⟩ (.bool true)) (BS w.heap.size N)) := by
          have hk1 : Kept W1 (((W1.setCell ⟨w.heap.size + 1, 0, none⟩ (.slice A p.length c)).setCell ⟨w.heap.size + 2, 0, none⟩ (.int .i64 D1)).setCell ⟨N + 1, 0, none⟩ (.bool true)) (BS w.heap.size N) :=
            (((Kept.refl W1 (BS w.heap.size N)).setCell (.inl (.inl rfl)) _).setCell (.inl (.inr (.inl rfl))) _).setCell (.inl (.inr (.inr rfl))) _
          have hbl : Below w.heap.size w (((W1.setCell ⟨w.heap.size + 1, 0, none⟩ (.slice A p.length c)).setCell ⟨w.heap.size + 2, 0, none⟩ (.int .i64 D1)).setCell ⟨N + 1, 0, none⟩ (.bool true)) :=
            ((HB1.out.below.setCell (by simp) _).setCell (by simp) _).setCell (by simp; omega) _
          refine Aside0.mk ⟨⟨hbl, by have := hk1.1; omega, blk_kept HB1.out.box hk1 (by unfold BS; omega), blk_kept HB1.out.ptr hk1 (by unfold BS; omega), blk_kept HB1.out.try_ hk1 (by unfold BS; omega),
            Bst.work_kept HM.out HB1.out.work hbl hk1 (by unfold BS; omega) (fun ad e hn => by have := HA.out ad e hn; unfold BS; omega), ?_, ?_, _, ?_, Kd.R_kept HR1.out hk1 (fun k hk => by unfold BS; omega)⟩, ?_⟩
          · exact blk_put (blk_far (blk_far HB1.out.found (by simp; omega) _) (by simp; omega) _) 0 _ rfl
          · exact blk_far (blk_put (blk_far HB1.out.min (by simp) _) 0 _ rfl) (by simp; omega) _
          · exact blk_far (blk_far (blk_put HPL.out 0 _ rfl) (by simp) _) (by simp; omega) _
          · exact (Kept.of_below HW1.out _).then_ hk1 (fun k hk => .inl hk)
        have h3 : st.isSome = false ∨ (st.isSome = true ∧ D1 < stN st) := by
          rcases h2 with h | h
          · exact .inl h
          · cases hs' : st.isSome with
            | false => exact .inl rfl
            | true => exact .inr ⟨rfl, h⟩
        clear h2
        rcases h3 with h2 | ⟨h2, h3⟩
        · go_wp2_with fail
          simp only [Exit.noGoto_ret]
          refine bodyPost_ret (results_none rfl _ _ _) rfl ?_
          exact ⟨⟨_, rfl⟩, by rw [HE.out]; exact HS3.out.1, HS3.out.2⟩
        · go_wp2_with fail
          simp only [Exit.noGoto_ret]
          refine bodyPost_ret (results_none rfl _ _ _) rfl ?_
          exact ⟨⟨_, rfl⟩, by rw [HE.out]; exact HS3.out.1, HS3.out.2⟩
      · have HE : Aside0 (tryN cs cl hs ts 0 p st = st) := ⟨by simp only [tryN, better]; rw [HD.out, if_neg (fun h => h2 h.2)]⟩
        have h3 : st.isSome = true := by cases hs' : st.isSome with | true => rfl | false => exact absurd (.inl hs') h2
        have h4 : ¬ D1 < stN st := fun h => h2 (.inr h)
        clear h2
        go_wp2_with fail
        simp only [Exit.noGoto_ret]
        refine bodyPost_ret (results_none rfl _ _ _) rfl ?_
        exact ⟨⟨_, rfl⟩, by rw [HE.out]; exact HB1.out, Kept.of_below HW1.out _⟩
    · have HE : Aside0 (tryN cs cl hs ts 0 p st = st) := ⟨by simp only [tryN, better]; rw [HD.out, if_neg (fun h => h1 h.1)]⟩
      have h3 : (D2 == (hs.length : Int)) = false := beq_eq_false_iff_ne.2 h1
      clear h1
      go_wp2_with fail
      simp only [Exit.noGoto_ret]
      refine bodyPost_ret (results_none rfl _ _ _) rfl ?_
      exact ⟨⟨_, rfl⟩, by rw [HE.out]; exact HB1.out, Kept.of_below HW1.out _⟩
  | succ d ih =>
    intro p A c st W hd hP hB hR
    have hlt : p.length < hs.length := by omega
    have HIH := Aside0.mk ih
    have HD := Aside0.mk hd
    have HP := Aside0.mk hP
    have HB := Aside0.mk hB
    have HR := Aside0.mk hR
    have bz := hB.sz
    have bb := blk_lt hB.box
    have b0 : W.cell? ⟨w.heap.size, 0, none⟩ = some (.int .i64 cs) := (blk_cell hB.box 0).trans rfl
    have b2 : W.cell? ⟨w.heap.size, 2, none⟩ = some (.slice A2 hs.length c2) := (blk_cell hB.box 2).trans rfl
    have he1 : ((p.length : Int) == (hs.length : Int)) = false := beq_eq_false_iff_ne.2 (by omega)
    have he2 : (p.length == hs.length) = false := beq_eq_false_iff_ne.2 (by omega)
    have hc4 := HV.out.c4
    have hc1 := HV.out.c1
    have HN4 := Aside0.mk (show p.length ≤ 4 from by have := HV.out.n4; omega)
    clear hlt ih hd hP hB hR
    go_enter Try.func100, Try.ntmps100
    refine wp_scope_straight ?_
    go_wp2_with fail
    go_step3
    go_wp2_with fail
    go_loopg [43] cs.toNat (fun kq v wr => ∃ i : Nat, v = .int .i64 i ∧ Aside0 (i + kq = cs.toNat) ∧ Aside0 (Bst w N g m cs cl A2 A3 A4 AT c2 c3 c4 cT hs hung looks ts ((List.range i).foldl (fun st (i : Nat) => if p.contains (i : Int) then st else tryN cs cl hs ts d (p ++ [(i : Int)]) st) st) wr) ∧ Aside0 (Kept W wr (BS w.heap.size N)))
    case atStart => exact ⟨0, rfl, ⟨by omega⟩, HB, ⟨Kept.refl _ _⟩⟩
    case round =>
      obtain ⟨i, rfl, HI, HBI, HKI⟩ := hrel
      by_cases hi : i < cs.toNat
      · have hi1 : (i : Int) < cs := by omega
        have HRI := Aside0.mk (Kd.R_kept HR.out HKI.out (fun k hk => by unfold BS; omega))
        have HCI := Aside0.mk (Kd.R_reads' HRI.out).2.2
        obtain ⟨si, hsi⟩ : ∃ si, (List.range i).foldl (fun st (i : Nat) => if p.contains (i : Int) then st else tryN cs cl hs ts d (p ++ [(i : Int)]) st) st = si := ⟨_, rfl⟩
        have HSI := Aside0.mk hsi
        rw [hsi] at HBI
        clear hsi
        go_wp2_with fail
        go_loopg [48] p.length (fun kj v wj => ∃ j : Nat, v = .int .i64 j ∧ Aside0 (wj = wr) ∧ Aside0 (j + kj = p.length) ∧ Aside0 (∀ l : Nat, l < j → rd p l ≠ i))
        case atStart => exact ⟨0, rfl, ⟨rfl⟩, ⟨by omega⟩, ⟨fun l hl => absurd hl (by omega)⟩⟩
        case round =>
          obtain ⟨j, rfl, HW, HJ, HNO⟩ := hrel
          obtain rfl := HW.out
          clear HW
          by_cases hj : j < p.length
          · obtain ⟨ad, e, hpj⟩ := at_n HCI.out j hj
            cases e
            by_cases hq : rd p j = i
            · have HCT : Aside0 (p.contains (i : Int) = true) := ⟨by rw [List.contains_iff_mem, ← hq, rd_nn, List.getD_eq_getElem?_getD, List.getElem?_eq_getElem hj]; exact List.getElem_mem hj⟩
              have hq1 : (rd p j == (i : Int)) = true := by rw [beq_iff_eq]; exact hq
              clear hq
              go_wp2_with fail
              go_roundg (cs.toNat - (i + 1))
              case measure => have := HI.out; omega
              case rel => exact ⟨i + 1, by go_num, ⟨by have := HI.out; omega⟩, ⟨by rw [range_fold, HSI.out, if_pos HCT.out]; exact HBI.out⟩, HKI⟩
            · have hq1 : (rd p j == (i : Int)) = false := beq_eq_false_iff_ne.2 hq
              have HQ := Aside0.mk hq
              have := HN4.out
              clear hq
              go_wp2_with fail
              go_roundg (p.length - (j + 1))
              case measure => have := HJ.out; omega
              case rel =>
                refine ⟨j + 1, by go_num, ⟨rfl⟩, ⟨by have := HJ.out; omega⟩, ⟨fun l hl => ?_⟩⟩
                by_cases hlj : l < j
                · exact HNO.out l hlj
                · obtain rfl : l = j := by omega
                  exact HQ.out
          · have HCF : Aside0 (p.contains (i : Int) = false) := ⟨by
              cases hcc : p.contains (i : Int) with
              | false => rfl
              | true =>
                rw [List.contains_iff_mem] at hcc
                obtain ⟨l, hl, e⟩ := List.getElem_of_mem hcc
                exact absurd (by rw [rd_nn, List.getD_eq_getElem?_getD, List.getElem?_eq_getElem hl]; exact e) (HNO.out l (by have := HJ.out; omega))⟩
            have t0 : wr.cell? ⟨N + 2, 0, none⟩ = some (.func (.func 100) #[] #[.pointer (some ⟨w.heap.size, 0, none⟩), .pointer (some ⟨N, 0, none⟩), .pointer (some ⟨N + 1, 0, none⟩), .pointer (some ⟨w.heap.size + 2, 0, none⟩), .pointer (some ⟨w.heap.size + 1, 0, none⟩), .pointer (some ⟨N + 2, 0, none⟩)]) := (blk_cell HBI.out.try_ 0).trans rfl
            have tz := blk_lt HBI.out.try_
            go_wp2_with fail
            have hbox1 : ∀ (Wq : World) (k : Nat), Wq.cell? ⟨k, 0, none⟩ = some (.int .i64 (i : Int)) → Kd.C (Kd.int .i64) Wq (some ⟨k, 0, none⟩) [(i : Int)].length [(i : Int)] := fun Wq k h => Kd.C_of_reads (d := 0) (h1 := fun _ => rfl) ⟨rfl, by simp, fun _ => ⟨_, rfl, fun j hj => by
              have : j = 0 := by simp at hj; omega
              subst this
              exact h⟩⟩
            have HBOX := Aside0.mk hbox1
            clear hbox1
            have HTF : Aside0 (tryN cs cl hs ts d (p ++ [(i : Int)]) si = (List.range (i + 1)).foldl (fun st (i : Nat) => if p.contains (i : Int) then st else tryN cs cl hs ts d (p ++ [(i : Int)]) st) st) := ⟨by rw [range_fold, HSI.out, if_neg (by rw [HCF.out]; simp)]⟩
            have HLE : Aside0 ((p ++ [(i : Int)]).length + d = hs.length) := ⟨by have := HD.out; simp; omega⟩
            have HPS := Aside0.mk (HP.out.snoc (i := (i : Int)) (by omega) (by omega) HCF.out)
            have haL : (p.length + [(i : Int)].length) * 8 ≤ 140737488355328 := by have := HN4.out; simp; omega
            have hcl : p.length < 1000000 := by have := HN4.out; omega
            go_region_held3 (fun W' => W'.cell? ⟨N + 2, 0, none⟩ = some (.func (.func 100) #[] #[.pointer (some ⟨w.heap.size, 0, none⟩), .pointer (some ⟨N, 0, none⟩), .pointer (some ⟨N + 1, 0, none⟩), .pointer (some ⟨w.heap.size + 2, 0, none⟩), .pointer (some ⟨w.heap.size + 1, 0, none⟩), .pointer (some ⟨N + 2, 0, none⟩)])) (first | exact t0 | (go_keep; done) | exact (blk_cell HB3.out.try_ 0).trans rfl | exact HT2.out | exact later HBC.out (by assumption))
              ((first
                | (go_at_call 93
                   refine (clone_calls A c p _ (Kd.C_below HCI.out (by repeat (first | exact Below.refl _ _ | apply below_alloc | apply below_drew))) (Kd.R_reads' HRI.out).2.1 hcl).mono ?_
                   rintro e wc ⟨vc, rfl, hvc, hbc⟩
                   have HVC := Aside0.mk hvc
                   have HBC := Aside0.mk hbc
                   have HBW := Aside0.mk (show Below wr.heap.size wr wc from below_step (by repeat (first | exact Below.refl _ _ | apply below_alloc | apply below_drew)) hbc)
                   clear hvc hbc)
                | (refine Kd.R_append_rows_step (Kd.int .i64) (w0 := wc) _ (by rfl) (.tmp 58) (.tmp 60) 23 3 (.int .i64 0) 8 rfl Try.underlying23 info3 rfl (by decide) (by omega) vc p [(i : Int)] _ _ _ (fun _ => True) (fun _ => False) rfl rfl
                     (by first | exact HVC.out | exact Kd.R_alloc HVC.out _) (by first | exact HBOX.out _ _ ((blk_cell (blk_new _ _) 0).trans rfl) | exact HBOX.out _ _ (later HBC.out ((blk_cell (blk_new _ _) 0).trans rfl))) (fun _ _ h => h) (fun _ h => h.elim) (fun _ _ => trivial)
                     (by first | exact Below.refl _ _ | exact (Below.refl _ wc).alloc (Below.size HBC.out) _) (by first | exact Below.size HBC.out | exact Below.size ((below_step HBC.out (below_alloc (Below.refl _ _) _)))) haL ?_
                   intro v2 w2 ho hb hg hat
                   obtain ⟨A5, c5, hv5⟩ := Kd.R_slice ho
                   obtain ⟨n5, hn5⟩ : ∃ n5, (p ++ [(i : Int)]).length = n5 := ⟨_, rfl⟩
                   rw [hn5] at hv5
                   subst hv5
                   have HN5 := Aside0.mk hn5
                   have HBW2 := Aside0.mk (show Below wr.heap.size wr w2 from HBW.out.trans (hb.mono (by simp)))
                   have HO2 := Aside0.mk (show Kd.R (Kd.int .i64) 3 w2 (N + 3) (fun k => N + 3 ≤ k) (.slice A5 n5 c5) (p ++ [(i : Int)]) from Kd.R_lower (Kd.R_mono (Kd.R_bound ho) (fun k hk => by have h2 := hk.2.1; have h1 := HBI.out.sz; simp at h2; omega)) (by have h1 := HBI.out.sz; simp; omega))
                   have HT2 := Aside0.mk (later HBW2.out t0)
                   clear ho hb hg hat hn5)
                | (go_at_call 100
                   have hih := HIH.out (p ++ [(i : Int)]) A5 c5 si w2 HLE.out HPS.out (HBI.out.later HBW2.out (by have := HBI.out.sz; omega)) (by rw [HN5.out]; exact HO2.out)
                   rw [HN5.out] at hih
                   refine hih.mono ?_
                   clear hih
                   rintro e w3 ⟨⟨r3, rfl⟩, hb3, hk3⟩
                   have HB3 := Aside0.mk hb3
                   have HK3 := Aside0.mk hk3
                   clear hb3 hk3)))
            all_goals
              clear t0
              go_wp2_with fail
              go_roundg (cs.toNat - (i + 1))
              case measure => have := HI.out; omega
              case rel => exact ⟨i + 1, by go_num, ⟨by have := HI.out; omega⟩, ⟨by rw [← HTF.out]; exact HB3.out⟩, ⟨(HKI.out.then_ (Kept.of_below HBW2.out _) (fun k hk => .inl hk)).then_ HK3.out (fun k hk => .inl hk)⟩⟩
      · have hii : i = cs.toNat := by have := HI.out; omega
        have HE := Aside0.mk hii
        have hi1 : ¬ (i : Int) < cs := by omega
        clear hii
        go_wp2_with fail
        go_end0
        exact ⟨⟨_, rfl⟩, by simp only [tryN]; rw [← HE.out]; exact HBI.out, HKI.out⟩
end Go.Proofs.Ytokhmghgghjmhaa.Q
namespace Go.Proofs.Ytokhmghgghjmhaa.Q
open Go.RowKit Go.Proofs.YtokhmghgghjmhaaW.PrintWords Go.Proofs.YtokhmghgghjmhaaW.PrintLast Go.Proofs.YtokhmghgghjmhaaW.PrintMore
set_option linter.unusedVariables false
set_option linter.unusedSimpArgs false
theorem results_best {fn : Func} {tmps : Array Value} {w : World} {g1 g2 : Nat} {A : Option Addr} {n c : Nat} {i : Int} (h : fn.results = #[.cell 2 23, .cell 3 3, .tmp 4]) (h2 : tmps[2]?.getD undef = .pointer (some ⟨g1, 0, none⟩)) (h3 : tmps[3]?.getD undef = .pointer (some ⟨g2, 0, none⟩))
    (c1 : w.cell? ⟨g1, 0, none⟩ = some (.slice A n c)) (c2 : w.cell? ⟨g2, 0, none⟩ = some (.int .i64 i)) : (results fn tmps).run Try.prog w = .ok (.tuple #[.slice A n c, .int .i64 i, tmps[4]?.getD undef]) w := by
  have hu1 := Try.underlying23
  have hu2 := Try.underlying3
  simp [results, h, go_sem, h2, h3, c1, c2, asAddr, List.mapM_cons]
/-- What Best says. -/
def bestR (cs cl : Int) (hs : List S139) (hung : List Int) (looks : List S140) : List Int × Int × Int :=
  if askCode cs cl hs hung looks true ≠ 0 then ([], 0, askCode cs cl hs hung looks true)
  else match tryN cs cl hs (truthsT hs hung looks) hs.length [] none with
    | none => ([], 0, 10)
    | some x => (x.1, x.2, 0)
set_option maxHeartbeats 4000000 in
set_option maxRecDepth 100000 in
theorem bestX_calls (cs cl : Int) {A2 A3 A4 : Option Addr} {c2 c3 c4 : Nat} {hs : List S139} {hung : List Int} {looks : List S140} {w : World} (M : Mem w A2 A3 A4 c2 c3 c4 hs hung looks) :
    Calls Try.prog 49 #[.agg #[.int .i64 cs, .int .i64 cl, .slice A2 hs.length c2, .slice A3 hung.length c3, .slice A4 looks.length c4]] w
      fun e w' => ∃ v, e = .returned (.tuple #[v, .int .i64 (bestR cs cl hs hung looks).2.1, .int .i64 (bestR cs cl hs hung looks).2.2]) ∧ Kd.R (Kd.int .i64) 3 w' w.heap.size (fun _ => True) v (bestR cs cl hs hung looks).1 ∧ Below w.heap.size w w' := by
  have HM := Aside0.mk M
  clear M
  obtain ⟨W0, hW0⟩ : ∃ W0, ((w.alloc (.cells #[.int .i64 cs, .int .i64 cl, .slice A2 hs.length c2, .slice A3 hung.length c3, .slice A4 looks.length c4] 35)).alloc (.cells #[.slice none 0 0] 23)).alloc (.cells #[.int .i64 0] 3) = W0 := ⟨_, rfl⟩
  have HB0 := Aside0.mk (show Below w.heap.size w W0 from by rw [← hW0]; repeat (first | exact Below.refl _ _ | apply below_alloc))
  have HBK := Aside0.mk (show W0.heap[w.heap.size]? = some (.cells #[.int .i64 cs, .int .i64 cl, .slice A2 hs.length c2, .slice A3 hung.length c3, .slice A4 looks.length c4] 35 (0, 0)) from by rw [← hW0]; repeat (first | (refine blk_new_ ?_; simp; done) | refine blk_alloc ?_ _))
  have b0 : W0.cell? ⟨w.heap.size, 0, none⟩ = some (.int .i64 cs) := (blk_cell HBK.out 0).trans rfl
  have b1 : W0.cell? ⟨w.heap.size, 1, none⟩ = some (.int .i64 cl) := (blk_cell HBK.out 1).trans rfl
  have b2 : W0.cell? ⟨w.heap.size, 2, none⟩ = some (.slice A2 hs.length c2) := (blk_cell HBK.out 2).trans rfl
  have b3 : W0.cell? ⟨w.heap.size, 3, none⟩ = some (.slice A3 hung.length c3) := (blk_cell HBK.out 3).trans rfl
  have b4 : W0.cell? ⟨w.heap.size, 4, none⟩ = some (.slice A4 looks.length c4) := (blk_cell HBK.out 4).trans rfl
  have hz0 : W0.heap.size = w.heap.size + 3 := by rw [← hW0]; simp
  have HBP := Aside0.mk (show W0.heap[w.heap.size + 1]? = some (.cells #[.slice none 0 0] 23 (0, 0)) from by rw [← hW0]; repeat (first | (refine blk_new_ ?_; simp; done) | refine blk_alloc ?_ _))
  have HBM := Aside0.mk (show W0.heap[w.heap.size + 2]? = some (.cells #[.int .i64 0] 3 (0, 0)) from by rw [← hW0]; refine blk_new_ ?_; simp)
  go_enter Try.func49, Try.ntmps49
  go_wp2_with fail
  try rw [hW0]
  clear hW0
  refine (asked_calls cs cl (HM.out.later HB0.out) true).mono ?_
  rintro e wy ⟨pt, c, rfl, hA⟩
  have HA := Aside0.mk hA
  have HL := Aside0.mk hA.below
  have HLW := Aside0.mk (below_step HB0.out HL.out)
  have HBK1 := Aside0.mk (blk_below HBK.out HL.out)
  have HBP1 := Aside0.mk (blk_below HBP.out HL.out)
  have HBM1 := Aside0.mk (blk_below HBM.out HL.out)
  have bz : w.heap.size + 1 + 1 < wy.heap.size := blk_lt HBM1.out
  clear hA b0 b1 b2 b3 b4
  have p0 : wy.cell? ⟨w.heap.size + 1, 0, none⟩ = some (.slice none 0 0) := (blk_cell HBP1.out 0).trans rfl
  have m0 : wy.cell? ⟨w.heap.size + 1 + 1, 0, none⟩ = some (.int .i64 0) := (blk_cell HBM1.out 0).trans rfl
  have fp := blk_frozen HBP1.out 0
  have fm : wy.frozen? ⟨w.heap.size + 1 + 1, 0, none⟩ = false := blk_frozen HBM1.out 0
  rcases HA.out with ⟨h0, hc, rfl, _⟩ | ⟨rfl, hc, hk, _, hts, g, m, AT, cT, rfl, hA⟩
  · have h1 : (c != 0) = true := by rw [bne_iff_ne]; exact h0
    have HR : Aside0 (bestR cs cl hs hung looks = ([], 0, c)) := ⟨by unfold bestR; rw [← hc, if_pos h0]⟩
    clear hc h0
    obtain ⟨W1, hW1⟩ : ∃ W1, wy.alloc (.cells #[.pointer none] 132) = W1 := ⟨_, rfl⟩
    have HW1 := Aside0.mk (show Below wy.heap.size wy W1 from by rw [← hW1]; exact below_alloc (Below.refl _ _) _)
    have HBP2 := Aside0.mk (blk_below HBP1.out HW1.out)
    have HBM2 := Aside0.mk (blk_below HBM1.out HW1.out)
    have p1 : W1.cell? ⟨w.heap.size + 1, 0, none⟩ = some (.slice none 0 0) := (blk_cell HBP2.out 0).trans rfl
    have m1 : W1.cell? ⟨w.heap.size + 1 + 1, 0, none⟩ = some (.int .i64 0) := (blk_cell HBM2.out 0).trans rfl
    have fp1 := blk_frozen HBP2.out 0
    have fm1 : W1.frozen? ⟨w.heap.size + 1 + 1, 0, none⟩ = false := blk_frozen HBM2.out 0
    have q1 : W1.cell? ⟨wy.heap.size, 0, none⟩ = some (.pointer none) := by rw [← hW1]; exact (blk_cell (blk_new _ _) 0).trans rfl
    have fq1 : W1.frozen? ⟨wy.heap.size, 0, none⟩ = false := by rw [← hW1]; exact blk_frozen (blk_new _ _) 0
    have hn1 : wy.heap.size ≠ w.heap.size + 1 := by omega
    have hn2 : wy.heap.size ≠ w.heap.size + 1 + 1 := by omega
    clear p0 m0 fp fm
    go_wp2_with (rw [hW1])
    have HP2 := Aside0.mk (blk_far (blk_put (blk_far HBP2.out (show w.heap.size + 1 ≠ (⟨wy.heap.size, 0, none⟩ : Addr).block by simp; omega) (.pointer none)) 0 (.slice none 0 0) rfl) (show w.heap.size + 1 ≠ (⟨w.heap.size + 1 + 1, 0, none⟩ : Addr).block by simp) (.int .i64 0))
    have HM2 := Aside0.mk (blk_put (blk_far (blk_far HBM2.out (show w.heap.size + 2 ≠ (⟨wy.heap.size, 0, none⟩ : Addr).block by simp; omega) (.pointer none)) (show w.heap.size + 2 ≠ (⟨w.heap.size + 1, 0, none⟩ : Addr).block by simp) (.slice none 0 0)) 0 (.int .i64 0) rfl)
    refine bodyPost_ret (results_best rfl rfl rfl ((blk_cell HP2.out 0).trans rfl) ((blk_cell HM2.out 0).trans rfl)) rfl ?_
    rw [HR.out]
    exact ⟨_, rfl, Kd.R_nil _ _ _ _ _, (((below_step HLW.out HW1.out).setCell (by simp; omega) _).setCell (by simp) _).setCell (by simp; omega) _⟩
  · have HAS := Aside0.mk hA
    have HC := Aside0.mk hc
    have HK := Aside0.mk hk
    have HT := Aside0.mk hts
    have HV := Aside0.mk (valid_of hk)
    clear hA hc hk hts
    obtain ⟨W1, hW1⟩ : ∃ W1, (((wy.alloc (.cells #[.pointer (some ⟨g, 0, none⟩)] 132)).alloc (.cells #[.bool false] 4)).alloc (.cells #[.nilFunc] 156)).setCell ⟨wy.heap.size + 1 + 1, 0, none⟩ (.func (.func 100) #[] #[.pointer (some ⟨w.heap.size, 0, none⟩), .pointer (some ⟨wy.heap.size, 0, none⟩), .pointer (some ⟨wy.heap.size + 1, 0, none⟩), .pointer (some ⟨w.heap.size + 1 + 1, 0, none⟩), .pointer (some ⟨w.heap.size + 1, 0, none⟩), .pointer (some ⟨wy.heap.size + 1 + 1, 0, none⟩)]) = W1 := ⟨_, rfl⟩
    have HBW1 := Aside0.mk (show Below wy.heap.size wy W1 from by rw [← hW1]; exact Below.setCell (by repeat (first | exact Below.refl _ _ | apply below_alloc)) (by simp; omega) _)
    have hz1 : W1.heap.size = wy.heap.size + 3 := by rw [← hW1]; simp
    have HB1 : Aside0 (Bst w wy.heap.size g m cs cl A2 A3 A4 AT c2 c3 c4 cT hs hung looks (truthsT hs hung looks) none W1) := by
      refine Aside0.mk ⟨below_step HLW.out HBW1.out, by omega, blk_below HBK1.out HBW1.out, ?_, ?_, HAS.out.work.later HBW1.out, ?_, blk_below HBM1.out HBW1.out, .slice none 0 0, blk_below HBP1.out HBW1.out, Kd.R_nil _ _ _ _ _⟩
      · rw [← hW1]; refine blk_far ?_ (by simp; try omega) _; repeat (first | (refine blk_new_ ?_; simp; done) | refine blk_alloc ?_ _)
      · rw [← hW1]; refine blk_put (cs := #[.nilFunc]) ?_ 0 _ rfl; refine blk_new_ ?_; simp
      · rw [← hW1]; refine blk_far ?_ (by simp; try omega) _; repeat (first | (refine blk_new_ ?_; simp; done) | refine blk_alloc ?_ _)
    have tc : W1.cell? ⟨wy.heap.size + 1 + 1, 0, none⟩ = some (.func (.func 100) #[] #[.pointer (some ⟨w.heap.size, 0, none⟩), .pointer (some ⟨wy.heap.size, 0, none⟩), .pointer (some ⟨wy.heap.size + 1, 0, none⟩), .pointer (some ⟨w.heap.size + 1 + 1, 0, none⟩), .pointer (some ⟨w.heap.size + 1, 0, none⟩), .pointer (some ⟨wy.heap.size + 1 + 1, 0, none⟩)]) := (blk_cell HB1.out.try_ 0).trans rfl
    have HAT : Aside0 (∀ ad, AT = some ad → 0 < (truthsT hs hung looks).length → w.heap.size + 3 ≤ ad.block ∧ ad.block < wy.heap.size) := ⟨fun ad e hn => by
      have h1 := HAS.out.at0 ad.block (by rw [e]; rfl)
      obtain ⟨ad', e', h0, _⟩ := at_N HAS.out.work.tr 0 hn
      rw [e] at e'
      cases e'
      have hlt := World.block_lt_of_cell? wy _ h0
      rw [add_block] at hlt
      exact ⟨by omega, hlt⟩⟩
    have hg0 := HAS.out.g0
    have hgN : g < wy.heap.size := blk_lt HAS.out.work.blk
    have HTR := Aside0.mk (try_calls w wy.heap.size g m cs cl HM.out HV.out HT.out (truths_small HV.out) (truths_len HK.out) (by omega) (by omega) hgN HAT.out hs.length [] none 0 none W1 (by simp) (PartP.nil cs) HB1.out (Kd.R_nil _ _ _ _ _))
    go_wp2_with (rw [hW1])
    refine HTR.out.mono ?_
    clear HTR tc
    rintro e w5 ⟨⟨r5, rfl⟩, hb5, hk5⟩
    have HB5 := Aside0.mk hb5
    clear hb5 hk5 hW1 p0 m0 fp fm
    obtain ⟨st, hst⟩ : ∃ st, tryN cs cl hs (truthsT hs hung looks) hs.length [] none = st := ⟨_, rfl⟩
    rw [hst] at HB5
    obtain ⟨v5, hv5, hR5⟩ := HB5.out.place
    obtain ⟨A5, c5, hv⟩ := Kd.R_slice hR5
    subst hv
    have HP5 := Aside0.mk hv5
    have HR5 := Aside0.mk hR5
    have f0 : w5.cell? ⟨wy.heap.size + 1, 0, none⟩ = some (.bool st.isSome) := (blk_cell HB5.out.found 0).trans rfl
    have p0 : w5.cell? ⟨w.heap.size + 1, 0, none⟩ = some (.slice A5 (stP st).length c5) := (blk_cell hv5 0).trans rfl
    have m0 : w5.cell? ⟨w.heap.size + 1 + 1, 0, none⟩ = some (.int .i64 (stN st)) := (blk_cell HB5.out.min 0).trans rfl
    have fp := blk_frozen hv5 0
    have fm : w5.frozen? ⟨w.heap.size + 1 + 1, 0, none⟩ = false := blk_frozen HB5.out.min 0
    have HST := Aside0.mk hst
    clear hst hR5
    cases st with
    | none =>
      clear hv5
      have HR : Aside0 (bestR cs cl hs hung looks = ([], 0, 10)) := ⟨by unfold bestR; rw [HC.out, if_neg (by simp), HST.out]⟩
      go_wp2_with fail
      have HP2 := Aside0.mk (blk_far (blk_put HP5.out 0 (.slice none 0 0) rfl) (show w.heap.size + 1 ≠ (⟨w.heap.size + 1 + 1, 0, none⟩ : Addr).block by simp) (.int .i64 0))
      have HM2 := Aside0.mk (blk_put (blk_far HB5.out.min (show w.heap.size + 1 + 1 ≠ (⟨w.heap.size + 1, 0, none⟩ : Addr).block by simp) (.slice none 0 0)) 0 (.int .i64 0) rfl)
      refine bodyPost_ret (results_best rfl rfl rfl ((blk_cell HP2.out 0).trans rfl) ((blk_cell HM2.out 0).trans rfl)) rfl ?_
      rw [HR.out]
      exact ⟨_, rfl, Kd.R_nil _ _ _ _ _, (HB5.out.below.setCell (by simp) _).setCell (by simp; omega) _⟩
    | some x =>
      have HR : Aside0 (bestR cs cl hs hung looks = (x.1, x.2, 0)) := ⟨by unfold bestR; rw [HC.out, if_neg (by simp), HST.out]⟩
      go_wp2_with fail
      refine wp_region_held_drew (S := fun W' => W'.heap[w.heap.size + 1]? = some (.cells #[.slice A5 (stP (some x)).length c5] 23 (0, 0)) ∧ W'.heap[w.heap.size + 2]? = some (.cells #[.int .i64 (stN (some x))] 3 (0, 0)) ∧ W'.cell? ⟨w.heap.size + 1, 0, none⟩ = some (.slice A5 (stP (some x)).length c5) ∧ W'.cell? ⟨w.heap.size + 1 + 1, 0, none⟩ = some (.int .i64 (stN (some x)))) (by kernel_rfl) ?hS (fun hHeld => ?_)
      case hS => exact ⟨hv5, HB5.out.min, p0, m0⟩
      focus
        refine tkT 0 (some 21) (v := ?_) rfl rfl (.inl ⟨by rfl, ?_⟩) ?_
        rotate_left
        · (intro w hSw; (try dsimp only at hSw); go_simp; with_reducible rfl)
        try simp only [pS]
        refine tkT 1 (some 22) (v := ?_) rfl rfl (.inl ⟨by rfl, ?_⟩) ?_
        rotate_left
        · (intro w hSw; (try dsimp only at hSw); go_simp; with_reducible rfl)
        try simp only [pS]
        refine wpAnyH_ready (rs := [2]) (by kernel_rfl) (by simp) ?_
        refine AllReadyH.cons (o := { dst := none, op := Op.store 23 (Operand.tmp 2) (Operand.tmp 21), type := 0, pos := "ask.go:167", after := #[{ on := 0, ground := Ground.data }, { on := 0, ground := Ground.phase }, { on := 1, ground := Ground.textOnly Departure.inlinedCapture }], guard := none }) rfl (fun K hK => ?_) ?_
        go_simp
        refine hK.out _ _ ?_ ?_
        · ((try dsimp only); (first | (have h1 := blk_put hHeld.1 0 (.slice A5 (stP (some x)).length c5) rfl; have h2 := blk_far hHeld.2.1 (show w.heap.size + 2 ≠ (⟨w.heap.size + 1, 0, none⟩ : Addr).block by simp) (.slice A5 (stP (some x)).length c5); exact ⟨h1, h2, (blk_cell h1 0).trans rfl, (blk_cell h2 0).trans rfl⟩) | (have h1 := blk_far hHeld.1 (show w.heap.size + 1 ≠ (⟨w.heap.size + 1 + 1, 0, none⟩ : Addr).block by simp) (.int .i64 (stN (some x))); have h2 := blk_put hHeld.2.1 0 (.int .i64 (stN (some x))) rfl; exact ⟨h1, h2, (blk_cell h1 0).trans rfl, (blk_cell h2 0).trans rfl⟩)))
        try clear hHeld
        intro hHeld
        clear hK K
        try simp only [pS]
        refine wpAnyH_ready (rs := [3]) (by kernel_rfl) (by simp) ?_
        refine AllReadyH.cons (o := { dst := none, op := Op.store 3 (Operand.tmp 3) (Operand.tmp 22), type := 0, pos := "ask.go:167", after := #[{ on := 1, ground := Ground.data }, { on := 2, ground := Ground.chain }, { on := 0, ground := Ground.phase }, { on := 1, ground := Ground.phase }, { on := 2, ground := Ground.phase }], guard := none }) rfl (fun K hK => ?_) ?_
        go_simp
        refine hK.out _ _ ?_ ?_
        · ((try dsimp only); (first | (have h1 := blk_put hHeld.1 0 (.slice A5 (stP (some x)).length c5) rfl; have h2 := blk_far hHeld.2.1 (show w.heap.size + 2 ≠ (⟨w.heap.size + 1, 0, none⟩ : Addr).block by simp) (.slice A5 (stP (some x)).length c5); exact ⟨h1, h2, (blk_cell h1 0).trans rfl, (blk_cell h2 0).trans rfl⟩) | (have h1 := blk_far hHeld.1 (show w.heap.size + 1 ≠ (⟨w.heap.size + 1 + 1, 0, none⟩ : Addr).block by simp) (.int .i64 (stN (some x))); have h2 := blk_put hHeld.2.1 0 (.int .i64 (stN (some x))) rfl; exact ⟨h1, h2, (blk_cell h1 0).trans rfl, (blk_cell h2 0).trans rfl⟩)))
        try clear hHeld
        intro hHeld
        clear hK K
        try simp only [pS]
        refine tkT 4 (some 4) (v := ?_) rfl rfl (.inl ⟨by rfl, ?_⟩) ?_
        rotate_left
        · (intro w hSw; (try dsimp only at hSw); go_simp; with_reducible rfl)
        try simp only [pS]
        refine wpAnyH_done (by kernel_rfl) ?_ _
        rotate_left
        exact AllReadyH.nil
        exact AllReadyH.nil
      all_goals
        go_wp2_with fail
        refine bodyPost_ret (results_best rfl rfl rfl hHeld.2.2.1 hHeld.2.2.2) rfl ?_
        rw [HR.out]
        refine ⟨_, rfl, ?_, (HB5.out.below.trans (below_drew (Below.refl _ _))).setCell (by simp) _ |>.setCell (by simp; omega) _⟩
        exact Kd.R_mono (Kd.R_lower (Kd.R_far (Kd.R_far (Kd.R_drew HR5.out) (fun k hk => by simp; omega) _) (fun k hk => by simp; omega) _) (by omega)) (fun _ _ => trivial)
end Go.Proofs.Ytokhmghgghjmhaa.Q
namespace Go.Proofs.Ytokhmghgghjmhaa.Q
open Go.RowKit Go.Proofs.YtokhmghgghjmhaaW.PrintWords Go.Proofs.YtokhmghgghjmhaaW.PrintLast Go.Proofs.YtokhmghgghjmhaaW.PrintMore
set_option linter.unusedVariables false
theorem takeC {α : Type} {d : Kd α} {w : World} {A : Option Addr} {xs : List α} {i : Nat} (h : Kd.C d w A xs.length xs) (hi : i ≤ xs.length) : Kd.C d w A (xs.take i).length (xs.take i) := by
  refine ⟨rfl, by have := h.2.1; rw [List.length_take]; omega, fun hn => ?_⟩
  rw [List.length_take] at hn
  obtain ⟨ad, e, hc⟩ := h.2.2 (by omega)
  refine ⟨ad, e, fun j p hj => hc j p ?_⟩
  rw [List.getElem?_take] at hj
  split at hj
  · exact hj
  · cases hj
theorem rd140_take (looks : List S140) (m i : Nat) (h : i < m) : rd_T140 (looks.take m) (i : Int) = rd_T140 looks (i : Int) := by
  unfold rd_T140
  simp [List.getD_eq_getElem?_getD, h]
theorem Valid.take {cs cl : Int} {hs : List S139} {hung : List Int} {looks : List S140} (V : Valid cs cl hs hung looks) (m : Nat) : Valid cs cl hs hung (looks.take m) :=
  ⟨V.c1, V.c4, V.k0, V.k99, V.n4, by have := V.n5; rw [List.length_take]; omega, V.dry, V.wet, V.grace, V.place, V.inside, V.apart, fun i hi => by
    rw [List.length_take] at hi
    rw [rd140_take _ _ _ (by omega)]
    exact V.look i (by omega)⟩
/-- The first look at which no truth is left. -/
def fstN (hs : List S139) (hung : List Int) (looks : List S140) : Nat → Nat → Int × Int
  | 0, _ => (0, 7)
  | k + 1, n => if canB hs hung (looks.take (n + 1)) [] = true then fstN hs hung looks k (n + 1) else (n, 0)
def firstR (cs cl : Int) (hs : List S139) (hung : List Int) (looks : List S140) : Int × Int :=
  if checkB cs cl hs hung looks ≠ 0 then (0, checkB cs cl hs hung looks) else fstN hs hung looks looks.length 0
set_option maxHeartbeats 4000000 in
set_option maxRecDepth 100000 in
theorem firstX_calls (cs cl : Int) {A2 A3 A4 : Option Addr} {c2 c3 c4 : Nat} {hs : List S139} {hung : List Int} {looks : List S140} {w : World} (M : Mem w A2 A3 A4 c2 c3 c4 hs hung looks) :
    Calls Try.prog 34 #[.agg #[.int .i64 cs, .int .i64 cl, .slice A2 hs.length c2, .slice A3 hung.length c3, .slice A4 looks.length c4]] w
      fun e w' => e = .returned (.tuple #[.int .i64 (firstR cs cl hs hung looks).1, .int .i64 (firstR cs cl hs hung looks).2]) ∧ Below w.heap.size w w' := by
  have HM := Aside0.mk M
  clear M
  obtain ⟨W0, hW0⟩ : ∃ W0, w.alloc (.cells #[.int .i64 cs, .int .i64 cl, .slice A2 hs.length c2, .slice A3 hung.length c3, .slice A4 looks.length c4] 35) = W0 := ⟨_, rfl⟩
  have HB0 := Aside0.mk (show Below w.heap.size w W0 from by rw [← hW0]; repeat (first | exact Below.refl _ _ | apply below_alloc))
  have HBK := Aside0.mk (show W0.heap[w.heap.size]? = some (.cells #[.int .i64 cs, .int .i64 cl, .slice A2 hs.length c2, .slice A3 hung.length c3, .slice A4 looks.length c4] 35 (0, 0)) from by rw [← hW0]; repeat (first | (refine blk_new_ ?_; simp; done) | refine blk_alloc ?_ _))
  have b0 : W0.cell? ⟨w.heap.size, 0, none⟩ = some (.int .i64 cs) := (blk_cell HBK.out 0).trans rfl
  have b1 : W0.cell? ⟨w.heap.size, 1, none⟩ = some (.int .i64 cl) := (blk_cell HBK.out 1).trans rfl
  have b2 : W0.cell? ⟨w.heap.size, 2, none⟩ = some (.slice A2 hs.length c2) := (blk_cell HBK.out 2).trans rfl
  have b3 : W0.cell? ⟨w.heap.size, 3, none⟩ = some (.slice A3 hung.length c3) := (blk_cell HBK.out 3).trans rfl
  have b4 : W0.cell? ⟨w.heap.size, 4, none⟩ = some (.slice A4 looks.length c4) := (blk_cell HBK.out 4).trans rfl
  go_enter Try.func34, Try.ntmps34
  go_wp2_with fail
  try rw [hW0]
  clear hW0
  refine (check_calls cs cl (HM.out.later HB0.out)).mono ?_
  rintro e w1 ⟨rfl, hb⟩
  have HB1 := Aside0.mk (below_step HB0.out hb)
  have HBK1 := Aside0.mk (blk_below HBK.out hb)
  replace b0 := later hb b0
  replace b1 := later hb b1
  replace b2 := later hb b2
  replace b3 := later hb b3
  replace b4 := later hb b4
  clear hb
  by_cases h0 : checkB cs cl hs hung looks = 0
  case neg =>
    have h1 : (checkB cs cl hs hung looks != 0) = true := by rw [bne_iff_ne]; exact h0
    have HR : Aside0 (firstR cs cl hs hung looks = (0, checkB cs cl hs hung looks)) := ⟨by unfold firstR; rw [if_pos h0]⟩
    clear h0
    go_wp2_with fail
    go_ret2
    exact ⟨by rw [HR.out]; rfl, HB1.out⟩
  have HV := Aside0.mk (valid_of h0)
  have HR : Aside0 (firstR cs cl hs hung looks = fstN hs hung looks looks.length 0) := ⟨by unfold firstR; rw [if_neg (by simp [h0])]⟩
  rw [h0]
  clear h0
  have bz : w.heap.size < w1.heap.size := blk_lt HBK1.out
  obtain ⟨W2, hW2⟩ : ∃ W2, w1.alloc (.cells #[.int .i64 cs, .int .i64 cl, .slice A2 hs.length c2, .slice A3 hung.length c3, .slice A4 looks.length c4] 35) = W2 := ⟨_, rfl⟩
  have hb2 : Below w1.heap.size w1 W2 := by rw [← hW2]; exact below_alloc (Below.refl _ _) _
  have HB2 := Aside0.mk (below_step HB1.out hb2)
  have HBK2 := Aside0.mk (blk_below HBK1.out hb2)
  have HX2 := Aside0.mk (show W2.heap[w1.heap.size]? = some (.cells #[.int .i64 cs, .int .i64 cl, .slice A2 hs.length c2, .slice A3 hung.length c3, .slice A4 looks.length c4] 35 (0, 0)) from by rw [← hW2]; exact blk_new _ _)
  have b42 := later hb2 b4
  clear hb2
  go_wp2_with (rw [hW2])
  clear hW2 b0 b1 b2 b3 b4 b42
  go_loopg [16] looks.length (fun kq v wr => ∃ n : Nat, v = .int .i64 n ∧ Aside0 (n + kq = looks.length) ∧ Aside0 (fstN hs hung looks kq n = fstN hs hung looks looks.length 0) ∧ Aside0 (Below w.heap.size w wr) ∧
    Aside0 (wr.heap[w.heap.size]? = some (.cells #[.int .i64 cs, .int .i64 cl, .slice A2 hs.length c2, .slice A3 hung.length c3, .slice A4 looks.length c4] 35 (0, 0))) ∧ Aside0 (∃ m : Nat, wr.heap[w1.heap.size]? = some (.cells #[.int .i64 cs, .int .i64 cl, .slice A2 hs.length c2, .slice A3 hung.length c3, .slice A4 m c4] 35 (0, 0))))
  case atStart => exact ⟨0, rfl, ⟨by omega⟩, ⟨rfl⟩, HB2, HBK2, ⟨_, HX2.out⟩⟩
  case round =>
    obtain ⟨n, rfl, HNN, HF, HB, HBX, HX⟩ := hrel
    obtain ⟨m, hx⟩ := HX.out
    have HXM := Aside0.mk hx
    clear HX
    have bzr := blk_lt HBX.out
    have xz := blk_lt hx
    by_cases hlt : n < looks.length
    · obtain ⟨kq, rfl⟩ : ∃ kq, gk = kq + 1 := ⟨gk - 1, by have := HNN.out; omega⟩
      obtain ⟨ad, e, _, _, _⟩ := at_l HM.out.h4 n hlt
      cases e
      have y4 : wr.cell? ⟨w.heap.size, 4, none⟩ = some (.slice (some ad) looks.length c4) := (blk_cell HBX.out 4).trans rfl
      have x0 : wr.cell? ⟨w1.heap.size, 0, none⟩ = some (.int .i64 cs) := (blk_cell hx 0).trans rfl
      have x1 : wr.cell? ⟨w1.heap.size, 1, none⟩ = some (.int .i64 cl) := (blk_cell hx 1).trans rfl
      have x2 : wr.cell? ⟨w1.heap.size, 2, none⟩ = some (.slice A2 hs.length c2) := (blk_cell hx 2).trans rfl
      have x3 : wr.cell? ⟨w1.heap.size, 3, none⟩ = some (.slice A3 hung.length c3) := (blk_cell hx 3).trans rfl
      have x4 : wr.cell? ⟨w1.heap.size, 4, none⟩ = some (.slice (some ad) m c4) := (blk_cell hx 4).trans rfl
      have f4 := blk_frozen hx 4
      have hn5 := HV.out.n5
      have hl4 := HM.out.l4
      have hwr : IntKind.i64.wrap ((n : Int) + 1) = ((n + 1 : Nat) : Int) := by rw [show IntKind.i64.wrap ((n : Int) + 1) = (n : Int) + 1 from IntWalk.i64_in _ (by omega)]; omega
      have hwr2 : wrap64 ((n : Int) + 1) = ((n + 1 : Nat) : Int) := by unfold wrap64; omega
      have hs0 : (0 : Int) ≤ ((n + 1 : Nat) : Int) := by omega
      have hs1 : ((n + 1 : Nat) : Int) ≤ (c4 : Int) := by omega
      have hs2 : n + 1 ≤ c4 := by omega
      clear hx
      go_wp2_with fail
      have HXS := Aside0.mk (blk_put HXM.out 4 (.slice (some ad) (n + 1) c4) rfl)
      have hlen : (looks.take (n + 1)).length = n + 1 := by rw [List.length_take]; omega
      have HBS : Aside0 (Below w.heap.size w (wr.setCell ⟨w1.heap.size, 4, none⟩ (.slice (some ad) (n + 1) c4))) := ⟨HB.out.setCell (by simp; omega) _⟩
      have HMM : Aside0 (Mem (wr.setCell ⟨w1.heap.size, 4, none⟩ (.slice (some ad) (n + 1) c4)) A2 A3 (some ad) c2 c3 c4 hs hung (looks.take (n + 1))) := ⟨⟨(HM.out.later HBS.out).h2, (HM.out.later HBS.out).h3, takeC (HM.out.later HBS.out).h4 (by omega), HM.out.l2, HM.out.l3, by rw [hlen]; omega⟩⟩
      have HPC := Aside0.mk (possible_calls cs cl A2 A3 (some ad) none c2 c3 c4 0 hs hung (looks.take (n + 1)) [] _ (HV.out.take (n + 1)) HMM.out (Kd.C_nil _ _) (Nat.le_refl _) (Nat.zero_le _))
      rw [hlen] at HPC
      clear hlen HMM
      refine HPC.out.mono ?_
      clear HPC
      rintro e w3 ⟨rfl, hb⟩
      have HB3 := Aside0.mk (below_step HBS.out hb)
      have HX3 := Aside0.mk (blk_below HXS.out hb)
      have HBX3 := Aside0.mk (blk_below (blk_far HBX.out (show w.heap.size ≠ (⟨w1.heap.size, 4, none⟩ : Addr).block by simp; omega) _) hb)
      clear hb
      cases hcn : canB hs hung (looks.take (n + 1)) [] with
      | true =>
        have HCN := Aside0.mk hcn
        clear hcn
        go_wp2_with fail
        go_roundg kq
        case measure => omega
        case rel => exact ⟨n + 1, by go_num, ⟨by have := HNN.out; omega⟩, ⟨by rw [← HF.out]; simp only [fstN]; rw [if_pos HCN.out]⟩, HB3, HBX3, ⟨_, HX3.out⟩⟩
      | false =>
        have HCN := Aside0.mk hcn
        clear hcn
        go_wp2_with fail
        go_ret2
        refine ⟨?_, HB3.out⟩
        rw [HR.out, ← HF.out]
        simp only [fstN]
        rw [if_neg (by rw [HCN.out]; simp)]
        rfl
    · have hgk : gk = 0 := by have := HNN.out; omega
      subst hgk
      have hnn : n = looks.length := by have := HNN.out; omega
      subst hnn
      go_wp2_with fail
      go_ret2
      exact ⟨by rw [HR.out, ← HF.out]; rfl, HB.out⟩
end Go.Proofs.Ytokhmghgghjmhaa.Q
namespace Go.Proofs.Ytokhmghgghjmhaa.Q
open Go.RowKit Go.Proofs.YtokhmghgghjmhaaW.PrintWords Go.Proofs.YtokhmghgghjmhaaW.PrintLast Go.Proofs.YtokhmghgghjmhaaW.PrintMore
set_option linter.unusedVariables false
def lv (f : Nat → List Int → Bool × List Int) : Nat → Nat → List Int → Bool × List Int
  | 0, _, fd => (false, fd)
  | k + 1, i, fd => if (f i fd).1 = true then (true, (f i fd).2) else lv f k (i + 1) (f i fd).2
def leaveN (hs : List S139) (hung : List Int) (looks : List S140) : Nat → List Int → Nat → List Int → Bool × List Int
  | 0, out, _, _ => (canB hs hung looks out, out)
  | m + 1, out, from_, fd => lv (fun i fd => leaveN hs hung looks m (out ++ [(i : Int)]) (i + 1) fd) (looks.length - m - from_) from_ fd
structure Lst (w : World) (N : Nat) (cs cl : Int) (A2 A3 A4 : Option Addr) (c2 c3 c4 : Nat) (hs : List S139) (hung : List Int) (looks : List S140) (fd : List Int) (W : World) : Prop where
  below : Below w.heap.size w W
  sz : N + 2 ≤ W.heap.size
  box : W.heap[w.heap.size]? = some (.cells #[.int .i64 cs, .int .i64 cl, .slice A2 hs.length c2, .slice A3 hung.length c3, .slice A4 looks.length c4] 35 (0, 0))
  fn : W.heap[N + 1]? = some (.cells #[.func (.func 92) #[] #[.pointer (some ⟨N, 0, none⟩), .pointer (some ⟨w.heap.size, 0, none⟩), .pointer (some ⟨N + 1, 0, none⟩)]] 148 (0, 0))
  found : ∃ v, W.heap[N]? = some (.cells #[v] 23 (0, 0)) ∧ Kd.R (Kd.int .i64) 3 W (N + 2) (fun k => N + 2 ≤ k) v fd
theorem Lst.later {w : World} {N : Nat} {cs cl : Int} {A2 A3 A4 : Option Addr} {c2 c3 c4 : Nat} {hs : List S139} {hung : List Int} {looks : List S140} {fd : List Int} {W W' : World}
    (h : Lst w N cs cl A2 A3 A4 c2 c3 c4 hs hung looks fd W) (hb : Below W.heap.size W W') (hw : w.heap.size ≤ W.heap.size) : Lst w N cs cl A2 A3 A4 c2 c3 c4 hs hung looks fd W' := by
  obtain ⟨v, h1, h2⟩ := h.found
  exact ⟨h.below.trans (hb.mono hw), Nat.le_trans h.sz hb.size, blk_below h.box hb, blk_below h.fn hb, v, blk_below h1 hb, Kd.R_below h2 hb⟩
theorem lv_arith {L m mm i i0 kq : Nat} (h1 : m + 1 = mm) (h2 : i0 ≤ i ∧ i ≤ 6 ∧ kq + 1 = L - m - i) (hle : (i : Int) ≤ (L : Int) - (mm : Int)) (hL : L ≤ 5) : i + 1 ≤ 6 ∧ i0 ≤ i + 1 ∧ kq = L - m - (i + 1) ∧ kq < kq + 1 := by omega
theorem lv_arith0 {L m mm i i0 gk : Nat} (h1 : m + 1 = mm) (h2 : i0 ≤ i ∧ i ≤ 6 ∧ gk = L - m - i) (hle : (i : Int) ≤ (L : Int) - (mm : Int)) : ∃ kq, gk = kq + 1 := ⟨gk - 1, by omega⟩
theorem lv_arith1 {L m mm i i0 gk : Nat} (h1 : m + 1 = mm) (h2 : i0 ≤ i ∧ i ≤ 6 ∧ gk = L - m - i) (hle : ¬ (i : Int) ≤ (L : Int) - (mm : Int)) : gk = 0 := by omega
theorem wrap_inc {i : Nat} (h : i ≤ 100) : IntKind.i64.wrap ((i : Int) + 1) = ((i + 1 : Nat) : Int) ∧ wrap64 ((i : Int) + 1) = ((i + 1 : Nat) : Int) := by
  constructor
  · rw [show IntKind.i64.wrap ((i : Int) + 1) = (i : Int) + 1 from IntWalk.i64_in _ (by omega)]; omega
  · unfold wrap64; omega
theorem wrap_pre {m mm : Nat} (h1 : m + 1 = mm) (h : m ≤ 100) : wrap64 ((mm : Int) - 1) = (m : Int) := by unfold wrap64; omega
set_option maxHeartbeats 8000000 in
set_option maxRecDepth 100000 in
theorem leave_calls (w : World) (N : Nat) (cs cl : Int) {A2 A3 A4 : Option Addr} {c2 c3 c4 : Nat} {hs : List S139} {hung : List Int} {looks : List S140}
    (M : Mem w A2 A3 A4 c2 c3 c4 hs hung looks) (V : Valid cs cl hs hung looks) (hN : w.heap.size + 1 ≤ N) :
    ∀ (m : Nat) (out : List Int) (A : Option Addr) (c i0 : Nat) (fd : List Int) (W : World), m ≤ 6 → i0 ≤ 6 → out.length + m ≤ 12 → Lst w N cs cl A2 A3 A4 c2 c3 c4 hs hung looks fd W → Kd.R (Kd.int .i64) 3 W (N + 2) (fun k => N + 2 ≤ k) (.slice A out.length c) out →
      Calls Try.prog 92 #[.slice A out.length c, .int .i64 i0, .int .i64 m, .pointer (some ⟨N, 0, none⟩), .pointer (some ⟨w.heap.size, 0, none⟩), .pointer (some ⟨N + 1, 0, none⟩)] W
        fun e W' => e = .returned (.bool (leaveN hs hung looks m out i0 fd).1) ∧ Lst w N cs cl A2 A3 A4 c2 c3 c4 hs hung looks (leaveN hs hung looks m out i0 fd).2 W' ∧ Kept W W' (fun k => k = N) := by
  have HM := Aside0.mk M
  have HV := Aside0.mk V
  clear M V
  intro m
  induction m with
  | zero =>
    intro out A c i0 fd W hm hi hl hB hR
    have HB := Aside0.mk hB
    have HR := Aside0.mk hR
    have HL := Aside0.mk (show out.length ≤ 1000 from by omega)
    have bz := hB.sz
    obtain ⟨v0, hf, _⟩ := hB.found
    have HF := Aside0.mk hf
    have bb := blk_lt hB.box
    have p0 : W.cell? ⟨N, 0, none⟩ = some v0 := (blk_cell hf 0).trans rfl
    have fp := blk_frozen hf 0
    have b0 : W.cell? ⟨w.heap.size, 0, none⟩ = some (.int .i64 cs) := (blk_cell hB.box 0).trans rfl
    have b1 : W.cell? ⟨w.heap.size, 1, none⟩ = some (.int .i64 cl) := (blk_cell hB.box 1).trans rfl
    have b2 : W.cell? ⟨w.heap.size, 2, none⟩ = some (.slice A2 hs.length c2) := (blk_cell hB.box 2).trans rfl
    have b3 : W.cell? ⟨w.heap.size, 3, none⟩ = some (.slice A3 hung.length c3) := (blk_cell hB.box 3).trans rfl
    have b4 : W.cell? ⟨w.heap.size, 4, none⟩ = some (.slice A4 looks.length c4) := (blk_cell hB.box 4).trans rfl
    have hne : N ≠ w.heap.size := by omega
    clear hB hR hf hm hi hl
    have HBS : Aside0 (Below w.heap.size w (W.setCell ⟨N, 0, none⟩ (.slice A out.length c))) := ⟨HB.out.below.setCell (by simp; omega) _⟩
    have HK : Aside0 (Kept W (W.setCell ⟨N, 0, none⟩ (.slice A out.length c)) (fun k => k = N)) := ⟨(Kept.refl W (fun k => k = N)).setCell (.inl rfl) _⟩
    have HR2 := Aside0.mk (Kd.R_kept HR.out HK.out (fun k hk => by omega))
    have HS2 : Aside0 (Lst w N cs cl A2 A3 A4 c2 c3 c4 hs hung looks out (W.setCell ⟨N, 0, none⟩ (.slice A out.length c))) := ⟨⟨HBS.out, by have := HK.out.1; omega, blk_kept HB.out.box HK.out (by omega), blk_kept HB.out.fn HK.out (by omega), _, blk_put HF.out 0 _ rfl, HR2.out⟩⟩
    go_enter Try.func92, Try.ntmps92
    go_wp2_with fail
    refine (possible_calls cs cl A2 A3 A4 A c2 c3 c4 c hs hung looks out _ HV.out (HM.out.later HBS.out) (Kd.R_reads' HR2.out).2.2 (Kd.R_reads' HR2.out).2.1 HL.out).mono ?_
    rintro e w1 ⟨rfl, hb⟩
    have HB1 := Aside0.mk hb
    clear hb
    go_wp2_with fail
    go_ret
    exact ⟨rfl, HS2.out.later HB1.out (by have := HBS.out.size; exact this), HK.out.then_ (Kept.of_below HB1.out _) (fun k hk => .inl hk)⟩
  | succ m ih =>
    intro out A c i0 fd W hm hi hl hB hR
    have HIH := Aside0.mk ih
    have HM6 := Aside0.mk hm
    have HLN := Aside0.mk hl
    have HB := Aside0.mk hB
    have HR := Aside0.mk hR
    have bz := hB.sz
    have bb := blk_lt hB.box
    have hn5 := HV.out.n5
    have hwq : IntKind.i64.wrap ((looks.length : Int) - ((m + 1 : Nat) : Int)) = (looks.length : Int) - ((m + 1 : Nat) : Int) := IntWalk.i64_in _ (by omega)
    have hm0 : ((((m + 1 : Nat) : Int)) == 0) = false := beq_eq_false_iff_ne.2 (by omega)
    have hwm : IntKind.i64.wrap ((((m + 1 : Nat) : Int)) - 1) = (m : Int) := by rw [show IntKind.i64.wrap (((m + 1 : Nat) : Int) - 1) = ((m + 1 : Nat) : Int) - 1 from IntWalk.i64_in _ (by omega)]; omega
    obtain ⟨mm, hmm⟩ : ∃ mm : Nat, m + 1 = mm := ⟨_, rfl⟩
    have HMM := Aside0.mk hmm
    rw [hmm] at hwq hm0 hwm ⊢
    have b4' : W.cell? ⟨w.heap.size, 4, none⟩ = some (.slice A4 looks.length c4) := (blk_cell hB.box 4).trans rfl
    clear ih hm hl hB hR hmm
    go_enter Try.func92, Try.ntmps92
    go_wp2_with fail
    go_loopg [10] (looks.length - m - i0) (fun kq v wr => ∃ (i : Nat) (f2 : List Int), v = .int .i64 i ∧ Aside0 (i0 ≤ i ∧ i ≤ 6 ∧ kq = looks.length - m - i) ∧ Aside0 (lv (fun i fd => leaveN hs hung looks m (out ++ [(i : Int)]) (i + 1) fd) kq i f2 = leaveN hs hung looks mm out i0 fd) ∧ Aside0 (Lst w N cs cl A2 A3 A4 c2 c3 c4 hs hung looks f2 wr) ∧ Aside0 (Kept W wr (fun k => k = N)))
    case atStart => exact ⟨i0, fd, rfl, ⟨Nat.le_refl _, hi, rfl⟩, ⟨by rw [← HMM.out]; rfl⟩, HB, ⟨Kept.refl _ _⟩⟩
    case round =>
      obtain ⟨i, f2, rfl, HI, HLV, HBI, HKI⟩ := hrel
      have HRI := Aside0.mk (Kd.R_kept HR.out HKI.out (fun k hk => by omega))
      have HCI := Aside0.mk (Kd.R_reads' HRI.out).2.2
      have b4 : wr.cell? ⟨w.heap.size, 4, none⟩ = some (.slice A4 looks.length c4) := (blk_cell HBI.out.box 4).trans rfl
      clear b4'
      by_cases hle : (i : Int) ≤ (looks.length : Int) - (mm : Int)
      · obtain ⟨kq, rfl⟩ := lv_arith0 HMM.out HI.out hle
        have HAR := Aside0.mk (lv_arith HMM.out HI.out hle hn5)
        have t0 : wr.cell? ⟨N + 1, 0, none⟩ = some (.func (.func 92) #[] #[.pointer (some ⟨N, 0, none⟩), .pointer (some ⟨w.heap.size, 0, none⟩), .pointer (some ⟨N + 1, 0, none⟩)]) := (blk_cell HBI.out.fn 0).trans rfl
        have tz := blk_lt HBI.out.fn
        have hbox1 : ∀ (Wq : World) (k : Nat), Wq.cell? ⟨k, 0, none⟩ = some (.int .i64 (i : Int)) → Kd.C (Kd.int .i64) Wq (some ⟨k, 0, none⟩) [(i : Int)].length [(i : Int)] := fun Wq k h => Kd.C_of_reads (d := 0) (h1 := fun _ => rfl) ⟨rfl, by simp, fun _ => ⟨_, rfl, fun j hj => by
          have : j = 0 := by simp at hj; omega
          subst this
          exact h⟩⟩
        have HBOX := Aside0.mk hbox1
        clear hbox1
        have HTF : Aside0 (lv (fun i fd => leaveN hs hung looks m (out ++ [(i : Int)]) (i + 1) fd) (kq + 1) i f2 = if (leaveN hs hung looks m (out ++ [(i : Int)]) (i + 1) f2).1 = true then (true, (leaveN hs hung looks m (out ++ [(i : Int)]) (i + 1) f2).2) else lv (fun i fd => leaveN hs hung looks m (out ++ [(i : Int)]) (i + 1) fd) kq (i + 1) (leaveN hs hung looks m (out ++ [(i : Int)]) (i + 1) f2).2) := ⟨rfl⟩
        obtain ⟨rr, hrr⟩ : ∃ rr, leaveN hs hung looks m (out ++ [(i : Int)]) (i + 1) f2 = rr := ⟨_, rfl⟩
        have HRR := Aside0.mk hrr
        rw [hrr] at HTF
        clear hrr
        have haL : (out.length + [(i : Int)].length) * 8 ≤ 140737488355328 := by have := HLN.out; simp; omega
        have HLS : Aside0 ((out ++ [(i : Int)]).length + m ≤ 12) := ⟨by have := HLN.out; rw [List.length_append, List.length_singleton]; omega⟩
        have hcl : out.length < 1000000 := by have := HLN.out; omega
        have hwi := (wrap_inc (i := i) (by have := HI.out.2.1; omega)).1
        have hwi2 := (wrap_inc (i := i) (by have := HI.out.2.1; omega)).2
        have hwm2 := wrap_pre HMM.out (by have := HM6.out; omega)
        go_wp2_with fail
        go_region_held3 (fun W' => W'.cell? ⟨N + 1, 0, none⟩ = some (.func (.func 92) #[] #[.pointer (some ⟨N, 0, none⟩), .pointer (some ⟨w.heap.size, 0, none⟩), .pointer (some ⟨N + 1, 0, none⟩)])) (first | exact t0 | (go_keep; done) | exact (blk_cell HB3.out.fn 0).trans rfl | exact HT2.out | exact later HBC.out (by assumption))
          ((first
            | (go_at_call 93
               refine (clone_calls A c out _ (Kd.C_below HCI.out (by repeat (first | exact Below.refl _ _ | apply below_alloc | apply below_drew))) (Kd.R_reads' HRI.out).2.1 hcl).mono ?_
               rintro e wc ⟨vc, rfl, hvc, hbc⟩
               have HVC := Aside0.mk hvc
               have HBC := Aside0.mk hbc
               have HBW := Aside0.mk (show Below wr.heap.size wr wc from below_step (by repeat (first | exact Below.refl _ _ | apply below_alloc | apply below_drew)) hbc)
               clear hvc hbc)
            | (refine Kd.R_append_rows_step (Kd.int .i64) (w0 := wc) _ (by rfl) (.tmp 29) (.tmp 31) 23 3 (.int .i64 0) 8 rfl Try.underlying23 info3 rfl (by decide) (by omega) vc out [(i : Int)] _ _ _ (fun _ => True) (fun _ => False) rfl rfl
                 (by first | exact HVC.out | exact Kd.R_alloc HVC.out _) (by first | exact HBOX.out _ _ ((blk_cell (blk_new _ _) 0).trans rfl) | exact HBOX.out _ _ (later HBC.out ((blk_cell (blk_new _ _) 0).trans rfl))) (fun _ _ h => h) (fun _ h => h.elim) (fun _ _ => trivial)
                 (by first | exact Below.refl _ _ | exact (Below.refl _ wc).alloc (Below.size HBC.out) _) (by first | exact Below.size HBC.out | exact Below.size ((below_step HBC.out (below_alloc (Below.refl _ _) _)))) haL ?_
               intro v2 w2 ho hb hg hat
               obtain ⟨A5, c5, hv5⟩ := Kd.R_slice ho
               obtain ⟨n5, hn5⟩ : ∃ n5, (out ++ [(i : Int)]).length = n5 := ⟨_, rfl⟩
               rw [hn5] at hv5
               subst hv5
               have HN5 := Aside0.mk hn5
               have HBW2 := Aside0.mk (show Below wr.heap.size wr w2 from HBW.out.trans (hb.mono (by simp)))
               have HO2 := Aside0.mk (show Kd.R (Kd.int .i64) 3 w2 (N + 2) (fun k => N + 2 ≤ k) (.slice A5 n5 c5) (out ++ [(i : Int)]) from Kd.R_lower (Kd.R_mono (Kd.R_bound ho) (fun k hk => by have h2 := hk.2.1; have h1 := HBI.out.sz; simp at h2; omega)) (by have h1 := HBI.out.sz; simp; omega))
               have HT2 := Aside0.mk (later HBW2.out t0)
               clear ho hb hg hat hn5)
            | (go_at_call 92
               have hih := HIH.out (out ++ [(i : Int)]) A5 c5 (i + 1) f2 w2 (Nat.le_of_succ_le HM6.out) HAR.out.1 HLS.out (HBI.out.later HBW2.out (by have := HBI.out.sz; omega)) (by rw [HN5.out]; exact HO2.out)
               rw [HN5.out, HRR.out] at hih
               refine hih.mono ?_
               clear hih
               rintro e w3 ⟨rfl, hb3, hk3⟩
               have HB3 := Aside0.mk hb3
               have HK3 := Aside0.mk hk3
               clear hb3 hk3)))
        all_goals
          clear t0
          have HKK := Aside0.mk ((HKI.out.then_ (Kept.of_below HBW2.out (fun k => k = N)) (fun k hk => .inl hk)).then_ HK3.out (fun k hk => .inl hk))
          obtain ⟨r1, r2⟩ := rr
          cases r1 with
          | true =>
            have HE : Aside0 (leaveN hs hung looks mm out i0 fd = (true, r2)) := ⟨by rw [← HLV.out, HTF.out]; rfl⟩
            go_wp2_with fail
            go_ret
            rw [HE.out]
            exact ⟨rfl, HB3.out, HKK.out⟩
          | false =>
            have HE : Aside0 (lv (fun i fd => leaveN hs hung looks m (out ++ [(i : Int)]) (i + 1) fd) kq (i + 1) r2 = leaveN hs hung looks mm out i0 fd) := ⟨by rw [← HLV.out, HTF.out]; rfl⟩
            go_wp2_with fail
            go_roundg kq
            case measure => exact HAR.out.2.2.2
            case rel => exact ⟨i + 1, r2, by go_num, ⟨HAR.out.2.1, HAR.out.1, HAR.out.2.2.1⟩, HE, HB3, HKK⟩
      · have hgk := lv_arith1 HMM.out HI.out hle
        subst hgk
        go_wp2_with fail
        go_ret
        rw [← HLV.out]
        exact ⟨rfl, HBI.out, HKI.out⟩
end Go.Proofs.Ytokhmghgghjmhaa.Q
namespace Go.Proofs.Ytokhmghgghjmhaa.Q
open Go.RowKit Go.Proofs.YtokhmghgghjmhaaW.PrintWords Go.Proofs.YtokhmghgghjmhaaW.PrintLast Go.Proofs.YtokhmghgghjmhaaW.PrintMore
set_option linter.unusedVariables false
/-- What is found, from so many looks on. -/
def lvA (hs : List S139) (hung : List Int) (looks : List S140) : Nat → Nat → List Int → List Int
  | 0, _, fd => fd
  | k + 1, n, fd => if (leaveN hs hung looks n [] 0 fd).1 = true then (leaveN hs hung looks n [] 0 fd).2 else lvA hs hung looks k (n + 1) (leaveN hs hung looks n [] 0 fd).2
/-- What Leave says. -/
def leaveR (cs cl : Int) (hs : List S139) (hung : List Int) (looks : List S140) : List Int × Int :=
  if checkB cs cl hs hung looks ≠ 0 then ([], checkB cs cl hs hung looks) else (lvA hs hung looks (looks.length + 1) 0 [], 0)
set_option maxHeartbeats 4000000 in
set_option maxRecDepth 100000 in
theorem leaveX_calls (cs cl : Int) {A2 A3 A4 : Option Addr} {c2 c3 c4 : Nat} {hs : List S139} {hung : List Int} {looks : List S140} {w : World} (M : Mem w A2 A3 A4 c2 c3 c4 hs hung looks) :
    Calls Try.prog 35 #[.agg #[.int .i64 cs, .int .i64 cl, .slice A2 hs.length c2, .slice A3 hung.length c3, .slice A4 looks.length c4]] w
      fun e w' => ∃ v, e = .returned (.tuple #[v, .int .i64 (leaveR cs cl hs hung looks).2]) ∧ Kd.R (Kd.int .i64) 3 w' w.heap.size (fun _ => True) v (leaveR cs cl hs hung looks).1 ∧ Below w.heap.size w w' := by
  have HM := Aside0.mk M
  clear M
  obtain ⟨W0, hW0⟩ : ∃ W0, w.alloc (.cells #[.int .i64 cs, .int .i64 cl, .slice A2 hs.length c2, .slice A3 hung.length c3, .slice A4 looks.length c4] 35) = W0 := ⟨_, rfl⟩
  have HB0 := Aside0.mk (show Below w.heap.size w W0 from by rw [← hW0]; repeat (first | exact Below.refl _ _ | apply below_alloc))
  have HBK := Aside0.mk (show W0.heap[w.heap.size]? = some (.cells #[.int .i64 cs, .int .i64 cl, .slice A2 hs.length c2, .slice A3 hung.length c3, .slice A4 looks.length c4] 35 (0, 0)) from by rw [← hW0]; repeat (first | (refine blk_new_ ?_; simp; done) | refine blk_alloc ?_ _))
  have b0 : W0.cell? ⟨w.heap.size, 0, none⟩ = some (.int .i64 cs) := (blk_cell HBK.out 0).trans rfl
  have b1 : W0.cell? ⟨w.heap.size, 1, none⟩ = some (.int .i64 cl) := (blk_cell HBK.out 1).trans rfl
  have b2 : W0.cell? ⟨w.heap.size, 2, none⟩ = some (.slice A2 hs.length c2) := (blk_cell HBK.out 2).trans rfl
  have b3 : W0.cell? ⟨w.heap.size, 3, none⟩ = some (.slice A3 hung.length c3) := (blk_cell HBK.out 3).trans rfl
  have b4 : W0.cell? ⟨w.heap.size, 4, none⟩ = some (.slice A4 looks.length c4) := (blk_cell HBK.out 4).trans rfl
  go_enter Try.func35, Try.ntmps35
  go_wp2_with fail
  try rw [hW0]
  clear hW0
  refine (check_calls cs cl (HM.out.later HB0.out)).mono ?_
  rintro e w1 ⟨rfl, hb⟩
  have HB1 := Aside0.mk (below_step HB0.out hb)
  have HBK1 := Aside0.mk (blk_below HBK.out hb)
  clear hb b0 b1 b2 b3 b4
  by_cases h0 : checkB cs cl hs hung looks = 0
  case neg =>
    have h1 : (checkB cs cl hs hung looks != 0) = true := by rw [bne_iff_ne]; exact h0
    have HR : Aside0 (leaveR cs cl hs hung looks = ([], checkB cs cl hs hung looks)) := ⟨by unfold leaveR; rw [if_pos h0]⟩
    clear h0
    go_wp2_with fail
    go_ret2
    rw [HR.out]
    exact ⟨_, rfl, Kd.R_nil _ _ _ _ _, HB1.out⟩
  have HV := Aside0.mk (valid_of h0)
  have HR : Aside0 (leaveR cs cl hs hung looks = (lvA hs hung looks (looks.length + 1) 0 [], 0)) := ⟨by unfold leaveR; rw [if_neg (by simp [h0])]⟩
  rw [h0]
  clear h0
  have bz : w.heap.size < w1.heap.size := blk_lt HBK1.out
  obtain ⟨W2, hW2⟩ : ∃ W2, ((w1.alloc (.cells #[.slice none 0 0] 23)).alloc (.cells #[.nilFunc] 148)).setCell ⟨w1.heap.size + 1, 0, none⟩ (.func (.func 92) #[] #[.pointer (some ⟨w1.heap.size, 0, none⟩), .pointer (some ⟨w.heap.size, 0, none⟩), .pointer (some ⟨w1.heap.size + 1, 0, none⟩)]) = W2 := ⟨_, rfl⟩
  have HW2 := Aside0.mk (show Below w1.heap.size w1 W2 from by rw [← hW2]; exact Below.setCell (by repeat (first | exact Below.refl _ _ | apply below_alloc)) (by simp) _)
  have hz2 : W2.heap.size = w1.heap.size + 2 := by rw [← hW2]; simp
  have HL2 : Aside0 (Lst w w1.heap.size cs cl A2 A3 A4 c2 c3 c4 hs hung looks [] W2) := by
    refine Aside0.mk ⟨below_step HB1.out HW2.out, by omega, blk_below HBK1.out HW2.out, ?_, .slice none 0 0, ?_, Kd.R_nil _ _ _ _ _⟩
    · rw [← hW2]; refine blk_put (cs := #[.nilFunc]) ?_ 0 _ rfl; refine blk_new_ ?_; simp
    · rw [← hW2]; refine blk_far ?_ (by simp) _; repeat (first | (refine blk_new_ ?_; simp; done) | refine blk_alloc ?_ _)
  have y4 : W2.cell? ⟨w.heap.size, 4, none⟩ = some (.slice A4 looks.length c4) := (blk_cell HL2.out.box 4).trans rfl
  have hn5 := HV.out.n5
  have hwl : IntKind.i64.wrap ((looks.length : Int) + 1) = ((looks.length + 1 : Nat) : Int) := (wrap_inc (by omega)).1
  have hwl2 : wrap64 ((looks.length : Int) + 1) = ((looks.length + 1 : Nat) : Int) := (wrap_inc (by omega)).2
  go_wp2_with (rw [hW2])
  clear hW2 y4
  go_loopg [18] (looks.length + 1) (fun kq v wr => ∃ (n : Nat) (fd : List Int), v = .int .i64 n ∧ Aside0 (n + kq = looks.length + 1) ∧ Aside0 (lvA hs hung looks kq n fd = lvA hs hung looks (looks.length + 1) 0 []) ∧ Aside0 (Lst w w1.heap.size cs cl A2 A3 A4 c2 c3 c4 hs hung looks fd wr))
  case atStart => exact ⟨0, [], rfl, ⟨by omega⟩, ⟨rfl⟩, HL2⟩
  case round =>
    obtain ⟨n, fd, rfl, HNN, HF, HLS⟩ := hrel
    by_cases hlt : n < looks.length + 1
    · obtain ⟨kq, rfl⟩ : ∃ kq, gk = kq + 1 := ⟨gk - 1, by have := HNN.out; omega⟩
      have t0 : wr.cell? ⟨w1.heap.size + 1, 0, none⟩ = some (.func (.func 92) #[] #[.pointer (some ⟨w1.heap.size, 0, none⟩), .pointer (some ⟨w.heap.size, 0, none⟩), .pointer (some ⟨w1.heap.size + 1, 0, none⟩)]) := (blk_cell HLS.out.fn 0).trans rfl
      have hlt1 : (n : Int) < ((looks.length + 1 : Nat) : Int) := by omega
      obtain ⟨rr, hrr⟩ : ∃ rr, leaveN hs hung looks n [] 0 fd = rr := ⟨_, rfl⟩
      have HC := Aside0.mk (leave_calls w w1.heap.size cs cl HM.out HV.out (by omega) n [] none 0 0 fd wr (by omega) (by omega) (by simp; omega) HLS.out (Kd.R_nil _ _ _ _ _))
      rw [hrr] at HC
      have HLE : Aside0 (lvA hs hung looks (kq + 1) n fd = if rr.1 = true then rr.2 else lvA hs hung looks kq (n + 1) rr.2) := ⟨by rw [← hrr]; rfl⟩
      clear hrr
      go_wp2_with fail
      refine HC.out.mono ?_
      clear HC t0
      rintro e w3 ⟨rfl, hb3, _⟩
      have HB3 := Aside0.mk hb3
      clear hb3
      obtain ⟨r1, r2⟩ := rr
      cases r1 with
      | true =>
        have HE : Aside0 (lvA hs hung looks (looks.length + 1) 0 [] = r2) := ⟨by rw [← HF.out, HLE.out]; rfl⟩
        obtain ⟨v, hv, hRv⟩ := HB3.out.found
        obtain ⟨A5, c5, e5⟩ := Kd.R_slice hRv
        subst e5
        have HRV := Aside0.mk hRv
        have f0 : w3.cell? ⟨w1.heap.size, 0, none⟩ = some (.slice A5 r2.length c5) := (blk_cell hv 0).trans rfl
        clear hv hRv
        go_wp2_with fail
        go_ret2
        rw [HR.out, HE.out]
        exact ⟨_, rfl, Kd.R_lower (Kd.R_mono HRV.out (fun _ _ => trivial)) (by omega), HB3.out.below⟩
      | false =>
        have HE : Aside0 (lvA hs hung looks kq (n + 1) r2 = lvA hs hung looks (looks.length + 1) 0 []) := ⟨by rw [← HF.out, HLE.out]; rfl⟩
        go_wp2_with fail
        go_roundg kq
        case measure => omega
        case rel => exact ⟨n + 1, r2, by go_num, ⟨by have := HNN.out; omega⟩, HE, HB3⟩
    · have hgk : gk = 0 := by have := HNN.out; omega
      subst hgk
      have hlt1 : ¬ (n : Int) < ((looks.length + 1 : Nat) : Int) := by omega
      have HE : Aside0 (lvA hs hung looks (looks.length + 1) 0 [] = fd) := ⟨by rw [← HF.out]; rfl⟩
      obtain ⟨v, hv, hRv⟩ := HLS.out.found
      obtain ⟨A5, c5, e5⟩ := Kd.R_slice hRv
      subst e5
      have HRV := Aside0.mk hRv
      have f0 : wr.cell? ⟨w1.heap.size, 0, none⟩ = some (.slice A5 fd.length c5) := (blk_cell hv 0).trans rfl
      clear hv hRv
      go_wp2_with fail
      go_ret2
      rw [HR.out, HE.out]
      exact ⟨_, rfl, Kd.R_lower (Kd.R_mono HRV.out (fun _ _ => trivial)) (by omega), HLS.out.below⟩
end Go.Proofs.Ytokhmghgghjmhaa.Q
namespace Go.Proofs.Ytokhmghgghjmhaa.Q
open Go.RowKit Go.Proofs.YtokhmghgghjmhaaW.PrintWords Go.Proofs.YtokhmghgghjmhaaW.PrintLast Go.Proofs.YtokhmghgghjmhaaW.PrintMore
set_option linter.unusedVariables false
theorem laid_out : laidOutB Try.prog = true := by kernel_rfl
set_option maxRecDepth 100000 in
theorem row147 : (147 : TypeId) < Try.prog.types.size := of_decide_eq_true (by kernel_rfl)
theorem kt147 : Try.prog.keyTypeAt 2 147 = true := by kernel_rfl
theorem law147 : WideMaps.KeyLaw Try.prog 147 := by
  refine deep_law_laid laid_out (m := 2) (by omega) row147 kt147 ?_
  rw [Try.underlying147]
theorem keyed147 : Maps.Keyed Try.prog 147 := Maps.Keyed.of_law law147
def kl (a b : Int) : Lit := .string (keyBytes [.int .i64 a, .int .i64 b])
theorem key147 (a b : Int) (ha : 0 ≤ a ∧ a ≤ 1000) (hb : 0 ≤ b ∧ b ≤ 1000) : keyOf Try.prog 147 (.agg #[.int .i64 a, .int .i64 b]) = some (kl a b) := by
  have hw : ∀ x : Int, 0 ≤ x ∧ x ≤ 1000 → (Lit.int .i64 x).wf = true := fun x hx => by
    have h1 : (IntKind.i64.min : Int) ≤ 0 := by decide
    have h2 : (1000 : Int) ≤ IntKind.i64.max := by decide
    simp [Lit.wf]; omega
  have hk : Try.prog.keyType 147 = true := by kernel_rfl
  have hf : (Value.agg #[.int .i64 a, .int .i64 b]).formed Try.prog 147 = true := by kernel_rfl
  have hu := Try.underlying147
  have hu3 := Try.underlying3
  have hc : Try.prog.cellsOf 147 = 2 := by kernel_rfl
  have hc3 : Try.prog.cellsOf 3 = 1 := by kernel_rfl
  obtain ⟨M, hM⟩ : ∃ M, Try.prog.types.size = M + 1 := ⟨Try.prog.types.size - 1, by have h : (147 : Nat) < Try.prog.types.size := row147; omega⟩
  have h3 : ∀ x : Int, 0 ≤ x ∧ x ≤ 1000 → Try.prog.keyLits (M + 1) 3 [.int .i64 x] = some [.int .i64 x] := fun x hx => by
    unfold Program.keyLits
    rw [hu3]
    simp [hw x hx]
  unfold keyOf
  rw [hu]
  simp only [hk, hf, Bool.and_self, if_true, hM]
  have hl : Try.prog.keyLits (M + 1 + 1) 147 [.int .i64 a, .int .i64 b] = some [.int .i64 a, .int .i64 b] := by
    unfold Program.keyLits
    rw [hu]
    simp [hc, hc3, h3 a ha, h3 b hb, List.mapM_cons]
  rw [show (Value.agg #[.int .i64 a, .int .i64 b]).cells.toList = [.int .i64 a, .int .i64 b] from rfl, hl]
  rfl
theorem kl_inj {a b c d : Int} (ha : 0 ≤ a ∧ a ≤ 1000) (hb : 0 ≤ b ∧ b ≤ 1000) (hc : 0 ≤ c ∧ c ≤ 1000) (hd : 0 ≤ d ∧ d ≤ 1000) (h : kl a b = kl c d) : a = c ∧ b = d := by
  have h1 := key147 a b ha hb
  have h2 := key147 c d hc hd
  rw [← h] at h2
  have := keyed147.inj h1 h2
  simpa using this
end Go.Proofs.Ytokhmghgghjmhaa.Q
namespace Go.Proofs.Ytokhmghgghjmhaa.Q
open Go.RowKit Go.Proofs.YtokhmghgghjmhaaW.PrintWords Go.Proofs.YtokhmghgghjmhaaW.PrintLast Go.Proofs.YtokhmghgghjmhaaW.PrintMore
set_option linter.unusedVariables false
/-- In how many truths a horse is dry at a minute. -/
def dryP (hs : List S139) (hung : List Int) (k : Nat) (b : Int) (d : Nat → Int) : Bool := decide (mins hs hung d k ≤ b)
def dryN (hs : List S139) (hung : List Int) (k : Nat) (b : Int) (ts : List (Nat → Int)) (n : Nat) : Nat := ((ts.take n).filter (dryP hs hung k b)).length
theorem ownsMap_below {W W' : World} {m n : Nat} {D : DataW Unit} (h : W.ownsMap Try.prog 147 (plainElem Try.prog 3) m n D) (hb : Below W.heap.size W W') : W'.ownsMap Try.prog 147 (plainElem Try.prog 3) m n D := by
  obtain ⟨es, clock, h1, h2⟩ := h
  exact ⟨es, clock, (hb.block m (Array.getElem?_eq_some_iff.1 h1).1).trans h1, h2⟩
theorem wf_nat {n : Nat} (h : n ≤ 1000000) : (Lit.int .i64 (n : Int)).wf = true := by
  have h1 : (IntKind.i64.min : Int) ≤ 0 := by decide
  have h2 : (1000000 : Int) ≤ IntKind.i64.max := by decide
  simp [Lit.wf]; omega
theorem dry_true {hs : List S139} {hung : List Int} {k : Nat} {b : Int} {ts : List (Nat → Int)} {n : Nat} (h : n < ts.length) (hr : mins hs hung (rdN ts n) k ≤ b) : dryN hs hung k b ts (n + 1) = dryN hs hung k b ts n + 1 := by
  unfold dryN; rw [take_snocN ts n h]; simp [List.filter_append, dryP, hr]
theorem dry_false {hs : List S139} {hung : List Int} {k : Nat} {b : Int} {ts : List (Nat → Int)} {n : Nat} (h : n < ts.length) (hr : ¬ mins hs hung (rdN ts n) k ≤ b) : dryN hs hung k b ts (n + 1) = dryN hs hung k b ts n := by
  unfold dryN; rw [take_snocN ts n h]; simp [List.filter_append, dryP, hr]
theorem dry_le (hs : List S139) (hung : List Int) (k : Nat) (b : Int) (ts : List (Nat → Int)) (n : Nat) : dryN hs hung k b ts n ≤ n := by
  unfold dryN
  exact Nat.le_trans (List.length_filter_le _ _) (by rw [List.length_take]; omega)
set_option maxHeartbeats 4000000 in
set_option maxRecDepth 100000 in
theorem dry_calls (w W : World) (g m n : Nat) (D : DataW Unit) (cs cl : Int) {A2 A3 A4 AT : Option Addr} {c2 c3 c4 cT : Nat} {hs : List S139} {hung : List Int} {looks : List S140} {ts : List (Nat → Int)} (k : Nat) (b : Int)
    (M : Mem w A2 A3 A4 c2 c3 c4 hs hung looks) (V : Valid cs cl hs hung looks) (hW : Work W g (some m) cs cl A2 A3 A4 AT c2 c3 c4 cT hs hung looks ts) (hb : Below w.heap.size w W) (hm0 : w.heap.size ≤ m) (hm : W.ownsMap Try.prog 147 (plainElem Try.prog 3) m n D) (hn : n < 1000)
    (hT : Small ts) (hl : ts.length ≤ 100000) (hk : k < hs.length) (hb9 : 0 ≤ b ∧ b ≤ 99) (hno : Maps.has D (kl k b) = false) :
    Calls Try.prog 90 #[.pointer (some ⟨g, 0, none⟩), .agg #[.int .i64 k, .int .i64 b]] W
      fun e W' => e = .returned (.int .i64 (dryN hs hung k b ts ts.length : Nat)) ∧ W'.ownsMap Try.prog 147 (plainElem Try.prog 3) m (n + 1) (D.put (kl k b) (.lit (.int .i64 (dryN hs hung k b ts ts.length : Nat)))) ∧
        Below w.heap.size w W' ∧ Kept W W' (fun i => i = m) := by
  have HM := Aside0.mk M
  have HV := Aside0.mk V
  have HW := Aside0.mk hW
  have HMP := Aside0.mk hm
  have h4 := V.n4
  have hkey := key147 (k : Int) b (by omega) (by omega)
  obtain ⟨v0, ps0, hrun, hv0⟩ := (hm.alloc (.cells #[.int .i64 k, .int .i64 b] 147)).drew.look_ok keyed147 Try.underlying142 (z := .int .i64 0) (by kernel_rfl) (plainElem_int Try.underlying3 (by decide)) hkey
  rw [hno] at hrun
  have hv1 : v0 = .int .i64 0 := by
    rw [Maps.atKey_of_not_has hno] at hv0
    obtain ⟨a, rfl, ha, _⟩ := plainElem_int_inv Try.underlying3 hv0
    simp at ha
    rw [← ha.1]
  subst hv1
  have HRUN := Aside0.mk hrun
  obtain ⟨k0, k1, k2, k3, k4, k5, k6⟩ := hW.cells
  have gz := blk_lt hW.blk
  obtain ⟨W0, hW0⟩ : ∃ W0, W.alloc (.cells #[.int .i64 k, .int .i64 b] 147) = W0 := ⟨_, rfl⟩
  have HB0 := Aside0.mk (show Below W.heap.size W W0 from by rw [← hW0]; exact below_alloc (Below.refl _ _) _)
  have HBX := Aside0.mk (show W0.heap[W.heap.size]? = some (.cells #[.int .i64 k, .int .i64 b] 147 (0, 0)) from by rw [← hW0]; exact blk_new _ _)
  have HM0 := Aside0.mk (show W0.ownsMap Try.prog 147 (plainElem (H := Unit) Try.prog 3) m n D from by rw [← hW0]; exact hm.alloc _)
  rw [hW0] at hrun
  have z6 := later HB0.out k6
  have y0 : W0.cell? ⟨W.heap.size, 0, none⟩ = some (.int .i64 k) := (blk_cell HBX.out 0).trans rfl
  have y1 : W0.cell? ⟨W.heap.size, 1, none⟩ = some (.int .i64 b) := (blk_cell HBX.out 1).trans rfl
  clear M V hW hm hkey hv0 k0 k1 k2 k3 k4 k5 k6 HRUN
  go_enter Try.func90, Try.ntmps90
  go_wp2_with fail
  try rw [hW0]
  go_region_held3 (fun W' => W' = W0.drew ∧ W'.cell? ⟨g, 6, none⟩ = some (.map (some m)) ∧ W'.cell? ⟨W.heap.size, 0, none⟩ = some (.int .i64 k) ∧ W'.cell? ⟨W.heap.size, 1, none⟩ = some (.int .i64 b)) (first | exact ⟨rfl, z6, y0, y1⟩ | (go_keep; done)) (fail)
  obtain ⟨k0, k1, k2, k3, k4, k5, k6⟩ := HW.out.cells
  have k5' := later (below_drew HB0.out) k5
  clear z6 y0 y1 k0 k1 k2 k3 k4 k5 k6 hrun
  go_wp2_with fail
  go_loopg [5, 25] ts.length (fun kq mv v wr => ∃ j : Nat, mv = .int .i64 (dryN hs hung k b ts j : Nat) ∧ v = .int .i64 j ∧ Aside0 (j + kq = ts.length) ∧ Aside0 (Below W0.heap.size W0 wr))
  case atStart => exact ⟨0, rfl, rfl, ⟨by omega⟩, ⟨below_drew (Below.refl _ _)⟩⟩
  case round =>
    obtain ⟨j, rfl, rfl, HJ, HB⟩ := hrel
    have HBW := Aside0.mk (below_step HB0.out HB.out)
    obtain ⟨k0, k1, k2, k3, k4, k5, k6⟩ := HW.out.cells
    replace k0 := later HBW.out k0
    replace k1 := later HBW.out k1
    replace k2 := later HBW.out k2
    replace k3 := later HBW.out k3
    replace k4 := later HBW.out k4
    have hz1 : g < wr.heap.size := by have := HBW.out.size; omega
    have HBX2 := Aside0.mk (blk_below HBX.out HB.out)
    have hz2 := blk_lt HBX2.out
    have y0 : wr.cell? ⟨W.heap.size, 0, none⟩ = some (.int .i64 k) := (blk_cell HBX2.out 0).trans rfl
    have y1 : wr.cell? ⟨W.heap.size, 1, none⟩ = some (.int .i64 b) := (blk_cell HBX2.out 1).trans rfl
    clear k5 k6 k5'
    by_cases hlt : j < ts.length
    · obtain ⟨adt, et, ht0, ht1, ht2, ht3⟩ := at_N HW.out.tr j hlt
      cases et
      replace ht0 := later HBW.out ht0
      replace ht1 := later HBW.out ht1
      replace ht2 := later HBW.out ht2
      replace ht3 := later HBW.out ht3
      have hk4 : k < 4 := by omega
      have hidx := index4 (mins hs hung (rdN ts j)) k hk4
      have hk0 : (0 : Int) ≤ (k : Int) := by omega
      have hdl := dry_le hs hung k b ts j
      go_wp2_with fail
      go_region_held3 (fun w' => w'.cell? ⟨g, 0, none⟩ = some (.int .i64 cs) ∧ w'.cell? ⟨g, 1, none⟩ = some (.int .i64 cl) ∧ w'.cell? ⟨g, 2, none⟩ = some (.slice A2 hs.length c2) ∧
          w'.cell? ⟨g, 3, none⟩ = some (.slice A3 hung.length c3) ∧ w'.cell? ⟨g, 4, none⟩ = some (.slice A4 looks.length c4) ∧
          w'.cell? ⟨wr.heap.size, 0, none⟩ = some (.int .i64 (rdN ts j 0)) ∧ w'.cell? ⟨wr.heap.size, 1, none⟩ = some (.int .i64 (rdN ts j 1)) ∧ w'.cell? ⟨wr.heap.size, 2, none⟩ = some (.int .i64 (rdN ts j 2)) ∧ w'.cell? ⟨wr.heap.size, 3, none⟩ = some (.int .i64 (rdN ts j 3)) ∧
          w'.cell? ⟨W.heap.size, 0, none⟩ = some (.int .i64 k) ∧ w'.cell? ⟨W.heap.size, 1, none⟩ = some (.int .i64 b))
        (first
          | go_keep
          | (go_split_ands
             refine ⟨?_, ?_, ?_, ?_, ?_, ?_, ?_, ?_, ?_, ?_, ?_⟩
             all_goals exact later hba (by assumption)))
        (first
          | (go_at_call 99; refine (minutes_calls cs cl _ A3 A4 A3 hung.length looks.length c2 c3 c4 c3 hs hung (rdN ts j) _ (Kd.C_below HW.out.mem.h2 (by repeat (first | exact HBW.out | apply below_alloc | apply below_drew))) (Kd.C_below HW.out.mem.h3 (by repeat (first | exact HBW.out | apply below_alloc | apply below_drew))) HV.out.place HV.out.n4 (fun i hi => ⟨(HV.out.inside i hi).1, by have := (HV.out.inside i hi).2; have := HV.out.c4; omega⟩) HV.out.wet (hT j)).mono ?_; rintro e wa ⟨rfl, hba⟩))
      have HB2 := Aside0.mk (below_step HB.out (below_step (by repeat (first | exact Below.refl _ _ | apply below_alloc | apply below_drew) : Below wr.heap.size wr _) hba))
      clear hba ht0 ht1 ht2 ht3 k0 k1 k2 k3 k4 y0 y1 hidx
      by_cases hd : mins hs hung (rdN ts j) k ≤ b
      · have HCT := Aside0.mk (dry_true hlt hd)
        go_wp2_with fail
        go_roundg (ts.length - (j + 1))
        case measure => have := HJ.out; omega
        case rel => exact ⟨j + 1, by rw [HCT.out]; go_num, by go_num, ⟨by have := HJ.out; omega⟩, HB2⟩
      · have HCT := Aside0.mk (dry_false hlt hd)
        go_wp2_with fail
        go_roundg (ts.length - (j + 1))
        case measure => have := HJ.out; omega
        case rel => exact ⟨j + 1, by rw [HCT.out], by go_num, ⟨by have := HJ.out; omega⟩, HB2⟩
    · have hjl : j = ts.length := by have := HJ.out; omega
      subst hjl
      obtain ⟨Q, hQ⟩ : ∃ Q, dryN hs hung k b ts ts.length = Q := ⟨_, rfl⟩
      have hQl : Q ≤ 100000 := by rw [← hQ]; exact Nat.le_trans (dry_le _ _ _ _ _ _) hl
      have HQ := Aside0.mk hQ
      rw [hQ]
      clear hQ
      have hmr := ownsMap_below HM0.out HB.out
      have hkey := key147 (k : Int) b (by omega) (by omega)
      obtain ⟨W5, hst, hown, hturn⟩ := hmr.drew.store keyed147 Try.underlying142 (Nat.lt_of_lt_of_le hn (by decide)) hkey (plainElem_int (H := Unit) Try.underlying3 (wf_nat (n := Q) (by omega)))
      have HOWN := Aside0.mk hown
      have HG5 := Aside0.mk hturn.grown
      have hgm : g ≠ m := by
        rintro rfl
        obtain ⟨es, ck, h1, _⟩ := HMP.out
        rw [HW.out.blk] at h1
        cases h1
      have hxm : W.heap.size ≠ m := by have := HMP.out.lt; omega
      have HWG := Aside0.mk (blk_below HW.out.blk HBW.out)
      have z6 : wr.cell? ⟨g, 6, none⟩ = some (.map (some m)) := (blk_cell HWG.out 6).trans rfl
      have w6 : W5.cell? ⟨g, 6, none⟩ = some (.map (some m)) := (blk_cell (blk_grown (blk_drew HWG.out) HG5.out (fun e => hgm (by simpa using e))) 6).trans rfl
      have HBX5 := Aside0.mk (blk_grown (blk_drew HBX2.out) HG5.out (fun e => hxm (by simpa using e)))
      have w0 : W5.cell? ⟨W.heap.size, 0, none⟩ = some (.int .i64 k) := (blk_cell HBX5.out 0).trans rfl
      have w1 : W5.cell? ⟨W.heap.size, 1, none⟩ = some (.int .i64 b) := (blk_cell HBX5.out 1).trans rfl
      clear hmr hkey hown hturn k0 k1 k2 k3 k4
      go_wp2_with fail
      go_region_held3 (fun W' => W'.cell? ⟨g, 6, none⟩ = some (.map (some m)) ∧ W'.cell? ⟨W.heap.size, 0, none⟩ = some (.int .i64 k) ∧ W'.cell? ⟨W.heap.size, 1, none⟩ = some (.int .i64 b)) (first | exact ⟨z6, y0, y1⟩ | (go_keep; done) | exact ⟨w6, w0, w1⟩) (fail)
      go_wp2_with fail
      go_ret
      rw [HQ.out]
      have hk5 : Kept W W5 (fun i => i = m) := (Kept.of_below HBW.out _).then_ (S2 := fun i => i = m) ⟨HG5.out.size, fun i hi hne => HG5.out.block i hi (fun e => hne (by simpa using e))⟩ (fun k hk => .inl hk)
      exact ⟨rfl, HOWN.out, ((hb.trans (HBW.out.mono hb.size)).trans (below_drew (Below.refl _ _))).grown HG5.out (by have := HBW.out.size; have := hb.size; show w.heap.size ≤ wr.heap.size; omega) (fun k e => by simp at e; omega), hk5⟩
end Go.Proofs.Ytokhmghgghjmhaa.Q
