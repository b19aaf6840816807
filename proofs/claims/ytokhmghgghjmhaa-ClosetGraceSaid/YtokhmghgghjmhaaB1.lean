/- Part B1 of the proof (QD, QH, P1, P4, P5, P6, PB, PP, SW, PQ): contracts of functions, and plain lemmas about what they compute. -/
import Derived.Test.YtokhmghgghjmhaaA0
import Derived.Test.YtokhmghgghjmhaaA1
import Derived.Test.YtokhmghgghjmhaaA2
import Derived.Test.YtokhmghgghjmhaaA3
import Derived.Test.YtokhmghgghjmhaaA4
import Derived.Test.YtokhmghgghjmhaaB0
namespace Go.Proofs.Ytokhmghgghjmhaa.Q
open Go.RowKit Go.Proofs.YtokhmghgghjmhaaW.PrintWords Go.Proofs.YtokhmghgghjmhaaW.PrintLast Go.Proofs.YtokhmghgghjmhaaW.PrintMore
attribute [local go_sem] max2_int min2_int max_two min_two max_three min_three max_four min_four   -- for this text's walks alone
set_option linter.unusedVariables false
set_option linter.unusedSimpArgs false
def posserlaw04_fault.f (a0_0 : Int) (a0_1 : Int) (l0_2 : List (S68)) (l0_3 : List Int) (l0_4 : List (S84)) : Option (Int) := (posserref04_Fault.f a0_0 a0_1 l0_2 l0_3 l0_4).bind fun t152 => (some t152)
set_option maxHeartbeats 8000000 in
set_option maxRecDepth 100000 in
theorem posserlaw04_fault.calls (a0_0 : Int) (a0_1 : Int) (A0_2 : Option Addr) (c0_2 : Nat) (l0_2 : List (S68)) (A0_3 : Option Addr) (c0_3 : Nat) (l0_3 : List Int) (A0_4 : Option Addr) (c0_4 : Nat) (l0_4 : List (S84)) (r : Int) (w : World) (hr0_2 : Kd.C k68 w A0_2 l0_2.length l0_2) (hc0_2 : l0_2.length ≤ c0_2) (hr0_3 : Kd.C (Kd.int .i64) w A0_3 l0_3.length l0_3) (hc0_3 : l0_3.length ≤ c0_3) (hr0_4 : Kd.C k84 w A0_4 l0_4.length l0_4) (hc0_4 : l0_4.length ≤ c0_4) (h : posserlaw04_fault.f a0_0 a0_1 l0_2 l0_3 l0_4 = some r) :
    Calls Try.prog 36 #[.agg #[.int .i64 a0_0, .int .i64 a0_1, .slice A0_2 l0_2.length c0_2, .slice A0_3 l0_3.length c0_3, .slice A0_4 l0_4.length c0_4]] w fun e w' => e = .returned (.int .i64 r) ∧ Below w.heap.size w w' := by
  have hu26 := Try.underlying26
  have HR0_2 := Aside0.mk hr0_2
  have HC0_2 := Aside0.mk hc0_2
  clear hr0_2 hc0_2
  have HR0_3 := Aside0.mk hr0_3
  have HC0_3 := Aside0.mk hc0_3
  clear hr0_3 hc0_3
  have HR0_4 := Aside0.mk hr0_4
  have HC0_4 := Aside0.mk hc0_4
  clear hr0_4 hc0_4
  have HB := Aside0.mk (Below.refl w.heap.size w)
  have H : ((posserref04_Fault.f a0_0 a0_1 l0_2 l0_3 l0_4).bind fun t152 => (some t152)) = some r := h
  clear h
  replace H := Option.bind_eq_some_iff.mp H
  obtain ⟨t152, A20, H⟩ := H
  replace H : (some t152) = some r := H
  have A2 := Aside0.mk A20
  clear A20
  obtain rfl := Option.some.inj H
  go_enter Try.func36, Try.ntmps36
  go_wp2_with (first | ((with_reducible refine gate_dst (N := 1) rfl ?_); refine box_event ?hg (N := 1) ?hd (cs := #[.int .i64 a0_0, .int .i64 a0_1, .slice A0_2 l0_2.length c0_2, .slice A0_3 l0_3.length c0_3, .slice A0_4 l0_4.length c0_4]) (t := 26) ?hr ?_; (case hd => rfl); (case hg => rfl); (case hr => first | (go_simp; done) | (go_simp; rfl)); intro gb151 hg w3 hbox hb; have n0_ := Aside0.mk (below_step (by repeat (first | (with_reducible first | exact HB.out | apply below_alloc | apply pw_below_drewN | apply below_drew1) | exact HB.out)) hb); have n1_ := Aside0.mk (hbox); have n2_ := Aside0.mk ((by rw [hg]; exact (below_size (by repeat (first | (with_reducible first | exact HB.out | apply below_alloc | apply pw_below_drewN | apply below_drew1) | exact HB.out))) : w.heap.size ≤ gb151)); have n3_ := Aside0.mk ((by rw [hg]; exact (below_size (by repeat (first | (with_reducible first | exact HB.out | apply below_alloc | apply pw_below_drewN | apply below_drew1) | exact HB.out))) : w.heap.size ≤ gb151)); clear HB; have HB := n0_; have BK151 := n1_; have GW151 := n2_; have GE151 := n3_; clear n0_ n1_ n2_ n3_; clear hb hbox hg; have hcz4_0 : w3.cell? ⟨gb151, 0, none⟩ = some (.int .i64 a0_0) := (blk_cell BK151.out 0).trans rfl; have hcz4_1 : w3.cell? ⟨gb151, 1, none⟩ = some (.int .i64 a0_1) := (blk_cell BK151.out 1).trans rfl; have hcz4_2 : w3.cell? ⟨gb151, 2, none⟩ = some (.slice A0_2 l0_2.length c0_2) := (blk_cell BK151.out 2).trans rfl; have hcz4_3 : w3.cell? ⟨gb151, 3, none⟩ = some (.slice A0_3 l0_3.length c0_3) := (blk_cell BK151.out 3).trans rfl; have hcz4_4 : w3.cell? ⟨gb151, 4, none⟩ = some (.slice A0_4 l0_4.length c0_4) := (blk_cell BK151.out 4).trans rfl; have hfz4_0 := blk_frozen BK151.out 0; have hfz4_1 := blk_frozen BK151.out 1; have hfz4_2 := blk_frozen BK151.out 2; have hfz4_3 := blk_frozen BK151.out 3; have hfz4_4 := blk_frozen BK151.out 4) | ((with_reducible refine gate_callee (f := 57) rfl ?_); refine goesL_ (some 4) rfl rfl Try.func57 (by kernel_rfl) rfl #[.agg #[.int .i64 a0_0, .int .i64 a0_1, .slice A0_2 l0_2.length c0_2, .slice A0_3 l0_3.length c0_3, .slice A0_4 l0_4.length c0_4]] rfl (by (try simp only [List.map_toArray, List.map_cons, List.map_nil]); first | done | rfl | (simp only [List.length_drop, List.length_take]; rfl)) ?_; (with_reducible refine (posserref04_Fault.calls a0_0 a0_1 _ _ l0_2 _ _ l0_3 _ _ l0_4 t152 _ ?side1 ?side2 ?side3 ?side4 ?side5 ?side6 A2.out).mono ?_); (case side1 => repeat (first | exact (Kd.C_below HR0_2.out HB.out) | (with_reducible refine Kd.C_alloc ?_ _) | (with_reducible refine Kd.C_drewN ?_ _) | (with_reducible refine Kd.C_drew ?_))); (case side2 => exact HC0_2.out); (case side3 => repeat (first | exact (Kd.C_below HR0_3.out HB.out) | (with_reducible refine Kd.C_alloc ?_ _) | (with_reducible refine Kd.C_drewN ?_ _) | (with_reducible refine Kd.C_drew ?_))); (case side4 => exact HC0_3.out); (case side5 => repeat (first | exact (Kd.C_below HR0_4.out HB.out) | (with_reducible refine Kd.C_alloc ?_ _) | (with_reducible refine Kd.C_drewN ?_ _) | (with_reducible refine Kd.C_drew ?_))); (case side6 => exact HC0_4.out); rintro e w5 ⟨rfl, hb⟩; refine ⟨_, rfl, ?_⟩; have n0_ := Aside0.mk (blk_below (g := gb151) (o := .cells #[.int .i64 a0_0, .int .i64 a0_1, .slice A0_2 l0_2.length c0_2, .slice A0_3 l0_3.length c0_3, .slice A0_4 l0_4.length c0_4] 26 (0, 0)) (by (with_reducible repeat (first | refine blk_drewN ?_ _ | refine blk_drew ?_ | refine blk_alloc ?_ _)); exact BK151.out) hb); have n1_ := Aside0.mk (below_step (by repeat (first | (with_reducible first | exact HB.out | apply below_alloc | apply pw_below_drewN | apply below_drew1 | refine below_set ?_ GE151.out) | exact HB.out)) hb); clear BK151; clear HB; have BK151 := n0_; have HB := n1_; clear n0_ n1_; (try clear hb); (try clear hb2); (try clear hk); (try clear hi)))
  go_ret
  exact ⟨by first | rfl | (simp [errW_none, errW_some] <;> rfl) | (simp [*, errW_none, errW_some] <;> rfl), by repeat (first | (with_reducible first | exact HB.out | apply below_alloc | apply pw_below_drewN | apply below_drew1 | refine below_set ?_ GE151.out) | exact HB.out)⟩
end Go.Proofs.Ytokhmghgghjmhaa.Q
namespace Go.Proofs.Ytokhmghgghjmhaa.Q
open Go.RowKit Go.Proofs.YtokhmghgghjmhaaW.PrintWords Go.Proofs.YtokhmghgghjmhaaW.PrintLast Go.Proofs.YtokhmghgghjmhaaW.PrintMore
attribute [local go_sem] max2_int min2_int max_two min_two max_three min_three max_four min_four   -- for this text's walks alone
set_option linter.unusedVariables false
set_option linter.unusedSimpArgs false
def posserlaw04_ready.f (a0_0 : Int) (a0_1 : Int) (l0_2 : List (S68)) (l0_3 : List Int) (l0_4 : List (S84)) : Option (Bool) := (posserlaw04_Thin.f a0_0 a0_1 l0_2 l0_3 l0_4).bind fun t360 => (if t360 = true then ((posserlaw04_fault.f a0_0 a0_1 l0_2 l0_3 l0_4).bind fun t361 => (some (t361 == 0))) else (some false))
set_option maxHeartbeats 8000000 in
set_option maxRecDepth 100000 in
theorem posserlaw04_ready.calls (a0_0 : Int) (a0_1 : Int) (A0_2 : Option Addr) (c0_2 : Nat) (l0_2 : List (S68)) (A0_3 : Option Addr) (c0_3 : Nat) (l0_3 : List Int) (A0_4 : Option Addr) (c0_4 : Nat) (l0_4 : List (S84)) (r : Bool) (w : World) (hr0_2 : Kd.C k68 w A0_2 l0_2.length l0_2) (hc0_2 : l0_2.length ≤ c0_2) (hr0_3 : Kd.C (Kd.int .i64) w A0_3 l0_3.length l0_3) (hc0_3 : l0_3.length ≤ c0_3) (hr0_4 : Kd.C k84 w A0_4 l0_4.length l0_4) (hc0_4 : l0_4.length ≤ c0_4) (h : posserlaw04_ready.f a0_0 a0_1 l0_2 l0_3 l0_4 = some r) :
    Calls Try.prog 41 #[.agg #[.int .i64 a0_0, .int .i64 a0_1, .slice A0_2 l0_2.length c0_2, .slice A0_3 l0_3.length c0_3, .slice A0_4 l0_4.length c0_4]] w fun e w' => e = .returned (.bool r) ∧ Below w.heap.size w w' := by
  have hu26 := Try.underlying26
  have HR0_2 := Aside0.mk hr0_2
  have HC0_2 := Aside0.mk hc0_2
  clear hr0_2 hc0_2
  have HR0_3 := Aside0.mk hr0_3
  have HC0_3 := Aside0.mk hc0_3
  clear hr0_3 hc0_3
  have HR0_4 := Aside0.mk hr0_4
  have HC0_4 := Aside0.mk hc0_4
  clear hr0_4 hc0_4
  have HB := Aside0.mk (Below.refl w.heap.size w)
  have H : ((posserlaw04_Thin.f a0_0 a0_1 l0_2 l0_3 l0_4).bind fun t360 => (if t360 = true then ((posserlaw04_fault.f a0_0 a0_1 l0_2 l0_3 l0_4).bind fun t361 => (some (t361 == 0))) else (some false))) = some r := h
  clear h
  replace H := Option.bind_eq_some_iff.mp H
  obtain ⟨t360, A20, H⟩ := H
  replace H : (if t360 = true then ((posserlaw04_fault.f a0_0 a0_1 l0_2 l0_3 l0_4).bind fun t361 => (some (t361 == 0))) else (some false)) = some r := H
  have A2 := Aside0.mk A20
  clear A20
  by_cases c3 : t360 = true
  · subst c3
    have H1 : ((posserlaw04_fault.f a0_0 a0_1 l0_2 l0_3 l0_4).bind fun t361 => (some (t361 == 0))) = some r := by rw [if_pos rfl] at H; exact H
    clear H
    have H := H1
    clear H1
    replace H := Option.bind_eq_some_iff.mp H
    obtain ⟨t361, A40, H⟩ := H
    replace H : (some (t361 == 0)) = some r := H
    have A4 := Aside0.mk A40
    clear A40
    obtain rfl := Option.some.inj H
    go_enter Try.func41, Try.ntmps41
    go_wp2_with (first | ((with_reducible refine gate_dst (N := 1) rfl ?_); refine box_event ?hg (N := 1) ?hd (cs := #[.int .i64 a0_0, .int .i64 a0_1, .slice A0_2 l0_2.length c0_2, .slice A0_3 l0_3.length c0_3, .slice A0_4 l0_4.length c0_4]) (t := 26) ?hr ?_; (case hd => rfl); (case hg => rfl); (case hr => first | (go_simp; done) | (go_simp; rfl)); intro gb359 hg w5 hbox hb; have n0_ := Aside0.mk (below_step (by repeat (first | (with_reducible first | exact HB.out | apply below_alloc | apply pw_below_drewN | apply below_drew1) | exact HB.out)) hb); have n1_ := Aside0.mk (hbox); have n2_ := Aside0.mk ((by rw [hg]; exact (below_size (by repeat (first | (with_reducible first | exact HB.out | apply below_alloc | apply pw_below_drewN | apply below_drew1) | exact HB.out))) : w.heap.size ≤ gb359)); have n3_ := Aside0.mk ((by rw [hg]; exact (below_size (by repeat (first | (with_reducible first | exact HB.out | apply below_alloc | apply pw_below_drewN | apply below_drew1) | exact HB.out))) : w.heap.size ≤ gb359)); clear HB; have HB := n0_; have BK359 := n1_; have GW359 := n2_; have GE359 := n3_; clear n0_ n1_ n2_ n3_; clear hb hbox hg; have hcz6_0 : w5.cell? ⟨gb359, 0, none⟩ = some (.int .i64 a0_0) := (blk_cell BK359.out 0).trans rfl; have hcz6_1 : w5.cell? ⟨gb359, 1, none⟩ = some (.int .i64 a0_1) := (blk_cell BK359.out 1).trans rfl; have hcz6_2 : w5.cell? ⟨gb359, 2, none⟩ = some (.slice A0_2 l0_2.length c0_2) := (blk_cell BK359.out 2).trans rfl; have hcz6_3 : w5.cell? ⟨gb359, 3, none⟩ = some (.slice A0_3 l0_3.length c0_3) := (blk_cell BK359.out 3).trans rfl; have hcz6_4 : w5.cell? ⟨gb359, 4, none⟩ = some (.slice A0_4 l0_4.length c0_4) := (blk_cell BK359.out 4).trans rfl; have hfz6_0 := blk_frozen BK359.out 0; have hfz6_1 := blk_frozen BK359.out 1; have hfz6_2 := blk_frozen BK359.out 2; have hfz6_3 := blk_frozen BK359.out 3; have hfz6_4 := blk_frozen BK359.out 4) | ((with_reducible refine gate_callee (f := 23) rfl ?_); refine goesL_ (some 4) rfl rfl Try.func23 (by kernel_rfl) rfl #[.agg #[.int .i64 a0_0, .int .i64 a0_1, .slice A0_2 l0_2.length c0_2, .slice A0_3 l0_3.length c0_3, .slice A0_4 l0_4.length c0_4]] rfl (by (try simp only [List.map_toArray, List.map_cons, List.map_nil]); first | done | rfl | (simp only [List.length_drop, List.length_take]; rfl)) ?_; (with_reducible refine (posserlaw04_Thin.calls a0_0 a0_1 _ _ l0_2 _ _ l0_3 _ _ l0_4 true _ ?side1 ?side2 ?side3 ?side4 ?side5 ?side6 A2.out).mono ?_); (case side1 => repeat (first | exact (Kd.C_below HR0_2.out HB.out) | (with_reducible refine Kd.C_alloc ?_ _) | (with_reducible refine Kd.C_drewN ?_ _) | (with_reducible refine Kd.C_drew ?_))); (case side2 => exact HC0_2.out); (case side3 => repeat (first | exact (Kd.C_below HR0_3.out HB.out) | (with_reducible refine Kd.C_alloc ?_ _) | (with_reducible refine Kd.C_drewN ?_ _) | (with_reducible refine Kd.C_drew ?_))); (case side4 => exact HC0_3.out); (case side5 => repeat (first | exact (Kd.C_below HR0_4.out HB.out) | (with_reducible refine Kd.C_alloc ?_ _) | (with_reducible refine Kd.C_drewN ?_ _) | (with_reducible refine Kd.C_drew ?_))); (case side6 => exact HC0_4.out); rintro e w7 ⟨rfl, hb⟩; refine ⟨_, rfl, ?_⟩; have n0_ := Aside0.mk (blk_below (g := gb359) (o := .cells #[.int .i64 a0_0, .int .i64 a0_1, .slice A0_2 l0_2.length c0_2, .slice A0_3 l0_3.length c0_3, .slice A0_4 l0_4.length c0_4] 26 (0, 0)) (by (with_reducible repeat (first | refine blk_drewN ?_ _ | refine blk_drew ?_ | refine blk_alloc ?_ _)); exact BK359.out) hb); have n1_ := Aside0.mk (below_step (by repeat (first | (with_reducible first | exact HB.out | apply below_alloc | apply pw_below_drewN | apply below_drew1 | refine below_set ?_ GE359.out) | exact HB.out)) hb); clear BK359; clear HB; have BK359 := n0_; have HB := n1_; clear n0_ n1_; (try clear hb); (try clear hb2); (try clear hk); (try clear hi); have hcz8_0 : w7.cell? ⟨gb359, 0, none⟩ = some (.int .i64 a0_0) := (blk_cell BK359.out 0).trans rfl; have hcz8_1 : w7.cell? ⟨gb359, 1, none⟩ = some (.int .i64 a0_1) := (blk_cell BK359.out 1).trans rfl; have hcz8_2 : w7.cell? ⟨gb359, 2, none⟩ = some (.slice A0_2 l0_2.length c0_2) := (blk_cell BK359.out 2).trans rfl; have hcz8_3 : w7.cell? ⟨gb359, 3, none⟩ = some (.slice A0_3 l0_3.length c0_3) := (blk_cell BK359.out 3).trans rfl; have hcz8_4 : w7.cell? ⟨gb359, 4, none⟩ = some (.slice A0_4 l0_4.length c0_4) := (blk_cell BK359.out 4).trans rfl; have hfz8_0 := blk_frozen BK359.out 0; have hfz8_1 := blk_frozen BK359.out 1; have hfz8_2 := blk_frozen BK359.out 2; have hfz8_3 := blk_frozen BK359.out 3; have hfz8_4 := blk_frozen BK359.out 4) | (go_at_call 36; (with_reducible refine (posserlaw04_fault.calls a0_0 a0_1 _ _ l0_2 _ _ l0_3 _ _ l0_4 t361 _ ?side1 ?side2 ?side3 ?side4 ?side5 ?side6 A4.out).mono ?_); (case side1 => repeat (first | exact (Kd.C_below HR0_2.out HB.out) | (with_reducible refine Kd.C_alloc ?_ _) | (with_reducible refine Kd.C_drewN ?_ _) | (with_reducible refine Kd.C_drew ?_))); (case side2 => exact HC0_2.out); (case side3 => repeat (first | exact (Kd.C_below HR0_3.out HB.out) | (with_reducible refine Kd.C_alloc ?_ _) | (with_reducible refine Kd.C_drewN ?_ _) | (with_reducible refine Kd.C_drew ?_))); (case side4 => exact HC0_3.out); (case side5 => repeat (first | exact (Kd.C_below HR0_4.out HB.out) | (with_reducible refine Kd.C_alloc ?_ _) | (with_reducible refine Kd.C_drewN ?_ _) | (with_reducible refine Kd.C_drew ?_))); (case side6 => exact HC0_4.out); rintro e w9 ⟨rfl, hb⟩; have n0_ := Aside0.mk (blk_below (g := gb359) (o := .cells #[.int .i64 a0_0, .int .i64 a0_1, .slice A0_2 l0_2.length c0_2, .slice A0_3 l0_3.length c0_3, .slice A0_4 l0_4.length c0_4] 26 (0, 0)) (by (with_reducible repeat (first | refine blk_drewN ?_ _ | refine blk_drew ?_ | refine blk_alloc ?_ _)); exact BK359.out) hb); have n1_ := Aside0.mk (below_step (by repeat (first | (with_reducible first | exact HB.out | apply below_alloc | apply pw_below_drewN | apply below_drew1 | refine below_set ?_ GE359.out) | exact HB.out)) hb); clear BK359; clear HB; have BK359 := n0_; have HB := n1_; clear n0_ n1_; (try clear hb); (try clear hb2); (try clear hk); (try clear hi)))
    go_ret
    exact ⟨by first | rfl | (simp [errW_none, errW_some] <;> rfl) | (simp [*, errW_none, errW_some] <;> rfl), by repeat (first | (with_reducible first | exact HB.out | apply below_alloc | apply pw_below_drewN | apply below_drew1 | refine below_set ?_ GE359.out) | exact HB.out)⟩
  · replace c3 := Bool.eq_false_iff.mpr c3
    subst c3
    have H1 : (some false) = some r := by rw [if_neg (show ¬ (false = true) by decide)] at H; exact H
    clear H
    have H := H1
    clear H1
    obtain rfl := Option.some.inj H
    go_enter Try.func41, Try.ntmps41
    go_wp2_with (first | ((with_reducible refine gate_dst (N := 1) rfl ?_); refine box_event ?hg (N := 1) ?hd (cs := #[.int .i64 a0_0, .int .i64 a0_1, .slice A0_2 l0_2.length c0_2, .slice A0_3 l0_3.length c0_3, .slice A0_4 l0_4.length c0_4]) (t := 26) ?hr ?_; (case hd => rfl); (case hg => rfl); (case hr => first | (go_simp; done) | (go_simp; rfl)); intro gb359 hg w10 hbox hb; have n0_ := Aside0.mk (below_step (by repeat (first | (with_reducible first | exact HB.out | apply below_alloc | apply pw_below_drewN | apply below_drew1) | exact HB.out)) hb); have n1_ := Aside0.mk (hbox); have n2_ := Aside0.mk ((by rw [hg]; exact (below_size (by repeat (first | (with_reducible first | exact HB.out | apply below_alloc | apply pw_below_drewN | apply below_drew1) | exact HB.out))) : w.heap.size ≤ gb359)); have n3_ := Aside0.mk ((by rw [hg]; exact (below_size (by repeat (first | (with_reducible first | exact HB.out | apply below_alloc | apply pw_below_drewN | apply below_drew1) | exact HB.out))) : w.heap.size ≤ gb359)); clear HB; have HB := n0_; have BK359 := n1_; have GW359 := n2_; have GE359 := n3_; clear n0_ n1_ n2_ n3_; clear hb hbox hg; have hcz11_0 : w10.cell? ⟨gb359, 0, none⟩ = some (.int .i64 a0_0) := (blk_cell BK359.out 0).trans rfl; have hcz11_1 : w10.cell? ⟨gb359, 1, none⟩ = some (.int .i64 a0_1) := (blk_cell BK359.out 1).trans rfl; have hcz11_2 : w10.cell? ⟨gb359, 2, none⟩ = some (.slice A0_2 l0_2.length c0_2) := (blk_cell BK359.out 2).trans rfl; have hcz11_3 : w10.cell? ⟨gb359, 3, none⟩ = some (.slice A0_3 l0_3.length c0_3) := (blk_cell BK359.out 3).trans rfl; have hcz11_4 : w10.cell? ⟨gb359, 4, none⟩ = some (.slice A0_4 l0_4.length c0_4) := (blk_cell BK359.out 4).trans rfl; have hfz11_0 := blk_frozen BK359.out 0; have hfz11_1 := blk_frozen BK359.out 1; have hfz11_2 := blk_frozen BK359.out 2; have hfz11_3 := blk_frozen BK359.out 3; have hfz11_4 := blk_frozen BK359.out 4) | ((with_reducible refine gate_callee (f := 23) rfl ?_); refine goesL_ (some 4) rfl rfl Try.func23 (by kernel_rfl) rfl #[.agg #[.int .i64 a0_0, .int .i64 a0_1, .slice A0_2 l0_2.length c0_2, .slice A0_3 l0_3.length c0_3, .slice A0_4 l0_4.length c0_4]] rfl (by (try simp only [List.map_toArray, List.map_cons, List.map_nil]); first | done | rfl | (simp only [List.length_drop, List.length_take]; rfl)) ?_; (with_reducible refine (posserlaw04_Thin.calls a0_0 a0_1 _ _ l0_2 _ _ l0_3 _ _ l0_4 false _ ?side1 ?side2 ?side3 ?side4 ?side5 ?side6 A2.out).mono ?_); (case side1 => repeat (first | exact (Kd.C_below HR0_2.out HB.out) | (with_reducible refine Kd.C_alloc ?_ _) | (with_reducible refine Kd.C_drewN ?_ _) | (with_reducible refine Kd.C_drew ?_))); (case side2 => exact HC0_2.out); (case side3 => repeat (first | exact (Kd.C_below HR0_3.out HB.out) | (with_reducible refine Kd.C_alloc ?_ _) | (with_reducible refine Kd.C_drewN ?_ _) | (with_reducible refine Kd.C_drew ?_))); (case side4 => exact HC0_3.out); (case side5 => repeat (first | exact (Kd.C_below HR0_4.out HB.out) | (with_reducible refine Kd.C_alloc ?_ _) | (with_reducible refine Kd.C_drewN ?_ _) | (with_reducible refine Kd.C_drew ?_))); (case side6 => exact HC0_4.out); rintro e w12 ⟨rfl, hb⟩; refine ⟨_, rfl, ?_⟩; have n0_ := Aside0.mk (blk_below (g := gb359) (o := .cells #[.int .i64 a0_0, .int .i64 a0_1, .slice A0_2 l0_2.length c0_2, .slice A0_3 l0_3.length c0_3, .slice A0_4 l0_4.length c0_4] 26 (0, 0)) (by (with_reducible repeat (first | refine blk_drewN ?_ _ | refine blk_drew ?_ | refine blk_alloc ?_ _)); exact BK359.out) hb); have n1_ := Aside0.mk (below_step (by repeat (first | (with_reducible first | exact HB.out | apply below_alloc | apply pw_below_drewN | apply below_drew1 | refine below_set ?_ GE359.out) | exact HB.out)) hb); clear BK359; clear HB; have BK359 := n0_; have HB := n1_; clear n0_ n1_; (try clear hb); (try clear hb2); (try clear hk); (try clear hi)))
    go_ret
    exact ⟨by first | rfl | (simp [errW_none, errW_some] <;> rfl) | (simp [*, errW_none, errW_some] <;> rfl), by repeat (first | (with_reducible first | exact HB.out | apply below_alloc | apply pw_below_drewN | apply below_drew1 | refine below_set ?_ GE359.out) | exact HB.out)⟩
def posserlaw04_used.l0 : Nat → List Int → Int → Int → Option (Bool)
  | 0, _, _, _ => none
  | k + 1, x0, x1, x5 => if x5 < (x0.length : Int) then (if 0 ≤ x5 then (if (rd x0 x5) = x1 then (some true) else (posserlaw04_used.l0 k x0 x1 (wrap64 (x5 + 1)))) else (none)) else (some false)
def posserlaw04_used.f (k : Nat) (l0 : List Int) (a1 : Int) : Option (Bool) := posserlaw04_used.l0 k l0 a1 0
set_option maxHeartbeats 8000000 in
set_option maxRecDepth 100000 in
theorem posserlaw04_used.calls (k : Nat) (A0 : Option Addr) (c0 : Nat) (l0 : List Int) (a1 : Int) (r : Bool) (w : World) (hr0 : Kd.C (Kd.int .i64) w A0 l0.length l0) (hc0 : l0.length ≤ c0) (h : posserlaw04_used.f k l0 a1 = some r) :
    Calls Try.prog 53 #[.slice A0 l0.length c0, .int .i64 a1] w fun e w' => e = .returned (.bool r) ∧ Drawn0 w w' := by
  have HR0 := Aside0.mk hr0
  have HC0 := Aside0.mk hc0
  clear hr0 hc0
  have H : (posserlaw04_used.l0 k l0 a1 0) = some r := h
  clear h
  have H' := Aside0.mk H
  clear H
  go_enter Try.func53, Try.ntmps53
  go_wp2
  go_loopg [5] k (fun kq v5 w' => ∃ (x5_1 : Int), v5 = .int .i64 x5_1 ∧ Aside0 (posserlaw04_used.l0 kq l0 a1 x5_1 = some r) ∧ Aside0 (kq ≤ k) ∧ Drawn0 w w')
  case atStart => exact ⟨(0), (by first | rfl | (simp; done) | (simp [*]; done)), H', ⟨Nat.le_refl _⟩, by repeat (first | exact Drawn0.refl _ | apply Drawn0.step)⟩
  case round =>
    clear H'
    try clear p2
    obtain ⟨x5_1, rfl, HA, HK1, ⟨m1, rfl⟩⟩ := hrel
    cases gk with
    | zero => exact absurd HA.out (by simp [posserlaw04_used.l0])
    | succ k1 =>
      have H := HA.out
      clear HA
      simp only [posserlaw04_used.l0] at H
      by_cases c3 : x5_1 < (l0.length : Int)
      · rw [if_pos c3] at H
        have c3b0 : decide (x5_1 < (l0.length : Int)) = true := decide_eq_true c3
        clear c3
        by_cases c4 : 0 ≤ x5_1
        · rw [if_pos c4] at H
          have c4b0 : decide (0 ≤ x5_1) = true := decide_eq_true c4
          clear c4
          by_cases c5 : (rd l0 x5_1) = a1
          · rw [if_pos c5] at H
            have c5b0 : ((rd l0 x5_1) == a1) = true := beq_iff_eq.mpr c5
            have c5b1 : ((rd l0 x5_1) != a1) = false := bne_eq_false_iff_eq.mpr c5
            clear c5
            obtain rfl := Option.some.inj H
            have p362 : 0 ≤ (x5_1 : Int) := of_decide_eq_true (by first | (with_reducible assumption) | assumption)
            have q362 : x5_1 < (l0.length : Int) := of_decide_eq_true (by first | (with_reducible assumption) | assumption)
            obtain ⟨ad362, e362, hx362_0⟩ := Kd.at_int HR0.out x5_1 p362 q362
            cases e362
            replace p362 := eq_true p362
            replace q362 := eq_true q362
            go_wp2
            go_ret
            exact ⟨by first | rfl | (simp; done) | (simp [*]; done), by repeat (first | exact Drawn0.refl _ | apply Drawn0.step)⟩
          · rw [if_neg c5] at H
            have c5b0 : ((rd l0 x5_1) == a1) = false := beq_eq_false_iff_ne.mpr c5
            have c5b1 : ((rd l0 x5_1) != a1) = true := bne_iff_ne.mpr c5
            have H' := Aside0.mk H
            clear H
            have p362 : 0 ≤ (x5_1 : Int) := of_decide_eq_true (by first | (with_reducible assumption) | assumption)
            have q362 : x5_1 < (l0.length : Int) := of_decide_eq_true (by first | (with_reducible assumption) | assumption)
            obtain ⟨ad362, e362, hx362_0⟩ := Kd.at_int HR0.out x5_1 p362 q362
            cases e362
            replace p362 := eq_true p362
            replace q362 := eq_true q362
            go_wp2
            go_roundg k1
            case measure => have := HK1.out; omega
            case rel => exact ⟨(wrap64 (x5_1 + 1)), (by first | rfl | (simp; done) | (simp [*]; done)), H', ⟨by have := HK1.out; omega⟩, by repeat (first | exact Drawn0.refl _ | apply Drawn0.step)⟩
        · rw [if_neg c4] at H
          exact absurd H (by simp)
      · rw [if_neg c3] at H
        have c3b0 : decide (x5_1 < (l0.length : Int)) = false := decide_eq_false c3
        clear c3
        obtain rfl := Option.some.inj H
        go_wp2
        go_ret
        exact ⟨by first | rfl | (simp; done) | (simp [*]; done), by repeat (first | exact Drawn0.refl _ | apply Drawn0.step)⟩
def posserlaw04_word.f (l0 : List Int) (a1 : Int) : Option (Int) := if (l0.length : Int) = 0 then (some 0) else (if 0 ≤ (Int.tmod a1 (l0.length : Int)) then (if (Int.tmod a1 (l0.length : Int)) < (l0.length : Int) then (some (wrap64 (rd l0 (Int.tmod a1 (l0.length : Int))))) else (none)) else (none))
set_option maxHeartbeats 8000000 in
set_option maxRecDepth 100000 in
theorem posserlaw04_word.calls (A0 : Option Addr) (c0 : Nat) (l0 : List Int) (a1 : Int) (r : Int) (w : World) (hr0 : Kd.C (Kd.int .u16) w A0 l0.length l0) (hc0 : l0.length ≤ c0) (h : posserlaw04_word.f l0 a1 = some r) :
    Calls Try.prog 96 #[.slice A0 l0.length c0, .int .i64 a1] w fun e w' => e = .returned (.int .i64 r) ∧ Drawn0 w w' := by
  have HR0 := Aside0.mk hr0
  have HC0 := Aside0.mk hc0
  clear hr0 hc0
  have H : (if (l0.length : Int) = 0 then (some 0) else (if 0 ≤ (Int.tmod a1 (l0.length : Int)) then (if (Int.tmod a1 (l0.length : Int)) < (l0.length : Int) then (some (wrap64 (rd l0 (Int.tmod a1 (l0.length : Int))))) else (none)) else (none))) = some r := h
  clear h
  by_cases c3 : (l0.length : Int) = 0
  · rw [if_pos c3] at H
    have c3b0 : ((l0.length : Int) == 0) = true := beq_iff_eq.mpr c3
    have c3b1 : ((l0.length : Int) != 0) = false := bne_eq_false_iff_eq.mpr c3
    clear c3
    obtain rfl := Option.some.inj H
    go_enter Try.func96, Try.ntmps96
    go_wp2
    go_ret
    exact ⟨by first | rfl | (simp; done) | (simp [*]; done), by repeat (first | exact Drawn0.refl _ | apply Drawn0.step)⟩
  · rw [if_neg c3] at H
    have c3b0 : ((l0.length : Int) == 0) = false := beq_eq_false_iff_ne.mpr c3
    have c3b1 : ((l0.length : Int) != 0) = true := bne_iff_ne.mpr c3
    have c3b2 : ¬ (l0 = []) := fun h_ => c3 (by rw [h_]; rfl)
    obtain ⟨ji4, hji4⟩ : ∃ j_ : Int, (Int.tmod a1 (l0.length : Int)) = j_ := ⟨_, rfl⟩
    replace H : (if 0 ≤ (ji4) then (if (ji4) < (l0.length : Int) then (some (wrap64 (rd l0 (ji4)))) else (none)) else (none)) = some r := by first | (rw [hji4] at H; exact H) | (simp only [hji4] at H ⊢; exact H)
    by_cases c5 : 0 ≤ (ji4)
    · rw [if_pos c5] at H
      have c5b0 : decide (0 ≤ (ji4)) = true := decide_eq_true c5
      clear c5
      by_cases c6 : (ji4) < (l0.length : Int)
      · rw [if_pos c6] at H
        have c6b0 : decide ((ji4) < (l0.length : Int)) = true := decide_eq_true c6
        clear c6
        obtain rfl := Option.some.inj H
        have p363 : 0 ≤ ((ji4) : Int) := of_decide_eq_true (by first | (with_reducible assumption) | assumption)
        have q363 : (ji4) < (l0.length : Int) := of_decide_eq_true (by first | (with_reducible assumption) | assumption)
        obtain ⟨ad363, e363, hx363_0⟩ := Kd.at_int HR0.out (ji4) p363 q363
        cases e363
        replace p363 := eq_true p363
        replace q363 := eq_true q363
        go_enter Try.func96, Try.ntmps96
        go_wp2
        go_ret
        exact ⟨by first | rfl | (simp; done) | (simp only [← hji4] <;> (first | rfl | simp)) | (simp [*]; done), by repeat (first | exact Drawn0.refl _ | apply Drawn0.step)⟩
      · rw [if_neg c6] at H
        exact absurd H (by simp)
    · rw [if_neg c5] at H
      exact absurd H (by simp)
mutual
def posserlaw04_Placed.l0 : Nat → List Int → List Int → Int → Int → Int → List (S68) → List Int → List (S84) → Option (List Int)
  | 0, _, _, _, _, _, _, _, _ => none
  | k + 1, x1, x5, x6, x365000, x365001, x365002, x365003, x365004 => if x6 < (x365002.length : Int) then ((posserlaw04_word.f x1 x6).bind fun t365 => (if x365000 = 0 then (none) else (posserlaw04_Placed.l1 k x1 x5 x6 (Int.tmod t365 x365000) x365000 x365001 x365002 x365003 x365004))) else (some x5)
def posserlaw04_Placed.l1 : Nat → List Int → List Int → Int → Int → Int → Int → List (S68) → List Int → List (S84) → Option (List Int)
  | 0, _, _, _, _, _, _, _, _, _ => none
  | k + 1, x1, x5, x6, x7, x365000, x365001, x365002, x365003, x365004 => (posserlaw04_used.f k x5 x7).bind fun t366 => (if t366 = true then (if x365000 = 0 then (none) else (posserlaw04_Placed.l1 k x1 x5 x6 (Int.tmod (wrap64 (x7 + 1)) x365000) x365000 x365001 x365002 x365003 x365004)) else (if x5.length < 17592186044416 then (posserlaw04_Placed.l0 k x1 (x5 ++ [x7]) (wrap64 (x6 + 1)) x365000 x365001 x365002 x365003 x365004) else (none)))
end
def posserlaw04_Placed.f (k : Nat) (a0_0 : Int) (a0_1 : Int) (l0_2 : List (S68)) (l0_3 : List Int) (l0_4 : List (S84)) (l1 : List Int) : Option (List Int) := posserlaw04_Placed.l0 k l1 ([] : List Int) 0 a0_0 a0_1 l0_2 l0_3 l0_4
set_option maxHeartbeats 8000000 in
set_option maxRecDepth 100000 in
theorem posserlaw04_Placed.calls (k : Nat) (a0_0 : Int) (a0_1 : Int) (A0_2 : Option Addr) (c0_2 : Nat) (l0_2 : List (S68)) (A0_3 : Option Addr) (c0_3 : Nat) (l0_3 : List Int) (A0_4 : Option Addr) (c0_4 : Nat) (l0_4 : List (S84)) (A1 : Option Addr) (c1 : Nat) (l1 : List Int) (r : List Int) (w : World) (hr0_2 : Kd.C k68 w A0_2 l0_2.length l0_2) (hc0_2 : l0_2.length ≤ c0_2) (hr0_3 : Kd.C (Kd.int .i64) w A0_3 l0_3.length l0_3) (hc0_3 : l0_3.length ≤ c0_3) (hr0_4 : Kd.C k84 w A0_4 l0_4.length l0_4) (hc0_4 : l0_4.length ≤ c0_4) (hr1 : Kd.C (Kd.int .u16) w A1 l1.length l1) (hc1 : l1.length ≤ c1) (h : posserlaw04_Placed.f k a0_0 a0_1 l0_2 l0_3 l0_4 l1 = some r) :
    Calls Try.prog 42 #[.agg #[.int .i64 a0_0, .int .i64 a0_1, .slice A0_2 l0_2.length c0_2, .slice A0_3 l0_3.length c0_3, .slice A0_4 l0_4.length c0_4], .slice A1 l1.length c1] w fun e w' => ∃ v0_ : Value, e = .returned (v0_) ∧ Kd.R (Kd.int .i64) 3 w' w.heap.size (fun _ => True) v0_ r ∧ Below w.heap.size w w' := by
  have hu26 := Try.underlying26
  have HR0_2 := Aside0.mk hr0_2
  have HC0_2 := Aside0.mk hc0_2
  clear hr0_2 hc0_2
  have HR0_3 := Aside0.mk hr0_3
  have HC0_3 := Aside0.mk hc0_3
  clear hr0_3 hc0_3
  have HR0_4 := Aside0.mk hr0_4
  have HC0_4 := Aside0.mk hc0_4
  clear hr0_4 hc0_4
  have HR1 := Aside0.mk hr1
  have HC1 := Aside0.mk hc1
  clear hr1 hc1
  have HB := Aside0.mk (Below.refl w.heap.size w)
  have H : (posserlaw04_Placed.l0 k l1 ([] : List Int) 0 a0_0 a0_1 l0_2 l0_3 l0_4) = some r := h
  clear h
  have H' := Aside0.mk H
  clear H
  go_enter Try.func42, Try.ntmps42
  go_wp2_with (first | ((with_reducible refine gate_dst (N := 2) rfl ?_); refine box_event ?hg (N := 2) ?hd (cs := #[.int .i64 a0_0, .int .i64 a0_1, .slice A0_2 l0_2.length c0_2, .slice A0_3 l0_3.length c0_3, .slice A0_4 l0_4.length c0_4]) (t := 26) ?hr ?_; (case hd => rfl); (case hg => rfl); (case hr => first | (go_simp; done) | (go_simp; rfl)); intro gb364 hg w3 hbox hb; have n0_ := Aside0.mk (below_step (by repeat (first | (with_reducible first | exact HB.out | apply below_alloc | apply pw_below_drewN | apply below_drew1) | exact HB.out)) hb); have n1_ := Aside0.mk (hbox); have n2_ := Aside0.mk ((by rw [hg]; exact (below_size (by repeat (first | (with_reducible first | exact HB.out | apply below_alloc | apply pw_below_drewN | apply below_drew1) | exact HB.out))) : w.heap.size ≤ gb364)); have n3_ := Aside0.mk ((by rw [hg]; exact (below_size (by repeat (first | (with_reducible first | exact HB.out | apply below_alloc | apply pw_below_drewN | apply below_drew1) | exact HB.out))) : w.heap.size ≤ gb364)); clear HB; have HB := n0_; have BK364 := n1_; have GW364 := n2_; have GE364 := n3_; clear n0_ n1_ n2_ n3_; clear hb hbox hg))
  repeat (go_quiet (first | ((with_reducible refine gate_dst (N := 2) rfl ?_); refine box_event ?hg (N := 2) ?hd (cs := #[.int .i64 a0_0, .int .i64 a0_1, .slice A0_2 l0_2.length c0_2, .slice A0_3 l0_3.length c0_3, .slice A0_4 l0_4.length c0_4]) (t := 26) ?hr ?_; (case hd => rfl); (case hg => rfl); (case hr => first | (go_simp; done) | (go_simp; rfl)); intro gb364 hg w3 hbox hb; have n0_ := Aside0.mk (below_step (by repeat (first | (with_reducible first | exact HB.out | apply below_alloc | apply pw_below_drewN | apply below_drew1) | exact HB.out)) hb); have n1_ := Aside0.mk (hbox); have n2_ := Aside0.mk ((by rw [hg]; exact (below_size (by repeat (first | (with_reducible first | exact HB.out | apply below_alloc | apply pw_below_drewN | apply below_drew1) | exact HB.out))) : w.heap.size ≤ gb364)); have n3_ := Aside0.mk ((by rw [hg]; exact (below_size (by repeat (first | (with_reducible first | exact HB.out | apply below_alloc | apply pw_below_drewN | apply below_drew1) | exact HB.out))) : w.heap.size ≤ gb364)); clear HB; have HB := n0_; have BK364 := n1_; have GW364 := n2_; have GE364 := n3_; clear n0_ n1_ n2_ n3_; clear hb hbox hg)); try go_wp2_with (first | ((with_reducible refine gate_dst (N := 2) rfl ?_); refine box_event ?hg (N := 2) ?hd (cs := #[.int .i64 a0_0, .int .i64 a0_1, .slice A0_2 l0_2.length c0_2, .slice A0_3 l0_3.length c0_3, .slice A0_4 l0_4.length c0_4]) (t := 26) ?hr ?_; (case hd => rfl); (case hg => rfl); (case hr => first | (go_simp; done) | (go_simp; rfl)); intro gb364 hg w3 hbox hb; have n0_ := Aside0.mk (below_step (by repeat (first | (with_reducible first | exact HB.out | apply below_alloc | apply pw_below_drewN | apply below_drew1) | exact HB.out)) hb); have n1_ := Aside0.mk (hbox); have n2_ := Aside0.mk ((by rw [hg]; exact (below_size (by repeat (first | (with_reducible first | exact HB.out | apply below_alloc | apply pw_below_drewN | apply below_drew1) | exact HB.out))) : w.heap.size ≤ gb364)); have n3_ := Aside0.mk ((by rw [hg]; exact (below_size (by repeat (first | (with_reducible first | exact HB.out | apply below_alloc | apply pw_below_drewN | apply below_drew1) | exact HB.out))) : w.heap.size ≤ gb364)); clear HB; have HB := n0_; have BK364 := n1_; have GW364 := n2_; have GE364 := n3_; clear n0_ n1_ n2_ n3_; clear hb hbox hg)))
  go_loopg [5, 6] k (fun kq v5 v6 w' => ∃ (x5_1 : List Int) (x6_1 : Int), v6 = .int .i64 x6_1 ∧ Aside0 (posserlaw04_Placed.l0 kq l1 x5_1 x6_1 a0_0 a0_1 l0_2 l0_3 l0_4 = some r) ∧ Aside0 (kq ≤ k) ∧ Aside0 (Kd.R (Kd.int .i64) 3 w' w.heap.size (fun _ => True) v5 x5_1) ∧ Aside0 (w'.heap[gb364]? = some (.cells #[.int .i64 a0_0, .int .i64 a0_1, (.slice A0_2 l0_2.length c0_2), (.slice A0_3 l0_3.length c0_3), (.slice A0_4 l0_4.length c0_4)] 26 (0, 0))) ∧ Aside0 (Below w.heap.size w w'))
  case atStart => exact ⟨(([] : List Int)), (0), (by first | rfl | (simp; done) | (simp [*]; done)), H', ⟨Nat.le_refl _⟩, ⟨by first | exact Kd.R_nil _ _ _ _ _ | exact Kd.N_nil _ _ _ _ _ | exact Kd.V_nil _ _ _ _ _ | exact Kd.Q_nil _ _ _ _ _ | exact Kd.S_nil _ _ _ _ _⟩, ⟨by (with_reducible repeat (first | refine blk_drewN ?_ _ | refine blk_drew ?_ | refine blk_alloc ?_ _)); exact BK364.out⟩, ⟨by repeat (first | (with_reducible first | exact HB.out | apply below_alloc | apply pw_below_drewN | apply below_drew1 | refine below_set ?_ GE364.out) | exact HB.out)⟩⟩
  case round =>
    clear H'
    try clear c1
    try clear p2
    obtain ⟨x5_1, x6_1, rfl, HA, HK1, HO_5, BK364, HB⟩ := hrel
    cases gk with
    | zero => exact absurd HA.out (by simp [posserlaw04_Placed.l0])
    | succ k1 =>
      have H := HA.out
      clear HA
      simp only [posserlaw04_Placed.l0] at H
      by_cases c4 : x6_1 < (l0_2.length : Int)
      · rw [if_pos c4] at H
        have c4b0 : decide (x6_1 < (l0_2.length : Int)) = true := decide_eq_true c4
        clear c4
        replace H := Option.bind_eq_some_iff.mp H
        obtain ⟨t365, A50, H⟩ := H
        replace H : (if a0_0 = 0 then (none) else (posserlaw04_Placed.l1 k1 l1 x5_1 x6_1 (Int.tmod t365 a0_0) a0_0 a0_1 l0_2 l0_3 l0_4)) = some r := H
        have A5 := Aside0.mk A50
        clear A50
        by_cases c6 : a0_0 = 0
        · rw [if_pos c6] at H
          exact absurd H (by simp)
        · rw [if_neg c6] at H
          have c6b0 : (a0_0 == 0) = false := beq_eq_false_iff_ne.mpr c6
          have c6b1 : (a0_0 != 0) = true := bne_iff_ne.mpr c6
          have H' := Aside0.mk H
          clear H
          have hcz7_0 : wr.cell? ⟨gb364, 0, none⟩ = some (.int .i64 a0_0) := (blk_cell BK364.out 0).trans rfl
          have hcz7_1 : wr.cell? ⟨gb364, 1, none⟩ = some (.int .i64 a0_1) := (blk_cell BK364.out 1).trans rfl
          have hcz7_2 : wr.cell? ⟨gb364, 2, none⟩ = some (.slice A0_2 l0_2.length c0_2) := (blk_cell BK364.out 2).trans rfl
          have hcz7_3 : wr.cell? ⟨gb364, 3, none⟩ = some (.slice A0_3 l0_3.length c0_3) := (blk_cell BK364.out 3).trans rfl
          have hcz7_4 : wr.cell? ⟨gb364, 4, none⟩ = some (.slice A0_4 l0_4.length c0_4) := (blk_cell BK364.out 4).trans rfl
          have hfz7_0 := blk_frozen BK364.out 0
          have hfz7_1 := blk_frozen BK364.out 1
          have hfz7_2 := blk_frozen BK364.out 2
          have hfz7_3 := blk_frozen BK364.out 3
          have hfz7_4 := blk_frozen BK364.out 4
          go_wp2_with (first | (go_at_call 96; (with_reducible refine (posserlaw04_word.calls _ _ l1 x6_1 t365 _ ?side1 ?side2 A5.out).mono ?_); (case side1 => repeat (first | exact (Kd.C_below HR1.out HB.out) | (with_reducible refine Kd.C_alloc ?_ _) | (with_reducible refine Kd.C_drewN ?_ _) | (with_reducible refine Kd.C_drew ?_))); (case side2 => exact HC1.out); rintro e w' ⟨rfl, ⟨nd, rfl⟩⟩; (try first | exact ⟨rfl, _, World.drewN_drewN _ _ _⟩ | exact ⟨rfl, _, Eq.trans (World.drewN_drewN _ _ _) (congrArg (World.drewN _) (Nat.add_assoc _ _ _))⟩)))
          repeat (go_quiet (first | (go_at_call 96; (with_reducible refine (posserlaw04_word.calls _ _ l1 x6_1 t365 _ ?side1 ?side2 A5.out).mono ?_); (case side1 => repeat (first | exact (Kd.C_below HR1.out HB.out) | (with_reducible refine Kd.C_alloc ?_ _) | (with_reducible refine Kd.C_drewN ?_ _) | (with_reducible refine Kd.C_drew ?_))); (case side2 => exact HC1.out); rintro e w' ⟨rfl, ⟨nd, rfl⟩⟩; (try first | exact ⟨rfl, _, World.drewN_drewN _ _ _⟩ | exact ⟨rfl, _, Eq.trans (World.drewN_drewN _ _ _) (congrArg (World.drewN _) (Nat.add_assoc _ _ _))⟩))); try go_wp2_with (first | (go_at_call 96; (with_reducible refine (posserlaw04_word.calls _ _ l1 x6_1 t365 _ ?side1 ?side2 A5.out).mono ?_); (case side1 => repeat (first | exact (Kd.C_below HR1.out HB.out) | (with_reducible refine Kd.C_alloc ?_ _) | (with_reducible refine Kd.C_drewN ?_ _) | (with_reducible refine Kd.C_drew ?_))); (case side2 => exact HC1.out); rintro e w' ⟨rfl, ⟨nd, rfl⟩⟩; (try first | exact ⟨rfl, _, World.drewN_drewN _ _ _⟩ | exact ⟨rfl, _, Eq.trans (World.drewN_drewN _ _ _) (congrArg (World.drewN _) (Nat.add_assoc _ _ _))⟩))))
          go_loopg [7] k1 (fun kq v7 w' => ∃ (x7_2 : Int), v7 = .int .i64 x7_2 ∧ Aside0 (posserlaw04_Placed.l1 kq l1 x5_1 x6_1 x7_2 a0_0 a0_1 l0_2 l0_3 l0_4 = some r) ∧ Aside0 (kq ≤ k1) ∧ Aside0 (Kd.R (Kd.int .i64) 3 w' w.heap.size (fun _ => True) u5 x5_1) ∧ Aside0 (w'.heap[gb364]? = some (.cells #[.int .i64 a0_0, .int .i64 a0_1, (.slice A0_2 l0_2.length c0_2), (.slice A0_3 l0_3.length c0_3), (.slice A0_4 l0_4.length c0_4)] 26 (0, 0))) ∧ Aside0 (Below w.heap.size w w'))
          case atStart => exact ⟨(Int.tmod t365 a0_0), (by first | rfl | (simp; done) | (simp [*]; done)), H', ⟨Nat.le_refl _⟩, ⟨by (with_reducible repeat (first | apply Kd.R_alloc | apply Kd.R_drewN | apply Kd.R_drew)); exact HO_5.out⟩, ⟨by (with_reducible repeat (first | refine blk_drewN ?_ _ | refine blk_drew ?_ | refine blk_alloc ?_ _)); exact BK364.out⟩, ⟨by repeat (first | (with_reducible first | exact HB.out | apply below_alloc | apply pw_below_drewN | apply below_drew1 | refine below_set ?_ GE364.out) | exact HB.out)⟩⟩
          case round =>
            clear H'
            try clear c1
            try clear p2
            try clear c4
            try clear c4b0
            try clear c6
            try clear c6b0
            try clear c6b1
            try clear hcz7_0
            try clear hcz7_1
            try clear hcz7_2
            try clear hcz7_3
            try clear hcz7_4
            try clear hfz7_0
            try clear hfz7_1
            try clear hfz7_2
            try clear hfz7_3
            try clear hfz7_4
            try clear p2
            obtain ⟨x7_2, rfl, HA, HK2, HO_5, BK364, HB⟩ := hrel
            cases gk with
            | zero => exact absurd HA.out (by simp [posserlaw04_Placed.l1])
            | succ k2 =>
              have H := HA.out
              clear HA
              simp only [posserlaw04_Placed.l1] at H
              replace H := Option.bind_eq_some_iff.mp H
              obtain ⟨t366, A80, H⟩ := H
              replace H : (if t366 = true then (if a0_0 = 0 then (none) else (posserlaw04_Placed.l1 k2 l1 x5_1 x6_1 (Int.tmod (wrap64 (x7_2 + 1)) a0_0) a0_0 a0_1 l0_2 l0_3 l0_4)) else (if x5_1.length < 17592186044416 then (posserlaw04_Placed.l0 k2 l1 (x5_1 ++ [x7_2]) (wrap64 (x6_1 + 1)) a0_0 a0_1 l0_2 l0_3 l0_4) else (none))) = some r := H
              have A8 := Aside0.mk A80
              clear A80
              by_cases c9 : t366 = true
              · subst c9
                have H1 : (if a0_0 = 0 then (none) else (posserlaw04_Placed.l1 k2 l1 x5_1 x6_1 (Int.tmod (wrap64 (x7_2 + 1)) a0_0) a0_0 a0_1 l0_2 l0_3 l0_4)) = some r := by rw [if_pos rfl] at H; exact H
                clear H
                have H := H1
                clear H1
                by_cases c10 : a0_0 = 0
                · rw [if_pos c10] at H
                  exact absurd H (by simp)
                · rw [if_neg c10] at H
                  have c10b0 : (a0_0 == 0) = false := beq_eq_false_iff_ne.mpr c10
                  have c10b1 : (a0_0 != 0) = true := bne_iff_ne.mpr c10
                  have H' := Aside0.mk H
                  clear H
                  obtain ⟨Ao11, co11, eo11⟩ := Kd.R_slice HO_5.out
                  subst eo11
                  go_wp2_with (first | (go_at_call 53; (with_reducible refine (posserlaw04_used.calls k2 _ _ x5_1 x7_2 true _ ?side1 ?side2 A8.out).mono ?_); (case side1 => repeat (first | exact (Kd.R_reads' HO_5.out).2.2 | (with_reducible refine Kd.C_alloc ?_ _) | (with_reducible refine Kd.C_drewN ?_ _) | (with_reducible refine Kd.C_drew ?_))); (case side2 => exact (Kd.R_reads' HO_5.out).2.1); rintro e w' ⟨rfl, ⟨nd, rfl⟩⟩; (try first | exact ⟨rfl, _, World.drewN_drewN _ _ _⟩ | exact ⟨rfl, _, Eq.trans (World.drewN_drewN _ _ _) (congrArg (World.drewN _) (Nat.add_assoc _ _ _))⟩); have hcz12_0 : wr.cell? ⟨gb364, 0, none⟩ = some (.int .i64 a0_0) := (blk_cell BK364.out 0).trans rfl; have hcz12_1 : wr.cell? ⟨gb364, 1, none⟩ = some (.int .i64 a0_1) := (blk_cell BK364.out 1).trans rfl; have hcz12_2 : wr.cell? ⟨gb364, 2, none⟩ = some (.slice A0_2 l0_2.length c0_2) := (blk_cell BK364.out 2).trans rfl; have hcz12_3 : wr.cell? ⟨gb364, 3, none⟩ = some (.slice A0_3 l0_3.length c0_3) := (blk_cell BK364.out 3).trans rfl; have hcz12_4 : wr.cell? ⟨gb364, 4, none⟩ = some (.slice A0_4 l0_4.length c0_4) := (blk_cell BK364.out 4).trans rfl; have hfz12_0 := blk_frozen BK364.out 0; have hfz12_1 := blk_frozen BK364.out 1; have hfz12_2 := blk_frozen BK364.out 2; have hfz12_3 := blk_frozen BK364.out 3; have hfz12_4 := blk_frozen BK364.out 4))
                  repeat (go_quiet (first | (go_at_call 53; (with_reducible refine (posserlaw04_used.calls k2 _ _ x5_1 x7_2 true _ ?side1 ?side2 A8.out).mono ?_); (case side1 => repeat (first | exact (Kd.R_reads' HO_5.out).2.2 | (with_reducible refine Kd.C_alloc ?_ _) | (with_reducible refine Kd.C_drewN ?_ _) | (with_reducible refine Kd.C_drew ?_))); (case side2 => exact (Kd.R_reads' HO_5.out).2.1); rintro e w' ⟨rfl, ⟨nd, rfl⟩⟩; (try first | exact ⟨rfl, _, World.drewN_drewN _ _ _⟩ | exact ⟨rfl, _, Eq.trans (World.drewN_drewN _ _ _) (congrArg (World.drewN _) (Nat.add_assoc _ _ _))⟩); have hcz12_0 : wr.cell? ⟨gb364, 0, none⟩ = some (.int .i64 a0_0) := (blk_cell BK364.out 0).trans rfl; have hcz12_1 : wr.cell? ⟨gb364, 1, none⟩ = some (.int .i64 a0_1) := (blk_cell BK364.out 1).trans rfl; have hcz12_2 : wr.cell? ⟨gb364, 2, none⟩ = some (.slice A0_2 l0_2.length c0_2) := (blk_cell BK364.out 2).trans rfl; have hcz12_3 : wr.cell? ⟨gb364, 3, none⟩ = some (.slice A0_3 l0_3.length c0_3) := (blk_cell BK364.out 3).trans rfl; have hcz12_4 : wr.cell? ⟨gb364, 4, none⟩ = some (.slice A0_4 l0_4.length c0_4) := (blk_cell BK364.out 4).trans rfl; have hfz12_0 := blk_frozen BK364.out 0; have hfz12_1 := blk_frozen BK364.out 1; have hfz12_2 := blk_frozen BK364.out 2; have hfz12_3 := blk_frozen BK364.out 3; have hfz12_4 := blk_frozen BK364.out 4)); try go_wp2_with (first | (go_at_call 53; (with_reducible refine (posserlaw04_used.calls k2 _ _ x5_1 x7_2 true _ ?side1 ?side2 A8.out).mono ?_); (case side1 => repeat (first | exact (Kd.R_reads' HO_5.out).2.2 | (with_reducible refine Kd.C_alloc ?_ _) | (with_reducible refine Kd.C_drewN ?_ _) | (with_reducible refine Kd.C_drew ?_))); (case side2 => exact (Kd.R_reads' HO_5.out).2.1); rintro e w' ⟨rfl, ⟨nd, rfl⟩⟩; (try first | exact ⟨rfl, _, World.drewN_drewN _ _ _⟩ | exact ⟨rfl, _, Eq.trans (World.drewN_drewN _ _ _) (congrArg (World.drewN _) (Nat.add_assoc _ _ _))⟩); have hcz12_0 : wr.cell? ⟨gb364, 0, none⟩ = some (.int .i64 a0_0) := (blk_cell BK364.out 0).trans rfl; have hcz12_1 : wr.cell? ⟨gb364, 1, none⟩ = some (.int .i64 a0_1) := (blk_cell BK364.out 1).trans rfl; have hcz12_2 : wr.cell? ⟨gb364, 2, none⟩ = some (.slice A0_2 l0_2.length c0_2) := (blk_cell BK364.out 2).trans rfl; have hcz12_3 : wr.cell? ⟨gb364, 3, none⟩ = some (.slice A0_3 l0_3.length c0_3) := (blk_cell BK364.out 3).trans rfl; have hcz12_4 : wr.cell? ⟨gb364, 4, none⟩ = some (.slice A0_4 l0_4.length c0_4) := (blk_cell BK364.out 4).trans rfl; have hfz12_0 := blk_frozen BK364.out 0; have hfz12_1 := blk_frozen BK364.out 1; have hfz12_2 := blk_frozen BK364.out 2; have hfz12_3 := blk_frozen BK364.out 3; have hfz12_4 := blk_frozen BK364.out 4)))
                  go_roundg k2
                  case measure => have := HK1.out; have := HK2.out; omega
                  case rel => exact ⟨(Int.tmod (wrap64 (x7_2 + 1)) a0_0), (by first | rfl | (simp; done) | (simp [*]; done)), H', ⟨by have := HK1.out; have := HK2.out; omega⟩, ⟨by (with_reducible repeat (first | apply Kd.R_alloc | apply Kd.R_drewN | apply Kd.R_drew)); exact HO_5.out⟩, ⟨by (with_reducible repeat (first | refine blk_drewN ?_ _ | refine blk_drew ?_ | refine blk_alloc ?_ _)); exact BK364.out⟩, ⟨by repeat (first | (with_reducible first | exact HB.out | apply below_alloc | apply pw_below_drewN | apply below_drew1 | refine below_set ?_ GE364.out) | exact HB.out)⟩⟩
              · replace c9 := Bool.eq_false_iff.mpr c9
                subst c9
                have H1 : (if x5_1.length < 17592186044416 then (posserlaw04_Placed.l0 k2 l1 (x5_1 ++ [x7_2]) (wrap64 (x6_1 + 1)) a0_0 a0_1 l0_2 l0_3 l0_4) else (none)) = some r := by rw [if_neg (show ¬ (false = true) by decide)] at H; exact H
                clear H
                have H := H1
                clear H1
                by_cases c13 : x5_1.length < 17592186044416
                · rw [if_pos c13] at H
                  have LMc13 := Aside0.mk c13
                  clear c13
                  obtain ⟨y367, hy367⟩ : ∃ y_ : List Int, y_ = (x5_1 ++ [x7_2]) := ⟨_, rfl⟩
                  replace H : (posserlaw04_Placed.l0 k2 l1 y367 (wrap64 (x6_1 + 1)) a0_0 a0_1 l0_2 l0_3 l0_4) = some r := by first | (rw [hy367]; with_reducible exact H) | (have H2_ := (Option.bind_some _ _).symm.trans H; rw [hy367]; with_reducible exact H2_) | (have H2_ := (Option.bind_some _ _).symm.trans H; with_reducible exact H2_) | with_reducible exact H | (rw [hy367]; exact H) | exact H
                  have Ny367 := Aside0.mk hy367
                  clear hy367
                  have H' := Aside0.mk H
                  clear H
                  obtain ⟨Ao14, co14, eo14⟩ := Kd.R_slice HO_5.out
                  subst eo14
                  go_wp2_with (first | (go_at_call 53; (with_reducible refine (posserlaw04_used.calls k2 _ _ x5_1 x7_2 false _ ?side1 ?side2 A8.out).mono ?_); (case side1 => repeat (first | exact (Kd.R_reads' HO_5.out).2.2 | (with_reducible refine Kd.C_alloc ?_ _) | (with_reducible refine Kd.C_drewN ?_ _) | (with_reducible refine Kd.C_drew ?_))); (case side2 => exact (Kd.R_reads' HO_5.out).2.1); rintro e w' ⟨rfl, ⟨nd, rfl⟩⟩; (try first | exact ⟨rfl, _, World.drewN_drewN _ _ _⟩ | exact ⟨rfl, _, Eq.trans (World.drewN_drewN _ _ _) (congrArg (World.drewN _) (Nat.add_assoc _ _ _))⟩)) | ((with_reducible refine gate_builtin (b := .append) (xs := #[.tmp 29, .tmp 31]) rfl ?_); at_builtin; refine Kd.R_append (Kd.int .i64) (w0 := w) w.heap.size rfl (.tmp 29) (.tmp 31) 23 3 (.int .i64 0) 8 rfl Try.underlying23 info3 rfl (by decide) (by omega) (.slice Ao14 x5_1.length co14) x5_1 x7_2 [.int .i64 x7_2] (fun _ => True) (fun _ => False) rfl rfl ?aP (fun _ hk => hk.elim) ?aF ?aO ?aB ?aS ?aL ?_; (case aP => exact rfl); (case aB => exact (by repeat (first | (with_reducible first | exact HB.out | apply below_alloc | apply pw_below_drewN | apply below_drew1 | refine below_set ?_ GE364.out) | exact HB.out))); (case aF => exact (fun _ _ => trivial)); (case aO => exact (by (with_reducible repeat (first | apply Kd.R_alloc | apply Kd.R_drewN | apply Kd.R_drew)); exact HO_5.out)); (case aS => exact (below_size (by repeat (first | (with_reducible first | exact HB.out | apply below_alloc | apply pw_below_drewN | apply below_drew1 | refine below_set ?_ GE364.out) | exact HB.out)))); (case aL => have := LMc13.out; omega); intro v368 w15 ho hb hg hat; rw [← Ny367.out] at ho; have n0_ := Aside0.mk (blk_grown (g := gb364) (o := .cells #[.int .i64 a0_0, .int .i64 a0_1, .slice A0_2 l0_2.length c0_2, .slice A0_3 l0_3.length c0_3, .slice A0_4 l0_4.length c0_4] 26 (0, 0)) (by (with_reducible repeat (first | refine blk_drewN ?_ _ | refine blk_drew ?_ | refine blk_alloc ?_ _)); exact BK364.out) hg (Kd.R_ne HO_5.out BK364.out (by decide))); have n1_ := Aside0.mk (hb); have n2_ := Aside0.mk (ho); clear BK364; clear HB; clear HO_5; have BK364 := n0_; have HB := n1_; have HO369 := n2_; clear n0_ n1_ n2_; clear ho hb hg hat))
                  repeat (go_quiet (first | (go_at_call 53; (with_reducible refine (posserlaw04_used.calls k2 _ _ x5_1 x7_2 false _ ?side1 ?side2 A8.out).mono ?_); (case side1 => repeat (first | exact (Kd.R_reads' HO_5.out).2.2 | (with_reducible refine Kd.C_alloc ?_ _) | (with_reducible refine Kd.C_drewN ?_ _) | (with_reducible refine Kd.C_drew ?_))); (case side2 => exact (Kd.R_reads' HO_5.out).2.1); rintro e w' ⟨rfl, ⟨nd, rfl⟩⟩; (try first | exact ⟨rfl, _, World.drewN_drewN _ _ _⟩ | exact ⟨rfl, _, Eq.trans (World.drewN_drewN _ _ _) (congrArg (World.drewN _) (Nat.add_assoc _ _ _))⟩)) | ((with_reducible refine gate_builtin (b := .append) (xs := #[.tmp 29, .tmp 31]) rfl ?_); at_builtin; refine Kd.R_append (Kd.int .i64) (w0 := w) w.heap.size rfl (.tmp 29) (.tmp 31) 23 3 (.int .i64 0) 8 rfl Try.underlying23 info3 rfl (by decide) (by omega) (.slice Ao14 x5_1.length co14) x5_1 x7_2 [.int .i64 x7_2] (fun _ => True) (fun _ => False) rfl rfl ?aP (fun _ hk => hk.elim) ?aF ?aO ?aB ?aS ?aL ?_; (case aP => exact rfl); (case aB => exact (by repeat (first | (with_reducible first | exact HB.out | apply below_alloc | apply pw_below_drewN | apply below_drew1 | refine below_set ?_ GE364.out) | exact HB.out))); (case aF => exact (fun _ _ => trivial)); (case aO => exact (by (with_reducible repeat (first | apply Kd.R_alloc | apply Kd.R_drewN | apply Kd.R_drew)); exact HO_5.out)); (case aS => exact (below_size (by repeat (first | (with_reducible first | exact HB.out | apply below_alloc | apply pw_below_drewN | apply below_drew1 | refine below_set ?_ GE364.out) | exact HB.out)))); (case aL => have := LMc13.out; omega); intro v368 w15 ho hb hg hat; rw [← Ny367.out] at ho; have n0_ := Aside0.mk (blk_grown (g := gb364) (o := .cells #[.int .i64 a0_0, .int .i64 a0_1, .slice A0_2 l0_2.length c0_2, .slice A0_3 l0_3.length c0_3, .slice A0_4 l0_4.length c0_4] 26 (0, 0)) (by (with_reducible repeat (first | refine blk_drewN ?_ _ | refine blk_drew ?_ | refine blk_alloc ?_ _)); exact BK364.out) hg (Kd.R_ne HO_5.out BK364.out (by decide))); have n1_ := Aside0.mk (hb); have n2_ := Aside0.mk (ho); clear BK364; clear HB; clear HO_5; have BK364 := n0_; have HB := n1_; have HO369 := n2_; clear n0_ n1_ n2_; clear ho hb hg hat)); try go_wp2_with (first | (go_at_call 53; (with_reducible refine (posserlaw04_used.calls k2 _ _ x5_1 x7_2 false _ ?side1 ?side2 A8.out).mono ?_); (case side1 => repeat (first | exact (Kd.R_reads' HO_5.out).2.2 | (with_reducible refine Kd.C_alloc ?_ _) | (with_reducible refine Kd.C_drewN ?_ _) | (with_reducible refine Kd.C_drew ?_))); (case side2 => exact (Kd.R_reads' HO_5.out).2.1); rintro e w' ⟨rfl, ⟨nd, rfl⟩⟩; (try first | exact ⟨rfl, _, World.drewN_drewN _ _ _⟩ | exact ⟨rfl, _, Eq.trans (World.drewN_drewN _ _ _) (congrArg (World.drewN _) (Nat.add_assoc _ _ _))⟩)) | ((with_reducible refine gate_builtin (b := .append) (xs := #[.tmp 29, .tmp 31]) rfl ?_); at_builtin; refine Kd.R_append (Kd.int .i64) (w0 := w) w.heap.size rfl (.tmp 29) (.tmp 31) 23 3 (.int .i64 0) 8 rfl Try.underlying23 info3 rfl (by decide) (by omega) (.slice Ao14 x5_1.length co14) x5_1 x7_2 [.int .i64 x7_2] (fun _ => True) (fun _ => False) rfl rfl ?aP (fun _ hk => hk.elim) ?aF ?aO ?aB ?aS ?aL ?_; (case aP => exact rfl); (case aB => exact (by repeat (first | (with_reducible first | exact HB.out | apply below_alloc | apply pw_below_drewN | apply below_drew1 | refine below_set ?_ GE364.out) | exact HB.out))); (case aF => exact (fun _ _ => trivial)); (case aO => exact (by (with_reducible repeat (first | apply Kd.R_alloc | apply Kd.R_drewN | apply Kd.R_drew)); exact HO_5.out)); (case aS => exact (below_size (by repeat (first | (with_reducible first | exact HB.out | apply below_alloc | apply pw_below_drewN | apply below_drew1 | refine below_set ?_ GE364.out) | exact HB.out)))); (case aL => have := LMc13.out; omega); intro v368 w15 ho hb hg hat; rw [← Ny367.out] at ho; have n0_ := Aside0.mk (blk_grown (g := gb364) (o := .cells #[.int .i64 a0_0, .int .i64 a0_1, .slice A0_2 l0_2.length c0_2, .slice A0_3 l0_3.length c0_3, .slice A0_4 l0_4.length c0_4] 26 (0, 0)) (by (with_reducible repeat (first | refine blk_drewN ?_ _ | refine blk_drew ?_ | refine blk_alloc ?_ _)); exact BK364.out) hg (Kd.R_ne HO_5.out BK364.out (by decide))); have n1_ := Aside0.mk (hb); have n2_ := Aside0.mk (ho); clear BK364; clear HB; clear HO_5; have BK364 := n0_; have HB := n1_; have HO369 := n2_; clear n0_ n1_ n2_; clear ho hb hg hat)))
                  go_roundg k2
                  case measure => have := HK1.out; have := HK2.out; omega
                  case rel => exact ⟨(y367), (wrap64 (x6_1 + 1)), (by first | rfl | (simp; done) | (simp [*]; done)), H', ⟨by have := HK1.out; have := HK2.out; omega⟩, ⟨by (with_reducible repeat (first | apply Kd.R_alloc | apply Kd.R_drewN | apply Kd.R_drew)); exact HO369.out⟩, ⟨by (with_reducible repeat (first | refine blk_drewN ?_ _ | refine blk_drew ?_ | refine blk_alloc ?_ _)); exact BK364.out⟩, ⟨by repeat (first | (with_reducible first | exact HB.out | apply below_alloc | apply pw_below_drewN | apply below_drew1 | refine below_set ?_ GE364.out) | exact HB.out)⟩⟩
                · rw [if_neg c13] at H
                  exact absurd H (by simp)
      · rw [if_neg c4] at H
        have c4b0 : decide (x6_1 < (l0_2.length : Int)) = false := decide_eq_false c4
        clear c4
        obtain rfl := Option.some.inj H
        have hcz16_0 : wr.cell? ⟨gb364, 0, none⟩ = some (.int .i64 a0_0) := (blk_cell BK364.out 0).trans rfl
        have hcz16_1 : wr.cell? ⟨gb364, 1, none⟩ = some (.int .i64 a0_1) := (blk_cell BK364.out 1).trans rfl
        have hcz16_2 : wr.cell? ⟨gb364, 2, none⟩ = some (.slice A0_2 l0_2.length c0_2) := (blk_cell BK364.out 2).trans rfl
        have hcz16_3 : wr.cell? ⟨gb364, 3, none⟩ = some (.slice A0_3 l0_3.length c0_3) := (blk_cell BK364.out 3).trans rfl
        have hcz16_4 : wr.cell? ⟨gb364, 4, none⟩ = some (.slice A0_4 l0_4.length c0_4) := (blk_cell BK364.out 4).trans rfl
        have hfz16_0 := blk_frozen BK364.out 0
        have hfz16_1 := blk_frozen BK364.out 1
        have hfz16_2 := blk_frozen BK364.out 2
        have hfz16_3 := blk_frozen BK364.out 3
        have hfz16_4 := blk_frozen BK364.out 4
        go_wp2
        repeat (go_quiet (fail); try go_wp2)
        go_ret
        exact ⟨_, by first | rfl | (simp [errW_none, errW_some] <;> rfl) | (simp [*, errW_none, errW_some] <;> rfl), by (with_reducible repeat (first | apply Kd.R_alloc | apply Kd.R_drewN | apply Kd.R_drew)); exact HO_5.out, by repeat (first | (with_reducible first | exact HB.out | apply below_alloc | apply pw_below_drewN | apply below_drew1 | refine below_set ?_ GE364.out) | exact HB.out)⟩
end Go.Proofs.Ytokhmghgghjmhaa.Q
namespace Go.Proofs.Ytokhmghgghjmhaa.Q
open Go.RowKit Go.Proofs.YtokhmghgghjmhaaW.PrintWords Go.Proofs.YtokhmghgghjmhaaW.PrintLast Go.Proofs.YtokhmghgghjmhaaW.PrintMore
set_option linter.unusedVariables false
/-- A list of so many numbers, each in a closet, no two alike. -/
structure Pl (cs : Int) (n : Nat) (p : List Int) : Prop where
  len : p.length = n
  inside : ∀ i : Nat, i < p.length → 0 ≤ rd p i ∧ rd p i ≤ cs - 1
  apart : ∀ i j : Nat, i < p.length → j < p.length → i ≠ j → rd p i ≠ rd p j
theorem Pl.of {cs : Int} {n : Nat} {p : List Int} (h : placeB (cs - 1) n p = true) : Pl cs n p := by
  obtain ⟨h1, h2⟩ := of_decide_eq_true h
  refine ⟨h1, fun i hi => ⟨(h2 i hi).1, (h2 i hi).2.1⟩, fun i j hi hj hne e => ?_⟩
  rcases Nat.lt_or_ge i j with hlt | hge
  · exact (contains_take p j (rd p j) (by omega)).1 (h2 j hj).2.2 i hlt e
  · exact (contains_take p i (rd p i) (by omega)).1 (h2 i hi).2.2 j (by omega) e.symm
end Go.Proofs.Ytokhmghgghjmhaa.Q
namespace Go.Proofs.Ytokhmghgghjmhaa.Q
open Go.RowKit Go.Proofs.YtokhmghgghjmhaaW.PrintWords Go.Proofs.YtokhmghgghjmhaaW.PrintLast Go.Proofs.YtokhmghgghjmhaaW.PrintMore
set_option linter.unusedVariables false
theorem bnd_tells (v : (Nat → Int) → Int) : ∀ T : List (Nat → Int), T ≠ [] → (∀ t ∈ T, (bnd v T).1 ≤ v t ∧ v t ≤ (bnd v T).2) ∧ (∃ t ∈ T, v t = (bnd v T).1) ∧ (∃ t ∈ T, v t = (bnd v T).2) := by
  have key : ∀ (r pre : List (Nat → Int)) (lo hi : Int), (∀ t ∈ pre, lo ≤ v t ∧ v t ≤ hi) → (∃ t ∈ pre, v t = lo) → (∃ t ∈ pre, v t = hi) →
      (∀ t ∈ pre ++ r, (r.foldl (fun p t => (mn p.1 (v t), mx p.2 (v t))) (lo, hi)).1 ≤ v t ∧ v t ≤ (r.foldl (fun p t => (mn p.1 (v t), mx p.2 (v t))) (lo, hi)).2) ∧
      (∃ t ∈ pre ++ r, v t = (r.foldl (fun p t => (mn p.1 (v t), mx p.2 (v t))) (lo, hi)).1) ∧ (∃ t ∈ pre ++ r, v t = (r.foldl (fun p t => (mn p.1 (v t), mx p.2 (v t))) (lo, hi)).2) := by
    intro r
    induction r with
    | nil => intro pre lo hi h1 h2 h3; simpa using ⟨h1, h2, h3⟩
    | cons a r ih =>
      intro pre lo hi h1 h2 h3
      have := ih (pre ++ [a]) (mn lo (v a)) (mx hi (v a)) (by
        intro t ht
        rcases List.mem_append.1 ht with h | h
        · have := h1 t h; unfold mn mx; constructor <;> split <;> omega
        · rw [List.mem_singleton] at h; subst h; unfold mn mx; constructor <;> split <;> omega)
        (by
          by_cases hc : v a < lo
          · exact ⟨a, by simp, by unfold mn; rw [if_pos hc]⟩
          · obtain ⟨t, ht, e⟩ := h2
            exact ⟨t, List.mem_append_left _ ht, by unfold mn; rw [if_neg hc]; exact e⟩)
        (by
          by_cases hc : hi < v a
          · exact ⟨a, by simp, by unfold mx; rw [if_pos hc]⟩
          · obtain ⟨t, ht, e⟩ := h3
            exact ⟨t, List.mem_append_left _ ht, by unfold mx; rw [if_neg hc]; exact e⟩)
      simpa using this
  intro T hT
  cases T with
  | nil => exact absurd rfl hT
  | cons a r =>
    have := key r [a] (v a) (v a) (fun t ht => by rw [List.mem_singleton] at ht; subst ht; omega) ⟨a, by simp, rfl⟩ ⟨a, by simp, rfl⟩
    exact this
end Go.Proofs.Ytokhmghgghjmhaa.Q
namespace Go.Proofs.Ytokhmghgghjmhaa.Q
open Go.RowKit Go.Proofs.YtokhmghgghjmhaaW.PrintWords Go.Proofs.YtokhmghgghjmhaaW.PrintLast Go.Proofs.YtokhmghgghjmhaaW.PrintMore
set_option linter.unusedVariables false
section
variable {cs cl : Int} {hs : List S68} {hung : List Int} {looks : List S84} {p : List Int}
/-- The first horse without a good minute. -/
def stF (cl : Int) (hs : List S139) (p : List Int) (T : List (Nat → Int)) : Nat → Nat → Int
  | 0, _ => -1
  | d + 1, i => if goodLo hs p T i > goodHi cl hs p T i then (i : Int) else stF cl hs p T d (i + 1)
theorem dn_st (cl : Int) (hs : List S139) (p : List Int) (T : List (Nat → Int)) : ∀ (d i : Nat) (n : Int), (dn cl hs p T d i n).2 = if stF cl hs p T d i < 0 then ((i + d : Nat) : Int) else stF cl hs p T d i
  | 0, i, n => by simp [dn, stF]
  | d + 1, i, n => by
    by_cases h : goodLo hs p T i > goodHi cl hs p T i
    · have e1 : stF cl hs p T (d + 1) i = (i : Int) := by simp only [stF]; rw [if_pos h]
      have e2 : dn cl hs p T (d + 1) i n = (0, (i : Int)) := by simp only [dn]; rw [if_pos h]
      rw [e1, e2, if_neg (by omega)]
    · have e1 : stF cl hs p T (d + 1) i = stF cl hs p T d (i + 1) := by simp only [stF]; rw [if_neg h]
      have e2 : dn cl hs p T (d + 1) i n = dn cl hs p T d (i + 1) (mx n (goodLo hs p T i)) := by simp only [dn]; rw [if_neg h]
      rw [e1, e2, dn_st cl hs p T d (i + 1), show i + 1 + d = i + (d + 1) from by omega]
theorem stF_bd (cl : Int) (hs : List S139) (p : List Int) (T : List (Nat → Int)) : ∀ (d i : Nat), stF cl hs p T d i < ((i + d : Nat) : Int)
  | 0, i => by simp only [stF]; omega
  | d + 1, i => by
    simp only [stF]
    split
    · omega
    · have := stF_bd cl hs p T d (i + 1); omega
/-- The program's answer about who is stuck, by the reference's. -/
theorem done_st (cl : Int) (hs : List S139) (p : List Int) (T : List (Nat → Int)) : ((doneR cl hs p T).2 = hs.length ↔ stF cl hs p T hs.length 0 < 0) ∧ (¬ stF cl hs p T hs.length 0 < 0 → (doneR cl hs p T).2 = stF cl hs p T hs.length 0) := by
  have h1 := dn_st cl hs p T hs.length 0 0
  have h2 := stF_bd cl hs p T hs.length 0
  unfold doneR
  rw [h1]
  constructor
  · split
    · rename_i h; simp [h]
    · rename_i h; constructor
      · intro e; omega
      · intro e; omega
  · intro h; rw [if_neg h]
theorem list_f (l : List Int) (hl : l.length ≤ 1000) : posserlaw04_list.f l = some l := by
  unfold posserlaw04_list.f
  simp only [Option.bind_some, List.nil_append, List.length_nil]
  rw [if_pos (by omega)]
theorem thin_f : posserlaw04_Thin.f cs cl hs hung looks = some (decide (hs.length ≤ 30 ∧ hung.length ≤ 30 ∧ looks.length ≤ 30)) := by
  unfold posserlaw04_Thin.f
  by_cases h1 : (hs.length : Int) > 30
  · rw [if_pos h1, decide_eq_false (by omega)]
  · rw [if_neg h1]
    by_cases h2 : (hung.length : Int) > 30
    · rw [if_pos h2, decide_eq_false (by omega)]
    · rw [if_neg h2]
      by_cases h3 : (looks.length : Int) > 30
      · rw [if_pos h3, decide_eq_false (by omega)]
      · rw [if_neg h3, decide_eq_true (by omega)]
end
end Go.Proofs.Ytokhmghgghjmhaa.Q
namespace Go.Proofs.Ytokhmghgghjmhaa.Q
open Go.RowKit Go.Proofs.YtokhmghgghjmhaaW.PrintWords Go.Proofs.YtokhmghgghjmhaaW.PrintLast Go.Proofs.YtokhmghgghjmhaaW.PrintMore
set_option linter.unusedVariables false
open Classical in
theorem nodup_len {α : Type} : ∀ (l m : List α), l.Nodup → (∀ x ∈ l, x ∈ m) → l.length ≤ m.length
  | [], m, _, _ => Nat.zero_le _
  | a :: r, m, hn, hs => by
    rw [List.nodup_cons] at hn
    have ha := hs a List.mem_cons_self
    have h := nodup_len r (m.erase a) hn.2 (fun x hx => (List.mem_erase_of_ne (fun e : x = a => hn.1 (by rw [← e]; exact hx))).2 (hs x (List.mem_cons_of_mem _ hx)))
    rw [List.length_erase_of_mem ha] at h
    have := List.length_pos_of_mem ha
    simp only [List.length_cons]
    omega
end Go.Proofs.Ytokhmghgghjmhaa.Q
namespace Go.Proofs.Ytokhmghgghjmhaa.Q
open Go.RowKit Go.Proofs.YtokhmghgghjmhaaW.PrintWords Go.Proofs.YtokhmghgghjmhaaW.PrintLast Go.Proofs.YtokhmghgghjmhaaW.PrintMore
set_option linter.unusedVariables false
/-- All placements with given first closets, in the order in which they are tried. -/
def lvs (cs : Int) : Nat → List Int → List (List Int)
  | 0, p => [p]
  | d + 1, p => (List.range cs.toNat).flatMap fun (i : Nat) => if p.contains (i : Int) then [] else lvs cs d (p ++ [(i : Int)])
theorem foldl_flat {α β γ : Type} (f : α → List β) (g : γ → β → γ) : ∀ (l : List α) (st : γ), (l.flatMap f).foldl g st = l.foldl (fun s x => (f x).foldl g s) st
  | [], _ => rfl
  | a :: l, st => by rw [List.flatMap_cons, List.foldl_append, List.foldl_cons, foldl_flat f g l]
theorem tryN_lvs (cs cl : Int) (hs : List S139) (ts : List (Nat → Int)) : ∀ (d : Nat) (p : List Int) (st : Option (List Int × Int)), tryN cs cl hs ts d p st = (lvs cs d p).foldl (fun s q => better cl hs ts q s) st
  | 0, p, st => rfl
  | d + 1, p, st => by
    simp only [tryN, lvs]
    rw [foldl_flat]
    congr 1
    funext s i
    split
    · rfl
    · exact tryN_lvs cs cl hs ts d _ s
theorem mem_lvs (cs : Int) : ∀ (d : Nat) (p q : List Int), q ∈ lvs cs d p ↔ ∃ s : List Int, q = p ++ s ∧ s.length = d ∧ (∀ x ∈ s, 0 ≤ x ∧ x ≤ cs - 1 ∧ x ∉ p) ∧ s.Nodup
  | 0, p, q => by
    simp only [lvs, List.mem_singleton]
    constructor
    · rintro rfl; exact ⟨[], by simp, rfl, by simp, List.nodup_nil⟩
    · rintro ⟨s, h, h0, _⟩
      obtain rfl := List.length_eq_zero_iff.1 h0
      rw [h, List.append_nil]
  | d + 1, p, q => by
    simp only [lvs, List.mem_flatMap, List.mem_range]
    constructor
    · rintro ⟨i, hi, hq⟩
      split at hq
      · cases hq
      · rename_i hc
        have hc : (i : Int) ∉ p := fun h => hc (List.contains_iff_mem.2 h)
        obtain ⟨s, rfl, hl, hx, hn⟩ := (mem_lvs cs d _ _).1 hq
        refine ⟨(i : Int) :: s, by simp, by simp [hl], ?_, ?_⟩
        · intro x hm
          rcases List.mem_cons.1 hm with rfl | hm
          · exact ⟨by omega, by omega, hc⟩
          · obtain ⟨h1, h2, h3⟩ := hx x hm
            exact ⟨h1, h2, fun h => h3 (List.mem_append_left _ h)⟩
        · refine List.nodup_cons.2 ⟨fun h => ?_, hn⟩
          exact (hx _ h).2.2 (List.mem_append_right _ (List.mem_singleton.2 rfl))
    · rintro ⟨s, rfl, hl, hx, hn⟩
      match s, hl with
      | a :: s, hl =>
        obtain ⟨h1, h2, h3⟩ := hx a (List.mem_cons_self ..)
        obtain ⟨h4, h5⟩ := List.nodup_cons.1 hn
        refine ⟨a.toNat, by omega, ?_⟩
        have e : ((a.toNat : Nat) : Int) = a := by omega
        rw [e, if_neg (fun h => h3 (List.contains_iff_mem.1 h))]
        refine (mem_lvs cs d _ _).2 ⟨s, by simp, by simpa using hl, fun x hm => ?_, h5⟩
        obtain ⟨g1, g2, g3⟩ := hx x (List.mem_cons_of_mem _ hm)
        refine ⟨g1, g2, fun h => ?_⟩
        rcases List.mem_append.1 h with h | h
        · exact g3 h
        · rw [List.mem_singleton.1 h] at hm; exact h4 hm
theorem rd_get (p : List Int) (i : Nat) (h : i < p.length) : rd p i = p[i] := by
  rw [rd_nn, List.getD_eq_getElem?_getD, List.getElem?_eq_getElem h]; rfl
theorem pl_iff {cs : Int} {n : Nat} {p : List Int} : Pl cs n p ↔ p.length = n ∧ (∀ x ∈ p, 0 ≤ x ∧ x ≤ cs - 1) ∧ p.Nodup := by
  constructor
  · intro P
    refine ⟨P.len, fun x hx => ?_, ?_⟩
    · obtain ⟨i, hi, rfl⟩ := List.getElem_of_mem hx
      rw [← rd_get p i hi]
      exact P.inside i hi
    · refine List.pairwise_iff_getElem.2 fun i j hi hj hij => ?_
      rw [← rd_get p i hi, ← rd_get p j hj]
      exact P.apart i j hi hj (by omega)
  · rintro ⟨h1, h2, h3⟩
    have h4 := List.pairwise_iff_getElem.1 h3
    refine ⟨h1, fun i hi => ?_, fun i j hi hj hne => ?_⟩
    · rw [rd_get p i hi]; exact h2 _ (List.getElem_mem hi)
    · rw [rd_get p i hi, rd_get p j hj]
      rcases Nat.lt_or_ge i j with h | h
      · exact h4 i j hi hj h
      · exact fun e => h4 j i hj hi (by omega) e.symm
theorem lvs_pl (cs : Int) (n : Nat) (q : List Int) : q ∈ lvs cs n [] ↔ Pl cs n q := by
  rw [mem_lvs, pl_iff]
  constructor
  · rintro ⟨s, rfl, h1, h2, h3⟩
    exact ⟨h1, fun x hx => ⟨(h2 x hx).1, (h2 x hx).2.1⟩, h3⟩
  · rintro ⟨h1, h2, h3⟩
    exact ⟨q, rfl, h1, fun x hx => ⟨(h2 x hx).1, (h2 x hx).2, by simp⟩, h3⟩
/-- One list is before another one, at some place. -/
def lexlt (a b : List Int) : Prop := ∃ k : Nat, k < a.length ∧ k < b.length ∧ (∀ j : Nat, j < k → rd a j = rd b j) ∧ rd a k < rd b k
theorem rd_app1 (p s : List Int) (j : Nat) (h : j < p.length) : rd (p ++ s) j = rd p j := by
  rw [rd_nn, rd_nn, List.getD_eq_getElem?_getD, List.getD_eq_getElem?_getD, List.getElem?_append_left h]
theorem rd_app2 (p s : List Int) (x : Int) : rd (p ++ x :: s) p.length = x := by
  rw [rd_nn, List.getD_eq_getElem?_getD, List.getElem?_append_right (Nat.le_refl _)]; simp
theorem lvs_sorted (cs : Int) : ∀ (d : Nat) (p : List Int), (lvs cs d p).Pairwise lexlt
  | 0, p => List.pairwise_singleton _ _
  | d + 1, p => by
    simp only [lvs]
    refine List.pairwise_flatMap.2 ⟨fun i _ => ?_, ?_⟩
    · split
      · exact List.Pairwise.nil
      · exact lvs_sorted cs d _
    · refine List.Pairwise.imp ?_ List.pairwise_lt_range
      intro i j hij x hx y hy
      split at hx
      · cases hx
      split at hy
      · cases hy
      obtain ⟨s, rfl, _⟩ := (mem_lvs cs d _ _).1 hx
      obtain ⟨t, rfl, _⟩ := (mem_lvs cs d _ _).1 hy
      rw [List.append_assoc, List.append_assoc, List.singleton_append, List.singleton_append]
      refine ⟨p.length, by simp, by simp, fun m hm => ?_, ?_⟩
      · rw [rd_app1 _ _ _ hm, rd_app1 _ _ _ hm]
      · rw [rd_app2, rd_app2]; omega
section
variable (cl : Int) (hs : List S139) (ts : List (Nat → Int))
def okP (p : List Int) : Prop := (doneR cl hs p ts).2 = hs.length
def vP (p : List Int) : Int := (doneR cl hs p ts).1
/-- What is found among some placements. -/
def Found (pre : List (List Int)) (st : Option (List Int × Int)) : Prop :=
  (st = none → ∀ q ∈ pre, ¬ okP cl hs ts q) ∧ ∀ x, st = some x → x.1 ∈ pre ∧ okP cl hs ts x.1 ∧ x.2 = vP cl hs ts x.1 ∧ ∀ q ∈ pre, okP cl hs ts q → x.2 < vP cl hs ts q ∨ (x.2 = vP cl hs ts q ∧ (q = x.1 ∨ lexlt x.1 q))
theorem found_all : ∀ (l pre : List (List Int)) (st : Option (List Int × Int)), (pre ++ l).Pairwise lexlt → Found cl hs ts pre st → Found cl hs ts (pre ++ l) (l.foldl (fun s q => better cl hs ts q s) st)
  | [], pre, st, _, h => by rw [List.append_nil]; exact h
  | q :: l, pre, st, hs', h => by
    have e : pre ++ q :: l = (pre ++ [q]) ++ l := by simp
    rw [List.foldl_cons, e]
    refine found_all l (pre ++ [q]) _ (by rw [← e]; exact hs') ?_
    have hlt : ∀ x ∈ pre, lexlt x q := fun x hx => (List.pairwise_append.1 hs').2.2 x hx q (List.mem_cons_self ..)
    unfold better
    split
    · rename_i hc
      refine And.intro (fun h => by cases h) (fun x hx => ?_)
      obtain rfl := Option.some.inj hx
      refine ⟨List.mem_append_right _ (List.mem_singleton.2 rfl), hc.1, rfl, fun q' hq' hok => ?_⟩
      rcases List.mem_append.1 hq' with hm | hm
      · cases st with
        | none => exact absurd hok (h.1 rfl q' hm)
        | some y =>
          have h1 := (h.2 y rfl).2.2.2 q' hm hok
          have h2 : vP cl hs ts q < y.2 := by
            rcases hc.2 with h2 | h2
            · cases h2
            · exact h2
          left
          show vP cl hs ts q < vP cl hs ts q'
          rcases h1 with h1 | h1 <;> omega
      · rw [List.mem_singleton.1 hm]; exact .inr ⟨rfl, .inl rfl⟩
    · rename_i hc
      cases st with
      | none =>
        refine ⟨fun _ q' hq' => ?_, fun x hx => by cases hx⟩
        rcases List.mem_append.1 hq' with hm | hm
        · exact h.1 rfl q' hm
        · rw [List.mem_singleton.1 hm]; exact fun hok => hc ⟨hok, .inl rfl⟩
      | some y =>
        refine ⟨(fun h => nomatch h), fun x hx => ?_⟩
        obtain rfl := Option.some.inj hx
        obtain ⟨g1, g2, g3, g4⟩ := h.2 y rfl
        refine ⟨List.mem_append_left _ g1, g2, g3, fun q' hq' hok => ?_⟩
        rcases List.mem_append.1 hq' with hm | hm
        · exact g4 q' hm hok
        · rw [List.mem_singleton.1 hm] at hok ⊢
          have h2 : ¬ vP cl hs ts q < y.2 := fun h => hc ⟨hok, .inr h⟩
          rcases Int.lt_or_eq_of_le (Int.not_lt.1 h2) with h3 | h3
          · exact .inl h3
          · exact .inr ⟨h3, .inr (hlt _ g1)⟩
/-- The best placement: none, or the first of those that are done in the least minute. -/
theorem best_tells (cs : Int) (n : Nat) : Found cl hs ts (lvs cs n []) (tryN cs cl hs ts n [] none) := by
  rw [tryN_lvs]
  have := found_all cl hs ts (lvs cs n []) [] none (by rw [List.nil_append]; exact lvs_sorted cs n []) (And.intro (fun _ q hq => by cases hq) (fun x hx => by cases hx))
  rwa [List.nil_append] at this
theorem stF_neg (p : List Int) : ∀ (d i : Nat), stF cl hs p ts d i < 0 ↔ ∀ j : Nat, i ≤ j → j < i + d → goodLo hs p ts j ≤ goodHi cl hs p ts j
  | 0, i => by
    simp only [stF]
    exact ⟨fun _ j h1 h2 => by omega, fun _ => by decide⟩
  | d + 1, i => by
    simp only [stF]
    split
    · rename_i h
      constructor
      · intro h2; omega
      · intro h2; have := h2 i (Nat.le_refl _) (by omega); omega
    · rename_i h
      rw [stF_neg p d (i + 1)]
      constructor
      · intro h2 j h3 h4
        by_cases e : j = i
        · subst e; omega
        · exact h2 j (by omega) (by omega)
      · exact fun h2 j h3 h4 => h2 j (by omega) (by omega)
theorem stF_first (p : List Int) : ∀ (d i : Nat), ¬ stF cl hs p ts d i < 0 → ∃ m : Nat, m < i + d ∧ stF cl hs p ts d i = m ∧ (∀ j : Nat, i ≤ j → j < m → goodLo hs p ts j ≤ goodHi cl hs p ts j) ∧ ¬ goodLo hs p ts m ≤ goodHi cl hs p ts m
  | 0, i, h => by simp only [stF] at h; exact absurd (by decide) h
  | d + 1, i, h => by
    simp only [stF] at h ⊢
    by_cases hg : goodLo hs p ts i > goodHi cl hs p ts i
    · rw [if_pos hg]
      exact ⟨i, by omega, rfl, fun j h1 h2 => by omega, by omega⟩
    · rw [if_neg hg] at h ⊢
      obtain ⟨m, h1, h2, h3, h4⟩ := stF_first p d (i + 1) h
      refine ⟨m, by omega, h2, fun j h5 h6 => ?_, h4⟩
      by_cases e : j = i
      · subst e; omega
      · exact h3 j (by omega) h6
theorem okP_iff (p : List Int) : okP cl hs ts p ↔ ∀ j : Nat, j < hs.length → goodLo hs p ts j ≤ goodHi cl hs p ts j := by
  unfold okP
  rw [(done_st cl hs p ts).1, stF_neg]
  exact ⟨fun h j hj => h j (Nat.zero_le _) (by omega), fun h j _ hj => h j (by omega)⟩
theorem dn_le (p : List Int) (t : Int) : ∀ (d i : Nat) (n : Int), (∀ j : Nat, i ≤ j → j < i + d → goodLo hs p ts j ≤ goodHi cl hs p ts j) → ((dn cl hs p ts d i n).1 ≤ t ↔ n ≤ t ∧ ∀ j : Nat, i ≤ j → j < i + d → goodLo hs p ts j ≤ t)
  | 0, i, n, h => by
    simp only [dn]
    exact ⟨fun h => ⟨h, fun j h1 h2 => by omega⟩, fun h => h.1⟩
  | d + 1, i, n, h => by
    have h0 := h i (Nat.le_refl _) (by omega)
    simp only [dn]
    rw [if_neg (by omega), dn_le p t d (i + 1) _ (fun j h1 h2 => h j (by omega) (by omega))]
    have hm : mx n (goodLo hs p ts i) ≤ t ↔ n ≤ t ∧ goodLo hs p ts i ≤ t := by unfold mx; split <;> omega
    rw [hm]
    constructor
    · rintro ⟨⟨h1, h2⟩, h3⟩
      refine ⟨h1, fun j h4 h5 => ?_⟩
      by_cases e : j = i
      · subst e; exact h2
      · exact h3 j (by omega) (by omega)
    · rintro ⟨h1, h2⟩
      exact ⟨⟨h1, h2 i (Nat.le_refl _) (by omega)⟩, fun j h3 h4 => h2 j (by omega) (by omega)⟩
theorem vP_le (p : List Int) (t : Int) (h : okP cl hs ts p) : vP cl hs ts p ≤ t ↔ 0 ≤ t ∧ ∀ j : Nat, j < hs.length → goodLo hs p ts j ≤ t := by
  have h1 := (okP_iff cl hs ts p).1 h
  unfold vP doneR
  rw [dn_le cl hs ts p t hs.length 0 0 (fun j _ h2 => h1 j (by omega))]
  exact ⟨fun h => ⟨h.1, fun j h2 => h.2 j (Nat.zero_le _) (by omega)⟩, fun h => ⟨h.1, fun j _ h2 => h.2 j (by omega)⟩⟩
end
theorem ask_zero {cs cl : Int} {hs : List S139} {hung : List Int} {looks : List S140} {b : Bool} : askCode cs cl hs hung looks b = 0 ↔ checkB cs cl hs hung looks = 0 ∧ b = true ∧ truthsT hs hung looks ≠ [] := by
  unfold askCode
  constructor
  · intro h
    split at h
    · rename_i h1; exact absurd h h1
    rename_i h1
    split at h
    · omega
    rename_i h2
    split at h
    · omega
    rename_i h3
    exact ⟨Decidable.not_not.1 h1, by simpa using h2, h3⟩
  · rintro ⟨h1, h2, h3⟩
    rw [if_neg (by simp [h1]), if_neg (by simp [h2]), if_neg h3]
/-- Best of one and of another: the second is done no later. -/
theorem best_code {cs cl : Int} {hs : List S139} {hung : List Int} {looks : List S140} (h : checkB cs cl hs hung looks = 0) (hT : truthsT hs hung looks ≠ []) :
    ((bestR cs cl hs hung looks).2.2 = 10 ∧ (bestR cs cl hs hung looks).2.1 = 0 ∧ (bestR cs cl hs hung looks).1 = [] ∧ ∀ q, Pl cs hs.length q → ¬ okP cl hs (truthsT hs hung looks) q) ∨
    ((bestR cs cl hs hung looks).2.2 = 0 ∧ Pl cs hs.length (bestR cs cl hs hung looks).1 ∧ okP cl hs (truthsT hs hung looks) (bestR cs cl hs hung looks).1 ∧ (bestR cs cl hs hung looks).2.1 = vP cl hs (truthsT hs hung looks) (bestR cs cl hs hung looks).1 ∧
      ∀ q, Pl cs hs.length q → okP cl hs (truthsT hs hung looks) q → (bestR cs cl hs hung looks).2.1 < vP cl hs (truthsT hs hung looks) q ∨ ((bestR cs cl hs hung looks).2.1 = vP cl hs (truthsT hs hung looks) q ∧ (q = (bestR cs cl hs hung looks).1 ∨ lexlt (bestR cs cl hs hung looks).1 q))) := by
  have hF := best_tells cl hs (truthsT hs hung looks) cs hs.length
  have hz : askCode cs cl hs hung looks true = 0 := ask_zero.2 ⟨h, rfl, hT⟩
  unfold bestR
  rw [if_neg (by simp [hz])]
  cases e : tryN cs cl hs (truthsT hs hung looks) hs.length [] none with
  | none => exact .inl ⟨rfl, rfl, rfl, fun q hq => hF.1 e q ((lvs_pl cs hs.length q).2 hq)⟩
  | some x =>
    obtain ⟨h1, h2, h3, h4⟩ := hF.2 x e
    exact .inr ⟨rfl, (lvs_pl _ _ _).1 h1, h2, h3, fun q hq hok => h4 q ((lvs_pl _ _ _).2 hq) hok⟩
theorem lo_le {hs : List S139} {p : List Int} {T : List (Nat → Int)} (hT : T ≠ []) (i : Nat) (t : Int) : goodLo hs p T i ≤ t ↔ ∀ d ∈ T, mins hs p d i ≤ t := by
  obtain ⟨h1, _, d, hd, h3⟩ := bnd_tells (qv false hs p i) T hT
  unfold goodLo
  constructor
  · intro h e he; exact Int.le_trans (h1 e he).2 h
  · intro h; rw [← h3]; exact h d hd
theorem le_hi {cl : Int} {hs : List S139} {p : List Int} {T : List (Nat → Int)} (hT : T ≠ []) (i : Nat) (t : Int) : t ≤ goodHi cl hs p T i ↔ t ≤ cl ∧ ∀ d ∈ T, t ≤ mins hs p d i + (rd_T139 hs i).f2 := by
  obtain ⟨h1, ⟨d, hd, h3⟩, _⟩ := bnd_tells (qv true hs p i) T hT
  have hm : t ≤ goodHi cl hs p T i ↔ t ≤ cl ∧ t ≤ (bnd (qv true hs p i) T).1 := by unfold goodHi mn; split <;> omega
  rw [hm]
  constructor
  · rintro ⟨h, h2⟩; exact ⟨h, fun e he => Int.le_trans h2 (h1 e he).1⟩
  · rintro ⟨h, h2⟩; refine ⟨h, ?_⟩; rw [← h3]; exact h2 d hd
theorem lo_at {hs : List S139} {p : List Int} {T : List (Nat → Int)} (hT : T ≠ []) (i : Nat) : ∃ d ∈ T, mins hs p d i = goodLo hs p T i := by
  obtain ⟨_, _, d, hd, h3⟩ := bnd_tells (qv false hs p i) T hT
  exact ⟨d, hd, h3⟩
/-- What the law's 'good' says. -/
def goodL (cs cl : Int) (hs : List S139) (hung : List Int) (looks : List S140) (p : List Int) (h : Int) : Int × Int × Bool :=
  if (goodR cs cl hs hung looks p h).2.2 = 10 then (1, 0, true)
  else ((goodR cs cl hs hung looks p h).1, (goodR cs cl hs hung looks p h).2.1, decide ((goodR cs cl hs hung looks p h).2.2 = 0 ∧ (goodR cs cl hs hung looks p h).1 ≤ (goodR cs cl hs hung looks p h).2.1 ∧ 0 ≤ (goodR cs cl hs hung looks p h).1 ∧ (goodR cs cl hs hung looks p h).2.1 ≤ cl))
theorem fine_pl {cs cl : Int} {hs : List S139} {hung : List Int} {looks : List S140} {p : List Int} (V : Valid cs cl hs hung looks) : fineB cs hs p = true ↔ Pl cs hs.length p := by
  have h1 := V.c1
  have h4 := V.c4
  unfold fineB
  rw [show wrap64 (cs - 1) = cs - 1 from by unfold wrap64; omega]
  constructor
  · exact Pl.of
  · intro P
    refine decide_eq_true ⟨P.len, fun i hi => ⟨(P.inside i hi).1, (P.inside i hi).2, ?_⟩⟩
    exact (contains_take p i (rd p i) (by omega)).2 fun j hj => P.apart j i (by omega) hi (by omega)
theorem horse_ok {n h : Nat} (hh : h < n) (hn : n ≤ 1000) : horseB n (h : Int) = true := decide_eq_true ⟨by omega, by unfold wrap64; omega⟩
theorem lo_pos2 {cs cl : Int} {hs : List S139} {hung : List Int} {looks : List S140} {p : List Int} (V : Valid cs cl hs hung looks) (P : Pl cs hs.length p) (hT : truthsT hs hung looks ≠ []) (i : Nat) : 0 ≤ goodLo hs p (truthsT hs hung looks) i := by
  obtain ⟨t, ht, e⟩ := lo_at (p := p) hT i
  rw [← e]
  exact (mins_bd V.wet p t P.len V.n4 (fun i => dries_bd V (truths_mem ht).1 i) i).1
theorem goodR_ok {cs cl : Int} {hs : List S139} {hung : List Int} {looks : List S140} {p : List Int} (hc : checkB cs cl hs hung looks = 0) (P : Pl cs hs.length p) (hT : truthsT hs hung looks ≠ []) (i : Nat) (hi : i < hs.length) :
    goodR cs cl hs hung looks p i = if goodLo hs p (truthsT hs hung looks) i > goodHi cl hs p (truthsT hs hung looks) i then (0, 0, 10) else (goodLo hs p (truthsT hs hung looks) i, goodHi cl hs p (truthsT hs hung looks) i, 0) := by
  have V := valid_of hc
  have h4 := V.n4
  have hz : askCode cs cl hs hung looks (fineB cs hs p && horseB hs.length (i : Int)) = 0 := ask_zero.2 ⟨hc, by rw [(fine_pl V).2 P, horse_ok hi (by omega)]; rfl, hT⟩
  unfold goodR
  rw [if_neg (by simp [hz]), Int.toNat_natCast]
theorem goodL_ok {cs cl : Int} {hs : List S139} {hung : List Int} {looks : List S140} {p : List Int} (hc : checkB cs cl hs hung looks = 0) (P : Pl cs hs.length p) (hT : truthsT hs hung looks ≠ []) (i : Nat) (hi : i < hs.length) :
    goodL cs cl hs hung looks p i = if goodLo hs p (truthsT hs hung looks) i ≤ goodHi cl hs p (truthsT hs hung looks) i then (goodLo hs p (truthsT hs hung looks) i, goodHi cl hs p (truthsT hs hung looks) i, true) else (1, 0, true) := by
  have V := valid_of hc
  have hlo := lo_pos2 V P hT i
  have hhi := ((le_hi (cl := cl) (hs := hs) (p := p) hT i _).1 (Int.le_refl _)).1
  have e := goodR_ok hc P hT i hi
  by_cases h : goodLo hs p (truthsT hs hung looks) i ≤ goodHi cl hs p (truthsT hs hung looks) i
  · rw [if_neg (Int.not_lt.2 h)] at e
    unfold goodL
    rw [e, if_pos h]
    show (if (0 : Int) = 10 then _ else _) = _
    rw [if_neg (by decide), decide_eq_true ⟨rfl, h, hlo, hhi⟩]
  · rw [if_pos (Int.not_le.1 h)] at e
    unfold goodL
    rw [e, if_neg h]
    rfl
/-- Are all good minutes of all horses kept? -/
def keptB (cs cl : Int) (hs : List S139) (hung : List Int) (looks : List S140) (cs' cl' : Int) (hs' : List S139) (hung' : List Int) (looks' : List S140) (p : List Int) (i : Nat) : Bool :=
  (goodL cs cl hs hung looks p i).2.2 && (goodL cs' cl' hs' hung' looks' p i).2.2 &&
    !(decide ((goodL cs cl hs hung looks p i).1 ≤ (goodL cs cl hs hung looks p i).2.1) && (decide ((goodL cs' cl' hs' hung' looks' p i).1 > (goodL cs cl hs hung looks p i).1) || decide ((goodL cs' cl' hs' hung' looks' p i).2.1 < (goodL cs cl hs hung looks p i).2.1)))
theorem kept_ok {cs cl cs' cl' : Int} {hs hs' : List S139} {hung hung' : List Int} {looks looks' : List S140} {p : List Int} (hc : checkB cs cl hs hung looks = 0) (P : Pl cs hs.length p) (hT : truthsT hs hung looks ≠ [])
    (hc' : checkB cs' cl' hs' hung' looks' = 0) (P' : Pl cs' hs'.length p) (hT' : truthsT hs' hung' looks' ≠ []) (i : Nat) (hi : i < hs.length) (hi' : i < hs'.length)
    (h1 : goodLo hs p (truthsT hs hung looks) i ≤ goodHi cl hs p (truthsT hs hung looks) i → goodLo hs' p (truthsT hs' hung' looks') i ≤ goodLo hs p (truthsT hs hung looks) i ∧ goodHi cl hs p (truthsT hs hung looks) i ≤ goodHi cl' hs' p (truthsT hs' hung' looks') i) :
    keptB cs cl hs hung looks cs' cl' hs' hung' looks' p i = true := by
  unfold keptB
  rw [goodL_ok hc P hT i hi, goodL_ok hc' P' hT' i hi']
  by_cases h : goodLo hs p (truthsT hs hung looks) i ≤ goodHi cl hs p (truthsT hs hung looks) i
  · obtain ⟨h2, h3⟩ := h1 h
    rw [if_pos h, if_pos (by omega)]
    simp [h]
    omega
  · rw [if_neg h]
    split <;> simp
/-- Is the second best placement done no later than the first? -/
def soonB (a b : List Int × Int × Int) : Bool := if a.2.2 = 0 then decide (b.2.2 = 0 ∧ b.2.1 ≤ a.2.1) else decide (a.2.2 = 10 ∧ (b.2.2 = 0 ∨ b.2.2 = a.2.2))
theorem soon_ok {cs cl cs' cl' : Int} {hs hs' : List S139} {hung hung' : List Int} {looks looks' : List S140} (hc : checkB cs cl hs hung looks = 0) (hT : truthsT hs hung looks ≠ [])
    (hc' : checkB cs' cl' hs' hung' looks' = 0) (hT' : truthsT hs' hung' looks' ≠ [])
    (h : ∀ q, Pl cs hs.length q → okP cl hs (truthsT hs hung looks) q → ∃ q', Pl cs' hs'.length q' ∧ okP cl' hs' (truthsT hs' hung' looks') q' ∧ vP cl' hs' (truthsT hs' hung' looks') q' ≤ vP cl hs (truthsT hs hung looks) q) :
    soonB (bestR cs cl hs hung looks) (bestR cs' cl' hs' hung' looks') = true := by
  unfold soonB
  rcases best_code hc hT with ⟨h1, h2, h3, h4⟩ | ⟨h1, h2, h3, h4, h5⟩
  · rw [if_neg (by omega)]
    rcases best_code hc' hT' with ⟨g1, g2, g3, g4⟩ | ⟨g1, g2, g3, g4, g5⟩
    · exact decide_eq_true ⟨h1, .inr (by omega)⟩
    · exact decide_eq_true ⟨h1, .inl g1⟩
  · rw [if_pos h1]
    obtain ⟨q', a1, a2, a3⟩ := h _ h2 h3
    rcases best_code hc' hT' with ⟨g1, g2, g3, g4⟩ | ⟨g1, g2, g3, g4, g5⟩
    · exact absurd a2 (g4 q' a1)
    · refine decide_eq_true ⟨g1, ?_⟩
      rcases g5 q' a1 a2 with h6 | ⟨h6, _⟩ <;> omega
end Go.Proofs.Ytokhmghgghjmhaa.Q
namespace Go.Proofs.Ytokhmghgghjmhaa.Q
open Go.RowKit Go.Proofs.YtokhmghgghjmhaaW.PrintWords Go.Proofs.YtokhmghgghjmhaaW.PrintLast Go.Proofs.YtokhmghgghjmhaaW.PrintMore
set_option linter.unusedVariables false
/-- Words, as1 they lie in memory: each from 0 to 65535. -/
def Words (l : List Int) : Prop := ∀ i : Nat, 0 ≤ rd l i ∧ rd l i ≤ 65535
def wordF (l : List Int) (n : Nat) : Int := if l.length = 0 then 0 else rd l (n % l.length : Nat)
theorem word_f {l : List Int} (W : Words l) (n : Nat) : posserlaw04_word.f l n = some (wordF l n) ∧ 0 ≤ wordF l n ∧ wordF l n ≤ 65535 := by
  unfold posserlaw04_word.f wordF
  by_cases h : l.length = 0
  · rw [if_pos (by omega), if_pos h]; exact ⟨rfl, by omega, by omega⟩
  · have hm : Int.tmod (n : Int) (l.length : Int) = ((n % l.length : Nat) : Int) := by rw [Int.tmod_eq_emod_of_nonneg (by omega)]; omega
    have hlt := Nat.mod_lt n (show 0 < l.length by omega)
    have hw := W (n % l.length)
    rw [if_neg (by omega), if_neg h, hm, if_pos (by omega), if_pos (by omega), show wrap64 (rd l ((n % l.length : Nat) : Int)) = rd l ((n % l.length : Nat) : Int) from by unfold wrap64; omega]
    exact ⟨rfl, hw⟩
theorem used_l0 (l : List Int) (x : Int) (hl : l.length ≤ 1000) : ∀ (d i k : Nat), i + d = l.length → d < k → posserlaw04_used.l0 k l x i = some ((l.drop i).contains x)
  | 0, i, k, h, hk => by
    obtain ⟨k, rfl⟩ : ∃ m, k = m + 1 := ⟨k - 1, by omega⟩
    simp only [posserlaw04_used.l0]
    rw [if_neg (by omega), List.drop_of_length_le (by omega)]
    rfl
  | d + 1, i, k, h, hk => by
    obtain ⟨k, rfl⟩ : ∃ m, k = m + 1 := ⟨k - 1, by omega⟩
    have ih := used_l0 l x hl d (i + 1) k (by omega) (by omega)
    simp only [posserlaw04_used.l0]
    rw [if_pos (by omega), if_pos (by omega), List.drop_eq_getElem_cons (show i < l.length by omega), ← rd_get l i (by omega), List.contains_cons]
    by_cases e : rd l (i : Int) = x
    · rw [if_pos e, e, beq_self_eq_true]; rfl
    · rw [if_neg e, show wrap64 ((i : Int) + 1) = ((i + 1 : Nat) : Int) from by unfold wrap64; omega, ih, beq_eq_false_iff_ne.2 (fun h => e h.symm), Bool.false_or]
theorem used_f (l : List Int) (x : Int) (hl : l.length ≤ 1000) (k : Nat) (hk : 1000 < k) : posserlaw04_used.f k l x = some (l.contains x) := by
  have := used_l0 l x hl l.length 0 k (by omega) (by omega)
  rwa [List.drop_zero] at this
section
variable {cs cl : Int} {hs : List S68} {hung : List Int} {looks : List S84} {words : List Int}
/-- The next numbers are tried till one is free. -/
theorem placed_l1 (hcs : 1 ≤ cs ∧ cs ≤ 4) (out : List Int) (ho : out.length ≤ 1000) (i : Nat) : ∀ (j k : Nat) (x : Int), 0 ≤ x → x < cs → ((x + j) % cs) ∉ out → (∀ m : Nat, m < j → ((x + m) % cs) ∈ out) → 1001 + j < k →
    posserlaw04_Placed.l1 k words out i x cs cl hs hung looks = posserlaw04_Placed.l0 (k - j - 1) words (out ++ [(x + j) % cs]) ((i : Int) + 1) cs cl hs hung looks ∨ ¬ ((i : Int) + 1 = wrap64 ((i : Int) + 1))
  | 0, k, x, h0, h1, hn, _, hk => by
    obtain ⟨k, rfl⟩ : ∃ m, k = m + 1 := ⟨k - 1, by omega⟩
    by_cases hw : (i : Int) + 1 = wrap64 ((i : Int) + 1)
    · left
      have e : (x + ((0 : Nat) : Int)) % cs = x := by rw [Int.emod_eq_of_lt (by omega) (by omega)]; omega
      rw [e] at hn ⊢
      simp only [posserlaw04_Placed.l1]
      rw [used_f out x ho k (by omega)]
      simp only [Option.bind_some]
      rw [if_neg (by rw [List.contains_iff_mem]; exact hn), if_pos (by omega), ← hw]
      rfl
    · exact .inr hw
  | j + 1, k, x, h0, h1, hn, hall, hk => by
    obtain ⟨k, rfl⟩ : ∃ m, k = m + 1 := ⟨k - 1, by omega⟩
    have hx : x ∈ out := by
      have := hall 0 (by omega)
      rwa [show (x + ((0 : Nat) : Int)) % cs = x from by rw [Int.emod_eq_of_lt (by omega) (by omega)]; omega] at this
    have et : Int.tmod (wrap64 (x + 1)) cs = (x + 1) % cs := by
      rw [show wrap64 (x + 1) = x + 1 from by unfold wrap64; omega, Int.tmod_eq_emod_of_nonneg (by omega)]
    have hb := Int.emod_nonneg (x + 1) (show cs ≠ 0 by omega)
    have hc := Int.emod_lt_of_pos (x + 1) (show 0 < cs by omega)
    have hmod : ∀ m : Nat, ((x + 1) % cs + m) % cs = (x + (m + 1 : Nat)) % cs := fun m => by rw [Int.emod_add_emod]; congr 1; omega
    have ih := placed_l1 hcs out ho i j k ((x + 1) % cs) hb hc (by rw [hmod j]; exact hn) (fun m hm => by rw [hmod m]; exact hall (m + 1) (by omega)) (by omega)
    rw [hmod j] at ih
    simp only [posserlaw04_Placed.l1]
    rw [used_f out x ho k (by omega)]
    simp only [Option.bind_some]
    rw [if_pos (List.contains_iff_mem.2 hx), if_neg (by omega), et]
    rcases ih with ih | ih
    · left; rw [ih, show k + 1 - (j + 1) - 1 = k - j - 1 from by omega]
    · exact .inr ih
/-- Some number is free, if fewer are taken than there are. -/
theorem free_one (hcs : 1 ≤ cs ∧ cs ≤ 4) (out : List Int) (hlen : (out.length : Int) < cs) (x : Int) (h0 : 0 ≤ x) (h1 : x < cs) : ∃ j : Nat, j < 4 ∧ ((x + j) % cs) ∉ out ∧ ∀ m : Nat, m < j → ((x + m) % cs) ∈ out := by
  have hex : ∃ j : Nat, j < cs.toNat ∧ ((x + j) % cs) ∉ out := by
    refine Decidable.byContradiction fun hno => ?_
    have hall : ∀ j : Nat, j < cs.toNat → ((x + j) % cs) ∈ out := fun j hj => Decidable.byContradiction fun h => hno ⟨j, hj, h⟩
    have hsub : ∀ y ∈ (List.range cs.toNat).map (fun (n : Nat) => (n : Int)), y ∈ out := by
      intro y hy
      obtain ⟨n, hn, rfl⟩ := List.mem_map.1 hy
      have hn := List.mem_range.1 hn
      by_cases h : x ≤ n
      · have := hall ((n : Int) - x).toNat (by omega)
        rwa [show (x + (((n : Int) - x).toNat : Nat)) % cs = n from by rw [show x + (((n : Int) - x).toNat : Nat) = n by omega, Int.emod_eq_of_lt (by omega) (by omega)]] at this
      · have := hall ((n : Int) - x + cs).toNat (by omega)
        rwa [show (x + (((n : Int) - x + cs).toNat : Nat)) % cs = n from by rw [show x + (((n : Int) - x + cs).toNat : Nat) = n + cs by omega, Int.add_emod_right, Int.emod_eq_of_lt (by omega) (by omega)]] at this
    have hnd : ((List.range cs.toNat).map (fun (n : Nat) => (n : Int))).Nodup := by
      refine List.Pairwise.map _ (fun a b hab => ?_) List.nodup_range
      show (a : Int) ≠ b
      omega
    have := nodup_len _ _ hnd hsub
    rw [List.length_map, List.length_range] at this
    omega
  obtain ⟨n, hn, hfree⟩ := hex
  have : ∀ n : Nat, ((x + n) % cs) ∉ out → ∃ j : Nat, j ≤ n ∧ ((x + j) % cs) ∉ out ∧ ∀ m : Nat, m < j → ((x + m) % cs) ∈ out := by
    intro n
    induction n using Nat.strongRecOn with
    | ind n ih =>
      intro h
      by_cases hm : ∃ m : Nat, m < n ∧ ((x + m) % cs) ∉ out
      · obtain ⟨m, hm1, hm2⟩ := hm
        obtain ⟨j, h1, h2⟩ := ih m hm1 hm2
        exact ⟨j, by omega, h2⟩
      · exact ⟨n, Nat.le_refl _, h, fun m hm1 => Decidable.byContradiction fun h => hm ⟨m, hm1, h⟩⟩
  obtain ⟨j, h1, h2, h3⟩ := this n hfree
  exact ⟨j, by omega, h2, h3⟩
theorem placed_l0 (W : Words words) (hcs : 1 ≤ cs ∧ cs ≤ 4) (hn : (hs.length : Int) ≤ cs) : ∀ (d i k : Nat) (out : List Int), i + d = hs.length → out.length = i → (∀ x ∈ out, 0 ≤ x ∧ x ≤ cs - 1) → out.Nodup → 2000 + 10 * d ≤ k →
    ∃ p, posserlaw04_Placed.l0 k words out i cs cl hs hung looks = some p ∧ Pl cs hs.length p
  | 0, i, k, out, h, hl, hb, hd, hk => by
    obtain ⟨k, rfl⟩ : ∃ m, k = m + 1 := ⟨k - 1, by omega⟩
    refine ⟨out, ?_, pl_iff.2 ⟨by omega, hb, hd⟩⟩
    simp only [posserlaw04_Placed.l0]
    rw [if_neg (by omega)]
  | d + 1, i, k, out, h, hl, hb, hd, hk => by
    obtain ⟨k, rfl⟩ : ∃ m, k = m + 1 := ⟨k - 1, by omega⟩
    obtain ⟨w1, w2, w3⟩ := word_f W i
    have et : Int.tmod (wordF words i) cs = wordF words i % cs := Int.tmod_eq_emod_of_nonneg w2
    have x0 := Int.emod_nonneg (wordF words i) (show cs ≠ 0 by omega)
    have x1 := Int.emod_lt_of_pos (wordF words i) (show 0 < cs by omega)
    obtain ⟨j, j4, jn, jm⟩ := free_one hcs out (by omega) _ x0 x1
    have h1 := placed_l1 (cl := cl) (hs := hs) (hung := hung) (looks := looks) (words := words) hcs out (by omega) i j k _ x0 x1 jn jm (by omega)
    have y0 := Int.emod_nonneg (wordF words i % cs + j) (show cs ≠ 0 by omega)
    have y1 := Int.emod_lt_of_pos (wordF words i % cs + j) (show 0 < cs by omega)
    obtain ⟨p, hp, hP⟩ := placed_l0 W hcs hn d (i + 1) (k - j - 1) (out ++ [(wordF words i % cs + j) % cs]) (by omega) (by simp [hl]) (fun x hx => by
      rcases List.mem_append.1 hx with hx | hx
      · exact hb x hx
      · rw [List.mem_singleton.1 hx]; omega) (List.nodup_append.2 ⟨hd, List.pairwise_singleton _ _, fun a ha b hb' e => by rw [List.mem_singleton.1 hb'] at e; rw [e] at ha; exact jn ha⟩) (by omega)
    refine ⟨p, ?_, hP⟩
    simp only [posserlaw04_Placed.l0]
    rw [if_pos (by omega), w1]
    simp only [Option.bind_some]
    rw [if_neg (by omega), et]
    rcases h1 with h1 | h1
    · rw [h1, show (i : Int) + 1 = ((i + 1 : Nat) : Int) from by omega]; exact hp
    · exact absurd (by unfold wrap64; omega) h1
/-- There are no more horses than closets. -/
theorem horses_le (V : Valid cs cl (hs.map toH) hung (looks.map toL)) : (hs.length : Int) ≤ cs := by
  have P : Pl cs hung.length hung := ⟨rfl, V.inside, fun i j hi hj hne e => by
    rcases Nat.lt_or_ge j i with h | h
    · exact V.apart i j hi h e
    · exact V.apart j i hj (by omega) e.symm⟩
  obtain ⟨h1, h2, h3⟩ := pl_iff.1 P
  have hc := V.c1
  have hp := V.place
  rw [List.length_map] at hp
  have := nodup_len hung ((List.range cs.toNat).map (fun (n : Nat) => (n : Int))) h3 (fun x hx => List.mem_map.2 ⟨x.toNat, List.mem_range.2 (by have := h2 x hx; omega), by have := h2 x hx; omega⟩)
  rw [List.length_map, List.length_range] at this
  omega
/-- A placement by words is one. -/
theorem placedw_f (W : Words words) (V : Valid cs cl (hs.map toH) hung (looks.map toL)) (k : Nat) (hk : 3000 ≤ k) : ∃ p, posserlaw04_Placed.f k cs cl hs hung looks words = some p ∧ Pl cs hs.length p := by
  have h4 := V.n4
  rw [List.length_map] at h4
  unfold posserlaw04_Placed.f
  exact placed_l0 W ⟨V.c1, V.c4⟩ (horses_le V) hs.length 0 k [] (by omega) rfl (fun x hx => by cases hx) List.nodup_nil (by omega)
/-- Are closets ready for a statement? -/
theorem ready_f : posserlaw04_ready.f cs cl hs hung looks = some (decide ((hs.length ≤ 30 ∧ hung.length ≤ 30 ∧ looks.length ≤ 30) ∧ checkB cs cl (hs.map toH) hung (looks.map toL) = 0)) := by
  unfold posserlaw04_ready.f
  rw [thin_f]
  simp only [Option.bind_some]
  by_cases ht : hs.length ≤ 30 ∧ hung.length ≤ 30 ∧ looks.length ≤ 30
  · rw [if_pos (decide_eq_true ht)]
    unfold posserlaw04_fault.f posserref04_Fault.f
    simp only [Option.bind_some, faultB]
    congr 1
    by_cases hc : checkB cs cl (hs.map toH) hung (looks.map toL) = 0
    · rw [decide_eq_true ⟨ht, hc⟩]; exact beq_iff_eq.2 hc
    · rw [decide_eq_false (fun h => hc h.2)]; exact beq_eq_false_iff_ne.2 hc
  · rw [decide_eq_false ht, decide_eq_false (fun h => ht h.1)]; rfl
end
end Go.Proofs.Ytokhmghgghjmhaa.Q
namespace Go.Proofs.Ytokhmghgghjmhaa.Q
open Go.RowKit Go.Proofs.YtokhmghgghjmhaaW.PrintWords Go.Proofs.YtokhmghgghjmhaaW.PrintLast Go.Proofs.YtokhmghgghjmhaaW.PrintMore
set_option linter.unusedVariables false
set_option linter.unusedSimpArgs false
/-- The reference's closets, as1 they lie in memory. -/
structure Ref (w : World) (A2 A3 A4 : Option Addr) (c2 c3 c4 : Nat) (hs : List S68) (hung : List Int) (looks : List S84) : Prop where
  h2 : Kd.C k68 w A2 hs.length hs
  l2 : hs.length ≤ c2
  h3 : Kd.C (Kd.int .i64) w A3 hung.length hung
  l3 : hung.length ≤ c3
  h4 : Kd.C k84 w A4 looks.length looks
  l4 : looks.length ≤ c4
theorem Ref.later {w w1 : World} {A2 A3 A4 : Option Addr} {c2 c3 c4 : Nat} {hs : List S68} {hung : List Int} {looks : List S84} (m : Ref w A2 A3 A4 c2 c3 c4 hs hung looks) (hb : Below w.heap.size w w1) : Ref w1 A2 A3 A4 c2 c3 c4 hs hung looks :=
  ⟨Kd.C_below m.h2 hb, m.l2, Kd.C_below m.h3 hb, m.l3, Kd.C_below m.h4 hb, m.l4⟩
/-- The program's closets that are made of them. -/
def Cls (w : World) (A2 A3 A4 : Option Addr) (c2 c3 c4 n2 n3 n4 : Nat) (hs : List S68) (hung : List Int) (looks : List S84) : Prop :=
  n2 = (hs.map toH).length ∧ n3 = hung.length ∧ n4 = (looks.map toL).length ∧ Mem w A2 A3 A4 c2 c3 c4 (hs.map toH) hung (looks.map toL)
theorem Cls.later {w w' : World} {A2 A3 A4 : Option Addr} {c2 c3 c4 n2 n3 n4 : Nat} {hs : List S68} {hung : List Int} {looks : List S84} (h : Cls w A2 A3 A4 c2 c3 c4 n2 n3 n4 hs hung looks) (hb : Below w.heap.size w w') : Cls w' A2 A3 A4 c2 c3 c4 n2 n3 n4 hs hung looks := ⟨h.1, h.2.1, h.2.2.1, h.2.2.2.later hb⟩
section
variable {cs cl : Int} {A2 A3 A4 : Option Addr} {c2 c3 c4 : Nat} {hs : List S68} {hung : List Int} {looks : List S84} {w : World}
theorem toH_snoc (hs : List S68) (x : Int) (h0 : 0 ≤ x) (h1 : x < (hs.length : Int)) : (hs.take x.toNat).map toH ++ [toH (rd_T68 hs x)] = (hs.take (x + 1).toNat).map toH := by
  obtain ⟨i, rfl⟩ : ∃ i : Nat, x = i := ⟨x.toNat, by omega⟩
  rw [show ((i : Int) + 1).toNat = i + 1 from by omega, Int.toNat_natCast, List.take_succ_eq_append_getElem (by omega), List.map_append]
  unfold rd_T68
  rw [Int.toNat_natCast, List.getD_eq_getElem?_getD, List.getElem?_eq_getElem (by omega)]
  rfl
theorem toL_snoc (looks : List S84) (x : Int) (h0 : 0 ≤ x) (h1 : x < (looks.length : Int)) : (looks.take x.toNat).map toL ++ [toL (rd_T84 looks x)] = (looks.take (x + 1).toNat).map toL := by
  obtain ⟨i, rfl⟩ : ∃ i : Nat, x = i := ⟨x.toNat, by omega⟩
  rw [show ((i : Int) + 1).toNat = i + 1 from by omega, Int.toNat_natCast, List.take_succ_eq_append_getElem (by omega), List.map_append]
  unfold rd_T84
  rw [Int.toNat_natCast, List.getD_eq_getElem?_getD, List.getElem?_eq_getElem (by omega)]
  rfl
set_option maxHeartbeats 8000000 in
set_option maxRecDepth 100000 in
/-- The program's closets of the reference's: function 26. -/
theorem refcl_q (M : Ref w A2 A3 A4 c2 c3 c4 hs hung looks) (h1 : hs.length ≤ 1000) (h2 : hung.length ≤ 1000) (h3 : looks.length ≤ 1000) :
    Calls Try.prog 26 #[.agg #[.int .i64 cs, .int .i64 cl, .slice A2 hs.length c2, .slice A3 hung.length c3, .slice A4 looks.length c4]] w
      fun e w' => ∃ A2 A3 A4 c2 c3 c4 n2 n3 n4, e = .returned (.agg #[.int .i64 cs, .int .i64 cl, .slice A2 n2 c2, .slice A3 n3 c3, .slice A4 n4 c4]) ∧ Cls w' A2 A3 A4 c2 c3 c4 n2 n3 n4 hs hung looks ∧ Below w.heap.size w w' := by
  have hu26 := Try.underlying26
  have hu35 := Try.underlying35
  have hu66 := Try.underlying66
  have hu139 := Try.underlying139
  have hu140 := Try.underlying140
  have HM := Aside0.mk M
  have HN1 := Aside0.mk h1
  have HN2 := Aside0.mk h2
  have HN3 := Aside0.mk h3
  clear M h1 h2 h3
  obtain ⟨W0, hW0⟩ : ∃ W0, w.alloc (.cells #[.int .i64 cs, .int .i64 cl, .slice A2 hs.length c2, .slice A3 hung.length c3, .slice A4 looks.length c4] 26) = W0 := ⟨_, rfl⟩
  obtain ⟨W1, hW1⟩ : ∃ W1, W0.alloc (.cells #[.int .i64 0, .int .i64 0, .slice none 0 0, .slice none 0 0, .slice none 0 0] 35) = W1 := ⟨_, rfl⟩
  have HB := Aside0.mk (show Below w.heap.size w W1 from below_step (hW0 ▸ below_alloc (Below.refl _ _) _) (hW1 ▸ below_alloc (Below.refl _ _) _))
  have HK : Aside0 (W1.heap[w.heap.size]? = some (.cells #[.int .i64 cs, .int .i64 cl, .slice A2 hs.length c2, .slice A3 hung.length c3, .slice A4 looks.length c4] 26 (0, 0))) := ⟨blk_below (show W0.heap[w.heap.size]? = _ from hW0 ▸ blk_new w _) (hW1 ▸ below_alloc (Below.refl _ _) _)⟩
  have HR : Aside0 (W1.heap[W0.heap.size]? = some (.cells #[.int .i64 0, .int .i64 0, .slice none 0 0, .slice none 0 0, .slice none 0 0] 35 (0, 0))) := ⟨hW1 ▸ blk_new W0 _⟩
  have HG2 := Aside0.mk (blk_lt HR.out)
  have HG1 := Aside0.mk (show w.heap.size < W0.heap.size from blk_lt (show W0.heap[w.heap.size]? = _ from hW0 ▸ blk_new w _))
  generalize hgz2 : W0.heap.size = g2 at HR HG2 HG1
  have b0 : W1.cell? ⟨w.heap.size, 0, none⟩ = some (.int .i64 cs) := (blk_cell HK.out 0).trans rfl
  have b1 : W1.cell? ⟨w.heap.size, 1, none⟩ = some (.int .i64 cl) := (blk_cell HK.out 1).trans rfl
  have b3 : W1.cell? ⟨w.heap.size, 3, none⟩ = some (.slice A3 hung.length c3) := (blk_cell HK.out 3).trans rfl
  go_enter Try.func26, Try.ntmps26
  go_wp2_with (first | rw [hW0] | rw [hW1, hgz2] | rw [hW1])
  try rw [hW0]
  try rw [hW1]
  try rw [hgz2]
  clear hW0 hW1 hgz2
  refine wp_region_held_drew (S := fun W' => Below W1.heap.size W1 W' ∧ W'.cell? ⟨w.heap.size, 0, none⟩ = some (.int .i64 cs) ∧ W'.cell? ⟨w.heap.size, 1, none⟩ = some (.int .i64 cl) ∧ W'.cell? ⟨w.heap.size, 3, none⟩ = some (.slice A3 hung.length c3)) (by kernel_rfl) ?hS (fun hHeld => ?_)
  case hS => exact ⟨below_drew (Below.refl _ _), b0, b1, b3⟩
  generalize W1.drew = wx at hHeld ⊢
  refine tkT 0 (some 6) (v := ?_) rfl rfl (.inl ⟨by rfl, ?_⟩) ?_
  rotate_left
  · (intro w hSw; (try dsimp only at hSw); go_simp; with_reducible rfl)
  try simp only [pS]
  refine tkT 1 (some 7) (v := ?_) rfl rfl (.inl ⟨by rfl, ?_⟩) ?_
  rotate_left
  · (intro w hSw; (try dsimp only at hSw); go_simp; with_reducible rfl)
  try simp only [pS]
  refine tkT 2 (some 8) (v := ?_) rfl rfl (.inl ⟨by rfl, ?_⟩) ?_
  rotate_left
  · (intro w hSw; (try dsimp only at hSw); go_simp; with_reducible rfl)
  try simp only [pS]
  refine tkT 3 (some 9) (v := ?_) rfl rfl (.inl ⟨by rfl, ?_⟩) ?_
  rotate_left
  · (intro w hSw; (try dsimp only at hSw); go_simp; with_reducible rfl)
  try simp only [pS]
  refine tkT 4 (some 10) (v := ?_) rfl rfl (.inl ⟨by rfl, ?_⟩) ?_
  rotate_left
  · (intro w hSw; (try dsimp only at hSw); go_simp; with_reducible rfl)
  try simp only [pS]
  refine tkT 5 (some 11) (v := ?_) rfl rfl (.inl ⟨by rfl, ?_⟩) ?_
  rotate_left
  · (intro w hSw; (try dsimp only at hSw); go_simp; with_reducible rfl)
  try simp only [pS]
  refine wpAnyH_ready (rs := [6, 8]) (by kernel_rfl) (by simp) ?_
  refine AllReadyH.cons (o := { dst := some 12, op := Op.call { callee := Callee.value (Operand.func 27), args := #[Operand.tmp 11], argTypes := #[23] }, type := 23, pos := "law.go:17", after := #[{ on := 5, ground := Ground.data }], guard := none }) rfl (fun K hK => ?_) (AllReadyH.cons (o := { dst := some 3, op := Op.alloc 35, type := 0, pos := "law.go:17", after := #[], guard := none }) rfl (fun K hK => ?_) (AllReadyH.nil))
  focus
    go_simp
    refine (posserlaw04_list.calls A3 c3 hung hung _ (HM.out.later (below_step HB.out hHeld.1)).h3 HM.out.l3 (list_f hung HN2.out)).mono ?_
    rintro e wq ⟨v3, rfl, hr3, hbx⟩
    have HO3 := Aside0.mk (Kd.R_lower hr3 (below_size (below_step HB.out hHeld.1)))
    clear hr3
    obtain ⟨B3, d3, e3⟩ := Kd.R_slice HO3.out
    subst e3
    replace hbx := Aside0.mk hbx
    try replace HG := Aside0.mk (blk_below HG.out hbx.out)
    go_wp2_with fail
    refine hK.out _ _ ?_ ?_
    · ((try dsimp only); exact ⟨below_step hHeld.1 hbx.out, later (below_step hHeld.1 hbx.out) b0, later (below_step hHeld.1 hbx.out) b1, later (below_step hHeld.1 hbx.out) b3⟩)
    try clear hHeld
    intro hHeld
    clear hK K
    try simp only [pS]
    refine tkT 7 (some 13) (v := ?_) rfl rfl (.inl ⟨by rfl, ?_⟩) ?_
    rotate_left
    · (intro w hSw; (try dsimp only at hSw); go_simp; with_reducible rfl)
    try simp only [pS]
    refine wpAnyH_ready (rs := [8]) (by kernel_rfl) (by simp) ?_
    refine AllReadyH.cons (o := { dst := some 3, op := Op.alloc 35, type := 0, pos := "law.go:17", after := #[], guard := none }) rfl (fun K hK => ?_) (AllReadyH.nil)
    go_simp
    have hg9 := Aside0.mk (show W1.heap.size ≤ wq.heap.size from hHeld.1.size)
    have hbx := Aside0.mk (below_alloc (Below.refl wq.heap.size wq) (.cells #[.int .i64 0, .int .i64 0, .slice none 0 0, .slice none 0 0, .slice none 0 0] 35))
    have HG := Aside0.mk (blk_new wq (.cells #[.int .i64 0, .int .i64 0, .slice none 0 0, .slice none 0 0, .slice none 0 0] 35))
    generalize hgz : wq.heap.size = g9 at hg9 HG ⊢
    generalize wq.alloc (.cells #[.int .i64 0, .int .i64 0, .slice none 0 0, .slice none 0 0, .slice none 0 0] 35) = wz at hbx HG ⊢
    try replace HO3 := Aside0.mk (Kd.R_below HO3.out hbx.out)
    refine hK.out _ _ ?_ ?_
    · ((try dsimp only); exact ⟨below_step hHeld.1 hbx.out, later (below_step hHeld.1 hbx.out) b0, later (below_step hHeld.1 hbx.out) b1, later (below_step hHeld.1 hbx.out) b3⟩)
    try clear hHeld
    intro hHeld
    clear hK K
    try simp only [pS]
    refine wpAnyH_ready (rs := [9]) (by kernel_rfl) (by simp) ?_
    refine AllReadyH.cons (o := { dst := none, op := Op.store 35 (Operand.tmp 3) (Operand.tmp 13), type := 0, pos := "law.go:17", after := #[{ on := 8, ground := Ground.data }, { on := 7, ground := Ground.data }, { on := 6, ground := Ground.chain }, { on := 0, ground := Ground.phase }, { on := 1, ground := Ground.phase }, { on := 2, ground := Ground.phase }, { on := 3, ground := Ground.phase }, { on := 4, ground := Ground.phase }, { on := 5, ground := Ground.phase }, { on := 6, ground := Ground.phase }, { on := 7, ground := Ground.phase }, { on := 8, ground := Ground.phase }], guard := none }) rfl (fun K hK => ?_) (AllReadyH.nil)
    have rz9 := blk_lt HG.out
    have rf0_ := blk_frozen HG.out 0
    have rf1_ := blk_frozen HG.out 1
    have rf2_ := blk_frozen HG.out 2
    have rf3_ := blk_frozen HG.out 3
    have rf4_ := blk_frozen HG.out 4
    have r0_ := (blk_cell HG.out 0).trans (show _ = some (.int .i64 0) from rfl)
    have r1_ := (blk_cell HG.out 1).trans (show _ = some (.int .i64 0) from rfl)
    have r2_ := (blk_cell HG.out 2).trans (show _ = some (.slice none 0 0) from rfl)
    have r3_ := (blk_cell HG.out 3).trans (show _ = some (.slice none 0 0) from rfl)
    have r4_ := (blk_cell HG.out 4).trans (show _ = some (.slice none 0 0) from rfl)
    go_simp
    have HS1 := Aside0.mk (blk_put (blk_put (blk_put (blk_put (blk_put HG.out 0 (.int .i64 cs) rfl) 1 (.int .i64 cl) rfl) 2 (.slice none 0 0) rfl) 3 (.slice B3 hung.length d3) rfl) 4 (.slice none 0 0) rfl)
    have HS2 := Aside0.mk (show Below W1.heap.size W1 _ from (((((hHeld.1.setCell (p := ⟨g9, 0, none⟩) hg9.out (.int .i64 cs)).setCell (p := ⟨g9, 1, none⟩) hg9.out (.int .i64 cl)).setCell (p := ⟨g9, 2, none⟩) hg9.out (.slice none 0 0)).setCell (p := ⟨g9, 3, none⟩) hg9.out (.slice B3 hung.length d3)).setCell (p := ⟨g9, 4, none⟩) hg9.out (.slice none 0 0)))
    have HO4 := Aside0.mk (Kd.R_mono (ok' := fun _ => True) (Kd.R_far (p := ⟨g9, 4, none⟩) (Kd.R_far (p := ⟨g9, 3, none⟩) (Kd.R_far (p := ⟨g9, 2, none⟩) (Kd.R_far (p := ⟨g9, 1, none⟩) (Kd.R_far (p := ⟨g9, 0, none⟩) (Kd.R_types HO3.out HG.out (by decide)) (fun _ hk => hk.2) (.int .i64 cs)) (fun _ hk => hk.2) (.int .i64 cl)) (fun _ hk => hk.2) (.slice none 0 0)) (fun _ hk => hk.2) (.slice B3 hung.length d3)) (fun _ hk => hk.2) (.slice none 0 0)) (fun _ _ => trivial))
    clear HO3 HG rz9 rf0_ rf1_ rf2_ rf3_ rf4_ r0_ r1_ r2_ r3_ r4_
    first | (generalize (((((wz.setCell ⟨g9, 0, none⟩ (.int .i64 cs)).setCell ⟨g9, 1, none⟩ (.int .i64 cl)).setCell ⟨g9, 2, none⟩ (.slice none 0 0)).setCell ⟨g9, 3, none⟩ (.slice B3 hung.length d3)).setCell ⟨g9, 4, none⟩ (.slice none 0 0)) = wn at HS1 HS2 HO4 ⊢) | (generalize (((((wq.setCell ⟨g9, 0, none⟩ (.int .i64 cs)).setCell ⟨g9, 1, none⟩ (.int .i64 cl)).setCell ⟨g9, 2, none⟩ (.slice none 0 0)).setCell ⟨g9, 3, none⟩ (.slice B3 hung.length d3)).setCell ⟨g9, 4, none⟩ (.slice none 0 0)) = wn at HS1 HS2 HO4 ⊢)
    refine hK.out _ _ ?_ ?_
    · ((try dsimp only); exact ⟨HS2.out, later HS2.out b0, later HS2.out b1, later HS2.out b3⟩)
    try clear hHeld
    intro hHeld
    clear hK K
    try simp only [pS]
    refine wpAnyH_done (by kernel_rfl) ?_ _
  rotate_left 1
  focus
    go_simp
    have hg9 := Aside0.mk (show W1.heap.size ≤ wx.heap.size from hHeld.1.size)
    have hbx := Aside0.mk (below_alloc (Below.refl wx.heap.size wx) (.cells #[.int .i64 0, .int .i64 0, .slice none 0 0, .slice none 0 0, .slice none 0 0] 35))
    have HG := Aside0.mk (blk_new wx (.cells #[.int .i64 0, .int .i64 0, .slice none 0 0, .slice none 0 0, .slice none 0 0] 35))
    generalize hgz : wx.heap.size = g9 at hg9 HG ⊢
    generalize wx.alloc (.cells #[.int .i64 0, .int .i64 0, .slice none 0 0, .slice none 0 0, .slice none 0 0] 35) = wz at hbx HG ⊢
    try replace HO3 := Aside0.mk (Kd.R_below HO3.out hbx.out)
    refine hK.out _ _ ?_ ?_
    · ((try dsimp only); exact ⟨below_step hHeld.1 hbx.out, later (below_step hHeld.1 hbx.out) b0, later (below_step hHeld.1 hbx.out) b1, later (below_step hHeld.1 hbx.out) b3⟩)
    try clear hHeld
    intro hHeld
    clear hK K
    try simp only [pS]
    refine wpAnyH_ready (rs := [6]) (by kernel_rfl) (by simp) ?_
    refine AllReadyH.cons (o := { dst := some 12, op := Op.call { callee := Callee.value (Operand.func 27), args := #[Operand.tmp 11], argTypes := #[23] }, type := 23, pos := "law.go:17", after := #[{ on := 5, ground := Ground.data }], guard := none }) rfl (fun K hK => ?_) (AllReadyH.nil)
    go_simp
    refine (posserlaw04_list.calls A3 c3 hung hung _ (HM.out.later (below_step HB.out hHeld.1)).h3 HM.out.l3 (list_f hung HN2.out)).mono ?_
    rintro e wq ⟨v3, rfl, hr3, hbx⟩
    have HO3 := Aside0.mk (Kd.R_lower hr3 (below_size (below_step HB.out hHeld.1)))
    clear hr3
    obtain ⟨B3, d3, e3⟩ := Kd.R_slice HO3.out
    subst e3
    replace hbx := Aside0.mk hbx
    try replace HG := Aside0.mk (blk_below HG.out hbx.out)
    go_wp2_with fail
    refine hK.out _ _ ?_ ?_
    · ((try dsimp only); exact ⟨below_step hHeld.1 hbx.out, later (below_step hHeld.1 hbx.out) b0, later (below_step hHeld.1 hbx.out) b1, later (below_step hHeld.1 hbx.out) b3⟩)
    try clear hHeld
    intro hHeld
    clear hK K
    try simp only [pS]
    refine tkT 7 (some 13) (v := ?_) rfl rfl (.inl ⟨by rfl, ?_⟩) ?_
    rotate_left
    · (intro w hSw; (try dsimp only at hSw); go_simp; with_reducible rfl)
    try simp only [pS]
    refine wpAnyH_ready (rs := [9]) (by kernel_rfl) (by simp) ?_
    refine AllReadyH.cons (o := { dst := none, op := Op.store 35 (Operand.tmp 3) (Operand.tmp 13), type := 0, pos := "law.go:17", after := #[{ on := 8, ground := Ground.data }, { on := 7, ground := Ground.data }, { on := 6, ground := Ground.chain }, { on := 0, ground := Ground.phase }, { on := 1, ground := Ground.phase }, { on := 2, ground := Ground.phase }, { on := 3, ground := Ground.phase }, { on := 4, ground := Ground.phase }, { on := 5, ground := Ground.phase }, { on := 6, ground := Ground.phase }, { on := 7, ground := Ground.phase }, { on := 8, ground := Ground.phase }], guard := none }) rfl (fun K hK => ?_) (AllReadyH.nil)
    have rz9 := blk_lt HG.out
    have rf0_ := blk_frozen HG.out 0
    have rf1_ := blk_frozen HG.out 1
    have rf2_ := blk_frozen HG.out 2
    have rf3_ := blk_frozen HG.out 3
    have rf4_ := blk_frozen HG.out 4
    have r0_ := (blk_cell HG.out 0).trans (show _ = some (.int .i64 0) from rfl)
    have r1_ := (blk_cell HG.out 1).trans (show _ = some (.int .i64 0) from rfl)
    have r2_ := (blk_cell HG.out 2).trans (show _ = some (.slice none 0 0) from rfl)
    have r3_ := (blk_cell HG.out 3).trans (show _ = some (.slice none 0 0) from rfl)
    have r4_ := (blk_cell HG.out 4).trans (show _ = some (.slice none 0 0) from rfl)
    go_simp
    have HS1 := Aside0.mk (blk_put (blk_put (blk_put (blk_put (blk_put HG.out 0 (.int .i64 cs) rfl) 1 (.int .i64 cl) rfl) 2 (.slice none 0 0) rfl) 3 (.slice B3 hung.length d3) rfl) 4 (.slice none 0 0) rfl)
    have HS2 := Aside0.mk (show Below W1.heap.size W1 _ from (((((hHeld.1.setCell (p := ⟨g9, 0, none⟩) hg9.out (.int .i64 cs)).setCell (p := ⟨g9, 1, none⟩) hg9.out (.int .i64 cl)).setCell (p := ⟨g9, 2, none⟩) hg9.out (.slice none 0 0)).setCell (p := ⟨g9, 3, none⟩) hg9.out (.slice B3 hung.length d3)).setCell (p := ⟨g9, 4, none⟩) hg9.out (.slice none 0 0)))
    have HO4 := Aside0.mk (Kd.R_mono (ok' := fun _ => True) (Kd.R_far (p := ⟨g9, 4, none⟩) (Kd.R_far (p := ⟨g9, 3, none⟩) (Kd.R_far (p := ⟨g9, 2, none⟩) (Kd.R_far (p := ⟨g9, 1, none⟩) (Kd.R_far (p := ⟨g9, 0, none⟩) (Kd.R_types HO3.out HG.out (by decide)) (fun _ hk => hk.2) (.int .i64 cs)) (fun _ hk => hk.2) (.int .i64 cl)) (fun _ hk => hk.2) (.slice none 0 0)) (fun _ hk => hk.2) (.slice B3 hung.length d3)) (fun _ hk => hk.2) (.slice none 0 0)) (fun _ _ => trivial))
    clear HO3 HG rz9 rf0_ rf1_ rf2_ rf3_ rf4_ r0_ r1_ r2_ r3_ r4_
    first | (generalize (((((wz.setCell ⟨g9, 0, none⟩ (.int .i64 cs)).setCell ⟨g9, 1, none⟩ (.int .i64 cl)).setCell ⟨g9, 2, none⟩ (.slice none 0 0)).setCell ⟨g9, 3, none⟩ (.slice B3 hung.length d3)).setCell ⟨g9, 4, none⟩ (.slice none 0 0)) = wn at HS1 HS2 HO4 ⊢) | (generalize (((((wq.setCell ⟨g9, 0, none⟩ (.int .i64 cs)).setCell ⟨g9, 1, none⟩ (.int .i64 cl)).setCell ⟨g9, 2, none⟩ (.slice none 0 0)).setCell ⟨g9, 3, none⟩ (.slice B3 hung.length d3)).setCell ⟨g9, 4, none⟩ (.slice none 0 0)) = wn at HS1 HS2 HO4 ⊢)
    refine hK.out _ _ ?_ ?_
    · ((try dsimp only); exact ⟨HS2.out, later HS2.out b0, later HS2.out b1, later HS2.out b3⟩)
    try clear hHeld
    intro hHeld
    clear hK K
    try simp only [pS]
    refine wpAnyH_done (by kernel_rfl) ?_ _
  all_goals
    replace HB := Aside0.mk (below_step HB.out HS2.out)
    replace HK := Aside0.mk (blk_below HK.out HS2.out)
    replace HR := Aside0.mk (blk_below HR.out HS2.out)
    have HN := Aside0.mk (show w.heap.size ≤ g9 ∧ w.heap.size ≠ g9 ∧ g2 ≠ g9 ∧ w.heap.size ≤ g2 ∧ w.heap.size ≠ g2 from by have := hg9.out; have := HG1.out; have := HG2.out; omega)
    clear HS2 hg9 HG1 HG2 b0 b1 b3
    try clear hHeld
    try go_wp2
    go_loopg [4] hs.length (fun kq v4 w' => ∃ (x : Int) (u2 : Value), v4 = .int .i64 x ∧ Aside0 (0 ≤ x ∧ x + (kq : Int) = (hs.length : Int)) ∧ Aside0 (Kd.R k139 139 w' w.heap.size (fun _ => True) u2 ((hs.take x.toNat).map toH)) ∧ Aside0 (Kd.R (Kd.int .i64) 3 w' w.heap.size (fun _ => True) (.slice B3 hung.length d3) hung) ∧ Aside0 (w'.heap[w.heap.size]? = some (.cells #[.int .i64 cs, .int .i64 cl, .slice A2 hs.length c2, .slice A3 hung.length c3, .slice A4 looks.length c4] 26 (0, 0))) ∧ Aside0 (w'.heap[g2]? = some (.cells #[.int .i64 0, .int .i64 0, .slice none 0 0, .slice none 0 0, .slice none 0 0] 35 (0, 0))) ∧ Aside0 (w'.heap[g9]? = some (.cells #[.int .i64 cs, .int .i64 cl, u2, .slice B3 hung.length d3, .slice none 0 0] 35 (0, 0))) ∧ Aside0 (Below w.heap.size w w'))
    case atStart => exact ⟨0, .slice none 0 0, by first | rfl | (simp; done), ⟨by omega⟩, ⟨by show Kd.R k139 139 _ _ _ _ ([] : List S139); exact Kd.R_nil _ _ _ _ _⟩, HO4, HK, HR, HS1, HB⟩
    case round =>
      clear HO4 HK HR HS1 HB
      obtain ⟨x, u2, rfl, HX, HO2, HO3, HK, HR, HG, HB⟩ := hrel
      have b2 : wr.cell? ⟨w.heap.size, 2, none⟩ = some (.slice A2 hs.length c2) := (blk_cell HK.out 2).trans rfl
      cases gk with
      | zero =>
        have c16 : decide (x < (hs.length : Int)) = false := decide_eq_false (by have := HX.out; omega)
        replace HO2 : Aside0 (Kd.R k139 139 wr w.heap.size (fun _ => True) u2 (hs.map toH)) := ⟨by have h := HO2.out; rwa [List.take_of_length_le (by have := HX.out; omega)] at h⟩
        clear HX
        go_wp2
        clear c16 b2
        go_loopg [5] looks.length (fun kq v5 w' => ∃ (y : Int) (u4 : Value), v5 = .int .i64 y ∧ Aside0 (0 ≤ y ∧ y + (kq : Int) = (looks.length : Int)) ∧ Aside0 (Kd.R k139 139 w' w.heap.size (fun _ => True) u2 (hs.map toH)) ∧ Aside0 (Kd.R k140 140 w' w.heap.size (fun _ => True) u4 ((looks.take y.toNat).map toL)) ∧ Aside0 (Kd.R (Kd.int .i64) 3 w' w.heap.size (fun _ => True) (.slice B3 hung.length d3) hung) ∧ Aside0 (w'.heap[w.heap.size]? = some (.cells #[.int .i64 cs, .int .i64 cl, .slice A2 hs.length c2, .slice A3 hung.length c3, .slice A4 looks.length c4] 26 (0, 0))) ∧ Aside0 (w'.heap[g2]? = some (.cells #[.int .i64 0, .int .i64 0, .slice none 0 0, .slice none 0 0, .slice none 0 0] 35 (0, 0))) ∧ Aside0 (w'.heap[g9]? = some (.cells #[.int .i64 cs, .int .i64 cl, u2, .slice B3 hung.length d3, u4] 35 (0, 0))) ∧ Aside0 (Below w.heap.size w w'))
        case atStart => exact ⟨0, .slice none 0 0, by first | rfl | (simp; done), ⟨by omega⟩, HO2, ⟨by show Kd.R k140 140 _ _ _ _ ([] : List S140); exact Kd.R_nil _ _ _ _ _⟩, HO3, HK, HR, HG, HB⟩
        case round =>
          clear HO2 HO3 HK HR HG HB
          obtain ⟨y, u4, rfl, HX, HO2, HO5, HO3, HK, HR, HG, HB⟩ := hrel
          have b4 : wr.cell? ⟨w.heap.size, 4, none⟩ = some (.slice A4 looks.length c4) := (blk_cell HK.out 4).trans rfl
          cases gk with
          | zero =>
            have c31 : decide (y < (looks.length : Int)) = false := decide_eq_false (by have := HX.out; omega)
            replace HO5 : Aside0 (Kd.R k140 140 wr w.heap.size (fun _ => True) u4 (looks.map toL)) := ⟨by have h := HO5.out; rwa [List.take_of_length_le (by have := HX.out; omega)] at h⟩
            clear HX
            obtain ⟨B2, d2, e2⟩ := Kd.R_slice HO2.out
            subst e2
            obtain ⟨B4, d4, e4⟩ := Kd.R_slice HO5.out
            subst e4
            rw [List.length_map] at HO2 HO5
            rw [List.length_map, List.length_map] at HG
            have q0 : wr.cell? ⟨g9, 0, none⟩ = some (.int .i64 cs) := (blk_cell HG.out 0).trans rfl
            have q1 : wr.cell? ⟨g9, 1, none⟩ = some (.int .i64 cl) := (blk_cell HG.out 1).trans rfl
            have q2 : wr.cell? ⟨g9, 2, none⟩ = some (.slice B2 hs.length d2) := (blk_cell HG.out 2).trans rfl
            have q3 : wr.cell? ⟨g9, 3, none⟩ = some (.slice B3 hung.length d3) := (blk_cell HG.out 3).trans rfl
            have q4 : wr.cell? ⟨g9, 4, none⟩ = some (.slice B4 looks.length d4) := (blk_cell HG.out 4).trans rfl
            have z0 : wr.cell? ⟨g2, 0, none⟩ = some (.int .i64 0) := (blk_cell HR.out 0).trans rfl
            have f0 := blk_frozen HR.out 0
            have z1 : wr.cell? ⟨g2, 1, none⟩ = some (.int .i64 0) := (blk_cell HR.out 1).trans rfl
            have f1 := blk_frozen HR.out 1
            have z2 : wr.cell? ⟨g2, 2, none⟩ = some (.slice none 0 0) := (blk_cell HR.out 2).trans rfl
            have f2 := blk_frozen HR.out 2
            have z3 : wr.cell? ⟨g2, 3, none⟩ = some (.slice none 0 0) := (blk_cell HR.out 3).trans rfl
            have f3 := blk_frozen HR.out 3
            have z4 : wr.cell? ⟨g2, 4, none⟩ = some (.slice none 0 0) := (blk_cell HR.out 4).trans rfl
            have f4 := blk_frozen HR.out 4
            have hz := blk_lt HR.out
            go_wp2
            refine bodyPost_ret (results_cell_row rfl _ _ g2 35 #[.int .i64 cs, .int .i64 cl, .slice B2 hs.length d2, .slice B3 hung.length d3, .slice B4 looks.length d4] (0, 0) _ rfl (by exact (blk_put (blk_put (blk_put (blk_put (blk_put HR.out 0 (.int .i64 cs) rfl) 1 (.int .i64 cl) rfl) 2 (.slice B2 hs.length d2) rfl) 3 (.slice B3 hung.length d3) rfl) 4 (.slice B4 looks.length d4) rfl)) Try.underlying35 rfl (by kernel_rfl)) rfl ?_
            have e2 := Kd.R_reads' (Kd.R_far (p := ⟨g2, 4, none⟩) (Kd.R_far (p := ⟨g2, 3, none⟩) (Kd.R_far (p := ⟨g2, 2, none⟩) (Kd.R_far (p := ⟨g2, 1, none⟩) (Kd.R_far (p := ⟨g2, 0, none⟩) (Kd.R_types HO2.out HR.out (by decide)) (fun _ hk => hk.2) (.int .i64 cs)) (fun _ hk => hk.2) (.int .i64 cl)) (fun _ hk => hk.2) (.slice B2 hs.length d2)) (fun _ hk => hk.2) (.slice B3 hung.length d3)) (fun _ hk => hk.2) (.slice B4 looks.length d4))
            have e3 := Kd.R_reads' (Kd.R_far (p := ⟨g2, 4, none⟩) (Kd.R_far (p := ⟨g2, 3, none⟩) (Kd.R_far (p := ⟨g2, 2, none⟩) (Kd.R_far (p := ⟨g2, 1, none⟩) (Kd.R_far (p := ⟨g2, 0, none⟩) (Kd.R_types HO3.out HR.out (by decide)) (fun _ hk => hk.2) (.int .i64 cs)) (fun _ hk => hk.2) (.int .i64 cl)) (fun _ hk => hk.2) (.slice B2 hs.length d2)) (fun _ hk => hk.2) (.slice B3 hung.length d3)) (fun _ hk => hk.2) (.slice B4 looks.length d4))
            have e4 := Kd.R_reads' (Kd.R_far (p := ⟨g2, 4, none⟩) (Kd.R_far (p := ⟨g2, 3, none⟩) (Kd.R_far (p := ⟨g2, 2, none⟩) (Kd.R_far (p := ⟨g2, 1, none⟩) (Kd.R_far (p := ⟨g2, 0, none⟩) (Kd.R_types HO5.out HR.out (by decide)) (fun _ hk => hk.2) (.int .i64 cs)) (fun _ hk => hk.2) (.int .i64 cl)) (fun _ hk => hk.2) (.slice B2 hs.length d2)) (fun _ hk => hk.2) (.slice B3 hung.length d3)) (fun _ hk => hk.2) (.slice B4 looks.length d4))
            exact ⟨B2, B3, B4, d2, d3, d4, _, _, _, rfl, ⟨e2.1, rfl, e4.1, e2.2.2, e3.2.2, e4.2.2, (by rw [List.length_map]; exact e2.2.1), e3.2.1, (by rw [List.length_map]; exact e4.2.1)⟩, (below_set (below_set (below_set (below_set (below_set HB.out HN.out.2.2.2.1) HN.out.2.2.2.1) HN.out.2.2.2.1) HN.out.2.2.2.1) HN.out.2.2.2.1)⟩
          | succ k1 =>
            have hx1 : y < (looks.length : Int) := by have := HX.out; omega
            have hx0 : 0 ≤ y := HX.out.1
            have c16 : decide (y < (looks.length : Int)) = true := decide_eq_true hx1
            obtain ⟨ad, eA, m0, m1, m2⟩ := at_T84 HM.out.h4 y hx0 hx1
            cases eA
            have p_ := eq_true hx0
            have q_ := eq_true hx1
            try go_wp2
            replace HO5 := Aside0.mk (Kd.R_drew HO5.out)
            replace HO3 := Aside0.mk (Kd.R_drew HO3.out)
            replace HO2 := Aside0.mk (Kd.R_drew HO2.out)
            replace HK := Aside0.mk (blk_drew HK.out)
            replace HR := Aside0.mk (blk_drew HR.out)
            replace HG := Aside0.mk (blk_drew HG.out)
            replace HB := Aside0.mk (below_drew1 HB.out)
            refine start_ (n := 25) (S := fun W' => W'.cell? ⟨g9, 4, none⟩ = some (u4) ∧ W'.cell? ⟨w.heap.size, 4, none⟩ = some (.slice (some ad) looks.length c4) ∧ W'.cell? (ad.add (y.toNat * 3)) = some (.int .i64 (rd_T84 looks y).f0) ∧ W'.cell? ⟨(ad.add (y.toNat * 3)).block, (ad.add (y.toNat * 3)).off + 1, none⟩ = some (.int .i64 (rd_T84 looks y).f1) ∧ W'.cell? ⟨(ad.add (y.toNat * 3)).block, (ad.add (y.toNat * 3)).off + 2, none⟩ = some (.bool (rd_T84 looks y).f2)) (ds := [24]) #[false, false, false, false, false, false, false, false, false, false, false, false, false, false, false, false, false, false, false, false, false, false, false, false, false] (by kernel_rfl) rfl rfl ⟨(blk_cell HG.out 4).trans rfl, (blk_cell HK.out 4).trans rfl, later HB.out m0, later HB.out m1, later HB.out m2⟩ (fun hHeld => ?_); refine with_tabW posserlaw04_Closet.tab9 posserlaw04_Closet.bits9 (fun HT_ HW_ => ?_)
            generalize wr.drew = wx at HO5 HO3 HO2 HK HR HG HB hHeld ⊢
            refine pure_ (i := 0) (N := some 53) (v := ?_) (a' := ?_) #[true, false, false, false, false, false, false, false, false, false, false, false, false, false, false, false, false, false, false, false, false, false, false, false, false] rfl rfl (any_of HT_.out (by kernel_rfl)) (fun _ _ _ h => h) (Or.inl ⟨by rfl, ?_⟩) ?_ ?_
            rotate_left
            · (intro w'; go_simp; with_reducible rfl)
            rotate_left
            · (simp only [pS, i64_w, i32_w]; rfl)
            refine take_ (i := 1) (N := some 54) (v := ?_) (a' := ?_) #[true, true, false, false, false, false, false, false, false, false, false, false, false, false, false, false, false, false, false, false, false, false, false, false, false] rfl rfl (take_ofW HT_.out HW_.out (by kernel_rfl)) (fun _ _ _ h => h) (Or.inl ⟨by rfl, ?_⟩) hHeld ?_ ?_
            rotate_left
            · (rintro w' ⟨s0, s1, s2, s3, s4⟩; go_simp; with_reducible rfl)
            rotate_left
            · (simp only [pS, i64_w, i32_w]; rfl)
            refine pure_ (i := 2) (N := some 55) (v := ?_) (a' := ?_) #[true, true, true, false, false, false, false, false, false, false, false, false, false, false, false, false, false, false, false, false, false, false, false, false, false] rfl rfl (any_of HT_.out (by kernel_rfl)) (fun _ _ _ h => h) (Or.inl ⟨by rfl, ?_⟩) ?_ ?_
            rotate_left
            · (intro w'; go_simp; with_reducible rfl)
            rotate_left
            · (simp only [pS, i64_w, i32_w]; rfl)
            refine take_ (i := 3) (N := some 56) (v := ?_) (a' := ?_) #[true, true, true, true, false, false, false, false, false, false, false, false, false, false, false, false, false, false, false, false, false, false, false, false, false] rfl rfl (take_ofW HT_.out HW_.out (by kernel_rfl)) (fun _ _ _ h => h) (Or.inl ⟨by rfl, ?_⟩) hHeld ?_ ?_
            rotate_left
            · (rintro w' ⟨s0, s1, s2, s3, s4⟩; go_simp; with_reducible rfl)
            rotate_left
            · (simp only [pS, i64_w, i32_w]; rfl)
            refine pure_ (i := 4) (N := some 57) (v := ?_) (a' := ?_) #[true, true, true, true, true, false, false, false, false, false, false, false, false, false, false, false, false, false, false, false, false, false, false, false, false] rfl rfl (any_of HT_.out (by kernel_rfl)) (fun _ _ _ h => h) (Or.inl ⟨by rfl, ?_⟩) ?_ ?_
            rotate_left
            · (intro w'; go_simp; with_reducible rfl)
            rotate_left
            · (simp only [pS, i64_w, i32_w]; rfl)
            refine pure_ (i := 5) (N := some 58) (v := ?_) (a' := ?_) #[true, true, true, true, true, true, false, false, false, false, false, false, false, false, false, false, false, false, false, false, false, false, false, false, false] rfl rfl (any_of HT_.out (by kernel_rfl)) (fun _ _ _ h => h) (Or.inl ⟨by rfl, ?_⟩) ?_ ?_
            rotate_left
            · (intro w'; go_simp; with_reducible rfl)
            rotate_left
            · (simp only [pS, i64_w, i32_w]; rfl)
            refine pure_ (i := 6) (N := some 59) (v := ?_) (a' := ?_) #[true, true, true, true, true, true, true, false, false, false, false, false, false, false, false, false, false, false, false, false, false, false, false, false, false] rfl rfl (any_of HT_.out (by kernel_rfl)) (fun _ _ _ h => h) (Or.inl ⟨by rfl, ?_⟩) ?_ ?_
            rotate_left
            · (intro w'; go_simp; with_reducible rfl)
            rotate_left
            · (simp only [pS, i64_w, i32_w]; rfl)
            refine take_ (i := 7) (N := some 60) (v := ?_) (a' := ?_) #[true, true, true, true, true, true, true, true, false, false, false, false, false, false, false, false, false, false, false, false, false, false, false, false, false] rfl rfl (take_ofW HT_.out HW_.out (by kernel_rfl)) (fun _ _ _ h => h) (Or.inl ⟨by rfl, ?_⟩) hHeld ?_ ?_
            rotate_left
            · (rintro w' ⟨s0, s1, s2, s3, s4⟩; go_simp; with_reducible rfl)
            rotate_left
            · (simp only [pS, i64_w, i32_w]; rfl)
            refine pure_ (i := 8) (N := some 61) (v := ?_) (a' := ?_) #[true, true, true, true, true, true, true, true, true, false, false, false, false, false, false, false, false, false, false, false, false, false, false, false, false] rfl rfl (any_of HT_.out (by kernel_rfl)) (fun _ _ _ h => h) (Or.inl ⟨by rfl, ?_⟩) ?_ ?_
            rotate_left
            · (intro w'; go_simp; with_reducible rfl)
            rotate_left
            · (simp only [pS, i64_w, i32_w]; rfl)
            refine take_ (i := 9) (N := some 62) (v := ?_) (a' := ?_) #[true, true, true, true, true, true, true, true, true, true, false, false, false, false, false, false, false, false, false, false, false, false, false, false, false] rfl rfl (take_ofW HT_.out HW_.out (by kernel_rfl)) (fun _ _ _ h => h) (Or.inl ⟨by rfl, ?_⟩) hHeld ?_ ?_
            rotate_left
            · (rintro w' ⟨s0, s1, s2, s3, s4⟩; go_simp; with_reducible rfl)
            rotate_left
            · (simp only [pS, i64_w, i32_w]; rfl)
            refine pure_ (i := 10) (N := some 63) (v := ?_) (a' := ?_) #[true, true, true, true, true, true, true, true, true, true, true, false, false, false, false, false, false, false, false, false, false, false, false, false, false] rfl rfl (any_of HT_.out (by kernel_rfl)) (fun _ _ _ h => h) (Or.inl ⟨by rfl, ?_⟩) ?_ ?_
            rotate_left
            · (intro w'; go_simp; with_reducible rfl)
            rotate_left
            · (simp only [pS, i64_w, i32_w]; rfl)
            refine pure_ (i := 11) (N := some 64) (v := ?_) (a' := ?_) #[true, true, true, true, true, true, true, true, true, true, true, true, false, false, false, false, false, false, false, false, false, false, false, false, false] rfl rfl (any_of HT_.out (by kernel_rfl)) (fun _ _ _ h => h) (Or.inl ⟨by rfl, ?_⟩) ?_ ?_
            rotate_left
            · (intro w'; go_simp; with_reducible rfl)
            rotate_left
            · (simp only [pS, i64_w, i32_w]; rfl)
            refine pure_ (i := 12) (N := some 65) (v := ?_) (a' := ?_) #[true, true, true, true, true, true, true, true, true, true, true, true, true, false, false, false, false, false, false, false, false, false, false, false, false] rfl rfl (any_of HT_.out (by kernel_rfl)) (fun _ _ _ h => h) (Or.inl ⟨by rfl, ?_⟩) ?_ ?_
            rotate_left
            · (intro w'; go_simp; with_reducible rfl)
            rotate_left
            · (simp only [pS, i64_w, i32_w]; rfl)
            refine take_ (i := 13) (N := some 66) (v := ?_) (a' := ?_) #[true, true, true, true, true, true, true, true, true, true, true, true, true, true, false, false, false, false, false, false, false, false, false, false, false] rfl rfl (take_ofW HT_.out HW_.out (by kernel_rfl)) (fun _ _ _ h => h) (Or.inl ⟨by rfl, ?_⟩) hHeld ?_ ?_
            rotate_left
            · (rintro w' ⟨s0, s1, s2, s3, s4⟩; go_simp; with_reducible rfl)
            rotate_left
            · (simp only [pS, i64_w, i32_w]; rfl)
            refine pure_ (i := 14) (N := some 67) (v := ?_) (a' := ?_) #[true, true, true, true, true, true, true, true, true, true, true, true, true, true, true, false, false, false, false, false, false, false, false, false, false] rfl rfl (any_of HT_.out (by kernel_rfl)) (fun _ _ _ h => h) (Or.inl ⟨by rfl, ?_⟩) ?_ ?_
            rotate_left
            · (intro w'; go_simp; with_reducible rfl)
            rotate_left
            · (simp only [pS, i64_w, i32_w]; rfl)
            refine take_ (i := 15) (N := some 68) (v := ?_) (a' := ?_) #[true, true, true, true, true, true, true, true, true, true, true, true, true, true, true, true, false, false, false, false, false, false, false, false, false] rfl rfl (take_ofW HT_.out HW_.out (by kernel_rfl)) (fun _ _ _ h => h) (Or.inl ⟨by rfl, ?_⟩) hHeld ?_ ?_
            rotate_left
            · (rintro w' ⟨s0, s1, s2, s3, s4⟩; go_simp; with_reducible rfl)
            rotate_left
            · (simp only [pS, i64_w, i32_w]; rfl)
            refine pure_ (i := 16) (N := some 69) (v := ?_) (a' := ?_) #[true, true, true, true, true, true, true, true, true, true, true, true, true, true, true, true, true, false, false, false, false, false, false, false, false] rfl rfl (any_of HT_.out (by kernel_rfl)) (fun _ _ _ h => h) (Or.inl ⟨by rfl, ?_⟩) ?_ ?_
            rotate_left
            · (intro w'; go_simp; with_reducible rfl)
            rotate_left
            · (simp only [pS, i64_w, i32_w]; rfl)
            refine pure_ (i := 17) (N := some 70) (v := ?_) (a' := ?_) #[true, true, true, true, true, true, true, true, true, true, true, true, true, true, true, true, true, true, false, false, false, false, false, false, false] rfl rfl (any_of HT_.out (by kernel_rfl)) (fun _ _ _ h => h) (Or.inl ⟨by rfl, ?_⟩) ?_ ?_
            rotate_left
            · (intro w'; go_simp; with_reducible rfl)
            rotate_left
            · (simp only [pS, i64_w, i32_w]; rfl)
            refine pure_ (i := 18) (N := some 71) (v := ?_) (a' := ?_) #[true, true, true, true, true, true, true, true, true, true, true, true, true, true, true, true, true, true, true, false, false, false, false, false, false] rfl rfl (any_of HT_.out (by kernel_rfl)) (fun _ _ _ h => h) (Or.inl ⟨by rfl, ?_⟩) ?_ ?_
            rotate_left
            · (intro w'; go_simp; with_reducible rfl)
            rotate_left
            · (simp only [pS, i64_w, i32_w]; rfl)
            refine take_ (i := 19) (N := some 72) (v := ?_) (a' := ?_) #[true, true, true, true, true, true, true, true, true, true, true, true, true, true, true, true, true, true, true, true, false, false, false, false, false] rfl rfl (take_ofW HT_.out HW_.out (by kernel_rfl)) (fun _ _ _ h => h) (Or.inl ⟨by rfl, ?_⟩) hHeld ?_ ?_
            rotate_left
            · (rintro w' ⟨s0, s1, s2, s3, s4⟩; go_simp; with_reducible rfl)
            rotate_left
            · (simp only [pS, i64_w, i32_w]; rfl)
            refine pure_ (i := 20) (N := some 73) (v := ?_) (a' := ?_) #[true, true, true, true, true, true, true, true, true, true, true, true, true, true, true, true, true, true, true, true, true, false, false, false, false] rfl rfl (any_of HT_.out (by kernel_rfl)) (fun _ _ _ h => h) (Or.inl ⟨by rfl, ?_⟩) ?_ ?_
            rotate_left
            · (intro w'; go_simp; with_reducible rfl)
            rotate_left
            · (simp only [pS, i64_w, i32_w]; rfl)
            refine one_ (i := 21) (N := some 74) #[true, true, true, true, true, true, true, true, true, true, true, true, true, true, true, true, true, true, true, true, true, true, false, false, false] rfl rfl (one_of HT_.out (by kernel_rfl)) (by decide) (fun K hK => ?_)
            refine value_ (w1 := ?_) (v := ?_) (by rfl) rfl ?_ ?_
            rotate_left 2
            · go_simp
              constructor
              · rfl
              · rfl
            clear hHeld
            refine hK.out _ _ ⟨(blk_cell (blk_alloc HG.out _) 4).trans rfl, (blk_cell (blk_alloc HK.out _) 4).trans rfl, later (below_alloc HB.out _) m0, later (below_alloc HB.out _) m1, later (below_alloc HB.out _) m2⟩ (fun hHeld => ?_)
            clear hK K
            refine norm_ (a' := ?_) ?_ ?_
            rotate_left
            · show Act.put _ (some 74) _ = _
              simp only [pS, i64_w, i32_w]
              rfl
            refine one_ (i := 22) (N := some 75) #[true, true, true, true, true, true, true, true, true, true, true, true, true, true, true, true, true, true, true, true, true, true, true, false, false] rfl rfl (one_of HT_.out (by kernel_rfl)) (by decide) (fun K hK => ?_)
            refine Kd.R_append_step k140 (w0 := w) w.heap.size (by rfl) (.tmp 54) (.tmp 74) 33 140 (.agg #[(.int .i64 0), (.int .i64 0), (.bool false)]) 24 rfl Try.underlying33 info140 rfl (by decide) (by omega) u4 ((looks.take y.toNat).map toL) (toL (rd_T84 looks y)) [.int .i64 (rd_T84 looks y).f0, .int .i64 (rd_T84 looks y).f1, .bool (rd_T84 looks y).f2] (fun _ => True) (fun _ => False) rfl rfl ?aP (fun _ hk => hk.elim) ?aF ?aO ?aB ?aS ?aL ?_
            (case aP => exact k140_mkM _ _ _ (toL (rd_T84 looks y)))
            (case aB => exact HB.out)
            (case aF => exact (fun _ _ => trivial))
            (case aO => exact HO5.out)
            (case aS => exact below_size HB.out)
            (case aL => have := HN3.out; simp only [List.length_map, List.length_take]; omega)
            intro v1 wz ho hb hg hat
            obtain ⟨ys, hys⟩ : ∃ ys, ((looks.take y.toNat).map toL) ++ [(toL (rd_T84 looks y))] = ys := ⟨_, rfl⟩
            rw [hys] at ho
            have HYS := Aside0.mk hys
            clear hys
            replace HO3 := Aside0.mk (Kd.R_over' HO3.out (Kd.R_typed HO5.out) (by decide) hg)
            replace HO2 := Aside0.mk (Kd.R_over' HO2.out (Kd.R_typed HO5.out) (by decide) hg)
            replace HK := Aside0.mk (blk_grown HK.out hg (Kd.R_ne HO5.out HK.out (by decide)))
            replace HR := Aside0.mk (blk_grown HR.out hg (Kd.R_ne HO5.out HR.out (by decide)))
            replace HG := Aside0.mk (blk_grown HG.out hg (Kd.R_ne HO5.out HG.out (by decide)))
            clear HB HO5 hHeld
            have HB := Aside0.mk hb
            have HO5 := Aside0.mk ho
            clear ho hb hg hat
            obtain ⟨Bn, dn, en⟩ := Kd.R_slice HO5.out
            subst en
            refine hK.out _ _ ⟨(blk_cell HG.out 4).trans rfl, (blk_cell HK.out 4).trans rfl, later HB.out m0, later HB.out m1, later HB.out m2⟩ (fun hHeld => ?_)
            clear hK K
            refine norm_ (a' := ?_) ?_ ?_
            rotate_left
            · show Act.put _ (some 75) _ = _
              simp only [pS, i64_w, i32_w]
              rfl
            refine pure_ (i := 23) (N := some 76) (v := ?_) (a' := ?_) #[true, true, true, true, true, true, true, true, true, true, true, true, true, true, true, true, true, true, true, true, true, true, true, true, false] rfl rfl (any_of HT_.out (by kernel_rfl)) (fun _ _ _ h => h) (Or.inl ⟨by rfl, ?_⟩) ?_ ?_
            rotate_left
            · (intro w'; go_simp; with_reducible rfl)
            rotate_left
            · (simp only [pS, i64_w, i32_w]; rfl)
            refine last_ (i := 24) (N := none) #[true, true, true, true, true, true, true, true, true, true, true, true, true, true, true, true, true, true, true, true, true, true, true, true, true] rfl rfl (one_of HT_.out (by kernel_rfl)) (by decide) (fun K hK => ?_)
            have h27 : wz.cell? ⟨g9, 4, none⟩ = some (u4) := (blk_cell HG.out 4).trans rfl
            have hf27 := blk_frozen HG.out 4
            refine skip_ (w1 := ?_) (by rfl) rfl ?_ ?_
            rotate_left
            · go_simp
              rfl
            refine hK.out _ _ ?_
            clear hK K hHeld h27 hf27
            refine done_ (done_of HT_.out (by kernel_rfl)) ?_
            replace HO5 := Aside0.mk (Kd.R_mono (ok' := fun _ => True) (Kd.R_far (p := ⟨g9, 4, none⟩) (Kd.R_types HO5.out HG.out (by decide)) (fun _ hk => hk.2) (.slice Bn ys.length dn)) (fun _ _ => trivial))
            replace HO3 := Aside0.mk (Kd.R_mono (ok' := fun _ => True) (Kd.R_far (p := ⟨g9, 4, none⟩) (Kd.R_types HO3.out HG.out (by decide)) (fun _ hk => hk.2) (.slice Bn ys.length dn)) (fun _ _ => trivial))
            replace HO2 := Aside0.mk (Kd.R_mono (ok' := fun _ => True) (Kd.R_far (p := ⟨g9, 4, none⟩) (Kd.R_types HO2.out HG.out (by decide)) (fun _ hk => hk.2) (.slice Bn ys.length dn)) (fun _ _ => trivial))
            replace HK := Aside0.mk (blk_far HK.out (p := ⟨g9, 4, none⟩) HN.out.2.1 (.slice Bn ys.length dn))
            replace HR := Aside0.mk (blk_far HR.out (p := ⟨g9, 4, none⟩) HN.out.2.2.1 (.slice Bn ys.length dn))
            replace HG := Aside0.mk (blk_put HG.out 4 (.slice Bn ys.length dn) rfl)
            replace HB := Aside0.mk (below_set (j := 4) (v := .slice Bn ys.length dn) HB.out HN.out.1)
            generalize (wz.setCell ⟨g9, 4, none⟩ (.slice Bn ys.length dn)) = wn at HO5 HO3 HO2 HK HR HG HB ⊢
            have ht : ((looks.take y.toNat).map toL) ++ [(toL (rd_T84 looks y))] = (looks.take (y + 1).toNat).map toL := toL_snoc looks y hx0 hx1
            obtain rfl := HYS.out
            clear HYS
            rw [ht] at HO5 HG ⊢
            have hw : wrap64 (y + 1) = y + 1 := by have := HN3.out; unfold wrap64; omega
            try go_wp2
            go_roundg k1
            case measure => omega
            case rel => exact ⟨y + 1, _, by first | rfl | (rw [← hw]; first | rfl | (simp; done)) | go_num | (simp [hw]; done), ⟨by have := HX.out; omega⟩, HO2, HO5, HO3, HK, HR, HG, HB⟩
      | succ k1 =>
        have hx1 : x < (hs.length : Int) := by have := HX.out; omega
        have hx0 : 0 ≤ x := HX.out.1
        have c16 : decide (x < (hs.length : Int)) = true := decide_eq_true hx1
        obtain ⟨ad, eA, m0, m1, m2, m3⟩ := at_T68 HM.out.h2 x hx0 hx1
        cases eA
        have p_ := eq_true hx0
        have q_ := eq_true hx1
        try go_wp2
        replace HO2 := Aside0.mk (Kd.R_drew HO2.out)
        replace HO3 := Aside0.mk (Kd.R_drew HO3.out)
        replace HK := Aside0.mk (blk_drew HK.out)
        replace HR := Aside0.mk (blk_drew HR.out)
        replace HG := Aside0.mk (blk_drew HG.out)
        replace HB := Aside0.mk (below_drew1 HB.out)
        refine start_ (n := 26) (S := fun W' => W'.cell? ⟨g9, 2, none⟩ = some (u2) ∧ W'.cell? ⟨w.heap.size, 2, none⟩ = some (.slice (some ad) hs.length c2) ∧ W'.cell? (ad.add (x.toNat * 4)) = some (.int .i64 (rd_T68 hs x).f0.f0) ∧ W'.cell? ⟨(ad.add (x.toNat * 4)).block, (ad.add (x.toNat * 4)).off + 1, none⟩ = some (.int .i64 (rd_T68 hs x).f0.f1) ∧ W'.cell? ⟨(ad.add (x.toNat * 4)).block, (ad.add (x.toNat * 4)).off + 2, none⟩ = some (.int .i64 (rd_T68 hs x).f1) ∧ W'.cell? ⟨(ad.add (x.toNat * 4)).block, (ad.add (x.toNat * 4)).off + 3, none⟩ = some (.int .i64 (rd_T68 hs x).f2)) (ds := [25]) #[false, false, false, false, false, false, false, false, false, false, false, false, false, false, false, false, false, false, false, false, false, false, false, false, false, false] (by kernel_rfl) rfl rfl ⟨(blk_cell HG.out 2).trans rfl, (blk_cell HK.out 2).trans rfl, later HB.out m0, later HB.out m1, later HB.out m2, later HB.out m3⟩ (fun hHeld => ?_); refine with_tabW posserlaw04_Closet.tab5 posserlaw04_Closet.bits5 (fun HT_ HW_ => ?_)
        generalize wr.drew = wx at HO2 HO3 HK HR HG HB hHeld ⊢
        refine pure_ (i := 0) (N := some 21) (v := ?_) (a' := ?_) #[true, false, false, false, false, false, false, false, false, false, false, false, false, false, false, false, false, false, false, false, false, false, false, false, false, false] rfl rfl (any_of HT_.out (by kernel_rfl)) (fun _ _ _ h => h) (Or.inl ⟨by rfl, ?_⟩) ?_ ?_
        rotate_left
        · (intro w'; go_simp; with_reducible rfl)
        rotate_left
        · (simp only [pS, i64_w, i32_w]; rfl)
        refine take_ (i := 1) (N := some 22) (v := ?_) (a' := ?_) #[true, true, false, false, false, false, false, false, false, false, false, false, false, false, false, false, false, false, false, false, false, false, false, false, false, false] rfl rfl (take_ofW HT_.out HW_.out (by kernel_rfl)) (fun _ _ _ h => h) (Or.inl ⟨by rfl, ?_⟩) hHeld ?_ ?_
        rotate_left
        · (rintro w' ⟨s0, s1, s2, s3, s4, s5⟩; go_simp; with_reducible rfl)
        rotate_left
        · (simp only [pS, i64_w, i32_w]; rfl)
        refine pure_ (i := 2) (N := some 23) (v := ?_) (a' := ?_) #[true, true, true, false, false, false, false, false, false, false, false, false, false, false, false, false, false, false, false, false, false, false, false, false, false, false] rfl rfl (any_of HT_.out (by kernel_rfl)) (fun _ _ _ h => h) (Or.inl ⟨by rfl, ?_⟩) ?_ ?_
        rotate_left
        · (intro w'; go_simp; with_reducible rfl)
        rotate_left
        · (simp only [pS, i64_w, i32_w]; rfl)
        refine take_ (i := 3) (N := some 24) (v := ?_) (a' := ?_) #[true, true, true, true, false, false, false, false, false, false, false, false, false, false, false, false, false, false, false, false, false, false, false, false, false, false] rfl rfl (take_ofW HT_.out HW_.out (by kernel_rfl)) (fun _ _ _ h => h) (Or.inl ⟨by rfl, ?_⟩) hHeld ?_ ?_
        rotate_left
        · (rintro w' ⟨s0, s1, s2, s3, s4, s5⟩; go_simp; with_reducible rfl)
        rotate_left
        · (simp only [pS, i64_w, i32_w]; rfl)
        refine pure_ (i := 4) (N := some 25) (v := ?_) (a' := ?_) #[true, true, true, true, true, false, false, false, false, false, false, false, false, false, false, false, false, false, false, false, false, false, false, false, false, false] rfl rfl (any_of HT_.out (by kernel_rfl)) (fun _ _ _ h => h) (Or.inl ⟨by rfl, ?_⟩) ?_ ?_
        rotate_left
        · (intro w'; go_simp; with_reducible rfl)
        rotate_left
        · (simp only [pS, i64_w, i32_w]; rfl)
        refine pure_ (i := 5) (N := some 26) (v := ?_) (a' := ?_) #[true, true, true, true, true, true, false, false, false, false, false, false, false, false, false, false, false, false, false, false, false, false, false, false, false, false] rfl rfl (any_of HT_.out (by kernel_rfl)) (fun _ _ _ h => h) (Or.inl ⟨by rfl, ?_⟩) ?_ ?_
        rotate_left
        · (intro w'; go_simp; with_reducible rfl)
        rotate_left
        · (simp only [pS, i64_w, i32_w]; rfl)
        refine pure_ (i := 6) (N := some 27) (v := ?_) (a' := ?_) #[true, true, true, true, true, true, true, false, false, false, false, false, false, false, false, false, false, false, false, false, false, false, false, false, false, false] rfl rfl (any_of HT_.out (by kernel_rfl)) (fun _ _ _ h => h) (Or.inl ⟨by rfl, ?_⟩) ?_ ?_
        rotate_left
        · (intro w'; go_simp; with_reducible rfl)
        rotate_left
        · (simp only [pS, i64_w, i32_w]; rfl)
        refine take_ (i := 7) (N := some 28) (v := ?_) (a' := ?_) #[true, true, true, true, true, true, true, true, false, false, false, false, false, false, false, false, false, false, false, false, false, false, false, false, false, false] rfl rfl (take_ofW HT_.out HW_.out (by kernel_rfl)) (fun _ _ _ h => h) (Or.inl ⟨by rfl, ?_⟩) hHeld ?_ ?_
        rotate_left
        · (rintro w' ⟨s0, s1, s2, s3, s4, s5⟩; go_simp; with_reducible rfl)
        rotate_left
        · (simp only [pS, i64_w, i32_w]; rfl)
        refine pure_ (i := 9) (N := some 30) (v := ?_) (a' := ?_) #[true, true, true, true, true, true, true, true, false, true, false, false, false, false, false, false, false, false, false, false, false, false, false, false, false, false] rfl rfl (any_of HT_.out (by kernel_rfl)) (fun _ _ _ h => h) (Or.inl ⟨by rfl, ?_⟩) ?_ ?_
        rotate_left
        · (intro w'; go_simp; with_reducible rfl)
        rotate_left
        · (simp only [pS, i64_w, i32_w]; rfl)
        refine take_ (i := 10) (N := some 31) (v := ?_) (a' := ?_) #[true, true, true, true, true, true, true, true, false, true, true, false, false, false, false, false, false, false, false, false, false, false, false, false, false, false] rfl rfl (take_ofW HT_.out HW_.out (by kernel_rfl)) (fun _ _ _ h => h) (Or.inl ⟨by rfl, ?_⟩) hHeld ?_ ?_
        rotate_left
        · (rintro w' ⟨s0, s1, s2, s3, s4, s5⟩; go_simp; with_reducible rfl)
        rotate_left
        · (simp only [pS, i64_w, i32_w]; rfl)
        refine pure_ (i := 11) (N := some 32) (v := ?_) (a' := ?_) #[true, true, true, true, true, true, true, true, false, true, true, true, false, false, false, false, false, false, false, false, false, false, false, false, false, false] rfl rfl (any_of HT_.out (by kernel_rfl)) (fun _ _ _ h => h) (Or.inl ⟨by rfl, ?_⟩) ?_ ?_
        rotate_left
        · (intro w'; go_simp; with_reducible rfl)
        rotate_left
        · (simp only [pS, i64_w, i32_w]; rfl)
        refine pure_ (i := 12) (N := some 33) (v := ?_) (a' := ?_) #[true, true, true, true, true, true, true, true, false, true, true, true, true, false, false, false, false, false, false, false, false, false, false, false, false, false] rfl rfl (any_of HT_.out (by kernel_rfl)) (fun _ _ _ h => h) (Or.inl ⟨by rfl, ?_⟩) ?_ ?_
        rotate_left
        · (intro w'; go_simp; with_reducible rfl)
        rotate_left
        · (simp only [pS, i64_w, i32_w]; rfl)
        refine pure_ (i := 13) (N := some 34) (v := ?_) (a' := ?_) #[true, true, true, true, true, true, true, true, false, true, true, true, true, true, false, false, false, false, false, false, false, false, false, false, false, false] rfl rfl (any_of HT_.out (by kernel_rfl)) (fun _ _ _ h => h) (Or.inl ⟨by rfl, ?_⟩) ?_ ?_
        rotate_left
        · (intro w'; go_simp; with_reducible rfl)
        rotate_left
        · (simp only [pS, i64_w, i32_w]; rfl)
        refine take_ (i := 14) (N := some 35) (v := ?_) (a' := ?_) #[true, true, true, true, true, true, true, true, false, true, true, true, true, true, true, false, false, false, false, false, false, false, false, false, false, false] rfl rfl (take_ofW HT_.out HW_.out (by kernel_rfl)) (fun _ _ _ h => h) (Or.inl ⟨by rfl, ?_⟩) hHeld ?_ ?_
        rotate_left
        · (rintro w' ⟨s0, s1, s2, s3, s4, s5⟩; go_simp; with_reducible rfl)
        rotate_left
        · (simp only [pS, i64_w, i32_w]; rfl)
        refine pure_ (i := 15) (N := some 36) (v := ?_) (a' := ?_) #[true, true, true, true, true, true, true, true, false, true, true, true, true, true, true, true, false, false, false, false, false, false, false, false, false, false] rfl rfl (any_of HT_.out (by kernel_rfl)) (fun _ _ _ h => h) (Or.inl ⟨by rfl, ?_⟩) ?_ ?_
        rotate_left
        · (intro w'; go_simp; with_reducible rfl)
        rotate_left
        · (simp only [pS, i64_w, i32_w]; rfl)
        refine take_ (i := 16) (N := some 37) (v := ?_) (a' := ?_) #[true, true, true, true, true, true, true, true, false, true, true, true, true, true, true, true, true, false, false, false, false, false, false, false, false, false] rfl rfl (take_ofW HT_.out HW_.out (by kernel_rfl)) (fun _ _ _ h => h) (Or.inl ⟨by rfl, ?_⟩) hHeld ?_ ?_
        rotate_left
        · (rintro w' ⟨s0, s1, s2, s3, s4, s5⟩; go_simp; with_reducible rfl)
        rotate_left
        · (simp only [pS, i64_w, i32_w]; rfl)
        refine pure_ (i := 17) (N := some 38) (v := ?_) (a' := ?_) #[true, true, true, true, true, true, true, true, false, true, true, true, true, true, true, true, true, true, false, false, false, false, false, false, false, false] rfl rfl (any_of HT_.out (by kernel_rfl)) (fun _ _ _ h => h) (Or.inl ⟨by rfl, ?_⟩) ?_ ?_
        rotate_left
        · (intro w'; go_simp; with_reducible rfl)
        rotate_left
        · (simp only [pS, i64_w, i32_w]; rfl)
        refine pure_ (i := 18) (N := some 39) (v := ?_) (a' := ?_) #[true, true, true, true, true, true, true, true, false, true, true, true, true, true, true, true, true, true, true, false, false, false, false, false, false, false] rfl rfl (any_of HT_.out (by kernel_rfl)) (fun _ _ _ h => h) (Or.inl ⟨by rfl, ?_⟩) ?_ ?_
        rotate_left
        · (intro w'; go_simp; with_reducible rfl)
        rotate_left
        · (simp only [pS, i64_w, i32_w]; rfl)
        refine pure_ (i := 19) (N := some 40) (v := ?_) (a' := ?_) #[true, true, true, true, true, true, true, true, false, true, true, true, true, true, true, true, true, true, true, true, false, false, false, false, false, false] rfl rfl (any_of HT_.out (by kernel_rfl)) (fun _ _ _ h => h) (Or.inl ⟨by rfl, ?_⟩) ?_ ?_
        rotate_left
        · (intro w'; go_simp; with_reducible rfl)
        rotate_left
        · (simp only [pS, i64_w, i32_w]; rfl)
        refine take_ (i := 20) (N := some 41) (v := ?_) (a' := ?_) #[true, true, true, true, true, true, true, true, false, true, true, true, true, true, true, true, true, true, true, true, true, false, false, false, false, false] rfl rfl (take_ofW HT_.out HW_.out (by kernel_rfl)) (fun _ _ _ h => h) (Or.inl ⟨by rfl, ?_⟩) hHeld ?_ ?_
        rotate_left
        · (rintro w' ⟨s0, s1, s2, s3, s4, s5⟩; go_simp; with_reducible rfl)
        rotate_left
        · (simp only [pS, i64_w, i32_w]; rfl)
        refine one_ (i := 8) (N := some 29) #[true, true, true, true, true, true, true, true, true, true, true, true, true, true, true, true, true, true, true, true, true, false, false, false, false, false] rfl rfl (one_of HT_.out (by kernel_rfl)) (by decide) (fun K hK => ?_)
        refine goes_ Try.func73 (by kernel_rfl) rfl #[.agg #[.int .i64 (rd_T68 hs x).f0.f0, .int .i64 (rd_T68 hs x).f0.f1]] (by rfl) rfl rfl (by (try simp only [List.map_toArray, List.map_cons, List.map_nil]); first | done | rfl) ?_
        with_reducible refine (posserlaw04_to.calls (rd_T68 hs x).f0.f0 (rd_T68 hs x).f0.f1 (rd_T68 hs x).f0.f0 (rd_T68 hs x).f0.f1 _ rfl).mono ?_
        rintro e wy ⟨rfl, hb⟩
        refine ⟨_, rfl, ?_⟩
        replace HO2 := Aside0.mk (Kd.R_below HO2.out hb)
        replace HO3 := Aside0.mk (Kd.R_below HO3.out hb)
        replace HK := Aside0.mk (blk_below HK.out hb)
        replace HR := Aside0.mk (blk_below HR.out hb)
        replace HG := Aside0.mk (blk_below HG.out hb)
        replace HB := Aside0.mk (below_step HB.out hb)
        clear hb hHeld
        refine hK.out _ _ ⟨(blk_cell HG.out 2).trans rfl, (blk_cell HK.out 2).trans rfl, later HB.out m0, later HB.out m1, later HB.out m2, later HB.out m3⟩ (fun hHeld => ?_)
        clear hK K
        refine norm_ (a' := ?_) ?_ ?_
        rotate_left
        · show Act.put _ (some 29) _ = _
          simp only [pS, i64_w, i32_w]
          rfl
        refine pure_ (i := 21) (N := some 42) (v := ?_) (a' := ?_) #[true, true, true, true, true, true, true, true, true, true, true, true, true, true, true, true, true, true, true, true, true, true, false, false, false, false] rfl rfl (any_of HT_.out (by kernel_rfl)) (fun _ _ _ h => h) (Or.inl ⟨by rfl, ?_⟩) ?_ ?_
        rotate_left
        · (intro w'; go_simp; with_reducible rfl)
        rotate_left
        · (simp only [pS, i64_w, i32_w]; rfl)
        refine one_ (i := 22) (N := some 43) #[true, true, true, true, true, true, true, true, true, true, true, true, true, true, true, true, true, true, true, true, true, true, true, false, false, false] rfl rfl (one_of HT_.out (by kernel_rfl)) (by decide) (fun K hK => ?_)
        refine value_ (w1 := ?_) (v := ?_) (by rfl) rfl ?_ ?_
        rotate_left 2
        · go_simp
          constructor
          · rfl
          · rfl
        clear hHeld
        refine hK.out _ _ ⟨(blk_cell (blk_alloc HG.out _) 2).trans rfl, (blk_cell (blk_alloc HK.out _) 2).trans rfl, later (below_alloc HB.out _) m0, later (below_alloc HB.out _) m1, later (below_alloc HB.out _) m2, later (below_alloc HB.out _) m3⟩ (fun hHeld => ?_)
        clear hK K
        refine norm_ (a' := ?_) ?_ ?_
        rotate_left
        · show Act.put _ (some 43) _ = _
          simp only [pS, i64_w, i32_w]
          rfl
        refine one_ (i := 23) (N := some 44) #[true, true, true, true, true, true, true, true, true, true, true, true, true, true, true, true, true, true, true, true, true, true, true, true, false, false] rfl rfl (one_of HT_.out (by kernel_rfl)) (by decide) (fun K hK => ?_)
        refine Kd.R_append_step k139 (w0 := w) w.heap.size (by rfl) (.tmp 22) (.tmp 43) 32 139 (.agg #[(.int .i64 0), (.int .i64 0), (.int .i64 0), (.int .i64 0)]) 32 rfl Try.underlying32 info139 rfl (by decide) (by omega) u2 ((hs.take x.toNat).map toH) (toH (rd_T68 hs x)) [.int .i64 (rd_T68 hs x).f0.f0, .int .i64 (rd_T68 hs x).f0.f1, .int .i64 (rd_T68 hs x).f1, .int .i64 (rd_T68 hs x).f2] (fun _ => True) (fun _ => False) rfl rfl ?aP (fun _ hk => hk.elim) ?aF ?aO ?aB ?aS ?aL ?_
        (case aP => exact k139_mkM _ _ _ (toH (rd_T68 hs x)))
        (case aB => exact HB.out)
        (case aF => exact (fun _ _ => trivial))
        (case aO => exact HO2.out)
        (case aS => exact below_size HB.out)
        (case aL => have := HN1.out; simp only [List.length_map, List.length_take]; omega)
        intro v1 wz ho hb hg hat
        obtain ⟨ys, hys⟩ : ∃ ys, ((hs.take x.toNat).map toH) ++ [(toH (rd_T68 hs x))] = ys := ⟨_, rfl⟩
        rw [hys] at ho
        have HYS := Aside0.mk hys
        clear hys
        replace HO3 := Aside0.mk (Kd.R_over' HO3.out (Kd.R_typed HO2.out) (by decide) hg)
        replace HK := Aside0.mk (blk_grown HK.out hg (Kd.R_ne HO2.out HK.out (by decide)))
        replace HR := Aside0.mk (blk_grown HR.out hg (Kd.R_ne HO2.out HR.out (by decide)))
        replace HG := Aside0.mk (blk_grown HG.out hg (Kd.R_ne HO2.out HG.out (by decide)))
        clear HB HO2 hHeld
        have HB := Aside0.mk hb
        have HO2 := Aside0.mk ho
        clear ho hb hg hat
        obtain ⟨Bn, dn, en⟩ := Kd.R_slice HO2.out
        subst en
        refine hK.out _ _ ⟨(blk_cell HG.out 2).trans rfl, (blk_cell HK.out 2).trans rfl, later HB.out m0, later HB.out m1, later HB.out m2, later HB.out m3⟩ (fun hHeld => ?_)
        clear hK K
        refine norm_ (a' := ?_) ?_ ?_
        rotate_left
        · show Act.put _ (some 44) _ = _
          simp only [pS, i64_w, i32_w]
          rfl
        refine pure_ (i := 24) (N := some 45) (v := ?_) (a' := ?_) #[true, true, true, true, true, true, true, true, true, true, true, true, true, true, true, true, true, true, true, true, true, true, true, true, true, false] rfl rfl (any_of HT_.out (by kernel_rfl)) (fun _ _ _ h => h) (Or.inl ⟨by rfl, ?_⟩) ?_ ?_
        rotate_left
        · (intro w'; go_simp; with_reducible rfl)
        rotate_left
        · (simp only [pS, i64_w, i32_w]; rfl)
        refine last_ (i := 25) (N := none) #[true, true, true, true, true, true, true, true, true, true, true, true, true, true, true, true, true, true, true, true, true, true, true, true, true, true] rfl rfl (one_of HT_.out (by kernel_rfl)) (by decide) (fun K hK => ?_)
        have h27 : wz.cell? ⟨g9, 2, none⟩ = some (u2) := (blk_cell HG.out 2).trans rfl
        have hf27 := blk_frozen HG.out 2
        refine skip_ (w1 := ?_) (by rfl) rfl ?_ ?_
        rotate_left
        · go_simp
          rfl
        refine hK.out _ _ ?_
        clear hK K hHeld h27 hf27
        refine done_ (done_of HT_.out (by kernel_rfl)) ?_
        replace HO2 := Aside0.mk (Kd.R_mono (ok' := fun _ => True) (Kd.R_far (p := ⟨g9, 2, none⟩) (Kd.R_types HO2.out HG.out (by decide)) (fun _ hk => hk.2) (.slice Bn ys.length dn)) (fun _ _ => trivial))
        replace HO3 := Aside0.mk (Kd.R_mono (ok' := fun _ => True) (Kd.R_far (p := ⟨g9, 2, none⟩) (Kd.R_types HO3.out HG.out (by decide)) (fun _ hk => hk.2) (.slice Bn ys.length dn)) (fun _ _ => trivial))
        replace HK := Aside0.mk (blk_far HK.out (p := ⟨g9, 2, none⟩) HN.out.2.1 (.slice Bn ys.length dn))
        replace HR := Aside0.mk (blk_far HR.out (p := ⟨g9, 2, none⟩) HN.out.2.2.1 (.slice Bn ys.length dn))
        replace HG := Aside0.mk (blk_put HG.out 2 (.slice Bn ys.length dn) rfl)
        replace HB := Aside0.mk (below_set (j := 2) (v := .slice Bn ys.length dn) HB.out HN.out.1)
        generalize (wz.setCell ⟨g9, 2, none⟩ (.slice Bn ys.length dn)) = wn at HO2 HO3 HK HR HG HB ⊢
        have ht : ((hs.take x.toNat).map toH) ++ [(toH (rd_T68 hs x))] = (hs.take (x + 1).toNat).map toH := toH_snoc hs x hx0 hx1
        obtain rfl := HYS.out
        clear HYS
        rw [ht] at HO2 HG ⊢
        have hw : wrap64 (x + 1) = x + 1 := by have := HN1.out; unfold wrap64; omega
        try go_wp2
        go_roundg k1
        case measure => omega
        case rel => exact ⟨x + 1, _, by first | rfl | (rw [← hw]; first | rfl | (simp; done)) | go_num | (simp [hw]; done), ⟨by have := HX.out; omega⟩, HO2, HO3, HK, HR, HG, HB⟩
theorem list_q {A : Option Addr} {c : Nat} {l : List Int} (hC : Kd.C (Kd.int .i64) w A l.length l) (hl : l.length ≤ c) (h : l.length ≤ 1000) :
    Calls Try.prog 27 #[.slice A l.length c] w fun e w' => ∃ B d, e = .returned (.slice B l.length d) ∧ (Kd.C (Kd.int .i64) w' B l.length l ∧ l.length ≤ d) ∧ Below w.heap.size w w' := by
  refine (posserlaw04_list.calls A c l l w hC hl (list_f l h)).mono ?_
  rintro e w' ⟨v, rfl, hR, hb⟩
  obtain ⟨B, d, rfl, h1, h2⟩ := R_C hR
  exact ⟨B, d, rfl, ⟨h1, h2⟩, hb⟩
end
end Go.Proofs.Ytokhmghgghjmhaa.Q
namespace Go.Proofs.Ytokhmghgghjmhaa.Q
open Go.RowKit Go.Proofs.YtokhmghgghjmhaaW.PrintWords Go.Proofs.YtokhmghgghjmhaaW.PrintLast Go.Proofs.YtokhmghgghjmhaaW.PrintMore
set_option linter.unusedVariables false
section
variable {cs cl : Int} {A2 A3 A4 A A' : Option Addr} {c2 c3 c4 c c' n2 n3 n4 : Nat} {hs : List S68} {hung : List Int} {looks : List S84} {p d : List Int} {w : World}
theorem play_q {s : List Int × Int} (C : Cls w A2 A3 A4 c2 c3 c4 n2 n3 n4 hs hung looks) (hC : Kd.C (Kd.int .i64) w A p.length p ∧ p.length ≤ c) (hD : Kd.C (Kd.int .i64) w A' d.length d ∧ d.length ≤ c') (hs' : playR cs cl (hs.map toH) hung (looks.map toL) p d = s) :
    Calls Try.prog 48 #[.agg #[.int .i64 cs, .int .i64 cl, .slice A2 n2 c2, .slice A3 n3 c3, .slice A4 n4 c4], .slice A p.length c, .slice A' d.length c'] w
      fun e w' => ∃ B b, e = .returned (.tuple #[.slice B s.1.length b, .int .i64 s.2]) ∧ (Kd.C (Kd.int .i64) w' B s.1.length s.1 ∧ s.1.length ≤ b) ∧ Below w.heap.size w w' := by
  obtain ⟨rfl, rfl, rfl, M⟩ := C
  refine (playX_calls cs cl M hC.1 hC.2 hD.1 hD.2).mono ?_
  rw [hs']
  rintro e w' ⟨v, rfl, hR, hb⟩
  obtain ⟨B, b, rfl, h1, h2⟩ := R_C hR
  exact ⟨B, b, rfl, ⟨h1, h2⟩, hb⟩
theorem truth_q {s : Bool} (C : Cls w A2 A3 A4 c2 c3 c4 n2 n3 n4 hs hung looks) (hD : Kd.C (Kd.int .i64) w A' d.length d ∧ d.length ≤ c') (hs' : proveTR cs cl (hs.map toH) hung (looks.map toL) d = s) :
    Calls Try.prog 62 #[.agg #[.int .i64 cs, .int .i64 cl, .slice A2 n2 c2, .slice A3 n3 c3, .slice A4 n4 c4], .slice A' d.length c'] w fun e w' => e = .returned (.bool s) ∧ Below w.heap.size w w' := by
  obtain ⟨rfl, rfl, rfl, M⟩ := C
  have := proveTruth_calls cs cl M hD.1 hD.2
  rw [hs'] at this
  exact this
theorem check_q {s : Int} (C : Cls w A2 A3 A4 c2 c3 c4 n2 n3 n4 hs hung looks) (hs' : checkB cs cl (hs.map toH) hung (looks.map toL) = s) :
    Calls Try.prog 63 #[.agg #[.int .i64 cs, .int .i64 cl, .slice A2 n2 c2, .slice A3 n3 c3, .slice A4 n4 c4]] w fun e w' => e = .returned (.int .i64 s) ∧ Below w.heap.size w w' := by
  obtain ⟨rfl, rfl, rfl, M⟩ := C
  have := check_calls cs cl M
  rw [hs'] at this
  exact this
theorem right_q {h t : Int} {s : Int × Int} (C : Cls w A2 A3 A4 c2 c3 c4 n2 n3 n4 hs hung looks) (hC : Kd.C (Kd.int .i64) w A p.length p ∧ p.length ≤ c) (hn : hs.length ≤ 1000) (hs' : rightR cs cl (hs.map toH) hung (looks.map toL) p h t = s) :
    Calls Try.prog 71 #[.agg #[.int .i64 cs, .int .i64 cl, .slice A2 n2 c2, .slice A3 n3 c3, .slice A4 n4 c4], .slice A p.length c, .int .i64 h, .int .i64 t] w fun e w' => e = .returned (.tuple #[.int .i64 s.1, .int .i64 s.2]) ∧ Below w.heap.size w w' := by
  obtain ⟨rfl, rfl, rfl, M⟩ := C
  have := rightX_calls cs cl h t M hC.1 hC.2 (by rw [List.length_map]; exact hn)
  rw [hs'] at this
  exact this
theorem good_q {h : Int} {s : Int × Int × Int} (C : Cls w A2 A3 A4 c2 c3 c4 n2 n3 n4 hs hung looks) (hC : Kd.C (Kd.int .i64) w A p.length p ∧ p.length ≤ c) (hn : hs.length ≤ 1000) (hs' : goodR cs cl (hs.map toH) hung (looks.map toL) p h = s) :
    Calls Try.prog 54 #[.agg #[.int .i64 cs, .int .i64 cl, .slice A2 n2 c2, .slice A3 n3 c3, .slice A4 n4 c4], .slice A p.length c, .int .i64 h] w fun e w' => e = .returned (.tuple #[.agg #[.int .i64 s.1, .int .i64 s.2.1], .int .i64 s.2.2]) ∧ Below w.heap.size w w' := by
  obtain ⟨rfl, rfl, rfl, M⟩ := C
  have := goodX_calls cs cl h M hC.1 hC.2 (by rw [List.length_map]; exact hn)
  rw [hs'] at this
  exact this
theorem best_q {s : List Int × Int × Int} (C : Cls w A2 A3 A4 c2 c3 c4 n2 n3 n4 hs hung looks) (hs' : bestR cs cl (hs.map toH) hung (looks.map toL) = s) :
    Calls Try.prog 49 #[.agg #[.int .i64 cs, .int .i64 cl, .slice A2 n2 c2, .slice A3 n3 c3, .slice A4 n4 c4]] w
      fun e w' => ∃ B b, e = .returned (.tuple #[.slice B s.1.length b, .int .i64 s.2.1, .int .i64 s.2.2]) ∧ (Kd.C (Kd.int .i64) w' B s.1.length s.1 ∧ s.1.length ≤ b) ∧ Below w.heap.size w w' := by
  obtain ⟨rfl, rfl, rfl, M⟩ := C
  refine (bestX_calls cs cl M).mono ?_
  rw [hs']
  rintro e w' ⟨v, rfl, hR, hb⟩
  obtain ⟨B, b, rfl, h1, h2⟩ := R_C hR
  exact ⟨B, b, rfl, ⟨h1, h2⟩, hb⟩
theorem leave_q {s : List Int × Int} (C : Cls w A2 A3 A4 c2 c3 c4 n2 n3 n4 hs hung looks) (hs' : leaveR cs cl (hs.map toH) hung (looks.map toL) = s) :
    Calls Try.prog 35 #[.agg #[.int .i64 cs, .int .i64 cl, .slice A2 n2 c2, .slice A3 n3 c3, .slice A4 n4 c4]] w
      fun e w' => ∃ B b, e = .returned (.tuple #[.slice B s.1.length b, .int .i64 s.2]) ∧ (Kd.C (Kd.int .i64) w' B s.1.length s.1 ∧ s.1.length ≤ b) ∧ Below w.heap.size w w' := by
  obtain ⟨rfl, rfl, rfl, M⟩ := C
  refine (leaveX_calls cs cl M).mono ?_
  rw [hs']
  rintro e w' ⟨v, rfl, hR, hb⟩
  obtain ⟨B, b, rfl, h1, h2⟩ := R_C hR
  exact ⟨B, b, rfl, ⟨h1, h2⟩, hb⟩
theorem first_q {s : Int × Int} (C : Cls w A2 A3 A4 c2 c3 c4 n2 n3 n4 hs hung looks) (hs' : firstR cs cl (hs.map toH) hung (looks.map toL) = s) :
    Calls Try.prog 34 #[.agg #[.int .i64 cs, .int .i64 cl, .slice A2 n2 c2, .slice A3 n3 c3, .slice A4 n4 c4]] w fun e w' => e = .returned (.tuple #[.int .i64 s.1, .int .i64 s.2]) ∧ Below w.heap.size w w' := by
  obtain ⟨rfl, rfl, rfl, M⟩ := C
  have := firstX_calls cs cl M
  rw [hs'] at this
  exact this
theorem place_q {t : Int} {s : Bool} (C : Cls w A2 A3 A4 c2 c3 c4 n2 n3 n4 hs hung looks) (hC : Kd.C (Kd.int .i64) w A p.length p ∧ p.length ≤ c) (hn : hs.length ≤ 1000) (hs' : provePR cs cl (hs.map toH) hung (looks.map toL) p t = s) :
    Calls Try.prog 66 #[.agg #[.int .i64 cs, .int .i64 cl, .slice A2 n2 c2, .slice A3 n3 c3, .slice A4 n4 c4], .slice A p.length c, .int .i64 t] w fun e w' => e = .returned (.bool s) ∧ Below w.heap.size w w' := by
  obtain ⟨rfl, rfl, rfl, M⟩ := C
  have := provePlace_calls cs cl t M hC.1 hC.2 (by rw [List.length_map]; exact hn)
  rw [hs'] at this
  exact this
end
end Go.Proofs.Ytokhmghgghjmhaa.Q
