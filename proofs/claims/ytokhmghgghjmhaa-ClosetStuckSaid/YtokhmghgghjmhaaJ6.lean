/- Part 6 of the proof (QE, QI, C35, C36, C37, P0): contracts of functions, and plain lemmas about what they compute. -/
import Derived.Test.YtokhmghgghjmhaaJ0
import Derived.Test.YtokhmghgghjmhaaJ5
import Derived.Test.YtokhmghgghjmhaaJ3
import Derived.Test.YtokhmghgghjmhaaJ4
import Derived.Test.YtokhmghgghjmhaaJ2
import Derived.ChangeKeysEq
import Derived.Test.YtokhmghgghjmhaaJ1
namespace Go.Proofs.Ytokhmghgghjmhaa.Q
open Go.RowKit Go.Proofs.YtokhmghgghjmhaaW.PrintWords Go.Proofs.YtokhmghgghjmhaaW.PrintLast Go.Proofs.YtokhmghgghjmhaaW.PrintMore
attribute [local go_sem] max2_int min2_int max_two min_two max_three min_three max_four min_four   -- for this text's walks alone
set_option linter.unusedVariables false
set_option linter.unusedSimpArgs false

/-! ### posserref04_IsRight: function 122 -/
def posserref04_IsRight.f (k : Nat) (a0_0 : Int) (a0_1 : Int) (l0_2 : List (S68)) (l0_3 : List Int) (l0_4 : List (S84)) (l1 : List Int) (l2 : List Int) (a3 : Int) (a4 : Int) : Option (Bool) := (posserref04_Minute.f k a0_0 a0_1 l0_2 l0_3 l0_4 l1 l2 a3).bind fun t203 => (if 0 ≤ a3 then (if a3 < (l0_2.length : Int) then ((posserref04_In.f a4 t203 (wrap64 (t203 + ((rd_T68 l0_2 a3).f2)))).bind fun t205 => (some t205)) else (none)) else (none))
set_option maxHeartbeats 8000000 in
set_option maxRecDepth 100000 in
theorem posserref04_IsRight.calls (k : Nat) (a0_0 : Int) (a0_1 : Int) (A0_2 : Option Addr) (c0_2 : Nat) (l0_2 : List (S68)) (A0_3 : Option Addr) (c0_3 : Nat) (l0_3 : List Int) (A0_4 : Option Addr) (c0_4 : Nat) (l0_4 : List (S84)) (A1 : Option Addr) (c1 : Nat) (l1 : List Int) (A2 : Option Addr) (c2 : Nat) (l2 : List Int) (a3 : Int) (a4 : Int) (r : Bool) (w : World) (hr0_2 : Kd.C k68 w A0_2 l0_2.length l0_2) (hc0_2 : l0_2.length ≤ c0_2) (hr0_3 : Kd.C (Kd.int .i64) w A0_3 l0_3.length l0_3) (hc0_3 : l0_3.length ≤ c0_3) (hr0_4 : Kd.C k84 w A0_4 l0_4.length l0_4) (hc0_4 : l0_4.length ≤ c0_4) (hr1 : Kd.C (Kd.int .i64) w A1 l1.length l1) (hc1 : l1.length ≤ c1) (hr2 : Kd.C (Kd.int .i64) w A2 l2.length l2) (hc2 : l2.length ≤ c2) (h : posserref04_IsRight.f k a0_0 a0_1 l0_2 l0_3 l0_4 l1 l2 a3 a4 = some r) :
    Calls Try.prog 122 #[.agg #[.int .i64 a0_0, .int .i64 a0_1, .slice A0_2 l0_2.length c0_2, .slice A0_3 l0_3.length c0_3, .slice A0_4 l0_4.length c0_4], .slice A1 l1.length c1, .slice A2 l2.length c2, .int .i64 a3, .int .i64 a4] w fun e w' => e = .returned (.bool r) ∧ Below w.heap.size w w' := by
  have hu26 := Try.underlying26
  have HR0_2 := Aside0.mk hr0_2
  have HC0_2 := Aside0.mk hc0_2
  clear hr0_2 hc0_2
  have HR0_3 := Aside0.mk hr0_3
  have HC0_3 := Aside0.mk hc0_3
  clear hr0_3 hc0_3
  have HR0_4 := Aside0.mk hr0_4
  have HC0_4 := Aside0.mk hc0_4
  clear hr0_4 hc0_4
  have HR1 := Aside0.mk hr1
  have HC1 := Aside0.mk hc1
  clear hr1 hc1
  have HR2 := Aside0.mk hr2
  have HC2 := Aside0.mk hc2
  clear hr2 hc2
  have HB := Aside0.mk (Below.refl w.heap.size w)
  have H : ((posserref04_Minute.f k a0_0 a0_1 l0_2 l0_3 l0_4 l1 l2 a3).bind fun t203 => (if 0 ≤ a3 then (if a3 < (l0_2.length : Int) then ((posserref04_In.f a4 t203 (wrap64 (t203 + ((rd_T68 l0_2 a3).f2)))).bind fun t205 => (some t205)) else (none)) else (none))) = some r := h
  clear h
  replace H := Option.bind_eq_some_iff.mp H
  obtain ⟨t203, A60, H⟩ := H
  replace H : (if 0 ≤ a3 then (if a3 < (l0_2.length : Int) then ((posserref04_In.f a4 t203 (wrap64 (t203 + ((rd_T68 l0_2 a3).f2)))).bind fun t205 => (some t205)) else (none)) else (none)) = some r := H
  have A6 := Aside0.mk A60
  clear A60
  by_cases c7 : 0 ≤ a3
  · rw [if_pos c7] at H
    have c7b0 : decide (0 ≤ a3) = true := decide_eq_true c7
    clear c7
    by_cases c8 : a3 < (l0_2.length : Int)
    · rw [if_pos c8] at H
      have c8b0 : decide (a3 < (l0_2.length : Int)) = true := decide_eq_true c8
      clear c8
      replace H := Option.bind_eq_some_iff.mp H
      obtain ⟨t205, A90, H⟩ := H
      replace H : (some t205) = some r := H
      have A9 := Aside0.mk A90
      clear A90
      obtain rfl := Option.some.inj H
      go_enter Try.func122, Try.ntmps122
      go_wp2_with (first | ((with_reducible refine gate_dst (N := 5) rfl ?_); refine box_event ?hg (N := 5) ?hd (cs := #[.int .i64 a0_0, .int .i64 a0_1, .slice A0_2 l0_2.length c0_2, .slice A0_3 l0_3.length c0_3, .slice A0_4 l0_4.length c0_4]) (t := 26) ?hr ?_; (case hd => rfl); (case hg => rfl); (case hr => first | (go_simp; done) | (go_simp; rfl)); intro gb202 hg w10 hbox hb; have n0_ := Aside0.mk (below_step (by repeat (first | (with_reducible first | exact HB.out | apply below_alloc | apply pw_below_drewN | apply below_drew1) | exact HB.out)) hb); have n1_ := Aside0.mk (hbox); have n2_ := Aside0.mk ((by rw [hg]; exact (below_size (by repeat (first | (with_reducible first | exact HB.out | apply below_alloc | apply pw_below_drewN | apply below_drew1) | exact HB.out))) : w.heap.size ≤ gb202)); have n3_ := Aside0.mk ((by rw [hg]; exact (below_size (by repeat (first | (with_reducible first | exact HB.out | apply below_alloc | apply pw_below_drewN | apply below_drew1) | exact HB.out))) : w.heap.size ≤ gb202)); clear HB; have HB := n0_; have BK202 := n1_; have GW202 := n2_; have GE202 := n3_; clear n0_ n1_ n2_ n3_; clear hb hbox hg; have hcz11_0 : w10.cell? ⟨gb202, 0, none⟩ = some (.int .i64 a0_0) := (blk_cell BK202.out 0).trans rfl; have hcz11_1 : w10.cell? ⟨gb202, 1, none⟩ = some (.int .i64 a0_1) := (blk_cell BK202.out 1).trans rfl; have hcz11_2 : w10.cell? ⟨gb202, 2, none⟩ = some (.slice A0_2 l0_2.length c0_2) := (blk_cell BK202.out 2).trans rfl; have hcz11_3 : w10.cell? ⟨gb202, 3, none⟩ = some (.slice A0_3 l0_3.length c0_3) := (blk_cell BK202.out 3).trans rfl; have hcz11_4 : w10.cell? ⟨gb202, 4, none⟩ = some (.slice A0_4 l0_4.length c0_4) := (blk_cell BK202.out 4).trans rfl; have hfz11_0 := blk_frozen BK202.out 0; have hfz11_1 := blk_frozen BK202.out 1; have hfz11_2 := blk_frozen BK202.out 2; have hfz11_3 := blk_frozen BK202.out 3; have hfz11_4 := blk_frozen BK202.out 4) | ((with_reducible refine gate_callee (f := 55) rfl ?_); refine goesL_ (some 16) rfl rfl Try.func55 (by kernel_rfl) rfl #[.agg #[.int .i64 a0_0, .int .i64 a0_1, .slice A0_2 l0_2.length c0_2, .slice A0_3 l0_3.length c0_3, .slice A0_4 l0_4.length c0_4], .slice A1 l1.length c1, .slice A2 l2.length c2, .int .i64 a3] rfl (by (try simp only [List.map_toArray, List.map_cons, List.map_nil]); first | done | rfl | (simp only [List.length_drop, List.length_take]; rfl)) ?_; (with_reducible refine (posserref04_Minute.calls k a0_0 a0_1 _ _ l0_2 _ _ l0_3 _ _ l0_4 _ _ l1 _ _ l2 a3 t203 _ ?side1 ?side2 ?side3 ?side4 ?side5 ?side6 ?side7 ?side8 ?side9 ?side10 A6.out).mono ?_); (case side1 => repeat (first | exact (Kd.C_below HR0_2.out HB.out) | (with_reducible refine Kd.C_alloc ?_ _) | (with_reducible refine Kd.C_drewN ?_ _) | (with_reducible refine Kd.C_drew ?_))); (case side2 => exact HC0_2.out); (case side3 => repeat (first | exact (Kd.C_below HR0_3.out HB.out) | (with_reducible refine Kd.C_alloc ?_ _) | (with_reducible refine Kd.C_drewN ?_ _) | (with_reducible refine Kd.C_drew ?_))); (case side4 => exact HC0_3.out); (case side5 => repeat (first | exact (Kd.C_below HR0_4.out HB.out) | (with_reducible refine Kd.C_alloc ?_ _) | (with_reducible refine Kd.C_drewN ?_ _) | (with_reducible refine Kd.C_drew ?_))); (case side6 => exact HC0_4.out); (case side7 => repeat (first | exact (Kd.C_below HR1.out HB.out) | (with_reducible refine Kd.C_alloc ?_ _) | (with_reducible refine Kd.C_drewN ?_ _) | (with_reducible refine Kd.C_drew ?_))); (case side8 => exact HC1.out); (case side9 => repeat (first | exact (Kd.C_below HR2.out HB.out) | (with_reducible refine Kd.C_alloc ?_ _) | (with_reducible refine Kd.C_drewN ?_ _) | (with_reducible refine Kd.C_drew ?_))); (case side10 => exact HC2.out); rintro e w12 ⟨rfl, hb⟩; refine ⟨_, rfl, ?_⟩; have n0_ := Aside0.mk (blk_below (g := gb202) (o := .cells #[.int .i64 a0_0, .int .i64 a0_1, .slice A0_2 l0_2.length c0_2, .slice A0_3 l0_3.length c0_3, .slice A0_4 l0_4.length c0_4] 26 (0, 0)) (by (with_reducible repeat (first | refine blk_drewN ?_ _ | refine blk_drew ?_ | refine blk_alloc ?_ _)); exact BK202.out) hb); have n1_ := Aside0.mk (below_step (by repeat (first | (with_reducible first | exact HB.out | apply below_alloc | apply pw_below_drewN | apply below_drew1 | refine below_set ?_ GE202.out) | exact HB.out)) hb); clear BK202; clear HB; have BK202 := n0_; have HB := n1_; clear n0_ n1_; (try clear hb); (try clear hb2); (try clear hk); (try clear hi); have hcz13_0 : w12.cell? ⟨gb202, 0, none⟩ = some (.int .i64 a0_0) := (blk_cell BK202.out 0).trans rfl; have hcz13_1 : w12.cell? ⟨gb202, 1, none⟩ = some (.int .i64 a0_1) := (blk_cell BK202.out 1).trans rfl; have hcz13_2 : w12.cell? ⟨gb202, 2, none⟩ = some (.slice A0_2 l0_2.length c0_2) := (blk_cell BK202.out 2).trans rfl; have hcz13_3 : w12.cell? ⟨gb202, 3, none⟩ = some (.slice A0_3 l0_3.length c0_3) := (blk_cell BK202.out 3).trans rfl; have hcz13_4 : w12.cell? ⟨gb202, 4, none⟩ = some (.slice A0_4 l0_4.length c0_4) := (blk_cell BK202.out 4).trans rfl; have hfz13_0 := blk_frozen BK202.out 0; have hfz13_1 := blk_frozen BK202.out 1; have hfz13_2 := blk_frozen BK202.out 2; have hfz13_3 := blk_frozen BK202.out 3; have hfz13_4 := blk_frozen BK202.out 4; have p204 : 0 ≤ (a3 : Int) := of_decide_eq_true (by first | (with_reducible assumption) | assumption); have q204 : a3 < (l0_2.length : Int) := of_decide_eq_true (by first | (with_reducible assumption) | assumption); obtain ⟨ad204, e204, hx204_0, hx204_1, hx204_2, hx204_3⟩ := at_T68 HR0_2.out a3 p204 q204; cases e204; replace hx204_0 := (HB.out.cell (World.block_lt_of_cell? w _ hx204_0)).trans hx204_0; replace hx204_1 := (HB.out.cell (World.block_lt_of_cell? w _ hx204_1)).trans hx204_1; replace hx204_2 := (HB.out.cell (World.block_lt_of_cell? w _ hx204_2)).trans hx204_2; replace hx204_3 := (HB.out.cell (World.block_lt_of_cell? w _ hx204_3)).trans hx204_3; replace p204 := eq_true p204; replace q204 := eq_true q204) | ((with_reducible refine gate_callee (f := 44) rfl ?_); refine goesL_ (some 27) rfl rfl Try.func44 (by kernel_rfl) rfl #[.int .i64 a4, .int .i64 t203, .int .i64 (wrap64 (t203 + ((rd_T68 l0_2 a3).f2)))] rfl (by (try simp only [List.map_toArray, List.map_cons, List.map_nil]); first | done | rfl | (simp only [List.length_drop, List.length_take]; rfl)) ?_; (with_reducible refine (posserref04_In.calls a4 t203 (wrap64 (t203 + ((rd_T68 l0_2 a3).f2))) t205 _ A9.out).mono ?_); rintro e w' ⟨rfl, ⟨nd, rfl⟩⟩; refine ⟨_, rfl, ?_⟩))
      go_ret
      exact ⟨by first | rfl | (simp [errW_none, errW_some] <;> rfl) | (simp [*, errW_none, errW_some] <;> rfl), by repeat (first | (with_reducible first | exact HB.out | apply below_alloc | apply pw_below_drewN | apply below_drew1 | refine below_set ?_ GE202.out) | exact HB.out)⟩
    · rw [if_neg c8] at H
      exact absurd H (by simp)
  · rw [if_neg c7] at H
    exact absurd H (by simp)


/-! ### posserref04_Verdict: function 72 -/
def posserref04_Verdict.l0 : Nat → List (List Int) → List Int → Int → Int → Int → Int → Int → Int → List (S68) → List Int → List (S84) → Option (Int)
  | 0, _, _, _, _, _, _, _, _, _, _, _ => none
  | k + 1, x1, x2, x3, x4, x11, x12, x207000, x207001, x207002, x207003, x207004 => if x12 < (x1.length : Int) then (if 0 ≤ x12 then ((posserref04_IsRight.f k x207000 x207001 x207002 x207003 x207004 x2 (rd_L9 x1 x12) x3 x4).bind fun t208 => (if t208 = true then (posserref04_Verdict.l0 k x1 x2 x3 x4 (wrap64 (x11 + 1)) (wrap64 (x12 + 1)) x207000 x207001 x207002 x207003 x207004) else (posserref04_Verdict.l0 k x1 x2 x3 x4 x11 (wrap64 (x12 + 1)) x207000 x207001 x207002 x207003 x207004))) else (none)) else (if x11 = (x1.length : Int) then (some 1) else (if x11 = 0 then (some 2) else (some 3)))
def posserref04_Verdict.f (k : Nat) (a0_0 : Int) (a0_1 : Int) (l0_2 : List (S68)) (l0_3 : List Int) (l0_4 : List (S84)) (l1 : List (List Int)) (l2 : List Int) (a3 : Int) (a4 : Int) : Option (Int) := posserref04_Verdict.l0 k l1 l2 a3 a4 0 0 a0_0 a0_1 l0_2 l0_3 l0_4
def posserref04_Verdict.T5 : Bool × List (List Nat × List Nat) := (true, [([], []), ([], []), ([], []), ([], []), ([2, 3], [2, 3]), ([4], [4]), ([], []), ([], []), ([0, 1, 5, 6, 7], [0, 1, 5, 6, 7])])
def posserref04_Verdict.B5 : List Nat := [0, 0, 0, 0, 12, 28, 0, 0, 255]
theorem posserref04_Verdict.tab5 : rtab .any (opsOf Try.f72 5) = posserref04_Verdict.T5 := by kernel_rfl
theorem posserref04_Verdict.bits5 : waitsOk posserref04_Verdict.T5.2 posserref04_Verdict.B5 = true := by kernel_rfl
set_option maxHeartbeats 8000000 in
set_option maxRecDepth 100000 in
theorem posserref04_Verdict.calls (k : Nat) (a0_0 : Int) (a0_1 : Int) (A0_2 : Option Addr) (c0_2 : Nat) (l0_2 : List (S68)) (A0_3 : Option Addr) (c0_3 : Nat) (l0_3 : List Int) (A0_4 : Option Addr) (c0_4 : Nat) (l0_4 : List (S84)) (A1 : Option Addr) (c1 : Nat) (l1 : List (List Int)) (A2 : Option Addr) (c2 : Nat) (l2 : List Int) (a3 : Int) (a4 : Int) (r : Int) (w : World) (hr0_2 : Kd.C k68 w A0_2 l0_2.length l0_2) (hc0_2 : l0_2.length ≤ c0_2) (hr0_3 : Kd.C (Kd.int .i64) w A0_3 l0_3.length l0_3) (hc0_3 : l0_3.length ≤ c0_3) (hr0_4 : Kd.C k84 w A0_4 l0_4.length l0_4) (hc0_4 : l0_4.length ≤ c0_4) (hr1 : Kd.C (Kd.slice 3 (Kd.int .i64)) w A1 l1.length l1) (hc1 : l1.length ≤ c1) (hr2 : Kd.C (Kd.int .i64) w A2 l2.length l2) (hc2 : l2.length ≤ c2) (h : posserref04_Verdict.f k a0_0 a0_1 l0_2 l0_3 l0_4 l1 l2 a3 a4 = some r) :
    Calls Try.prog 72 #[.agg #[.int .i64 a0_0, .int .i64 a0_1, .slice A0_2 l0_2.length c0_2, .slice A0_3 l0_3.length c0_3, .slice A0_4 l0_4.length c0_4], .slice A1 l1.length c1, .slice A2 l2.length c2, .int .i64 a3, .int .i64 a4] w fun e w' => e = .returned (.int .i64 r) ∧ Below w.heap.size w w' := by
  have hu26 := Try.underlying26
  have HR0_2 := Aside0.mk hr0_2
  have HC0_2 := Aside0.mk hc0_2
  clear hr0_2 hc0_2
  have HR0_3 := Aside0.mk hr0_3
  have HC0_3 := Aside0.mk hc0_3
  clear hr0_3 hc0_3
  have HR0_4 := Aside0.mk hr0_4
  have HC0_4 := Aside0.mk hc0_4
  clear hr0_4 hc0_4
  have HR1 := Aside0.mk hr1
  have HC1 := Aside0.mk hc1
  clear hr1 hc1
  have HR2 := Aside0.mk hr2
  have HC2 := Aside0.mk hc2
  clear hr2 hc2
  have HB := Aside0.mk (Below.refl w.heap.size w)
  have H : (posserref04_Verdict.l0 k l1 l2 a3 a4 0 0 a0_0 a0_1 l0_2 l0_3 l0_4) = some r := h
  clear h
  have H' := Aside0.mk H
  clear H
  go_enter Try.func72, Try.ntmps72
  go_wp2_with (first | ((with_reducible refine gate_dst (N := 5) rfl ?_); refine box_event ?hg (N := 5) ?hd (cs := #[.int .i64 a0_0, .int .i64 a0_1, .slice A0_2 l0_2.length c0_2, .slice A0_3 l0_3.length c0_3, .slice A0_4 l0_4.length c0_4]) (t := 26) ?hr ?_; (case hd => rfl); (case hg => rfl); (case hr => first | (go_simp; done) | (go_simp; rfl)); intro gb206 hg w6 hbox hb; have n0_ := Aside0.mk (below_step (by repeat (first | (with_reducible first | exact HB.out | apply below_alloc | apply pw_below_drewN | apply below_drew1) | exact HB.out)) hb); have n1_ := Aside0.mk (hbox); have n2_ := Aside0.mk ((by rw [hg]; exact (below_size (by repeat (first | (with_reducible first | exact HB.out | apply below_alloc | apply pw_below_drewN | apply below_drew1) | exact HB.out))) : w.heap.size ≤ gb206)); have n3_ := Aside0.mk ((by rw [hg]; exact (below_size (by repeat (first | (with_reducible first | exact HB.out | apply below_alloc | apply pw_below_drewN | apply below_drew1) | exact HB.out))) : w.heap.size ≤ gb206)); clear HB; have HB := n0_; have BK206 := n1_; have GW206 := n2_; have GE206 := n3_; clear n0_ n1_ n2_ n3_; clear hb hbox hg))
  go_loopg [11, 12] k (fun kq v11 v12 w' => ∃ (x11_1 : Int) (x12_1 : Int), v11 = .int .i64 x11_1 ∧ v12 = .int .i64 x12_1 ∧ Aside0 (posserref04_Verdict.l0 kq l1 l2 a3 a4 x11_1 x12_1 a0_0 a0_1 l0_2 l0_3 l0_4 = some r) ∧ Aside0 (kq ≤ k) ∧ Aside0 (w'.heap[gb206]? = some (.cells #[.int .i64 a0_0, .int .i64 a0_1, (.slice A0_2 l0_2.length c0_2), (.slice A0_3 l0_3.length c0_3), (.slice A0_4 l0_4.length c0_4)] 26 (0, 0))) ∧ Aside0 (Below w.heap.size w w'))
  case atStart => exact ⟨(0), (0), (by first | rfl | (simp; done) | (simp [*]; done)), (by first | rfl | (simp; done) | (simp [*]; done)), H', ⟨Nat.le_refl _⟩, ⟨by (with_reducible repeat (first | refine blk_drewN ?_ _ | refine blk_drew ?_ | refine blk_alloc ?_ _)); exact BK206.out⟩, ⟨by repeat (first | (with_reducible first | exact HB.out | apply below_alloc | apply pw_below_drewN | apply below_drew1 | refine below_set ?_ GE206.out) | exact HB.out)⟩⟩
  case round =>
    clear H'
    try clear c1
    try clear c2
    try clear p2
    obtain ⟨x11_1, x12_1, rfl, rfl, HA, HK1, BK206, HB⟩ := hrel
    cases gk with
    | zero => exact absurd HA.out (by simp [posserref04_Verdict.l0])
    | succ k1 =>
      have H := HA.out
      clear HA
      simp only [posserref04_Verdict.l0] at H
      by_cases c7 : x12_1 < (l1.length : Int)
      · rw [if_pos c7] at H
        have c7b0 : decide (x12_1 < (l1.length : Int)) = true := decide_eq_true c7
        clear c7
        by_cases c8 : 0 ≤ x12_1
        · rw [if_pos c8] at H
          have c8b0 : decide (0 ≤ x12_1) = true := decide_eq_true c8
          clear c8
          replace H := Option.bind_eq_some_iff.mp H
          obtain ⟨t208, A90, H⟩ := H
          replace H : (if t208 = true then (posserref04_Verdict.l0 k1 l1 l2 a3 a4 (wrap64 (x11_1 + 1)) (wrap64 (x12_1 + 1)) a0_0 a0_1 l0_2 l0_3 l0_4) else (posserref04_Verdict.l0 k1 l1 l2 a3 a4 x11_1 (wrap64 (x12_1 + 1)) a0_0 a0_1 l0_2 l0_3 l0_4)) = some r := H
          have A9 := Aside0.mk A90
          clear A90
          by_cases c10 : t208 = true
          · subst c10
            have H1 : (posserref04_Verdict.l0 k1 l1 l2 a3 a4 (wrap64 (x11_1 + 1)) (wrap64 (x12_1 + 1)) a0_0 a0_1 l0_2 l0_3 l0_4) = some r := by rw [if_pos rfl] at H; exact H
            clear H
            have H := H1
            clear H1
            have H' := Aside0.mk H
            clear H
            try go_wp2
            have n0_ := Aside0.mk (blk_drew BK206.out)
            have n1_ := Aside0.mk (below_drew1 HB.out)
            clear BK206
            clear HB
            have BK206 := n0_
            have HB := n1_
            clear n0_ n1_
            have p207 : 0 ≤ (x12_1 : Int) := of_decide_eq_true (by first | (with_reducible assumption) | assumption)
            have q207 : x12_1 < (l1.length : Int) := of_decide_eq_true (by first | (with_reducible assumption) | assumption)
            obtain ⟨ad207, A207_0, c207_0, e207, hx207_0, hl207_0, hi207_0⟩ := at_L9 HR1.out x12_1 p207 q207
            have hw207_0 := hx207_0
            cases e207
            replace hx207_0 := (HB.out.cell (World.block_lt_of_cell? w _ hx207_0)).trans hx207_0
            have HR207_0 := Aside0.mk hi207_0
            have HC207_0 := Aside0.mk hl207_0
            clear hi207_0 hl207_0
            replace p207 := eq_true p207
            replace q207 := eq_true q207
            refine start_ (n := 9) (S := fun w' => w'.cell? ⟨gb206, 0, none⟩ = some (.int .i64 a0_0) ∧ w'.cell? ⟨gb206, 1, none⟩ = some (.int .i64 a0_1) ∧ w'.cell? ⟨gb206, 2, none⟩ = some (.slice A0_2 l0_2.length c0_2) ∧ w'.cell? ⟨gb206, 3, none⟩ = some (.slice A0_3 l0_3.length c0_3) ∧ w'.cell? ⟨gb206, 4, none⟩ = some (.slice A0_4 l0_4.length c0_4) ∧ w'.cell? (ad207.add (x12_1).toNat) = some (.slice A207_0 (rd_L9 l1 x12_1).length c207_0)) (ds := []) #[false, false, false, false, false, false, false, false, false] (by kernel_rfl) rfl rfl ⟨(blk_cell BK206.out 0).trans rfl, (blk_cell BK206.out 1).trans rfl, (blk_cell BK206.out 2).trans rfl, (blk_cell BK206.out 3).trans rfl, (blk_cell BK206.out 4).trans rfl, ((HB.out.cell (World.block_lt_of_cell? w _ hw207_0)).trans hw207_0)⟩ (fun hHeld => ?_); refine with_tabW posserref04_Verdict.tab5 posserref04_Verdict.bits5 (fun HT_ HW_ => ?_)
            generalize wr.drew = w11 at BK206 HB HR207_0 hx207_0 hHeld ⊢
            refine pure_ (i := 1) (N := some 20) (v := ?_) (a' := ?_) #[false, true, false, false, false, false, false, false, false] rfl rfl (any_of HT_.out (by kernel_rfl)) (fun _ _ _ h => h) (Or.inl ⟨by rfl, ?_⟩) ?_ ?_
            rotate_left
            · intro w'
              go_simp
              with_reducible rfl
            rotate_left
            · simp only [Act.put, List.setIfInBounds_toArray, List.set_cons_zero, List.set_cons_succ, i64_w, i32_w]
              rfl
            refine pure_ (i := 2) (N := some 21) (v := ?_) (a' := ?_) #[false, true, true, false, false, false, false, false, false] rfl rfl (any_of HT_.out (by kernel_rfl)) (fun _ _ _ h => h) (Or.inl ⟨by rfl, ?_⟩) ?_ ?_
            rotate_left
            · intro w'
              go_simp
              with_reducible rfl
            rotate_left
            · simp only [Act.put, List.setIfInBounds_toArray, List.set_cons_zero, List.set_cons_succ, i64_w, i32_w]
              rfl
            refine pure_ (i := 3) (N := some 22) (v := ?_) (a' := ?_) #[false, true, true, true, false, false, false, false, false] rfl rfl (any_of HT_.out (by kernel_rfl)) (fun _ _ _ h => h) (Or.inl ⟨by rfl, ?_⟩) ?_ ?_
            rotate_left
            · intro w'
              go_simp
              with_reducible rfl
            rotate_left
            · simp only [Act.put, List.setIfInBounds_toArray, List.set_cons_zero, List.set_cons_succ, i64_w, i32_w]
              rfl
            refine pure_ (i := 4) (N := some 23) (v := ?_) (a' := ?_) #[false, true, true, true, true, false, false, false, false] rfl rfl (any_of HT_.out (by kernel_rfl)) (fun _ _ _ h => h) (Or.inl ⟨by rfl, ?_⟩) ?_ ?_
            rotate_left
            · intro w'
              go_simp
              with_reducible rfl
            rotate_left
            · simp only [Act.put, List.setIfInBounds_toArray, List.set_cons_zero, List.set_cons_succ, i64_w, i32_w]
              rfl
            refine pure_ (i := 6) (N := some 25) (v := ?_) (a' := ?_) #[false, true, true, true, true, false, true, false, false] rfl rfl (any_of HT_.out (by kernel_rfl)) (fun _ _ _ h => h) (Or.inl ⟨by rfl, ?_⟩) ?_ ?_
            rotate_left
            · intro w'
              go_simp
              with_reducible rfl
            rotate_left
            · simp only [Act.put, List.setIfInBounds_toArray, List.set_cons_zero, List.set_cons_succ, i64_w, i32_w]
              rfl
            refine pure_ (i := 7) (N := some 26) (v := ?_) (a' := ?_) #[false, true, true, true, true, false, true, true, false] rfl rfl (any_of HT_.out (by kernel_rfl)) (fun _ _ _ h => h) (Or.inl ⟨by rfl, ?_⟩) ?_ ?_
            rotate_left
            · intro w'
              go_simp
              with_reducible rfl
            rotate_left
            · simp only [Act.put, List.setIfInBounds_toArray, List.set_cons_zero, List.set_cons_succ, i64_w, i32_w]
              rfl
            refine take_ (i := 0) (N := some 19) (v := ?_) (a' := ?_) #[true, true, true, true, true, false, true, true, false] rfl rfl (take_ofW HT_.out HW_.out (by kernel_rfl)) (fun _ _ _ h => h) (Or.inl ⟨by rfl, ?_⟩) hHeld ?_ ?_
            rotate_left
            · rintro w' ⟨s0, s1, s2, s3, s4, s5⟩
              go_simp
              with_reducible rfl
            rotate_left
            · simp only [Act.put, List.setIfInBounds_toArray, List.set_cons_zero, List.set_cons_succ, i64_w, i32_w]
              rfl
            refine take_ (i := 5) (N := some 24) (v := ?_) (a' := ?_) #[true, true, true, true, true, true, true, true, false] rfl rfl (take_ofW HT_.out HW_.out (by kernel_rfl)) (fun _ _ _ h => h) (Or.inl ⟨by rfl, ?_⟩) hHeld ?_ ?_
            rotate_left
            · rintro w' ⟨s0, s1, s2, s3, s4, s5⟩
              go_simp
              with_reducible rfl
            rotate_left
            · simp only [Act.put, List.setIfInBounds_toArray, List.set_cons_zero, List.set_cons_succ, i64_w, i32_w]
              rfl
            refine one_ (i := 8) (N := some 27) #[true, true, true, true, true, true, true, true, true] rfl rfl (one_of HT_.out (by kernel_rfl)) (by decide) (fun K hK => ?_)
            refine goes_ Try.func122 (by kernel_rfl) rfl #[.agg #[.int .i64 a0_0, .int .i64 a0_1, .slice A0_2 l0_2.length c0_2, .slice A0_3 l0_3.length c0_3, .slice A0_4 l0_4.length c0_4], .slice A2 l2.length c2, .slice A207_0 (rd_L9 l1 x12_1).length c207_0, .int .i64 a3, .int .i64 a4] (by rfl) rfl rfl (by (try simp only [List.map_toArray, List.map_cons, List.map_nil]); first | done | rfl | (simp only [List.length_drop, List.length_take]; rfl)) ?_
            with_reducible refine (posserref04_IsRight.calls k1 a0_0 a0_1 _ _ l0_2 _ _ l0_3 _ _ l0_4 _ _ l2 _ _ (rd_L9 l1 x12_1) a3 a4 true _ ?side1 ?side2 ?side3 ?side4 ?side5 ?side6 ?side7 ?side8 ?side9 ?side10 A9.out).mono ?_
            (case side1 => repeat (first | exact (Kd.C_below HR0_2.out HB.out) | (with_reducible refine Kd.C_alloc ?_ _) | (with_reducible refine Kd.C_drewN ?_ _) | (with_reducible refine Kd.C_drew ?_)))
            (case side2 => exact HC0_2.out)
            (case side3 => repeat (first | exact (Kd.C_below HR0_3.out HB.out) | (with_reducible refine Kd.C_alloc ?_ _) | (with_reducible refine Kd.C_drewN ?_ _) | (with_reducible refine Kd.C_drew ?_)))
            (case side4 => exact HC0_3.out)
            (case side5 => repeat (first | exact (Kd.C_below HR0_4.out HB.out) | (with_reducible refine Kd.C_alloc ?_ _) | (with_reducible refine Kd.C_drewN ?_ _) | (with_reducible refine Kd.C_drew ?_)))
            (case side6 => exact HC0_4.out)
            (case side7 => repeat (first | exact (Kd.C_below HR2.out HB.out) | (with_reducible refine Kd.C_alloc ?_ _) | (with_reducible refine Kd.C_drewN ?_ _) | (with_reducible refine Kd.C_drew ?_)))
            (case side8 => exact HC2.out)
            (case side9 => repeat (first | exact (Kd.C_below HR207_0.out HB.out) | (with_reducible refine Kd.C_alloc ?_ _) | (with_reducible refine Kd.C_drewN ?_ _) | (with_reducible refine Kd.C_drew ?_)))
            (case side10 => exact HC207_0.out)
            rintro e w12 ⟨rfl, hb⟩
            refine ⟨_, rfl, ?_⟩
            have n0_ := Aside0.mk (blk_below (g := gb206) (o := .cells #[.int .i64 a0_0, .int .i64 a0_1, .slice A0_2 l0_2.length c0_2, .slice A0_3 l0_3.length c0_3, .slice A0_4 l0_4.length c0_4] 26 (0, 0)) (by (with_reducible repeat (first | refine blk_drewN ?_ _ | refine blk_drew ?_ | refine blk_alloc ?_ _)); exact BK206.out) hb)
            have n1_ := Aside0.mk (below_step (by repeat (first | (with_reducible first | exact HB.out | apply below_alloc | apply pw_below_drewN | apply below_drew1 | refine below_set ?_ GE206.out) | exact HB.out)) hb)
            clear BK206
            clear HB
            have BK206 := n0_
            have HB := n1_
            clear n0_ n1_
            (try clear hb)
            (try clear hb2)
            (try clear hk)
            (try clear hi)
            refine hK.out _ _ ⟨(blk_cell BK206.out 0).trans rfl, (blk_cell BK206.out 1).trans rfl, (blk_cell BK206.out 2).trans rfl, (blk_cell BK206.out 3).trans rfl, (blk_cell BK206.out 4).trans rfl, ((HB.out.cell (World.block_lt_of_cell? w _ hw207_0)).trans hw207_0)⟩ (fun hHeld => ?_)
            clear hK K
            refine norm_ (a' := ?_) ?_ ?_
            rotate_left
            · show Act.put _ (some 27) _ = _
              simp only [Act.put, List.setIfInBounds_toArray, List.set_cons_zero, List.set_cons_succ, i64_w, i32_w]
              rfl
            refine done_ (done_of HT_.out (by kernel_rfl)) ?_
            try go_wp2
            go_roundg k1
            case measure => have := HK1.out; omega
            case rel => exact ⟨(wrap64 (x11_1 + 1)), (wrap64 (x12_1 + 1)), (by first | rfl | (simp; done) | (simp [*]; done)), (by first | rfl | (simp; done) | (simp [*]; done)), H', ⟨by have := HK1.out; omega⟩, ⟨by (with_reducible repeat (first | refine blk_drewN ?_ _ | refine blk_drew ?_ | refine blk_alloc ?_ _)); exact BK206.out⟩, ⟨by repeat (first | (with_reducible first | exact HB.out | apply below_alloc | apply pw_below_drewN | apply below_drew1 | refine below_set ?_ GE206.out) | exact HB.out)⟩⟩
          · replace c10 := Bool.eq_false_iff.mpr c10
            subst c10
            have H1 : (posserref04_Verdict.l0 k1 l1 l2 a3 a4 x11_1 (wrap64 (x12_1 + 1)) a0_0 a0_1 l0_2 l0_3 l0_4) = some r := by rw [if_neg (show ¬ (false = true) by decide)] at H; exact H
            clear H
            have H := H1
            clear H1
            have H' := Aside0.mk H
            clear H
            try go_wp2
            have n0_ := Aside0.mk (blk_drew BK206.out)
            have n1_ := Aside0.mk (below_drew1 HB.out)
            clear BK206
            clear HB
            have BK206 := n0_
            have HB := n1_
            clear n0_ n1_
            have p207 : 0 ≤ (x12_1 : Int) := of_decide_eq_true (by first | (with_reducible assumption) | assumption)
            have q207 : x12_1 < (l1.length : Int) := of_decide_eq_true (by first | (with_reducible assumption) | assumption)
            obtain ⟨ad207, A207_0, c207_0, e207, hx207_0, hl207_0, hi207_0⟩ := at_L9 HR1.out x12_1 p207 q207
            have hw207_0 := hx207_0
            cases e207
            replace hx207_0 := (HB.out.cell (World.block_lt_of_cell? w _ hx207_0)).trans hx207_0
            have HR207_0 := Aside0.mk hi207_0
            have HC207_0 := Aside0.mk hl207_0
            clear hi207_0 hl207_0
            replace p207 := eq_true p207
            replace q207 := eq_true q207
            refine start_ (n := 9) (S := fun w' => w'.cell? ⟨gb206, 0, none⟩ = some (.int .i64 a0_0) ∧ w'.cell? ⟨gb206, 1, none⟩ = some (.int .i64 a0_1) ∧ w'.cell? ⟨gb206, 2, none⟩ = some (.slice A0_2 l0_2.length c0_2) ∧ w'.cell? ⟨gb206, 3, none⟩ = some (.slice A0_3 l0_3.length c0_3) ∧ w'.cell? ⟨gb206, 4, none⟩ = some (.slice A0_4 l0_4.length c0_4) ∧ w'.cell? (ad207.add (x12_1).toNat) = some (.slice A207_0 (rd_L9 l1 x12_1).length c207_0)) (ds := []) #[false, false, false, false, false, false, false, false, false] (by kernel_rfl) rfl rfl ⟨(blk_cell BK206.out 0).trans rfl, (blk_cell BK206.out 1).trans rfl, (blk_cell BK206.out 2).trans rfl, (blk_cell BK206.out 3).trans rfl, (blk_cell BK206.out 4).trans rfl, ((HB.out.cell (World.block_lt_of_cell? w _ hw207_0)).trans hw207_0)⟩ (fun hHeld => ?_); refine with_tabW posserref04_Verdict.tab5 posserref04_Verdict.bits5 (fun HT_ HW_ => ?_)
            generalize wr.drew = w13 at BK206 HB HR207_0 hx207_0 hHeld ⊢
            refine pure_ (i := 1) (N := some 20) (v := ?_) (a' := ?_) #[false, true, false, false, false, false, false, false, false] rfl rfl (any_of HT_.out (by kernel_rfl)) (fun _ _ _ h => h) (Or.inl ⟨by rfl, ?_⟩) ?_ ?_
            rotate_left
            · intro w'
              go_simp
              with_reducible rfl
            rotate_left
            · simp only [Act.put, List.setIfInBounds_toArray, List.set_cons_zero, List.set_cons_succ, i64_w, i32_w]
              rfl
            refine pure_ (i := 2) (N := some 21) (v := ?_) (a' := ?_) #[false, true, true, false, false, false, false, false, false] rfl rfl (any_of HT_.out (by kernel_rfl)) (fun _ _ _ h => h) (Or.inl ⟨by rfl, ?_⟩) ?_ ?_
            rotate_left
            · intro w'
              go_simp
              with_reducible rfl
            rotate_left
            · simp only [Act.put, List.setIfInBounds_toArray, List.set_cons_zero, List.set_cons_succ, i64_w, i32_w]
              rfl
            refine pure_ (i := 3) (N := some 22) (v := ?_) (a' := ?_) #[false, true, true, true, false, false, false, false, false] rfl rfl (any_of HT_.out (by kernel_rfl)) (fun _ _ _ h => h) (Or.inl ⟨by rfl, ?_⟩) ?_ ?_
            rotate_left
            · intro w'
              go_simp
              with_reducible rfl
            rotate_left
            · simp only [Act.put, List.setIfInBounds_toArray, List.set_cons_zero, List.set_cons_succ, i64_w, i32_w]
              rfl
            refine pure_ (i := 4) (N := some 23) (v := ?_) (a' := ?_) #[false, true, true, true, true, false, false, false, false] rfl rfl (any_of HT_.out (by kernel_rfl)) (fun _ _ _ h => h) (Or.inl ⟨by rfl, ?_⟩) ?_ ?_
            rotate_left
            · intro w'
              go_simp
              with_reducible rfl
            rotate_left
            · simp only [Act.put, List.setIfInBounds_toArray, List.set_cons_zero, List.set_cons_succ, i64_w, i32_w]
              rfl
            refine pure_ (i := 6) (N := some 25) (v := ?_) (a' := ?_) #[false, true, true, true, true, false, true, false, false] rfl rfl (any_of HT_.out (by kernel_rfl)) (fun _ _ _ h => h) (Or.inl ⟨by rfl, ?_⟩) ?_ ?_
            rotate_left
            · intro w'
              go_simp
              with_reducible rfl
            rotate_left
            · simp only [Act.put, List.setIfInBounds_toArray, List.set_cons_zero, List.set_cons_succ, i64_w, i32_w]
              rfl
            refine pure_ (i := 7) (N := some 26) (v := ?_) (a' := ?_) #[false, true, true, true, true, false, true, true, false] rfl rfl (any_of HT_.out (by kernel_rfl)) (fun _ _ _ h => h) (Or.inl ⟨by rfl, ?_⟩) ?_ ?_
            rotate_left
            · intro w'
              go_simp
              with_reducible rfl
            rotate_left
            · simp only [Act.put, List.setIfInBounds_toArray, List.set_cons_zero, List.set_cons_succ, i64_w, i32_w]
              rfl
            refine take_ (i := 0) (N := some 19) (v := ?_) (a' := ?_) #[true, true, true, true, true, false, true, true, false] rfl rfl (take_ofW HT_.out HW_.out (by kernel_rfl)) (fun _ _ _ h => h) (Or.inl ⟨by rfl, ?_⟩) hHeld ?_ ?_
            rotate_left
            · rintro w' ⟨s0, s1, s2, s3, s4, s5⟩
              go_simp
              with_reducible rfl
            rotate_left
            · simp only [Act.put, List.setIfInBounds_toArray, List.set_cons_zero, List.set_cons_succ, i64_w, i32_w]
              rfl
            refine take_ (i := 5) (N := some 24) (v := ?_) (a' := ?_) #[true, true, true, true, true, true, true, true, false] rfl rfl (take_ofW HT_.out HW_.out (by kernel_rfl)) (fun _ _ _ h => h) (Or.inl ⟨by rfl, ?_⟩) hHeld ?_ ?_
            rotate_left
            · rintro w' ⟨s0, s1, s2, s3, s4, s5⟩
              go_simp
              with_reducible rfl
            rotate_left
            · simp only [Act.put, List.setIfInBounds_toArray, List.set_cons_zero, List.set_cons_succ, i64_w, i32_w]
              rfl
            refine one_ (i := 8) (N := some 27) #[true, true, true, true, true, true, true, true, true] rfl rfl (one_of HT_.out (by kernel_rfl)) (by decide) (fun K hK => ?_)
            refine goes_ Try.func122 (by kernel_rfl) rfl #[.agg #[.int .i64 a0_0, .int .i64 a0_1, .slice A0_2 l0_2.length c0_2, .slice A0_3 l0_3.length c0_3, .slice A0_4 l0_4.length c0_4], .slice A2 l2.length c2, .slice A207_0 (rd_L9 l1 x12_1).length c207_0, .int .i64 a3, .int .i64 a4] (by rfl) rfl rfl (by (try simp only [List.map_toArray, List.map_cons, List.map_nil]); first | done | rfl | (simp only [List.length_drop, List.length_take]; rfl)) ?_
            with_reducible refine (posserref04_IsRight.calls k1 a0_0 a0_1 _ _ l0_2 _ _ l0_3 _ _ l0_4 _ _ l2 _ _ (rd_L9 l1 x12_1) a3 a4 false _ ?side1 ?side2 ?side3 ?side4 ?side5 ?side6 ?side7 ?side8 ?side9 ?side10 A9.out).mono ?_
            (case side1 => repeat (first | exact (Kd.C_below HR0_2.out HB.out) | (with_reducible refine Kd.C_alloc ?_ _) | (with_reducible refine Kd.C_drewN ?_ _) | (with_reducible refine Kd.C_drew ?_)))
            (case side2 => exact HC0_2.out)
            (case side3 => repeat (first | exact (Kd.C_below HR0_3.out HB.out) | (with_reducible refine Kd.C_alloc ?_ _) | (with_reducible refine Kd.C_drewN ?_ _) | (with_reducible refine Kd.C_drew ?_)))
            (case side4 => exact HC0_3.out)
            (case side5 => repeat (first | exact (Kd.C_below HR0_4.out HB.out) | (with_reducible refine Kd.C_alloc ?_ _) | (with_reducible refine Kd.C_drewN ?_ _) | (with_reducible refine Kd.C_drew ?_)))
            (case side6 => exact HC0_4.out)
            (case side7 => repeat (first | exact (Kd.C_below HR2.out HB.out) | (with_reducible refine Kd.C_alloc ?_ _) | (with_reducible refine Kd.C_drewN ?_ _) | (with_reducible refine Kd.C_drew ?_)))
            (case side8 => exact HC2.out)
            (case side9 => repeat (first | exact (Kd.C_below HR207_0.out HB.out) | (with_reducible refine Kd.C_alloc ?_ _) | (with_reducible refine Kd.C_drewN ?_ _) | (with_reducible refine Kd.C_drew ?_)))
            (case side10 => exact HC207_0.out)
            rintro e w14 ⟨rfl, hb⟩
            refine ⟨_, rfl, ?_⟩
            have n0_ := Aside0.mk (blk_below (g := gb206) (o := .cells #[.int .i64 a0_0, .int .i64 a0_1, .slice A0_2 l0_2.length c0_2, .slice A0_3 l0_3.length c0_3, .slice A0_4 l0_4.length c0_4] 26 (0, 0)) (by (with_reducible repeat (first | refine blk_drewN ?_ _ | refine blk_drew ?_ | refine blk_alloc ?_ _)); exact BK206.out) hb)
            have n1_ := Aside0.mk (below_step (by repeat (first | (with_reducible first | exact HB.out | apply below_alloc | apply pw_below_drewN | apply below_drew1 | refine below_set ?_ GE206.out) | exact HB.out)) hb)
            clear BK206
            clear HB
            have BK206 := n0_
            have HB := n1_
            clear n0_ n1_
            (try clear hb)
            (try clear hb2)
            (try clear hk)
            (try clear hi)
            refine hK.out _ _ ⟨(blk_cell BK206.out 0).trans rfl, (blk_cell BK206.out 1).trans rfl, (blk_cell BK206.out 2).trans rfl, (blk_cell BK206.out 3).trans rfl, (blk_cell BK206.out 4).trans rfl, ((HB.out.cell (World.block_lt_of_cell? w _ hw207_0)).trans hw207_0)⟩ (fun hHeld => ?_)
            clear hK K
            refine norm_ (a' := ?_) ?_ ?_
            rotate_left
            · show Act.put _ (some 27) _ = _
              simp only [Act.put, List.setIfInBounds_toArray, List.set_cons_zero, List.set_cons_succ, i64_w, i32_w]
              rfl
            refine done_ (done_of HT_.out (by kernel_rfl)) ?_
            try go_wp2
            go_roundg k1
            case measure => have := HK1.out; omega
            case rel => exact ⟨(x11_1), (wrap64 (x12_1 + 1)), (by first | rfl | (simp; done) | (simp [*]; done)), (by first | rfl | (simp; done) | (simp [*]; done)), H', ⟨by have := HK1.out; omega⟩, ⟨by (with_reducible repeat (first | refine blk_drewN ?_ _ | refine blk_drew ?_ | refine blk_alloc ?_ _)); exact BK206.out⟩, ⟨by repeat (first | (with_reducible first | exact HB.out | apply below_alloc | apply pw_below_drewN | apply below_drew1 | refine below_set ?_ GE206.out) | exact HB.out)⟩⟩
        · rw [if_neg c8] at H
          exact absurd H (by simp)
      · rw [if_neg c7] at H
        have c7b0 : decide (x12_1 < (l1.length : Int)) = false := decide_eq_false c7
        clear c7
        by_cases c15 : x11_1 = (l1.length : Int)
        · rw [if_pos c15] at H
          have c15b0 : (x11_1 == (l1.length : Int)) = true := beq_iff_eq.mpr c15
          have c15b1 : (x11_1 != (l1.length : Int)) = false := bne_eq_false_iff_eq.mpr c15
          clear c15
          obtain rfl := Option.some.inj H
          go_wp2
          go_ret
          exact ⟨by first | rfl | (simp [errW_none, errW_some] <;> rfl) | (simp [*, errW_none, errW_some] <;> rfl), by repeat (first | (with_reducible first | exact HB.out | apply below_alloc | apply pw_below_drewN | apply below_drew1 | refine below_set ?_ GE206.out) | exact HB.out)⟩
        · rw [if_neg c15] at H
          have c15b0 : (x11_1 == (l1.length : Int)) = false := beq_eq_false_iff_ne.mpr c15
          have c15b1 : (x11_1 != (l1.length : Int)) = true := bne_iff_ne.mpr c15
          by_cases c16 : x11_1 = 0
          · rw [if_pos c16] at H
            have c16b0 : (x11_1 == 0) = true := beq_iff_eq.mpr c16
            have c16b1 : (x11_1 != 0) = false := bne_eq_false_iff_eq.mpr c16
            clear c16
            obtain rfl := Option.some.inj H
            go_wp2
            go_ret
            exact ⟨by first | rfl | (simp [errW_none, errW_some] <;> rfl) | (simp [*, errW_none, errW_some] <;> rfl), by repeat (first | (with_reducible first | exact HB.out | apply below_alloc | apply pw_below_drewN | apply below_drew1 | refine below_set ?_ GE206.out) | exact HB.out)⟩
          · rw [if_neg c16] at H
            have c16b0 : (x11_1 == 0) = false := beq_eq_false_iff_ne.mpr c16
            have c16b1 : (x11_1 != 0) = true := bne_iff_ne.mpr c16
            obtain rfl := Option.some.inj H
            go_wp2
            go_ret
            exact ⟨by first | rfl | (simp [errW_none, errW_some] <;> rfl) | (simp [*, errW_none, errW_some] <;> rfl), by repeat (first | (with_reducible first | exact HB.out | apply below_alloc | apply pw_below_drewN | apply below_drew1 | refine below_set ?_ GE206.out) | exact HB.out)⟩


/-! ### posserref04_Good: function 75 -/
def posserref04_Good.l0 : Nat → List (List Int) → List Int → Int → Int → Int → Int → List (S68) → List Int → List (S84) → Int → Int → Option (Int × Int)
  | 0, _, _, _, _, _, _, _, _, _, _, _ => none
  | k + 1, x1, x2, x3, x10, x210000, x210001, x210002, x210003, x210004, x212000, x212001 => if x10 ≤ x210001 then ((posserref04_Verdict.f k x210000 x210001 x210002 x210003 x210004 x1 x2 x3 x10).bind fun t212 => (if t212 = 1 then (if x212000 > x212001 then (posserref04_Good.l0 k x1 x2 x3 (wrap64 (x10 + 1)) x210000 x210001 x210002 x210003 x210004 x10 x10) else (posserref04_Good.l0 k x1 x2 x3 (wrap64 (x10 + 1)) x210000 x210001 x210002 x210003 x210004 x212000 x10)) else (posserref04_Good.l0 k x1 x2 x3 (wrap64 (x10 + 1)) x210000 x210001 x210002 x210003 x210004 x212000 x212001))) else (some (x212000, x212001))
def posserref04_Good.f (k : Nat) (a0_0 : Int) (a0_1 : Int) (l0_2 : List (S68)) (l0_3 : List Int) (l0_4 : List (S84)) (l1 : List (List Int)) (l2 : List Int) (a3 : Int) : Option (Int × Int) := posserref04_Good.l0 k l1 l2 a3 0 a0_0 a0_1 l0_2 l0_3 l0_4 1 0
set_option maxHeartbeats 8000000 in
set_option maxRecDepth 100000 in
theorem posserref04_Good.calls (k : Nat) (a0_0 : Int) (a0_1 : Int) (A0_2 : Option Addr) (c0_2 : Nat) (l0_2 : List (S68)) (A0_3 : Option Addr) (c0_3 : Nat) (l0_3 : List Int) (A0_4 : Option Addr) (c0_4 : Nat) (l0_4 : List (S84)) (A1 : Option Addr) (c1 : Nat) (l1 : List (List Int)) (A2 : Option Addr) (c2 : Nat) (l2 : List Int) (a3 : Int) (r1 : Int) (r2 : Int) (w : World) (hr0_2 : Kd.C k68 w A0_2 l0_2.length l0_2) (hc0_2 : l0_2.length ≤ c0_2) (hr0_3 : Kd.C (Kd.int .i64) w A0_3 l0_3.length l0_3) (hc0_3 : l0_3.length ≤ c0_3) (hr0_4 : Kd.C k84 w A0_4 l0_4.length l0_4) (hc0_4 : l0_4.length ≤ c0_4) (hr1 : Kd.C (Kd.slice 3 (Kd.int .i64)) w A1 l1.length l1) (hc1 : l1.length ≤ c1) (hr2 : Kd.C (Kd.int .i64) w A2 l2.length l2) (hc2 : l2.length ≤ c2) (h : posserref04_Good.f k a0_0 a0_1 l0_2 l0_3 l0_4 l1 l2 a3 = some (r1, r2)) :
    Calls Try.prog 75 #[.agg #[.int .i64 a0_0, .int .i64 a0_1, .slice A0_2 l0_2.length c0_2, .slice A0_3 l0_3.length c0_3, .slice A0_4 l0_4.length c0_4], .slice A1 l1.length c1, .slice A2 l2.length c2, .int .i64 a3] w fun e w' => e = .returned (.agg #[.int .i64 r1, .int .i64 r2]) ∧ Below w.heap.size w w' := by
  have hu26 := Try.underlying26
  have hu66 := Try.underlying66
  have HR0_2 := Aside0.mk hr0_2
  have HC0_2 := Aside0.mk hc0_2
  clear hr0_2 hc0_2
  have HR0_3 := Aside0.mk hr0_3
  have HC0_3 := Aside0.mk hc0_3
  clear hr0_3 hc0_3
  have HR0_4 := Aside0.mk hr0_4
  have HC0_4 := Aside0.mk hc0_4
  clear hr0_4 hc0_4
  have HR1 := Aside0.mk hr1
  have HC1 := Aside0.mk hc1
  clear hr1 hc1
  have HR2 := Aside0.mk hr2
  have HC2 := Aside0.mk hc2
  clear hr2 hc2
  have HB := Aside0.mk (Below.refl w.heap.size w)
  have H : (posserref04_Good.l0 k l1 l2 a3 0 a0_0 a0_1 l0_2 l0_3 l0_4 1 0) = some (r1, r2) := h
  clear h
  have H' := Aside0.mk H
  clear H
  go_enter Try.func75, Try.ntmps75
  go_wp2_with (first | ((with_reducible refine gate_dst (N := 4) rfl ?_); refine box_event ?hg (N := 4) ?hd (cs := #[.int .i64 a0_0, .int .i64 a0_1, .slice A0_2 l0_2.length c0_2, .slice A0_3 l0_3.length c0_3, .slice A0_4 l0_4.length c0_4]) (t := 26) ?hr ?_; (case hd => rfl); (case hg => rfl); (case hr => first | (go_simp; done) | (go_simp; rfl)); intro gb209 hg w5 hbox hb; have n0_ := Aside0.mk (below_step (by repeat (first | (with_reducible first | exact HB.out | apply below_alloc | apply pw_below_drewN | apply below_drew1) | exact HB.out)) hb); have n1_ := Aside0.mk (hbox); have n2_ := Aside0.mk ((by rw [hg]; exact (below_size (by repeat (first | (with_reducible first | exact HB.out | apply below_alloc | apply pw_below_drewN | apply below_drew1) | exact HB.out))) : w.heap.size ≤ gb209)); have n3_ := Aside0.mk ((by rw [hg]; exact (below_size (by repeat (first | (with_reducible first | exact HB.out | apply below_alloc | apply pw_below_drewN | apply below_drew1) | exact HB.out))) : w.heap.size ≤ gb209)); clear HB; have HB := n0_; have BK209 := n1_; have GW209 := n2_; have GE209 := n3_; clear n0_ n1_ n2_ n3_; clear hb hbox hg) | ((with_reducible refine gate_dst (N := 8) rfl ?_); refine box_event ?hg (N := 8) ?hd (cs := #[.int .i64 0, .int .i64 0]) (t := 66) ?hr ?_; (case hd => rfl); (case hg => rfl); (case hr => first | (go_simp; done) | (go_simp; rfl)); intro gb210 hg w6 hbox hb; have n0_ := Aside0.mk (blk_below (g := gb209) (o := .cells #[.int .i64 a0_0, .int .i64 a0_1, .slice A0_2 l0_2.length c0_2, .slice A0_3 l0_3.length c0_3, .slice A0_4 l0_4.length c0_4] 26 (0, 0)) (by (with_reducible repeat (first | refine blk_drewN ?_ _ | refine blk_drew ?_ | refine blk_alloc ?_ _)); exact BK209.out) hb); have n1_ := Aside0.mk (below_step (by repeat (first | (with_reducible first | exact HB.out | apply below_alloc | apply pw_below_drewN | apply below_drew1 | refine below_set ?_ GE209.out) | exact HB.out)) hb); have n2_ := Aside0.mk (hbox); have n3_ := Aside0.mk ((by rw [hg]; exact (below_size (by repeat (first | (with_reducible first | exact HB.out | apply below_alloc | apply pw_below_drewN | apply below_drew1 | refine below_set ?_ GE209.out) | exact HB.out))) : w.heap.size ≤ gb210)); have n4_ := Aside0.mk ((by rw [hg]; exact (below_size (by repeat (first | (with_reducible first | exact HB.out | apply below_alloc | apply pw_below_drewN | apply below_drew1 | refine below_set ?_ GE209.out) | exact HB.out))) : w.heap.size ≤ gb210)); have n5_ := Aside0.mk ((by rw [hg]; exact Nat.ne_of_lt (blk_lt (g := gb209) (o := .cells #[.int .i64 a0_0, .int .i64 a0_1, .slice A0_2 l0_2.length c0_2, .slice A0_3 l0_3.length c0_3, .slice A0_4 l0_4.length c0_4] 26 (0, 0)) (by (with_reducible repeat (first | refine blk_drewN ?_ _ | refine blk_drew ?_ | refine blk_alloc ?_ _)); exact BK209.out)) : gb209 ≠ gb210)); have n6_ := Aside0.mk ((by rw [hg]; exact Nat.ne_of_gt (blk_lt (g := gb209) (o := .cells #[.int .i64 a0_0, .int .i64 a0_1, .slice A0_2 l0_2.length c0_2, .slice A0_3 l0_3.length c0_3, .slice A0_4 l0_4.length c0_4] 26 (0, 0)) (by (with_reducible repeat (first | refine blk_drewN ?_ _ | refine blk_drew ?_ | refine blk_alloc ?_ _)); exact BK209.out)) : gb210 ≠ gb209)); clear BK209; clear HB; have BK209 := n0_; have HB := n1_; have BK210 := n2_; have GW210 := n3_; have GE210 := n4_; have NB209_210 := n5_; have NB210_209 := n6_; clear n0_ n1_ n2_ n3_ n4_ n5_ n6_; clear hb hbox hg) | ((with_reducible refine gate_dst (N := 9) rfl ?_); refine box_event ?hg (N := 9) ?hd (cs := #[.int .i64 0, .int .i64 0]) (t := 66) ?hr ?_; (case hd => rfl); (case hg => rfl); (case hr => first | (go_simp; done) | (go_simp; rfl)); intro gb211 hg w7 hbox hb; have n0_ := Aside0.mk (blk_below (g := gb209) (o := .cells #[.int .i64 a0_0, .int .i64 a0_1, .slice A0_2 l0_2.length c0_2, .slice A0_3 l0_3.length c0_3, .slice A0_4 l0_4.length c0_4] 26 (0, 0)) (by (with_reducible repeat (first | refine blk_drewN ?_ _ | refine blk_drew ?_ | refine blk_alloc ?_ _)); exact BK209.out) hb); have n1_ := Aside0.mk (blk_below (g := gb210) (o := .cells #[.int .i64 0, .int .i64 0] 66 (0, 0)) (by (with_reducible repeat (first | refine blk_drewN ?_ _ | refine blk_drew ?_ | refine blk_alloc ?_ _)); exact BK210.out) hb); have n2_ := Aside0.mk (below_step (by repeat (first | (with_reducible first | exact HB.out | apply below_alloc | apply pw_below_drewN | apply below_drew1 | refine below_set ?_ GE209.out | refine below_set ?_ GE210.out) | exact HB.out)) hb); have n3_ := Aside0.mk (hbox); have n4_ := Aside0.mk ((by rw [hg]; exact (below_size (by repeat (first | (with_reducible first | exact HB.out | apply below_alloc | apply pw_below_drewN | apply below_drew1 | refine below_set ?_ GE209.out | refine below_set ?_ GE210.out) | exact HB.out))) : w.heap.size ≤ gb211)); have n5_ := Aside0.mk ((by rw [hg]; exact (below_size (by repeat (first | (with_reducible first | exact HB.out | apply below_alloc | apply pw_below_drewN | apply below_drew1 | refine below_set ?_ GE209.out | refine below_set ?_ GE210.out) | exact HB.out))) : w.heap.size ≤ gb211)); have n6_ := Aside0.mk ((by rw [hg]; exact Nat.ne_of_lt (blk_lt (g := gb209) (o := .cells #[.int .i64 a0_0, .int .i64 a0_1, .slice A0_2 l0_2.length c0_2, .slice A0_3 l0_3.length c0_3, .slice A0_4 l0_4.length c0_4] 26 (0, 0)) (by (with_reducible repeat (first | refine blk_drewN ?_ _ | refine blk_drew ?_ | refine blk_alloc ?_ _)); exact BK209.out)) : gb209 ≠ gb211)); have n7_ := Aside0.mk ((by rw [hg]; exact Nat.ne_of_gt (blk_lt (g := gb209) (o := .cells #[.int .i64 a0_0, .int .i64 a0_1, .slice A0_2 l0_2.length c0_2, .slice A0_3 l0_3.length c0_3, .slice A0_4 l0_4.length c0_4] 26 (0, 0)) (by (with_reducible repeat (first | refine blk_drewN ?_ _ | refine blk_drew ?_ | refine blk_alloc ?_ _)); exact BK209.out)) : gb211 ≠ gb209)); have n8_ := Aside0.mk ((by rw [hg]; exact Nat.ne_of_lt (blk_lt (g := gb210) (o := .cells #[.int .i64 0, .int .i64 0] 66 (0, 0)) (by (with_reducible repeat (first | refine blk_drewN ?_ _ | refine blk_drew ?_ | refine blk_alloc ?_ _)); exact BK210.out)) : gb210 ≠ gb211)); have n9_ := Aside0.mk ((by rw [hg]; exact Nat.ne_of_gt (blk_lt (g := gb210) (o := .cells #[.int .i64 0, .int .i64 0] 66 (0, 0)) (by (with_reducible repeat (first | refine blk_drewN ?_ _ | refine blk_drew ?_ | refine blk_alloc ?_ _)); exact BK210.out)) : gb211 ≠ gb210)); clear BK209; clear BK210; clear HB; have BK209 := n0_; have BK210 := n1_; have HB := n2_; have BK211 := n3_; have GW211 := n4_; have GE211 := n5_; have NB209_211 := n6_; have NB211_209 := n7_; have NB210_211 := n8_; have NB211_210 := n9_; clear n0_ n1_ n2_ n3_ n4_ n5_ n6_ n7_ n8_ n9_; clear hb hbox hg; have hnb8 := NB211_209.out; have hnc8 := NB209_211.out; have hnb9 := NB211_210.out; have hnc9 := NB210_211.out; have hcz10_0 : w7.cell? ⟨gb211, 0, none⟩ = some (.int .i64 0) := (blk_cell BK211.out 0).trans rfl; have hcz10_1 : w7.cell? ⟨gb211, 1, none⟩ = some (.int .i64 0) := (blk_cell BK211.out 1).trans rfl; have hfz10_0 := blk_frozen BK211.out 0; have hfz10_1 := blk_frozen BK211.out 1))
  go_loopg [10] k (fun kq v10 w' => ∃ (x10_1 : Int) (x212000_1 : Int) (x212001_1 : Int), v10 = .int .i64 x10_1 ∧ Aside0 (posserref04_Good.l0 kq l1 l2 a3 x10_1 a0_0 a0_1 l0_2 l0_3 l0_4 x212000_1 x212001_1 = some (r1, r2)) ∧ Aside0 (kq ≤ k) ∧ Aside0 (w'.heap[gb209]? = some (.cells #[.int .i64 a0_0, .int .i64 a0_1, (.slice A0_2 l0_2.length c0_2), (.slice A0_3 l0_3.length c0_3), (.slice A0_4 l0_4.length c0_4)] 26 (0, 0))) ∧ Aside0 (w'.heap[gb210]? = some (.cells #[.int .i64 0, .int .i64 0] 66 (0, 0))) ∧ Aside0 (w'.heap[gb211]? = some (.cells #[.int .i64 x212000_1, .int .i64 x212001_1] 66 (0, 0))) ∧ Aside0 (Below w.heap.size w w'))
  case atStart => exact ⟨(0), (1), (0), (by first | rfl | (simp; done) | (simp [*]; done)), H', ⟨Nat.le_refl _⟩, ⟨by (with_reducible repeat (first | refine blk_drewN ?_ _ | refine blk_drew ?_ | refine blk_alloc ?_ _)); refine blk_far ?_ NB209_211.out _; (with_reducible repeat (first | refine blk_drewN ?_ _ | refine blk_drew ?_ | refine blk_alloc ?_ _)); refine blk_far ?_ NB209_211.out _; (with_reducible repeat (first | refine blk_drewN ?_ _ | refine blk_drew ?_ | refine blk_alloc ?_ _)); exact BK209.out⟩, ⟨by (with_reducible repeat (first | refine blk_drewN ?_ _ | refine blk_drew ?_ | refine blk_alloc ?_ _)); refine blk_far ?_ NB210_211.out _; (with_reducible repeat (first | refine blk_drewN ?_ _ | refine blk_drew ?_ | refine blk_alloc ?_ _)); refine blk_far ?_ NB210_211.out _; (with_reducible repeat (first | refine blk_drewN ?_ _ | refine blk_drew ?_ | refine blk_alloc ?_ _)); exact BK210.out⟩, ⟨by (with_reducible repeat (first | refine blk_drewN ?_ _ | refine blk_drew ?_ | refine blk_alloc ?_ _)); refine blk_put (cs := #[.int .i64 1, .int .i64 0]) ?_ 1 _ rfl; (with_reducible repeat (first | refine blk_drewN ?_ _ | refine blk_drew ?_ | refine blk_alloc ?_ _)); refine blk_put (cs := #[.int .i64 0, .int .i64 0]) ?_ 0 _ rfl; (with_reducible repeat (first | refine blk_drewN ?_ _ | refine blk_drew ?_ | refine blk_alloc ?_ _)); exact BK211.out⟩, ⟨by repeat (first | (with_reducible first | exact HB.out | apply below_alloc | apply pw_below_drewN | apply below_drew1 | refine below_set ?_ GE209.out | refine below_set ?_ GE210.out | refine below_set ?_ GE211.out) | exact HB.out)⟩⟩
  case round =>
    clear H'
    try clear c1
    try clear c2
    try clear p2
    try clear c7
    try clear c8
    try clear c9
    try clear hcz10_0
    try clear hcz10_1
    try clear hfz10_0
    try clear hfz10_1
    obtain ⟨x10_1, x212000_1, x212001_1, rfl, HA, HK1, BK209, BK210, BK211, HB⟩ := hrel
    cases gk with
    | zero => exact absurd HA.out (by simp [posserref04_Good.l0])
    | succ k1 =>
      have H := HA.out
      clear HA
      simp only [posserref04_Good.l0] at H
      by_cases c11 : x10_1 ≤ a0_1
      · rw [if_pos c11] at H
        have c11b0 : decide (x10_1 ≤ a0_1) = true := decide_eq_true c11
        clear c11
        replace H := Option.bind_eq_some_iff.mp H
        obtain ⟨t212, A120, H⟩ := H
        replace H : (if t212 = 1 then (if x212000_1 > x212001_1 then (posserref04_Good.l0 k1 l1 l2 a3 (wrap64 (x10_1 + 1)) a0_0 a0_1 l0_2 l0_3 l0_4 x10_1 x10_1) else (posserref04_Good.l0 k1 l1 l2 a3 (wrap64 (x10_1 + 1)) a0_0 a0_1 l0_2 l0_3 l0_4 x212000_1 x10_1)) else (posserref04_Good.l0 k1 l1 l2 a3 (wrap64 (x10_1 + 1)) a0_0 a0_1 l0_2 l0_3 l0_4 x212000_1 x212001_1)) = some (r1, r2) := H
        have A12 := Aside0.mk A120
        clear A120
        by_cases c13 : t212 = 1
        · rw [if_pos c13] at H
          have c13b0 : (t212 == 1) = true := beq_iff_eq.mpr c13
          have c13b1 : (t212 != 1) = false := bne_eq_false_iff_eq.mpr c13
          clear c13
          by_cases c14 : x212000_1 > x212001_1
          · rw [if_pos c14] at H
            have c14b0 : decide (x212001_1 < x212000_1) = true := decide_eq_true c14
            clear c14
            have H' := Aside0.mk H
            clear H
            have hnb15 := NB209_210.out
            have hnc15 := NB210_209.out
            have hnb16 := NB209_211.out
            have hnc16 := NB211_209.out
            have hcz17_0 : wr.cell? ⟨gb209, 0, none⟩ = some (.int .i64 a0_0) := (blk_cell BK209.out 0).trans rfl
            have hcz17_1 : wr.cell? ⟨gb209, 1, none⟩ = some (.int .i64 a0_1) := (blk_cell BK209.out 1).trans rfl
            have hcz17_2 : wr.cell? ⟨gb209, 2, none⟩ = some (.slice A0_2 l0_2.length c0_2) := (blk_cell BK209.out 2).trans rfl
            have hcz17_3 : wr.cell? ⟨gb209, 3, none⟩ = some (.slice A0_3 l0_3.length c0_3) := (blk_cell BK209.out 3).trans rfl
            have hcz17_4 : wr.cell? ⟨gb209, 4, none⟩ = some (.slice A0_4 l0_4.length c0_4) := (blk_cell BK209.out 4).trans rfl
            have hfz17_0 := blk_frozen BK209.out 0
            have hfz17_1 := blk_frozen BK209.out 1
            have hfz17_2 := blk_frozen BK209.out 2
            have hfz17_3 := blk_frozen BK209.out 3
            have hfz17_4 := blk_frozen BK209.out 4
            go_wp2_with (first | ((with_reducible refine gate_callee (f := 72) rfl ?_); refine goesL_ (some 23) rfl rfl Try.func72 (by kernel_rfl) rfl #[.agg #[.int .i64 a0_0, .int .i64 a0_1, .slice A0_2 l0_2.length c0_2, .slice A0_3 l0_3.length c0_3, .slice A0_4 l0_4.length c0_4], .slice A1 l1.length c1, .slice A2 l2.length c2, .int .i64 a3, .int .i64 x10_1] rfl (by (try simp only [List.map_toArray, List.map_cons, List.map_nil]); first | done | rfl | (simp only [List.length_drop, List.length_take]; rfl)) ?_; (with_reducible refine (posserref04_Verdict.calls k1 a0_0 a0_1 _ _ l0_2 _ _ l0_3 _ _ l0_4 _ _ l1 _ _ l2 a3 x10_1 t212 _ ?side1 ?side2 ?side3 ?side4 ?side5 ?side6 ?side7 ?side8 ?side9 ?side10 A12.out).mono ?_); (case side1 => repeat (first | exact (Kd.C_below HR0_2.out HB.out) | (with_reducible refine Kd.C_alloc ?_ _) | (with_reducible refine Kd.C_drewN ?_ _) | (with_reducible refine Kd.C_drew ?_))); (case side2 => exact HC0_2.out); (case side3 => repeat (first | exact (Kd.C_below HR0_3.out HB.out) | (with_reducible refine Kd.C_alloc ?_ _) | (with_reducible refine Kd.C_drewN ?_ _) | (with_reducible refine Kd.C_drew ?_))); (case side4 => exact HC0_3.out); (case side5 => repeat (first | exact (Kd.C_below HR0_4.out HB.out) | (with_reducible refine Kd.C_alloc ?_ _) | (with_reducible refine Kd.C_drewN ?_ _) | (with_reducible refine Kd.C_drew ?_))); (case side6 => exact HC0_4.out); (case side7 => repeat (first | exact (Kd.C_below HR1.out HB.out) | (with_reducible refine Kd.C_alloc ?_ _) | (with_reducible refine Kd.C_drewN ?_ _) | (with_reducible refine Kd.C_drew ?_))); (case side8 => exact HC1.out); (case side9 => repeat (first | exact (Kd.C_below HR2.out HB.out) | (with_reducible refine Kd.C_alloc ?_ _) | (with_reducible refine Kd.C_drewN ?_ _) | (with_reducible refine Kd.C_drew ?_))); (case side10 => exact HC2.out); rintro e w18 ⟨rfl, hb⟩; refine ⟨_, rfl, ?_⟩; have n0_ := Aside0.mk (blk_below (g := gb209) (o := .cells #[.int .i64 a0_0, .int .i64 a0_1, .slice A0_2 l0_2.length c0_2, .slice A0_3 l0_3.length c0_3, .slice A0_4 l0_4.length c0_4] 26 (0, 0)) (by (with_reducible repeat (first | refine blk_drewN ?_ _ | refine blk_drew ?_ | refine blk_alloc ?_ _)); exact BK209.out) hb); have n1_ := Aside0.mk (blk_below (g := gb210) (o := .cells #[.int .i64 0, .int .i64 0] 66 (0, 0)) (by (with_reducible repeat (first | refine blk_drewN ?_ _ | refine blk_drew ?_ | refine blk_alloc ?_ _)); exact BK210.out) hb); have n2_ := Aside0.mk (blk_below (g := gb211) (o := .cells #[.int .i64 x212000_1, .int .i64 x212001_1] 66 (0, 0)) (by (with_reducible repeat (first | refine blk_drewN ?_ _ | refine blk_drew ?_ | refine blk_alloc ?_ _)); exact BK211.out) hb); have n3_ := Aside0.mk (below_step (by repeat (first | (with_reducible first | exact HB.out | apply below_alloc | apply pw_below_drewN | apply below_drew1 | refine below_set ?_ GE209.out | refine below_set ?_ GE210.out | refine below_set ?_ GE211.out) | exact HB.out)) hb); clear BK209; clear BK210; clear BK211; clear HB; have BK209 := n0_; have BK210 := n1_; have BK211 := n2_; have HB := n3_; clear n0_ n1_ n2_ n3_; (try clear hb); (try clear hb2); (try clear hk); (try clear hi); have hnb19 := NB211_210.out; have hnc19 := NB210_211.out; have hcz20_0 : w18.cell? ⟨gb211, 0, none⟩ = some (.int .i64 x212000_1) := (blk_cell BK211.out 0).trans rfl; have hcz20_1 : w18.cell? ⟨gb211, 1, none⟩ = some (.int .i64 x212001_1) := (blk_cell BK211.out 1).trans rfl; have hfz20_0 := blk_frozen BK211.out 0; have hfz20_1 := blk_frozen BK211.out 1))
            go_roundg k1
            case measure => have := HK1.out; omega
            case rel => exact ⟨(wrap64 (x10_1 + 1)), (x10_1), (x10_1), (by first | rfl | (simp; done) | (simp [*]; done)), H', ⟨by have := HK1.out; omega⟩, ⟨by (with_reducible repeat (first | refine blk_drewN ?_ _ | refine blk_drew ?_ | refine blk_alloc ?_ _)); refine blk_far ?_ NB209_211.out _; (with_reducible repeat (first | refine blk_drewN ?_ _ | refine blk_drew ?_ | refine blk_alloc ?_ _)); refine blk_far ?_ NB209_211.out _; (with_reducible repeat (first | refine blk_drewN ?_ _ | refine blk_drew ?_ | refine blk_alloc ?_ _)); exact BK209.out⟩, ⟨by (with_reducible repeat (first | refine blk_drewN ?_ _ | refine blk_drew ?_ | refine blk_alloc ?_ _)); refine blk_far ?_ NB210_211.out _; (with_reducible repeat (first | refine blk_drewN ?_ _ | refine blk_drew ?_ | refine blk_alloc ?_ _)); refine blk_far ?_ NB210_211.out _; (with_reducible repeat (first | refine blk_drewN ?_ _ | refine blk_drew ?_ | refine blk_alloc ?_ _)); exact BK210.out⟩, ⟨by (with_reducible repeat (first | refine blk_drewN ?_ _ | refine blk_drew ?_ | refine blk_alloc ?_ _)); refine blk_put (cs := #[.int .i64 x10_1, .int .i64 x212001_1]) ?_ 1 _ rfl; (with_reducible repeat (first | refine blk_drewN ?_ _ | refine blk_drew ?_ | refine blk_alloc ?_ _)); refine blk_put (cs := #[.int .i64 x212000_1, .int .i64 x212001_1]) ?_ 0 _ rfl; (with_reducible repeat (first | refine blk_drewN ?_ _ | refine blk_drew ?_ | refine blk_alloc ?_ _)); exact BK211.out⟩, ⟨by repeat (first | (with_reducible first | exact HB.out | apply below_alloc | apply pw_below_drewN | apply below_drew1 | refine below_set ?_ GE209.out | refine below_set ?_ GE210.out | refine below_set ?_ GE211.out) | exact HB.out)⟩⟩
          · rw [if_neg c14] at H
            have c14b0 : decide (x212001_1 < x212000_1) = false := decide_eq_false c14
            clear c14
            have H' := Aside0.mk H
            clear H
            have hnb21 := NB209_210.out
            have hnc21 := NB210_209.out
            have hnb22 := NB209_211.out
            have hnc22 := NB211_209.out
            have hcz23_0 : wr.cell? ⟨gb209, 0, none⟩ = some (.int .i64 a0_0) := (blk_cell BK209.out 0).trans rfl
            have hcz23_1 : wr.cell? ⟨gb209, 1, none⟩ = some (.int .i64 a0_1) := (blk_cell BK209.out 1).trans rfl
            have hcz23_2 : wr.cell? ⟨gb209, 2, none⟩ = some (.slice A0_2 l0_2.length c0_2) := (blk_cell BK209.out 2).trans rfl
            have hcz23_3 : wr.cell? ⟨gb209, 3, none⟩ = some (.slice A0_3 l0_3.length c0_3) := (blk_cell BK209.out 3).trans rfl
            have hcz23_4 : wr.cell? ⟨gb209, 4, none⟩ = some (.slice A0_4 l0_4.length c0_4) := (blk_cell BK209.out 4).trans rfl
            have hfz23_0 := blk_frozen BK209.out 0
            have hfz23_1 := blk_frozen BK209.out 1
            have hfz23_2 := blk_frozen BK209.out 2
            have hfz23_3 := blk_frozen BK209.out 3
            have hfz23_4 := blk_frozen BK209.out 4
            go_wp2_with (first | ((with_reducible refine gate_callee (f := 72) rfl ?_); refine goesL_ (some 23) rfl rfl Try.func72 (by kernel_rfl) rfl #[.agg #[.int .i64 a0_0, .int .i64 a0_1, .slice A0_2 l0_2.length c0_2, .slice A0_3 l0_3.length c0_3, .slice A0_4 l0_4.length c0_4], .slice A1 l1.length c1, .slice A2 l2.length c2, .int .i64 a3, .int .i64 x10_1] rfl (by (try simp only [List.map_toArray, List.map_cons, List.map_nil]); first | done | rfl | (simp only [List.length_drop, List.length_take]; rfl)) ?_; (with_reducible refine (posserref04_Verdict.calls k1 a0_0 a0_1 _ _ l0_2 _ _ l0_3 _ _ l0_4 _ _ l1 _ _ l2 a3 x10_1 t212 _ ?side1 ?side2 ?side3 ?side4 ?side5 ?side6 ?side7 ?side8 ?side9 ?side10 A12.out).mono ?_); (case side1 => repeat (first | exact (Kd.C_below HR0_2.out HB.out) | (with_reducible refine Kd.C_alloc ?_ _) | (with_reducible refine Kd.C_drewN ?_ _) | (with_reducible refine Kd.C_drew ?_))); (case side2 => exact HC0_2.out); (case side3 => repeat (first | exact (Kd.C_below HR0_3.out HB.out) | (with_reducible refine Kd.C_alloc ?_ _) | (with_reducible refine Kd.C_drewN ?_ _) | (with_reducible refine Kd.C_drew ?_))); (case side4 => exact HC0_3.out); (case side5 => repeat (first | exact (Kd.C_below HR0_4.out HB.out) | (with_reducible refine Kd.C_alloc ?_ _) | (with_reducible refine Kd.C_drewN ?_ _) | (with_reducible refine Kd.C_drew ?_))); (case side6 => exact HC0_4.out); (case side7 => repeat (first | exact (Kd.C_below HR1.out HB.out) | (with_reducible refine Kd.C_alloc ?_ _) | (with_reducible refine Kd.C_drewN ?_ _) | (with_reducible refine Kd.C_drew ?_))); (case side8 => exact HC1.out); (case side9 => repeat (first | exact (Kd.C_below HR2.out HB.out) | (with_reducible refine Kd.C_alloc ?_ _) | (with_reducible refine Kd.C_drewN ?_ _) | (with_reducible refine Kd.C_drew ?_))); (case side10 => exact HC2.out); rintro e w24 ⟨rfl, hb⟩; refine ⟨_, rfl, ?_⟩; have n0_ := Aside0.mk (blk_below (g := gb209) (o := .cells #[.int .i64 a0_0, .int .i64 a0_1, .slice A0_2 l0_2.length c0_2, .slice A0_3 l0_3.length c0_3, .slice A0_4 l0_4.length c0_4] 26 (0, 0)) (by (with_reducible repeat (first | refine blk_drewN ?_ _ | refine blk_drew ?_ | refine blk_alloc ?_ _)); exact BK209.out) hb); have n1_ := Aside0.mk (blk_below (g := gb210) (o := .cells #[.int .i64 0, .int .i64 0] 66 (0, 0)) (by (with_reducible repeat (first | refine blk_drewN ?_ _ | refine blk_drew ?_ | refine blk_alloc ?_ _)); exact BK210.out) hb); have n2_ := Aside0.mk (blk_below (g := gb211) (o := .cells #[.int .i64 x212000_1, .int .i64 x212001_1] 66 (0, 0)) (by (with_reducible repeat (first | refine blk_drewN ?_ _ | refine blk_drew ?_ | refine blk_alloc ?_ _)); exact BK211.out) hb); have n3_ := Aside0.mk (below_step (by repeat (first | (with_reducible first | exact HB.out | apply below_alloc | apply pw_below_drewN | apply below_drew1 | refine below_set ?_ GE209.out | refine below_set ?_ GE210.out | refine below_set ?_ GE211.out) | exact HB.out)) hb); clear BK209; clear BK210; clear BK211; clear HB; have BK209 := n0_; have BK210 := n1_; have BK211 := n2_; have HB := n3_; clear n0_ n1_ n2_ n3_; (try clear hb); (try clear hb2); (try clear hk); (try clear hi); have hnb25 := NB211_210.out; have hnc25 := NB210_211.out; have hcz26_0 : w24.cell? ⟨gb211, 0, none⟩ = some (.int .i64 x212000_1) := (blk_cell BK211.out 0).trans rfl; have hcz26_1 : w24.cell? ⟨gb211, 1, none⟩ = some (.int .i64 x212001_1) := (blk_cell BK211.out 1).trans rfl; have hfz26_0 := blk_frozen BK211.out 0; have hfz26_1 := blk_frozen BK211.out 1))
            go_roundg k1
            case measure => have := HK1.out; omega
            case rel => exact ⟨(wrap64 (x10_1 + 1)), (x212000_1), (x10_1), (by first | rfl | (simp; done) | (simp [*]; done)), H', ⟨by have := HK1.out; omega⟩, ⟨by (with_reducible repeat (first | refine blk_drewN ?_ _ | refine blk_drew ?_ | refine blk_alloc ?_ _)); refine blk_far ?_ NB209_211.out _; (with_reducible repeat (first | refine blk_drewN ?_ _ | refine blk_drew ?_ | refine blk_alloc ?_ _)); exact BK209.out⟩, ⟨by (with_reducible repeat (first | refine blk_drewN ?_ _ | refine blk_drew ?_ | refine blk_alloc ?_ _)); refine blk_far ?_ NB210_211.out _; (with_reducible repeat (first | refine blk_drewN ?_ _ | refine blk_drew ?_ | refine blk_alloc ?_ _)); exact BK210.out⟩, ⟨by (with_reducible repeat (first | refine blk_drewN ?_ _ | refine blk_drew ?_ | refine blk_alloc ?_ _)); refine blk_put (cs := #[.int .i64 x212000_1, .int .i64 x212001_1]) ?_ 1 _ rfl; (with_reducible repeat (first | refine blk_drewN ?_ _ | refine blk_drew ?_ | refine blk_alloc ?_ _)); exact BK211.out⟩, ⟨by repeat (first | (with_reducible first | exact HB.out | apply below_alloc | apply pw_below_drewN | apply below_drew1 | refine below_set ?_ GE209.out | refine below_set ?_ GE210.out | refine below_set ?_ GE211.out) | exact HB.out)⟩⟩
        · rw [if_neg c13] at H
          have c13b0 : (t212 == 1) = false := beq_eq_false_iff_ne.mpr c13
          have c13b1 : (t212 != 1) = true := bne_iff_ne.mpr c13
          have H' := Aside0.mk H
          clear H
          have hnb27 := NB209_210.out
          have hnc27 := NB210_209.out
          have hnb28 := NB209_211.out
          have hnc28 := NB211_209.out
          have hcz29_0 : wr.cell? ⟨gb209, 0, none⟩ = some (.int .i64 a0_0) := (blk_cell BK209.out 0).trans rfl
          have hcz29_1 : wr.cell? ⟨gb209, 1, none⟩ = some (.int .i64 a0_1) := (blk_cell BK209.out 1).trans rfl
          have hcz29_2 : wr.cell? ⟨gb209, 2, none⟩ = some (.slice A0_2 l0_2.length c0_2) := (blk_cell BK209.out 2).trans rfl
          have hcz29_3 : wr.cell? ⟨gb209, 3, none⟩ = some (.slice A0_3 l0_3.length c0_3) := (blk_cell BK209.out 3).trans rfl
          have hcz29_4 : wr.cell? ⟨gb209, 4, none⟩ = some (.slice A0_4 l0_4.length c0_4) := (blk_cell BK209.out 4).trans rfl
          have hfz29_0 := blk_frozen BK209.out 0
          have hfz29_1 := blk_frozen BK209.out 1
          have hfz29_2 := blk_frozen BK209.out 2
          have hfz29_3 := blk_frozen BK209.out 3
          have hfz29_4 := blk_frozen BK209.out 4
          go_wp2_with (first | ((with_reducible refine gate_callee (f := 72) rfl ?_); refine goesL_ (some 23) rfl rfl Try.func72 (by kernel_rfl) rfl #[.agg #[.int .i64 a0_0, .int .i64 a0_1, .slice A0_2 l0_2.length c0_2, .slice A0_3 l0_3.length c0_3, .slice A0_4 l0_4.length c0_4], .slice A1 l1.length c1, .slice A2 l2.length c2, .int .i64 a3, .int .i64 x10_1] rfl (by (try simp only [List.map_toArray, List.map_cons, List.map_nil]); first | done | rfl | (simp only [List.length_drop, List.length_take]; rfl)) ?_; (with_reducible refine (posserref04_Verdict.calls k1 a0_0 a0_1 _ _ l0_2 _ _ l0_3 _ _ l0_4 _ _ l1 _ _ l2 a3 x10_1 t212 _ ?side1 ?side2 ?side3 ?side4 ?side5 ?side6 ?side7 ?side8 ?side9 ?side10 A12.out).mono ?_); (case side1 => repeat (first | exact (Kd.C_below HR0_2.out HB.out) | (with_reducible refine Kd.C_alloc ?_ _) | (with_reducible refine Kd.C_drewN ?_ _) | (with_reducible refine Kd.C_drew ?_))); (case side2 => exact HC0_2.out); (case side3 => repeat (first | exact (Kd.C_below HR0_3.out HB.out) | (with_reducible refine Kd.C_alloc ?_ _) | (with_reducible refine Kd.C_drewN ?_ _) | (with_reducible refine Kd.C_drew ?_))); (case side4 => exact HC0_3.out); (case side5 => repeat (first | exact (Kd.C_below HR0_4.out HB.out) | (with_reducible refine Kd.C_alloc ?_ _) | (with_reducible refine Kd.C_drewN ?_ _) | (with_reducible refine Kd.C_drew ?_))); (case side6 => exact HC0_4.out); (case side7 => repeat (first | exact (Kd.C_below HR1.out HB.out) | (with_reducible refine Kd.C_alloc ?_ _) | (with_reducible refine Kd.C_drewN ?_ _) | (with_reducible refine Kd.C_drew ?_))); (case side8 => exact HC1.out); (case side9 => repeat (first | exact (Kd.C_below HR2.out HB.out) | (with_reducible refine Kd.C_alloc ?_ _) | (with_reducible refine Kd.C_drewN ?_ _) | (with_reducible refine Kd.C_drew ?_))); (case side10 => exact HC2.out); rintro e w30 ⟨rfl, hb⟩; refine ⟨_, rfl, ?_⟩; have n0_ := Aside0.mk (blk_below (g := gb209) (o := .cells #[.int .i64 a0_0, .int .i64 a0_1, .slice A0_2 l0_2.length c0_2, .slice A0_3 l0_3.length c0_3, .slice A0_4 l0_4.length c0_4] 26 (0, 0)) (by (with_reducible repeat (first | refine blk_drewN ?_ _ | refine blk_drew ?_ | refine blk_alloc ?_ _)); exact BK209.out) hb); have n1_ := Aside0.mk (blk_below (g := gb210) (o := .cells #[.int .i64 0, .int .i64 0] 66 (0, 0)) (by (with_reducible repeat (first | refine blk_drewN ?_ _ | refine blk_drew ?_ | refine blk_alloc ?_ _)); exact BK210.out) hb); have n2_ := Aside0.mk (blk_below (g := gb211) (o := .cells #[.int .i64 x212000_1, .int .i64 x212001_1] 66 (0, 0)) (by (with_reducible repeat (first | refine blk_drewN ?_ _ | refine blk_drew ?_ | refine blk_alloc ?_ _)); exact BK211.out) hb); have n3_ := Aside0.mk (below_step (by repeat (first | (with_reducible first | exact HB.out | apply below_alloc | apply pw_below_drewN | apply below_drew1 | refine below_set ?_ GE209.out | refine below_set ?_ GE210.out | refine below_set ?_ GE211.out) | exact HB.out)) hb); clear BK209; clear BK210; clear BK211; clear HB; have BK209 := n0_; have BK210 := n1_; have BK211 := n2_; have HB := n3_; clear n0_ n1_ n2_ n3_; (try clear hb); (try clear hb2); (try clear hk); (try clear hi)))
          go_roundg k1
          case measure => have := HK1.out; omega
          case rel => exact ⟨(wrap64 (x10_1 + 1)), (x212000_1), (x212001_1), (by first | rfl | (simp; done) | (simp [*]; done)), H', ⟨by have := HK1.out; omega⟩, ⟨by (with_reducible repeat (first | refine blk_drewN ?_ _ | refine blk_drew ?_ | refine blk_alloc ?_ _)); exact BK209.out⟩, ⟨by (with_reducible repeat (first | refine blk_drewN ?_ _ | refine blk_drew ?_ | refine blk_alloc ?_ _)); exact BK210.out⟩, ⟨by (with_reducible repeat (first | refine blk_drewN ?_ _ | refine blk_drew ?_ | refine blk_alloc ?_ _)); exact BK211.out⟩, ⟨by repeat (first | (with_reducible first | exact HB.out | apply below_alloc | apply pw_below_drewN | apply below_drew1 | refine below_set ?_ GE209.out | refine below_set ?_ GE210.out | refine below_set ?_ GE211.out) | exact HB.out)⟩⟩
      · rw [if_neg c11] at H
        have c11b0 : decide (x10_1 ≤ a0_1) = false := decide_eq_false c11
        clear c11
        simp only [Option.some.injEq, Prod.mk.injEq] at H
        obtain ⟨rfl, rfl⟩ := H
        have hnb31 := NB209_210.out
        have hnc31 := NB210_209.out
        have hnb32 := NB209_211.out
        have hnc32 := NB211_209.out
        have hcz33_0 : wr.cell? ⟨gb209, 0, none⟩ = some (.int .i64 a0_0) := (blk_cell BK209.out 0).trans rfl
        have hcz33_1 : wr.cell? ⟨gb209, 1, none⟩ = some (.int .i64 a0_1) := (blk_cell BK209.out 1).trans rfl
        have hcz33_2 : wr.cell? ⟨gb209, 2, none⟩ = some (.slice A0_2 l0_2.length c0_2) := (blk_cell BK209.out 2).trans rfl
        have hcz33_3 : wr.cell? ⟨gb209, 3, none⟩ = some (.slice A0_3 l0_3.length c0_3) := (blk_cell BK209.out 3).trans rfl
        have hcz33_4 : wr.cell? ⟨gb209, 4, none⟩ = some (.slice A0_4 l0_4.length c0_4) := (blk_cell BK209.out 4).trans rfl
        have hfz33_0 := blk_frozen BK209.out 0
        have hfz33_1 := blk_frozen BK209.out 1
        have hfz33_2 := blk_frozen BK209.out 2
        have hfz33_3 := blk_frozen BK209.out 3
        have hfz33_4 := blk_frozen BK209.out 4
        have hnb34 := NB211_210.out
        have hnc34 := NB210_211.out
        have hcz35_0 : wr.cell? ⟨gb211, 0, none⟩ = some (.int .i64 x212000_1) := (blk_cell BK211.out 0).trans rfl
        have hcz35_1 : wr.cell? ⟨gb211, 1, none⟩ = some (.int .i64 x212001_1) := (blk_cell BK211.out 1).trans rfl
        have hfz35_0 := blk_frozen BK211.out 0
        have hfz35_1 := blk_frozen BK211.out 1
        have hcz36_0 : wr.cell? ⟨gb210, 0, none⟩ = some (.int .i64 0) := (blk_cell BK210.out 0).trans rfl
        have hcz36_1 : wr.cell? ⟨gb210, 1, none⟩ = some (.int .i64 0) := (blk_cell BK210.out 1).trans rfl
        have hfz36_0 := blk_frozen BK210.out 0
        have hfz36_1 := blk_frozen BK210.out 1
        go_wp2
        refine bodyPost_ret (results_cell_row rfl _ _ gb210 66 #[.int .i64 x212000_1, .int .i64 x212001_1] (0, 0) _ rfl (by (with_reducible repeat (first | refine blk_drewN ?_ _ | refine blk_drew ?_ | refine blk_alloc ?_ _)); refine blk_put (cs := #[.int .i64 x212000_1, .int .i64 0]) ?_ 1 _ rfl; (with_reducible repeat (first | refine blk_drewN ?_ _ | refine blk_drew ?_ | refine blk_alloc ?_ _)); refine blk_put (cs := #[.int .i64 0, .int .i64 0]) ?_ 0 _ rfl; (with_reducible repeat (first | refine blk_drewN ?_ _ | refine blk_drew ?_ | refine blk_alloc ?_ _)); exact BK210.out) Try.underlying66 rfl (by kernel_rfl)) rfl ?_
        exact ⟨by first | rfl | (simp [errW_none, errW_some] <;> rfl) | (simp [*, errW_none, errW_some] <;> rfl), by repeat (first | (with_reducible first | exact HB.out | apply below_alloc | apply pw_below_drewN | apply below_drew1 | refine below_set ?_ GE209.out | refine below_set ?_ GE210.out | refine below_set ?_ GE211.out) | exact HB.out)⟩


/-! ### posserref04_Stuck: function 30 -/
def posserref04_Stuck.l0 : Nat → List (List Int) → List Int → Int → Int → Int → List (S68) → List Int → List (S84) → Option (Int)
  | 0, _, _, _, _, _, _, _, _ => none
  | k + 1, x1, x2, x7, x214000, x214001, x214002, x214003, x214004 => if x7 < (x214002.length : Int) then ((posserref04_Good.f k x214000 x214001 x214002 x214003 x214004 x1 x2 x7).bind fun bt214 => (if bt214.1 > bt214.2 then (some x7) else (posserref04_Stuck.l0 k x1 x2 (wrap64 (x7 + 1)) x214000 x214001 x214002 x214003 x214004))) else (some (-1))
def posserref04_Stuck.f (k : Nat) (a0_0 : Int) (a0_1 : Int) (l0_2 : List (S68)) (l0_3 : List Int) (l0_4 : List (S84)) (l1 : List (List Int)) (l2 : List Int) : Option (Int) := posserref04_Stuck.l0 k l1 l2 0 a0_0 a0_1 l0_2 l0_3 l0_4
set_option maxHeartbeats 8000000 in
set_option maxRecDepth 100000 in
theorem posserref04_Stuck.calls (k : Nat) (a0_0 : Int) (a0_1 : Int) (A0_2 : Option Addr) (c0_2 : Nat) (l0_2 : List (S68)) (A0_3 : Option Addr) (c0_3 : Nat) (l0_3 : List Int) (A0_4 : Option Addr) (c0_4 : Nat) (l0_4 : List (S84)) (A1 : Option Addr) (c1 : Nat) (l1 : List (List Int)) (A2 : Option Addr) (c2 : Nat) (l2 : List Int) (r : Int) (w : World) (hr0_2 : Kd.C k68 w A0_2 l0_2.length l0_2) (hc0_2 : l0_2.length ≤ c0_2) (hr0_3 : Kd.C (Kd.int .i64) w A0_3 l0_3.length l0_3) (hc0_3 : l0_3.length ≤ c0_3) (hr0_4 : Kd.C k84 w A0_4 l0_4.length l0_4) (hc0_4 : l0_4.length ≤ c0_4) (hr1 : Kd.C (Kd.slice 3 (Kd.int .i64)) w A1 l1.length l1) (hc1 : l1.length ≤ c1) (hr2 : Kd.C (Kd.int .i64) w A2 l2.length l2) (hc2 : l2.length ≤ c2) (h : posserref04_Stuck.f k a0_0 a0_1 l0_2 l0_3 l0_4 l1 l2 = some r) :
    Calls Try.prog 30 #[.agg #[.int .i64 a0_0, .int .i64 a0_1, .slice A0_2 l0_2.length c0_2, .slice A0_3 l0_3.length c0_3, .slice A0_4 l0_4.length c0_4], .slice A1 l1.length c1, .slice A2 l2.length c2] w fun e w' => e = .returned (.int .i64 r) ∧ Below w.heap.size w w' := by
  have hu26 := Try.underlying26
  have hu66 := Try.underlying66
  have HR0_2 := Aside0.mk hr0_2
  have HC0_2 := Aside0.mk hc0_2
  clear hr0_2 hc0_2
  have HR0_3 := Aside0.mk hr0_3
  have HC0_3 := Aside0.mk hc0_3
  clear hr0_3 hc0_3
  have HR0_4 := Aside0.mk hr0_4
  have HC0_4 := Aside0.mk hc0_4
  clear hr0_4 hc0_4
  have HR1 := Aside0.mk hr1
  have HC1 := Aside0.mk hc1
  clear hr1 hc1
  have HR2 := Aside0.mk hr2
  have HC2 := Aside0.mk hc2
  clear hr2 hc2
  have HB := Aside0.mk (Below.refl w.heap.size w)
  have H : (posserref04_Stuck.l0 k l1 l2 0 a0_0 a0_1 l0_2 l0_3 l0_4) = some r := h
  clear h
  have H' := Aside0.mk H
  clear H
  go_enter Try.func30, Try.ntmps30
  go_wp2_with (first | ((with_reducible refine gate_dst (N := 3) rfl ?_); refine box_event ?hg (N := 3) ?hd (cs := #[.int .i64 a0_0, .int .i64 a0_1, .slice A0_2 l0_2.length c0_2, .slice A0_3 l0_3.length c0_3, .slice A0_4 l0_4.length c0_4]) (t := 26) ?hr ?_; (case hd => rfl); (case hg => rfl); (case hr => first | (go_simp; done) | (go_simp; rfl)); intro gb213 hg w4 hbox hb; have n0_ := Aside0.mk (below_step (by repeat (first | (with_reducible first | exact HB.out | apply below_alloc | apply pw_below_drewN | apply below_drew1) | exact HB.out)) hb); have n1_ := Aside0.mk (hbox); have n2_ := Aside0.mk ((by rw [hg]; exact (below_size (by repeat (first | (with_reducible first | exact HB.out | apply below_alloc | apply pw_below_drewN | apply below_drew1) | exact HB.out))) : w.heap.size ≤ gb213)); have n3_ := Aside0.mk ((by rw [hg]; exact (below_size (by repeat (first | (with_reducible first | exact HB.out | apply below_alloc | apply pw_below_drewN | apply below_drew1) | exact HB.out))) : w.heap.size ≤ gb213)); clear HB; have HB := n0_; have BK213 := n1_; have GW213 := n2_; have GE213 := n3_; clear n0_ n1_ n2_ n3_; clear hb hbox hg))
  go_loopg [7] k (fun kq v7 w' => ∃ (x7_1 : Int), v7 = .int .i64 x7_1 ∧ Aside0 (posserref04_Stuck.l0 kq l1 l2 x7_1 a0_0 a0_1 l0_2 l0_3 l0_4 = some r) ∧ Aside0 (kq ≤ k) ∧ Aside0 (w'.heap[gb213]? = some (.cells #[.int .i64 a0_0, .int .i64 a0_1, (.slice A0_2 l0_2.length c0_2), (.slice A0_3 l0_3.length c0_3), (.slice A0_4 l0_4.length c0_4)] 26 (0, 0))) ∧ Aside0 (Below w.heap.size w w'))
  case atStart => exact ⟨(0), (by first | rfl | (simp; done) | (simp [*]; done)), H', ⟨Nat.le_refl _⟩, ⟨by (with_reducible repeat (first | refine blk_drewN ?_ _ | refine blk_drew ?_ | refine blk_alloc ?_ _)); exact BK213.out⟩, ⟨by repeat (first | (with_reducible first | exact HB.out | apply below_alloc | apply pw_below_drewN | apply below_drew1 | refine below_set ?_ GE213.out) | exact HB.out)⟩⟩
  case round =>
    clear H'
    try clear c1
    try clear c2
    try clear p2
    try clear c3
    obtain ⟨x7_1, rfl, HA, HK1, BK213, HB⟩ := hrel
    cases gk with
    | zero => exact absurd HA.out (by simp [posserref04_Stuck.l0])
    | succ k1 =>
      have H := HA.out
      clear HA
      simp only [posserref04_Stuck.l0] at H
      by_cases c5 : x7_1 < (l0_2.length : Int)
      · rw [if_pos c5] at H
        have c5b0 : decide (x7_1 < (l0_2.length : Int)) = true := decide_eq_true c5
        clear c5
        replace H := Option.bind_eq_some_iff.mp H
        obtain ⟨⟨t214, t215⟩, A60, H⟩ := H
        replace H : (if t214 > t215 then (some x7_1) else (posserref04_Stuck.l0 k1 l1 l2 (wrap64 (x7_1 + 1)) a0_0 a0_1 l0_2 l0_3 l0_4)) = some r := H
        have A6 := Aside0.mk A60
        clear A60
        by_cases c7 : t214 > t215
        · rw [if_pos c7] at H
          have c7b0 : decide (t215 < t214) = true := decide_eq_true c7
          clear c7
          obtain rfl := Option.some.inj H
          have hcz8_0 : wr.cell? ⟨gb213, 0, none⟩ = some (.int .i64 a0_0) := (blk_cell BK213.out 0).trans rfl
          have hcz8_1 : wr.cell? ⟨gb213, 1, none⟩ = some (.int .i64 a0_1) := (blk_cell BK213.out 1).trans rfl
          have hcz8_2 : wr.cell? ⟨gb213, 2, none⟩ = some (.slice A0_2 l0_2.length c0_2) := (blk_cell BK213.out 2).trans rfl
          have hcz8_3 : wr.cell? ⟨gb213, 3, none⟩ = some (.slice A0_3 l0_3.length c0_3) := (blk_cell BK213.out 3).trans rfl
          have hcz8_4 : wr.cell? ⟨gb213, 4, none⟩ = some (.slice A0_4 l0_4.length c0_4) := (blk_cell BK213.out 4).trans rfl
          have hfz8_0 := blk_frozen BK213.out 0
          have hfz8_1 := blk_frozen BK213.out 1
          have hfz8_2 := blk_frozen BK213.out 2
          have hfz8_3 := blk_frozen BK213.out 3
          have hfz8_4 := blk_frozen BK213.out 4
          go_wp2_with (first | ((with_reducible refine gate_callee (f := 75) rfl ?_); refine goesL_ (some 20) rfl rfl Try.func75 (by kernel_rfl) rfl #[.agg #[.int .i64 a0_0, .int .i64 a0_1, .slice A0_2 l0_2.length c0_2, .slice A0_3 l0_3.length c0_3, .slice A0_4 l0_4.length c0_4], .slice A1 l1.length c1, .slice A2 l2.length c2, .int .i64 x7_1] rfl (by (try simp only [List.map_toArray, List.map_cons, List.map_nil]); first | done | rfl | (simp only [List.length_drop, List.length_take]; rfl)) ?_; (with_reducible refine (posserref04_Good.calls k1 a0_0 a0_1 _ _ l0_2 _ _ l0_3 _ _ l0_4 _ _ l1 _ _ l2 x7_1 t214 t215 _ ?side1 ?side2 ?side3 ?side4 ?side5 ?side6 ?side7 ?side8 ?side9 ?side10 A6.out).mono ?_); (case side1 => repeat (first | exact (Kd.C_below HR0_2.out HB.out) | (with_reducible refine Kd.C_alloc ?_ _) | (with_reducible refine Kd.C_drewN ?_ _) | (with_reducible refine Kd.C_drew ?_))); (case side2 => exact HC0_2.out); (case side3 => repeat (first | exact (Kd.C_below HR0_3.out HB.out) | (with_reducible refine Kd.C_alloc ?_ _) | (with_reducible refine Kd.C_drewN ?_ _) | (with_reducible refine Kd.C_drew ?_))); (case side4 => exact HC0_3.out); (case side5 => repeat (first | exact (Kd.C_below HR0_4.out HB.out) | (with_reducible refine Kd.C_alloc ?_ _) | (with_reducible refine Kd.C_drewN ?_ _) | (with_reducible refine Kd.C_drew ?_))); (case side6 => exact HC0_4.out); (case side7 => repeat (first | exact (Kd.C_below HR1.out HB.out) | (with_reducible refine Kd.C_alloc ?_ _) | (with_reducible refine Kd.C_drewN ?_ _) | (with_reducible refine Kd.C_drew ?_))); (case side8 => exact HC1.out); (case side9 => repeat (first | exact (Kd.C_below HR2.out HB.out) | (with_reducible refine Kd.C_alloc ?_ _) | (with_reducible refine Kd.C_drewN ?_ _) | (with_reducible refine Kd.C_drew ?_))); (case side10 => exact HC2.out); rintro e w9 ⟨rfl, hb⟩; refine ⟨_, rfl, ?_⟩; have n0_ := Aside0.mk (blk_below (g := gb213) (o := .cells #[.int .i64 a0_0, .int .i64 a0_1, .slice A0_2 l0_2.length c0_2, .slice A0_3 l0_3.length c0_3, .slice A0_4 l0_4.length c0_4] 26 (0, 0)) (by (with_reducible repeat (first | refine blk_drewN ?_ _ | refine blk_drew ?_ | refine blk_alloc ?_ _)); exact BK213.out) hb); have n1_ := Aside0.mk (below_step (by repeat (first | (with_reducible first | exact HB.out | apply below_alloc | apply pw_below_drewN | apply below_drew1 | refine below_set ?_ GE213.out) | exact HB.out)) hb); clear BK213; clear HB; have BK213 := n0_; have HB := n1_; clear n0_ n1_; (try clear hb); (try clear hb2); (try clear hk); (try clear hi)) | ((with_reducible refine gate_dst (N := 8) rfl ?_); refine box_event ?hg (N := 8) ?hd (cs := #[.int .i64 0, .int .i64 0]) (t := 66) ?hr ?_; (case hd => rfl); (case hg => rfl); (case hr => first | (go_simp; done) | (go_simp; rfl)); intro gb216 hg w10 hbox hb; have n0_ := Aside0.mk (blk_below (g := gb213) (o := .cells #[.int .i64 a0_0, .int .i64 a0_1, .slice A0_2 l0_2.length c0_2, .slice A0_3 l0_3.length c0_3, .slice A0_4 l0_4.length c0_4] 26 (0, 0)) (by (with_reducible repeat (first | refine blk_drewN ?_ _ | refine blk_drew ?_ | refine blk_alloc ?_ _)); exact BK213.out) hb); have n1_ := Aside0.mk (below_step (by repeat (first | (with_reducible first | exact HB.out | apply below_alloc | apply pw_below_drewN | apply below_drew1 | refine below_set ?_ GE213.out) | exact HB.out)) hb); have n2_ := Aside0.mk (hbox); have n3_ := Aside0.mk ((by rw [hg]; exact (below_size (by repeat (first | (with_reducible first | exact HB.out | apply below_alloc | apply pw_below_drewN | apply below_drew1 | refine below_set ?_ GE213.out) | exact HB.out))) : w.heap.size ≤ gb216)); have n4_ := Aside0.mk ((by rw [hg]; exact (below_size (by repeat (first | (with_reducible first | exact HB.out | apply below_alloc | apply pw_below_drewN | apply below_drew1 | refine below_set ?_ GE213.out) | exact HB.out))) : w.heap.size ≤ gb216)); have n5_ := Aside0.mk ((by rw [hg]; exact Nat.ne_of_lt (blk_lt (g := gb213) (o := .cells #[.int .i64 a0_0, .int .i64 a0_1, .slice A0_2 l0_2.length c0_2, .slice A0_3 l0_3.length c0_3, .slice A0_4 l0_4.length c0_4] 26 (0, 0)) (by (with_reducible repeat (first | refine blk_drewN ?_ _ | refine blk_drew ?_ | refine blk_alloc ?_ _)); exact BK213.out)) : gb213 ≠ gb216)); have n6_ := Aside0.mk ((by rw [hg]; exact Nat.ne_of_gt (blk_lt (g := gb213) (o := .cells #[.int .i64 a0_0, .int .i64 a0_1, .slice A0_2 l0_2.length c0_2, .slice A0_3 l0_3.length c0_3, .slice A0_4 l0_4.length c0_4] 26 (0, 0)) (by (with_reducible repeat (first | refine blk_drewN ?_ _ | refine blk_drew ?_ | refine blk_alloc ?_ _)); exact BK213.out)) : gb216 ≠ gb213)); clear BK213; clear HB; have BK213 := n0_; have HB := n1_; have BK216 := n2_; have GW216 := n3_; have GE216 := n4_; have NB213_216 := n5_; have NB216_213 := n6_; clear n0_ n1_ n2_ n3_ n4_ n5_ n6_; clear hb hbox hg; have hnb11 := NB216_213.out; have hnc11 := NB213_216.out; have hcz12_0 : w10.cell? ⟨gb216, 0, none⟩ = some (.int .i64 0) := (blk_cell BK216.out 0).trans rfl; have hcz12_1 : w10.cell? ⟨gb216, 1, none⟩ = some (.int .i64 0) := (blk_cell BK216.out 1).trans rfl; have hfz12_0 := blk_frozen BK216.out 0; have hfz12_1 := blk_frozen BK216.out 1))
          go_ret
          exact ⟨by first | rfl | (simp [errW_none, errW_some] <;> rfl) | (simp [*, errW_none, errW_some] <;> rfl), by repeat (first | (with_reducible first | exact HB.out | apply below_alloc | apply pw_below_drewN | apply below_drew1 | refine below_set ?_ GE213.out | refine below_set ?_ GE216.out) | exact HB.out)⟩
        · rw [if_neg c7] at H
          have c7b0 : decide (t215 < t214) = false := decide_eq_false c7
          clear c7
          have H' := Aside0.mk H
          clear H
          have hcz13_0 : wr.cell? ⟨gb213, 0, none⟩ = some (.int .i64 a0_0) := (blk_cell BK213.out 0).trans rfl
          have hcz13_1 : wr.cell? ⟨gb213, 1, none⟩ = some (.int .i64 a0_1) := (blk_cell BK213.out 1).trans rfl
          have hcz13_2 : wr.cell? ⟨gb213, 2, none⟩ = some (.slice A0_2 l0_2.length c0_2) := (blk_cell BK213.out 2).trans rfl
          have hcz13_3 : wr.cell? ⟨gb213, 3, none⟩ = some (.slice A0_3 l0_3.length c0_3) := (blk_cell BK213.out 3).trans rfl
          have hcz13_4 : wr.cell? ⟨gb213, 4, none⟩ = some (.slice A0_4 l0_4.length c0_4) := (blk_cell BK213.out 4).trans rfl
          have hfz13_0 := blk_frozen BK213.out 0
          have hfz13_1 := blk_frozen BK213.out 1
          have hfz13_2 := blk_frozen BK213.out 2
          have hfz13_3 := blk_frozen BK213.out 3
          have hfz13_4 := blk_frozen BK213.out 4
          go_wp2_with (first | ((with_reducible refine gate_callee (f := 75) rfl ?_); refine goesL_ (some 20) rfl rfl Try.func75 (by kernel_rfl) rfl #[.agg #[.int .i64 a0_0, .int .i64 a0_1, .slice A0_2 l0_2.length c0_2, .slice A0_3 l0_3.length c0_3, .slice A0_4 l0_4.length c0_4], .slice A1 l1.length c1, .slice A2 l2.length c2, .int .i64 x7_1] rfl (by (try simp only [List.map_toArray, List.map_cons, List.map_nil]); first | done | rfl | (simp only [List.length_drop, List.length_take]; rfl)) ?_; (with_reducible refine (posserref04_Good.calls k1 a0_0 a0_1 _ _ l0_2 _ _ l0_3 _ _ l0_4 _ _ l1 _ _ l2 x7_1 t214 t215 _ ?side1 ?side2 ?side3 ?side4 ?side5 ?side6 ?side7 ?side8 ?side9 ?side10 A6.out).mono ?_); (case side1 => repeat (first | exact (Kd.C_below HR0_2.out HB.out) | (with_reducible refine Kd.C_alloc ?_ _) | (with_reducible refine Kd.C_drewN ?_ _) | (with_reducible refine Kd.C_drew ?_))); (case side2 => exact HC0_2.out); (case side3 => repeat (first | exact (Kd.C_below HR0_3.out HB.out) | (with_reducible refine Kd.C_alloc ?_ _) | (with_reducible refine Kd.C_drewN ?_ _) | (with_reducible refine Kd.C_drew ?_))); (case side4 => exact HC0_3.out); (case side5 => repeat (first | exact (Kd.C_below HR0_4.out HB.out) | (with_reducible refine Kd.C_alloc ?_ _) | (with_reducible refine Kd.C_drewN ?_ _) | (with_reducible refine Kd.C_drew ?_))); (case side6 => exact HC0_4.out); (case side7 => repeat (first | exact (Kd.C_below HR1.out HB.out) | (with_reducible refine Kd.C_alloc ?_ _) | (with_reducible refine Kd.C_drewN ?_ _) | (with_reducible refine Kd.C_drew ?_))); (case side8 => exact HC1.out); (case side9 => repeat (first | exact (Kd.C_below HR2.out HB.out) | (with_reducible refine Kd.C_alloc ?_ _) | (with_reducible refine Kd.C_drewN ?_ _) | (with_reducible refine Kd.C_drew ?_))); (case side10 => exact HC2.out); rintro e w14 ⟨rfl, hb⟩; refine ⟨_, rfl, ?_⟩; have n0_ := Aside0.mk (blk_below (g := gb213) (o := .cells #[.int .i64 a0_0, .int .i64 a0_1, .slice A0_2 l0_2.length c0_2, .slice A0_3 l0_3.length c0_3, .slice A0_4 l0_4.length c0_4] 26 (0, 0)) (by (with_reducible repeat (first | refine blk_drewN ?_ _ | refine blk_drew ?_ | refine blk_alloc ?_ _)); exact BK213.out) hb); have n1_ := Aside0.mk (below_step (by repeat (first | (with_reducible first | exact HB.out | apply below_alloc | apply pw_below_drewN | apply below_drew1 | refine below_set ?_ GE213.out) | exact HB.out)) hb); clear BK213; clear HB; have BK213 := n0_; have HB := n1_; clear n0_ n1_; (try clear hb); (try clear hb2); (try clear hk); (try clear hi)) | ((with_reducible refine gate_dst (N := 8) rfl ?_); refine box_event ?hg (N := 8) ?hd (cs := #[.int .i64 0, .int .i64 0]) (t := 66) ?hr ?_; (case hd => rfl); (case hg => rfl); (case hr => first | (go_simp; done) | (go_simp; rfl)); intro gb216 hg w15 hbox hb; have n0_ := Aside0.mk (blk_below (g := gb213) (o := .cells #[.int .i64 a0_0, .int .i64 a0_1, .slice A0_2 l0_2.length c0_2, .slice A0_3 l0_3.length c0_3, .slice A0_4 l0_4.length c0_4] 26 (0, 0)) (by (with_reducible repeat (first | refine blk_drewN ?_ _ | refine blk_drew ?_ | refine blk_alloc ?_ _)); exact BK213.out) hb); have n1_ := Aside0.mk (below_step (by repeat (first | (with_reducible first | exact HB.out | apply below_alloc | apply pw_below_drewN | apply below_drew1 | refine below_set ?_ GE213.out) | exact HB.out)) hb); have n2_ := Aside0.mk (hbox); have n3_ := Aside0.mk ((by rw [hg]; exact (below_size (by repeat (first | (with_reducible first | exact HB.out | apply below_alloc | apply pw_below_drewN | apply below_drew1 | refine below_set ?_ GE213.out) | exact HB.out))) : w.heap.size ≤ gb216)); have n4_ := Aside0.mk ((by rw [hg]; exact (below_size (by repeat (first | (with_reducible first | exact HB.out | apply below_alloc | apply pw_below_drewN | apply below_drew1 | refine below_set ?_ GE213.out) | exact HB.out))) : w.heap.size ≤ gb216)); have n5_ := Aside0.mk ((by rw [hg]; exact Nat.ne_of_lt (blk_lt (g := gb213) (o := .cells #[.int .i64 a0_0, .int .i64 a0_1, .slice A0_2 l0_2.length c0_2, .slice A0_3 l0_3.length c0_3, .slice A0_4 l0_4.length c0_4] 26 (0, 0)) (by (with_reducible repeat (first | refine blk_drewN ?_ _ | refine blk_drew ?_ | refine blk_alloc ?_ _)); exact BK213.out)) : gb213 ≠ gb216)); have n6_ := Aside0.mk ((by rw [hg]; exact Nat.ne_of_gt (blk_lt (g := gb213) (o := .cells #[.int .i64 a0_0, .int .i64 a0_1, .slice A0_2 l0_2.length c0_2, .slice A0_3 l0_3.length c0_3, .slice A0_4 l0_4.length c0_4] 26 (0, 0)) (by (with_reducible repeat (first | refine blk_drewN ?_ _ | refine blk_drew ?_ | refine blk_alloc ?_ _)); exact BK213.out)) : gb216 ≠ gb213)); clear BK213; clear HB; have BK213 := n0_; have HB := n1_; have BK216 := n2_; have GW216 := n3_; have GE216 := n4_; have NB213_216 := n5_; have NB216_213 := n6_; clear n0_ n1_ n2_ n3_ n4_ n5_ n6_; clear hb hbox hg; have hnb16 := NB216_213.out; have hnc16 := NB213_216.out; have hcz17_0 : w15.cell? ⟨gb216, 0, none⟩ = some (.int .i64 0) := (blk_cell BK216.out 0).trans rfl; have hcz17_1 : w15.cell? ⟨gb216, 1, none⟩ = some (.int .i64 0) := (blk_cell BK216.out 1).trans rfl; have hfz17_0 := blk_frozen BK216.out 0; have hfz17_1 := blk_frozen BK216.out 1))
          go_roundg k1
          case measure => have := HK1.out; omega
          case rel => exact ⟨(wrap64 (x7_1 + 1)), (by first | rfl | (simp; done) | (simp [*]; done)), H', ⟨by have := HK1.out; omega⟩, ⟨by (with_reducible repeat (first | refine blk_drewN ?_ _ | refine blk_drew ?_ | refine blk_alloc ?_ _)); refine blk_far ?_ NB213_216.out _; (with_reducible repeat (first | refine blk_drewN ?_ _ | refine blk_drew ?_ | refine blk_alloc ?_ _)); refine blk_far ?_ NB213_216.out _; (with_reducible repeat (first | refine blk_drewN ?_ _ | refine blk_drew ?_ | refine blk_alloc ?_ _)); exact BK213.out⟩, ⟨by repeat (first | (with_reducible first | exact HB.out | apply below_alloc | apply pw_below_drewN | apply below_drew1 | refine below_set ?_ GE213.out | refine below_set ?_ GE216.out) | exact HB.out)⟩⟩
      · rw [if_neg c5] at H
        have c5b0 : decide (x7_1 < (l0_2.length : Int)) = false := decide_eq_false c5
        clear c5
        obtain rfl := Option.some.inj H
        have hcz18_0 : wr.cell? ⟨gb213, 0, none⟩ = some (.int .i64 a0_0) := (blk_cell BK213.out 0).trans rfl
        have hcz18_1 : wr.cell? ⟨gb213, 1, none⟩ = some (.int .i64 a0_1) := (blk_cell BK213.out 1).trans rfl
        have hcz18_2 : wr.cell? ⟨gb213, 2, none⟩ = some (.slice A0_2 l0_2.length c0_2) := (blk_cell BK213.out 2).trans rfl
        have hcz18_3 : wr.cell? ⟨gb213, 3, none⟩ = some (.slice A0_3 l0_3.length c0_3) := (blk_cell BK213.out 3).trans rfl
        have hcz18_4 : wr.cell? ⟨gb213, 4, none⟩ = some (.slice A0_4 l0_4.length c0_4) := (blk_cell BK213.out 4).trans rfl
        have hfz18_0 := blk_frozen BK213.out 0
        have hfz18_1 := blk_frozen BK213.out 1
        have hfz18_2 := blk_frozen BK213.out 2
        have hfz18_3 := blk_frozen BK213.out 3
        have hfz18_4 := blk_frozen BK213.out 4
        go_wp2
        go_ret
        exact ⟨by first | rfl | (simp [errW_none, errW_some] <;> rfl) | (simp [*, errW_none, errW_some] <;> rfl), by repeat (first | (with_reducible first | exact HB.out | apply below_alloc | apply pw_below_drewN | apply below_drew1 | refine below_set ?_ GE213.out) | exact HB.out)⟩

end Go.Proofs.Ytokhmghgghjmhaa.Q

namespace Go.Proofs.Ytokhmghgghjmhaa.Q
open Go.RowKit Go.Proofs.YtokhmghgghjmhaaW.PrintWords Go.Proofs.YtokhmghgghjmhaaW.PrintLast Go.Proofs.YtokhmghgghjmhaaW.PrintMore
attribute [local go_sem] max2_int min2_int max_two min_two max_three min_three max_four min_four   -- for this text's walks alone
set_option linter.unusedVariables false
set_option linter.unusedSimpArgs false
/-! ### posserlaw04_same: function 38 -/
def posserlaw04_same.l0 : Nat → List Int → List Int → Int → Option (Bool)
  | 0, _, _, _ => none
  | k + 1, x0, x1, x5 => if x5 < (x0.length : Int) then (if 0 ≤ x5 then (if x5 < (x1.length : Int) then (if (rd x0 x5) = (rd x1 x5) then (posserlaw04_same.l0 k x0 x1 (wrap64 (x5 + 1))) else (some false)) else (none)) else (none)) else (some true)
def posserlaw04_same.f (k : Nat) (l0 : List Int) (l1 : List Int) : Option (Bool) := if (l0.length : Int) = (l1.length : Int) then (posserlaw04_same.l0 k l0 l1 0) else (some false)
set_option maxHeartbeats 8000000 in
set_option maxRecDepth 100000 in
theorem posserlaw04_same.calls (k : Nat) (A0 : Option Addr) (c0 : Nat) (l0 : List Int) (A1 : Option Addr) (c1 : Nat) (l1 : List Int) (r : Bool) (w : World) (hr0 : Kd.C (Kd.int .i64) w A0 l0.length l0) (hc0 : l0.length ≤ c0) (hr1 : Kd.C (Kd.int .i64) w A1 l1.length l1) (hc1 : l1.length ≤ c1) (h : posserlaw04_same.f k l0 l1 = some r) :
    Calls Try.prog 38 #[.slice A0 l0.length c0, .slice A1 l1.length c1] w fun e w' => e = .returned (.bool r) ∧ Drawn0 w w' := by
  have HR0 := Aside0.mk hr0
  have HC0 := Aside0.mk hc0
  clear hr0 hc0
  have HR1 := Aside0.mk hr1
  have HC1 := Aside0.mk hc1
  clear hr1 hc1
  have H : (if (l0.length : Int) = (l1.length : Int) then (posserlaw04_same.l0 k l0 l1 0) else (some false)) = some r := h
  clear h
  by_cases c3 : (l0.length : Int) = (l1.length : Int)
  · rw [if_pos c3] at H
    have c3b0 : ((l0.length : Int) == (l1.length : Int)) = true := beq_iff_eq.mpr c3
    have c3b1 : ((l0.length : Int) != (l1.length : Int)) = false := bne_eq_false_iff_eq.mpr c3
    have c3b2 : (l0.length == l1.length) = true := by first | simpa using c3 | (simp at c3 ⊢; omega)
    clear c3
    have H' := Aside0.mk H
    clear H
    go_enter Try.func38, Try.ntmps38
    go_wp2
    repeat (go_quiet (fail); try go_wp2)
    go_loopg [5] k (fun kq v5 w' => ∃ (x5_1 : Int), v5 = .int .i64 x5_1 ∧ Aside0 (posserlaw04_same.l0 kq l0 l1 x5_1 = some r) ∧ Aside0 (kq ≤ k) ∧ Drawn0 w w')
    case atStart => exact ⟨(0), (by first | rfl | (simp; done) | (simp [*]; done)), H', ⟨Nat.le_refl _⟩, by repeat (first | exact Drawn0.refl _ | apply Drawn0.step)⟩
    case round =>
      clear H'
      try clear c1
      try clear p2
      try clear c3
      try clear c3b0
      try clear c3b1
      try clear c3b2
      obtain ⟨x5_1, rfl, HA, HK1, ⟨m1, rfl⟩⟩ := hrel
      cases gk with
      | zero => exact absurd HA.out (by simp [posserlaw04_same.l0])
      | succ k1 =>
        have H := HA.out
        clear HA
        simp only [posserlaw04_same.l0] at H
        by_cases c4 : x5_1 < (l0.length : Int)
        · rw [if_pos c4] at H
          have c4b0 : decide (x5_1 < (l0.length : Int)) = true := decide_eq_true c4
          clear c4
          by_cases c5 : 0 ≤ x5_1
          · rw [if_pos c5] at H
            have c5b0 : decide (0 ≤ x5_1) = true := decide_eq_true c5
            clear c5
            by_cases c6 : x5_1 < (l1.length : Int)
            · rw [if_pos c6] at H
              have c6b0 : decide (x5_1 < (l1.length : Int)) = true := decide_eq_true c6
              clear c6
              by_cases c7 : (rd l0 x5_1) = (rd l1 x5_1)
              · rw [if_pos c7] at H
                have c7b0 : ((rd l0 x5_1) == (rd l1 x5_1)) = true := beq_iff_eq.mpr c7
                have c7b1 : ((rd l0 x5_1) != (rd l1 x5_1)) = false := bne_eq_false_iff_eq.mpr c7
                clear c7
                have H' := Aside0.mk H
                clear H
                have p291 : 0 ≤ (x5_1 : Int) := of_decide_eq_true (by first | (with_reducible assumption) | assumption)
                have q291 : x5_1 < (l0.length : Int) := of_decide_eq_true (by first | (with_reducible assumption) | assumption)
                obtain ⟨ad291, e291, hx291_0⟩ := Kd.at_int HR0.out x5_1 p291 q291
                cases e291
                replace p291 := eq_true p291
                replace q291 := eq_true q291
                have p292 : 0 ≤ (x5_1 : Int) := of_decide_eq_true (by first | (with_reducible assumption) | assumption)
                have q292 : x5_1 < (l1.length : Int) := of_decide_eq_true (by first | (with_reducible assumption) | assumption)
                obtain ⟨ad292, e292, hx292_0⟩ := Kd.at_int HR1.out x5_1 p292 q292
                cases e292
                replace p292 := eq_true p292
                replace q292 := eq_true q292
                go_wp2
                repeat (go_quiet (fail); try go_wp2)
                go_roundg k1
                case measure => have := HK1.out; omega
                case rel => exact ⟨(wrap64 (x5_1 + 1)), (by first | rfl | (simp; done) | (simp [*]; done)), H', ⟨by have := HK1.out; omega⟩, by repeat (first | exact Drawn0.refl _ | apply Drawn0.step)⟩
              · rw [if_neg c7] at H
                have c7b0 : ((rd l0 x5_1) == (rd l1 x5_1)) = false := beq_eq_false_iff_ne.mpr c7
                have c7b1 : ((rd l0 x5_1) != (rd l1 x5_1)) = true := bne_iff_ne.mpr c7
                obtain rfl := Option.some.inj H
                have p291 : 0 ≤ (x5_1 : Int) := of_decide_eq_true (by first | (with_reducible assumption) | assumption)
                have q291 : x5_1 < (l0.length : Int) := of_decide_eq_true (by first | (with_reducible assumption) | assumption)
                obtain ⟨ad291, e291, hx291_0⟩ := Kd.at_int HR0.out x5_1 p291 q291
                cases e291
                replace p291 := eq_true p291
                replace q291 := eq_true q291
                have p292 : 0 ≤ (x5_1 : Int) := of_decide_eq_true (by first | (with_reducible assumption) | assumption)
                have q292 : x5_1 < (l1.length : Int) := of_decide_eq_true (by first | (with_reducible assumption) | assumption)
                obtain ⟨ad292, e292, hx292_0⟩ := Kd.at_int HR1.out x5_1 p292 q292
                cases e292
                replace p292 := eq_true p292
                replace q292 := eq_true q292
                go_wp2
                repeat (go_quiet (fail); try go_wp2)
                go_ret
                exact ⟨by first | rfl | (simp; done) | (simp [*]; done), by repeat (first | exact Drawn0.refl _ | apply Drawn0.step)⟩
            · rw [if_neg c6] at H
              exact absurd H (by simp)
          · rw [if_neg c5] at H
            exact absurd H (by simp)
        · rw [if_neg c4] at H
          have c4b0 : decide (x5_1 < (l0.length : Int)) = false := decide_eq_false c4
          clear c4
          obtain rfl := Option.some.inj H
          go_wp2
          repeat (go_quiet (fail); try go_wp2)
          go_ret
          exact ⟨by first | rfl | (simp; done) | (simp [*]; done), by repeat (first | exact Drawn0.refl _ | apply Drawn0.step)⟩
  · rw [if_neg c3] at H
    have c3b0 : ((l0.length : Int) == (l1.length : Int)) = false := beq_eq_false_iff_ne.mpr c3
    have c3b1 : ((l0.length : Int) != (l1.length : Int)) = true := bne_iff_ne.mpr c3
    have c3b2 : (l0.length == l1.length) = false := by first | simpa using c3 | (simp at c3 ⊢; omega)
    obtain rfl := Option.some.inj H
    go_enter Try.func38, Try.ntmps38
    go_wp2
    repeat (go_quiet (fail); try go_wp2)
    go_ret
    exact ⟨by first | rfl | (simp; done) | (simp [*]; done), by repeat (first | exact Drawn0.refl _ | apply Drawn0.step)⟩


end Go.Proofs.Ytokhmghgghjmhaa.Q

namespace Go.Proofs.Ytokhmghgghjmhaa.Q
open Go.RowKit Go.Proofs.YtokhmghgghjmhaaW.PrintWords Go.Proofs.YtokhmghgghjmhaaW.PrintLast Go.Proofs.YtokhmghgghjmhaaW.PrintMore
set_option linter.unusedVariables false
set_option linter.unusedSimpArgs false
/-- A row that lies at the head of a block. -/
theorem C_blk {α : Type} {d : Kd α} {w : World} {g : Nat} {t : TypeId} {cs : Array Value} (xs : List α) (f : α → List Value) (hf : ∀ x ∈ xs, d.K w x (f x) ∧ (f x).length = d.sz) (hb : w.heap[g]? = some (.cells cs t (0, 0)))
    (hm : xs.length ≤ 1000) (hi : ∀ j p, xs[j]? = some p → ∀ i u, (f p)[i]? = some u → cs[j * d.sz + i]? = some u) : d.C w (some ⟨g, 0, none⟩) xs.length xs := by
  refine ⟨rfl, by omega, fun _ => ⟨_, rfl, fun j p hj => ?_⟩⟩
  have hmem := List.mem_of_getElem? hj
  refine ⟨f p, (hf p hmem).2, (hf p hmem).1, fun i u hu => ?_⟩
  have := blk_cell hb (j * d.sz + i)
  have e : (⟨g, 0, none⟩ : Addr).add (j * d.sz + i) = ⟨g, j * d.sz + i, none⟩ := by
    unfold Addr.add
    split
    · rename_i h; rw [h]
    · simp
  rw [e, this]
  exact hi j p hj i u hu
def hs2 (gr : Int) : List S139 := [⟨⟨20, 22⟩, 3, 5⟩, ⟨⟨30, 33⟩, 4, gr⟩]
def hung2 : List Int := [0, 1]
def looks2 : List S140 := [⟨1, 35, true⟩, ⟨1, 34, false⟩, ⟨1, 36, false⟩]
theorem two_store {w W5 : World} {s2 s3 s4 : Value} {v0 v1 v2 v3 v4 : Value} (h0 : Below w.heap.size w W5) (h1 : W5.heap[w.heap.size]? = some (.cells #[v0, v1, v2, v3, v4] 35 (0, 0))) (h2 : W5.heap[w.heap.size + 1]? = some (.cells #[.int .i64 1, .int .i64 35, .bool true, .int .i64 1, .int .i64 34, .bool false, .int .i64 1, .int .i64 36, .bool false] 140 (0, 0))) :
    Below w.heap.size w (((((W5.setCell ⟨w.heap.size, 0, none⟩ (.int .i64 3)).setCell ⟨w.heap.size, 1, none⟩ (.int .i64 60)).setCell ⟨w.heap.size, 2, none⟩ s2).setCell ⟨w.heap.size, 3, none⟩ s3).setCell ⟨w.heap.size, 4, none⟩ s4) ∧
    (∃ v0 v1 v2 v3 v4, (((((W5.setCell ⟨w.heap.size, 0, none⟩ (.int .i64 3)).setCell ⟨w.heap.size, 1, none⟩ (.int .i64 60)).setCell ⟨w.heap.size, 2, none⟩ s2).setCell ⟨w.heap.size, 3, none⟩ s3).setCell ⟨w.heap.size, 4, none⟩ s4).heap[w.heap.size]? = some (.cells #[v0, v1, v2, v3, v4] 35 (0, 0))) ∧
    (((((W5.setCell ⟨w.heap.size, 0, none⟩ (.int .i64 3)).setCell ⟨w.heap.size, 1, none⟩ (.int .i64 60)).setCell ⟨w.heap.size, 2, none⟩ s2).setCell ⟨w.heap.size, 3, none⟩ s3).setCell ⟨w.heap.size, 4, none⟩ s4).heap[w.heap.size + 1]? = some (.cells #[.int .i64 1, .int .i64 35, .bool true, .int .i64 1, .int .i64 34, .bool false, .int .i64 1, .int .i64 36, .bool false] 140 (0, 0)) ∧
    w.heap.size + 2 ≤ (((((W5.setCell ⟨w.heap.size, 0, none⟩ (.int .i64 3)).setCell ⟨w.heap.size, 1, none⟩ (.int .i64 60)).setCell ⟨w.heap.size, 2, none⟩ s2).setCell ⟨w.heap.size, 3, none⟩ s3).setCell ⟨w.heap.size, 4, none⟩ s4).heap.size := by
  have hlt := blk_lt h2
  refine ⟨?_, ⟨_, _, _, _, _, blk_put (blk_put (blk_put (blk_put (blk_put h1 0 _ rfl) 1 _ rfl) 2 _ rfl) 3 _ rfl) 4 _ rfl⟩, ?_, ?_⟩
  · exact ((((h0.setCell (Nat.le_refl _) _).setCell (Nat.le_refl _) _).setCell (Nat.le_refl _) _).setCell (Nat.le_refl _) _).setCell (Nat.le_refl _) _
  · refine blk_far ?_ (by simp) _
    refine blk_far ?_ (by simp) _
    refine blk_far ?_ (by simp) _
    refine blk_far ?_ (by simp) _
    refine blk_far ?_ (by simp) _
    exact h2
  · simp only [World.size_setCell]; omega
theorem hs2_C {w' : World} {g : Nat} {gr : Int} (hw : w'.heap[g]? = some (.cells #[.int .i64 20, .int .i64 22, .int .i64 3, .int .i64 5, .int .i64 30, .int .i64 33, .int .i64 4, .int .i64 gr] 139 (0, 0))) : Kd.C k139 w' (some ⟨g, 0, none⟩) (hs2 gr).length (hs2 gr) := by
  refine C_blk (hs2 gr) (fun x => [.int .i64 x.f0.f0, .int .i64 x.f0.f1, .int .i64 x.f1, .int .i64 x.f2]) (fun x _ => ⟨k139_mk _ x, rfl⟩) hw (by simp [hs2]) ?_
  intro j p hj i u hu
  have hj2 : j = 0 ∨ j = 1 := by
    have := (List.getElem?_eq_some_iff.1 hj).1
    simp only [hs2, List.length_cons, List.length_nil] at this
    omega
  have hi4 : i = 0 ∨ i = 1 ∨ i = 2 ∨ i = 3 := by
    have := (List.getElem?_eq_some_iff.1 hu).1
    simp only [List.length_cons, List.length_nil] at this
    omega
  rcases hj2 with rfl | rfl <;> (cases hj; rcases hi4 with rfl | rfl | rfl | rfl <;> exact hu)
theorem ints2_C {w' : World} {g : Nat} {a b : Int} (hw : w'.heap[g]? = some (.cells #[.int .i64 a, .int .i64 b] 3 (0, 0))) : Kd.C (Kd.int .i64) w' (some ⟨g, 0, none⟩) [a, b].length [a, b] := by
  refine C_blk [a, b] (fun x => [.int .i64 x]) (fun x _ => ⟨rfl, rfl⟩) hw (by simp) ?_
  intro j p hj i u hu
  have hj2 : j = 0 ∨ j = 1 := by
    have := (List.getElem?_eq_some_iff.1 hj).1
    simp only [List.length_cons, List.length_nil] at this
    omega
  have hi4 : i = 0 := by
    have := (List.getElem?_eq_some_iff.1 hu).1
    simp only [List.length_cons, List.length_nil] at this
    omega
  subst hi4
  rcases hj2 with rfl | rfl <;> (cases hj; exact hu)
theorem looks2_C {w' : World} {g n : Nat} (hn : n ≤ 3) (hw : w'.heap[g]? = some (.cells #[.int .i64 1, .int .i64 35, .bool true, .int .i64 1, .int .i64 34, .bool false, .int .i64 1, .int .i64 36, .bool false] 140 (0, 0))) : Kd.C k140 w' (some ⟨g, 0, none⟩) (looks2.take n).length (looks2.take n) := by
  have hl : (looks2.take n).length = n := by rw [List.length_take]; show min n 3 = n; omega
  refine C_blk (looks2.take n) (fun x => [.int .i64 x.f0, .int .i64 x.f1, .bool x.f2]) (fun x _ => ⟨k140_mk _ x, rfl⟩) hw (by omega) ?_
  intro j p hj i u hu
  have hj2 : j = 0 ∨ j = 1 ∨ j = 2 := by
    have := (List.getElem?_eq_some_iff.1 hj).1
    omega
  have hj3 : looks2[j]? = some p := by
    rw [← hj, List.getElem?_take, if_pos (by have := (List.getElem?_eq_some_iff.1 hj).1; omega)]
  have hi4 : i = 0 ∨ i = 1 ∨ i = 2 := by
    have := (List.getElem?_eq_some_iff.1 hu).1
    simp only [List.length_cons, List.length_nil] at this
    omega
  rcases hj2 with rfl | rfl | rfl <;> (cases hj3; rcases hi4 with rfl | rfl | rfl <;> exact hu)
theorem two_end {w w' : World} {e : Ending} {n a2 a3 a4 : Nat} {gr : Int} (hn : n ≤ 3) (he : e = .returned (.agg #[.int .i64 3, .int .i64 60, .slice (some ⟨a2, 0, none⟩) 2 2, .slice (some ⟨a3, 0, none⟩) 2 2, .slice (some ⟨a4, 0, none⟩) n 3]))
    (hb : Below w.heap.size w w') (h4 : w'.heap[a4]? = some (.cells #[.int .i64 1, .int .i64 35, .bool true, .int .i64 1, .int .i64 34, .bool false, .int .i64 1, .int .i64 36, .bool false] 140 (0, 0)))
    (h2 : w'.heap[a2]? = some (.cells #[.int .i64 20, .int .i64 22, .int .i64 3, .int .i64 5, .int .i64 30, .int .i64 33, .int .i64 4, .int .i64 gr] 139 (0, 0)))
    (h3 : w'.heap[a3]? = some (.cells #[.int .i64 0, .int .i64 1] 3 (0, 0))) :
    ∃ A2 A3 A4 c2 c3 c4, e = .returned (.agg #[.int .i64 3, .int .i64 60, .slice A2 (hs2 gr).length c2, .slice A3 hung2.length c3, .slice A4 (looks2.take n).length c4]) ∧ Mem w' A2 A3 A4 c2 c3 c4 (hs2 gr) hung2 (looks2.take n) ∧ Below w.heap.size w w' := by
  have hl : (looks2.take n).length = n := by rw [List.length_take]; show min n 3 = n; omega
  refine ⟨some ⟨a2, 0, none⟩, some ⟨a3, 0, none⟩, some ⟨a4, 0, none⟩, 2, 2, 3, by rw [he, hl]; rfl, ⟨hs2_C h2, ints2_C h3, looks2_C hn h4, Nat.le_refl 2, Nat.le_refl 2, by omega⟩, hb⟩
set_option maxHeartbeats 1000000 in
set_option maxRecDepth 100000 in
theorem two_calls (n : Nat) (gr : Int) (w : World) (hn : n ≤ 3) :
    Calls Try.prog 83 #[.int .i64 n, .int .i64 gr] w fun e w' => ∃ A2 A3 A4 c2 c3 c4, e = .returned (.agg #[.int .i64 3, .int .i64 60, .slice A2 (hs2 gr).length c2, .slice A3 hung2.length c3, .slice A4 (looks2.take n).length c4]) ∧ Mem w' A2 A3 A4 c2 c3 c4 (hs2 gr) hung2 (looks2.take n) ∧ Below w.heap.size w w' := by
  obtain ⟨W1, hW1⟩ : ∃ W1, ((w.alloc (.cells #[.int .i64 0, .int .i64 0, .slice none 0 0, .slice none 0 0, .slice none 0 0] 35)).alloc (.cells #[.int .i64 1, .int .i64 35, .bool true, .int .i64 1, .int .i64 34, .bool false, .int .i64 1, .int .i64 36, .bool false] 140)) = W1 := ⟨_, rfl⟩
  have HB1 := Aside0.mk (show Below w.heap.size w W1 from by rw [← hW1]; repeat (first | exact Below.refl _ _ | apply below_alloc))
  have HR1 := Aside0.mk (show W1.heap[w.heap.size]? = some (.cells #[.int .i64 0, .int .i64 0, .slice none 0 0, .slice none 0 0, .slice none 0 0] 35 (0, 0)) from by rw [← hW1]; repeat (first | (refine blk_new_ ?_; simp; done) | refine blk_alloc ?_ _))
  have HL1 := Aside0.mk (show W1.heap[w.heap.size + 1]? = some (.cells #[.int .i64 1, .int .i64 35, .bool true, .int .i64 1, .int .i64 34, .bool false, .int .i64 1, .int .i64 36, .bool false] 140 (0, 0)) from by rw [← hW1]; repeat (first | (refine blk_new_ ?_; simp; done) | refine blk_alloc ?_ _))
  have hz : W1.heap.size = w.heap.size + 2 := by rw [← hW1]; simp
  have hn0 : (0 : Int) ≤ (n : Int) := by omega
  have hn3 : (n : Int) ≤ 3 := by omega
  go_enter Try.func83, Try.ntmps83
  go_wp2_with fail
  try rw [hW1]
  clear hW1
  refine wp_region_held_drew (S := fun W' => Below w.heap.size w W' ∧ (∃ v0 v1 v2 v3 v4, W'.heap[w.heap.size]? = some (.cells #[v0, v1, v2, v3, v4] 35 (0, 0))) ∧ W'.heap[w.heap.size + 1]? = some (.cells #[.int .i64 1, .int .i64 35, .bool true, .int .i64 1, .int .i64 34, .bool false, .int .i64 1, .int .i64 36, .bool false] 140 (0, 0)) ∧ w.heap.size + 2 ≤ W'.heap.size) (by kernel_rfl) ?hS (fun hHeld => ?_)
  case hS => exact ⟨below_drew HB1.out, ⟨_, _, _, _, _, HR1.out⟩, HL1.out, by show w.heap.size + 2 ≤ W1.heap.size; omega⟩
  focus
    refine tkT 3 (some 13) (v := ?_) rfl rfl (.inl ⟨by rfl, ?_⟩) ?_
    rotate_left
    · (intro w hSw; (try dsimp only at hSw); go_simp; with_reducible rfl)
    try simp only [Act.put, List.setIfInBounds_toArray, List.set_cons_zero, List.set_cons_succ]
    refine tkT 7 (some 17) (v := ?_) rfl rfl (.inl ⟨by rfl, ?_⟩) ?_
    rotate_left
    · (intro w hSw; (try dsimp only at hSw); go_simp; with_reducible rfl)
    try simp only [Act.put, List.setIfInBounds_toArray, List.set_cons_zero, List.set_cons_succ]
    refine tkT 8 (some 18) (v := ?_) rfl rfl (.inl ⟨by rfl, ?_⟩) ?_
    rotate_left
    · (intro w hSw; (try dsimp only at hSw); go_simp; with_reducible rfl)
    try simp only [Act.put, List.setIfInBounds_toArray, List.set_cons_zero, List.set_cons_succ]
    refine tkT 9 (some 19) (v := ?_) rfl rfl (.inl ⟨by rfl, ?_⟩) ?_
    rotate_left
    · (intro w hSw; (try dsimp only at hSw); go_simp; with_reducible rfl)
    try simp only [Act.put, List.setIfInBounds_toArray, List.set_cons_zero, List.set_cons_succ]
    refine wpAnyH_ready (rs := [0, 6]) (by kernel_rfl) (by simp) ?_
    refine AllReadyH.cons (o := { dst := some 10, op := Op.call { callee := Callee.value (Operand.func 86), args := #[Operand.const (Value.int IntKind.i64 20), Operand.const (Value.int IntKind.i64 22)], argTypes := #[3, 3] }, type := 61, pos := "outright.go:16", after := #[], guard := none }) rfl (fun K hK => ?_) ?_
    go_simp
    ((first | (go_at_call 86; refine (posserlaw04_between.calls _ _ _ _ _ rfl).mono ?_; rintro e wx ⟨rfl, hbx⟩; have HZX := Aside0.mk (Nat.le_trans hHeld.2.2.2 hbx.size); replace hbx := Aside0.mk hbx) | (obtain ⟨W5, hW5, h0, ⟨v0, v1, v2, v3, v4, h1⟩, h2, h3⟩ : ∃ W5, W5 = _ ∧ Below w.heap.size w W5 ∧ (∃ v0 v1 v2 v3 v4, W5.heap[w.heap.size]? = some (.cells #[v0, v1, v2, v3, v4] 35 (0, 0))) ∧ W5.heap[w.heap.size + 1]? = some (.cells #[.int .i64 1, .int .i64 35, .bool true, .int .i64 1, .int .i64 34, .bool false, .int .i64 1, .int .i64 36, .bool false] 140 (0, 0)) ∧ w.heap.size + 2 ≤ W5.heap.size := ⟨_, rfl, hHeld⟩; simp only [← hW5]; have HB5 := Aside0.mk h0; have HK5 := Aside0.mk h1; have HL5 := Aside0.mk h2; have HW5 := Aside0.mk hW5; have c0 : W5.cell? ⟨w.heap.size, 0, none⟩ = some v0 := (blk_cell h1 0).trans rfl; have c1 : W5.cell? ⟨w.heap.size, 1, none⟩ = some v1 := (blk_cell h1 1).trans rfl; have c2 : W5.cell? ⟨w.heap.size, 2, none⟩ = some v2 := (blk_cell h1 2).trans rfl; have c3 : W5.cell? ⟨w.heap.size, 3, none⟩ = some v3 := (blk_cell h1 3).trans rfl; have c4 : W5.cell? ⟨w.heap.size, 4, none⟩ = some v4 := (blk_cell h1 4).trans rfl; have f0 := blk_frozen h1 0; have f1 := blk_frozen h1 1; have f2 := blk_frozen h1 2; have f3 := blk_frozen h1 3; have f4 := blk_frozen h1 4; clear h0 h1 h2 h3 hW5 hHeld; go_simp)))
    go_wp2_with fail
    refine hK.out _ _ ?_ ?_
    · ((try dsimp only); (first | (with_reducible refine ⟨below_drew (below_alloc HB1.out _), ⟨_, _, _, _, _, blk_drew (blk_alloc HR1.out _)⟩, blk_drew (blk_alloc HL1.out _), ?_⟩; simp only [World.size_drew, World.size_alloc]; omega) | with_reducible exact two_store HB5.out HK5.out HL5.out | (obtain ⟨h0, ⟨v0, v1, v2, v3, v4, h1⟩, h2, h3⟩ := hHeld; with_reducible refine ⟨below_alloc h0 _, ⟨_, _, _, _, _, blk_alloc h1 _⟩, blk_alloc h2 _, ?_⟩; simp only [World.size_drew, World.size_alloc] at h3 ⊢; omega) | (obtain ⟨h0, ⟨v0, v1, v2, v3, v4, h1⟩, h2, h3⟩ := hHeld; with_reducible exact ⟨below_step h0 hbx.out, ⟨_, _, _, _, _, blk_below h1 hbx.out⟩, blk_below h2 hbx.out, Nat.le_trans h3 hbx.out.size⟩)))
    try clear hHeld
    intro hHeld
    clear hK K
    try simp only [Act.put, List.setIfInBounds_toArray, List.set_cons_zero, List.set_cons_succ]
    refine tkT 1 (some 11) (v := ?_) rfl rfl (.inl ⟨by rfl, ?_⟩) ?_
    rotate_left
    · (intro w hSw; (try dsimp only at hSw); go_simp; with_reducible rfl)
    try simp only [Act.put, List.setIfInBounds_toArray, List.set_cons_zero, List.set_cons_succ]
    refine wpAnyH_ready (rs := [2, 6]) (by kernel_rfl) (by simp) ?_
    refine AllReadyH.cons (o := { dst := some 12, op := Op.call { callee := Callee.value (Operand.func 86), args := #[Operand.const (Value.int IntKind.i64 30), Operand.const (Value.int IntKind.i64 33)], argTypes := #[3, 3] }, type := 61, pos := "outright.go:16", after := #[{ on := 0, ground := Ground.chain }], guard := none }) rfl (fun K hK => ?_) ?_
    go_simp
    ((first | (go_at_call 86; refine (posserlaw04_between.calls _ _ _ _ _ rfl).mono ?_; rintro e wx ⟨rfl, hbx⟩; have HZX := Aside0.mk (Nat.le_trans hHeld.2.2.2 hbx.size); replace hbx := Aside0.mk hbx) | (obtain ⟨W5, hW5, h0, ⟨v0, v1, v2, v3, v4, h1⟩, h2, h3⟩ : ∃ W5, W5 = _ ∧ Below w.heap.size w W5 ∧ (∃ v0 v1 v2 v3 v4, W5.heap[w.heap.size]? = some (.cells #[v0, v1, v2, v3, v4] 35 (0, 0))) ∧ W5.heap[w.heap.size + 1]? = some (.cells #[.int .i64 1, .int .i64 35, .bool true, .int .i64 1, .int .i64 34, .bool false, .int .i64 1, .int .i64 36, .bool false] 140 (0, 0)) ∧ w.heap.size + 2 ≤ W5.heap.size := ⟨_, rfl, hHeld⟩; simp only [← hW5]; have HB5 := Aside0.mk h0; have HK5 := Aside0.mk h1; have HL5 := Aside0.mk h2; have HW5 := Aside0.mk hW5; have c0 : W5.cell? ⟨w.heap.size, 0, none⟩ = some v0 := (blk_cell h1 0).trans rfl; have c1 : W5.cell? ⟨w.heap.size, 1, none⟩ = some v1 := (blk_cell h1 1).trans rfl; have c2 : W5.cell? ⟨w.heap.size, 2, none⟩ = some v2 := (blk_cell h1 2).trans rfl; have c3 : W5.cell? ⟨w.heap.size, 3, none⟩ = some v3 := (blk_cell h1 3).trans rfl; have c4 : W5.cell? ⟨w.heap.size, 4, none⟩ = some v4 := (blk_cell h1 4).trans rfl; have f0 := blk_frozen h1 0; have f1 := blk_frozen h1 1; have f2 := blk_frozen h1 2; have f3 := blk_frozen h1 3; have f4 := blk_frozen h1 4; clear h0 h1 h2 h3 hW5 hHeld; go_simp)))
    go_wp2_with fail
    refine hK.out _ _ ?_ ?_
    · ((try dsimp only); (first | (with_reducible refine ⟨below_drew (below_alloc HB1.out _), ⟨_, _, _, _, _, blk_drew (blk_alloc HR1.out _)⟩, blk_drew (blk_alloc HL1.out _), ?_⟩; simp only [World.size_drew, World.size_alloc]; omega) | with_reducible exact two_store HB5.out HK5.out HL5.out | (obtain ⟨h0, ⟨v0, v1, v2, v3, v4, h1⟩, h2, h3⟩ := hHeld; with_reducible refine ⟨below_alloc h0 _, ⟨_, _, _, _, _, blk_alloc h1 _⟩, blk_alloc h2 _, ?_⟩; simp only [World.size_drew, World.size_alloc] at h3 ⊢; omega) | (obtain ⟨h0, ⟨v0, v1, v2, v3, v4, h1⟩, h2, h3⟩ := hHeld; with_reducible exact ⟨below_step h0 hbx.out, ⟨_, _, _, _, _, blk_below h1 hbx.out⟩, blk_below h2 hbx.out, Nat.le_trans h3 hbx.out.size⟩)))
    try clear hHeld
    intro hHeld
    clear hK K
    try simp only [Act.put, List.setIfInBounds_toArray, List.set_cons_zero, List.set_cons_succ]
    refine tkT 4 (some 14) (v := ?_) rfl rfl (.inl ⟨by rfl, ?_⟩) ?_
    rotate_left
    · (intro w hSw; (try dsimp only at hSw); go_simp; with_reducible rfl)
    try simp only [Act.put, List.setIfInBounds_toArray, List.set_cons_zero, List.set_cons_succ]
    refine wpAnyH_ready (rs := [5, 6]) (by kernel_rfl) (by simp) ?_
    refine AllReadyH.cons (o := { dst := some 15, op := Op.buildSlice 32 2 #[(0, Operand.tmp 11), (1, Operand.tmp 14)], type := 32, pos := "outright.go:16", after := #[{ on := 1, ground := Ground.data }, { on := 4, ground := Ground.data }], guard := none }) rfl (fun K hK => ?_) ?_
    go_simp
    refine hK.out _ _ ?_ ?_
    · ((try dsimp only); (first | (with_reducible refine ⟨below_drew (below_alloc HB1.out _), ⟨_, _, _, _, _, blk_drew (blk_alloc HR1.out _)⟩, blk_drew (blk_alloc HL1.out _), ?_⟩; simp only [World.size_drew, World.size_alloc]; omega) | with_reducible exact two_store HB5.out HK5.out HL5.out | (obtain ⟨h0, ⟨v0, v1, v2, v3, v4, h1⟩, h2, h3⟩ := hHeld; with_reducible refine ⟨below_alloc h0 _, ⟨_, _, _, _, _, blk_alloc h1 _⟩, blk_alloc h2 _, ?_⟩; simp only [World.size_drew, World.size_alloc] at h3 ⊢; omega) | (obtain ⟨h0, ⟨v0, v1, v2, v3, v4, h1⟩, h2, h3⟩ := hHeld; with_reducible exact ⟨below_step h0 hbx.out, ⟨_, _, _, _, _, blk_below h1 hbx.out⟩, blk_below h2 hbx.out, Nat.le_trans h3 hbx.out.size⟩)))
    try clear hHeld
    intro hHeld
    clear hK K
    try simp only [Act.put, List.setIfInBounds_toArray, List.set_cons_zero, List.set_cons_succ]
    refine wpAnyH_ready (rs := [6]) (by kernel_rfl) (by simp) ?_
    refine AllReadyH.cons (o := { dst := some 16, op := Op.buildSlice 23 2 #[(0, Operand.const (Value.int IntKind.i64 0)), (1, Operand.const (Value.int IntKind.i64 1))], type := 23, pos := "outright.go:16", after := #[], guard := none }) rfl (fun K hK => ?_) ?_
    go_simp
    refine hK.out _ _ ?_ ?_
    · ((try dsimp only); (first | (with_reducible refine ⟨below_drew (below_alloc HB1.out _), ⟨_, _, _, _, _, blk_drew (blk_alloc HR1.out _)⟩, blk_drew (blk_alloc HL1.out _), ?_⟩; simp only [World.size_drew, World.size_alloc]; omega) | with_reducible exact two_store HB5.out HK5.out HL5.out | (obtain ⟨h0, ⟨v0, v1, v2, v3, v4, h1⟩, h2, h3⟩ := hHeld; with_reducible refine ⟨below_alloc h0 _, ⟨_, _, _, _, _, blk_alloc h1 _⟩, blk_alloc h2 _, ?_⟩; simp only [World.size_drew, World.size_alloc] at h3 ⊢; omega) | (obtain ⟨h0, ⟨v0, v1, v2, v3, v4, h1⟩, h2, h3⟩ := hHeld; with_reducible exact ⟨below_step h0 hbx.out, ⟨_, _, _, _, _, blk_below h1 hbx.out⟩, blk_below h2 hbx.out, Nat.le_trans h3 hbx.out.size⟩)))
    try clear hHeld
    intro hHeld
    clear hK K
    try simp only [Act.put, List.setIfInBounds_toArray, List.set_cons_zero, List.set_cons_succ]
    refine tkT 10 (some 20) (v := ?_) rfl rfl (.inl ⟨by rfl, ?_⟩) ?_
    rotate_left
    · (intro w hSw; (try dsimp only at hSw); go_simp; with_reducible rfl)
    try simp only [Act.put, List.setIfInBounds_toArray, List.set_cons_zero, List.set_cons_succ]
    refine wpAnyH_ready (rs := [11]) (by kernel_rfl) (by simp) ?_
    refine AllReadyH.cons (o := { dst := none, op := Op.store 35 (Operand.tmp 4) (Operand.tmp 20), type := 0, pos := "outright.go:16", after := #[{ on := 10, ground := Ground.data }, { on := 2, ground := Ground.chain }, { on := 0, ground := Ground.phase }, { on := 1, ground := Ground.phase }, { on := 2, ground := Ground.phase }, { on := 3, ground := Ground.phase }, { on := 4, ground := Ground.phase }, { on := 5, ground := Ground.phase }, { on := 6, ground := Ground.phase }, { on := 7, ground := Ground.phase }, { on := 8, ground := Ground.phase }, { on := 9, ground := Ground.phase }, { on := 10, ground := Ground.phase }], guard := none }) rfl (fun K hK => ?_) ?_
    go_simp
    ((first | (go_at_call 86; refine (posserlaw04_between.calls _ _ _ _ _ rfl).mono ?_; rintro e wx ⟨rfl, hbx⟩; have HZX := Aside0.mk (Nat.le_trans hHeld.2.2.2 hbx.size); replace hbx := Aside0.mk hbx) | (obtain ⟨W5, hW5, h0, ⟨v0, v1, v2, v3, v4, h1⟩, h2, h3⟩ : ∃ W5, W5 = _ ∧ Below w.heap.size w W5 ∧ (∃ v0 v1 v2 v3 v4, W5.heap[w.heap.size]? = some (.cells #[v0, v1, v2, v3, v4] 35 (0, 0))) ∧ W5.heap[w.heap.size + 1]? = some (.cells #[.int .i64 1, .int .i64 35, .bool true, .int .i64 1, .int .i64 34, .bool false, .int .i64 1, .int .i64 36, .bool false] 140 (0, 0)) ∧ w.heap.size + 2 ≤ W5.heap.size := ⟨_, rfl, hHeld⟩; simp only [← hW5]; have HB5 := Aside0.mk h0; have HK5 := Aside0.mk h1; have HL5 := Aside0.mk h2; have HW5 := Aside0.mk hW5; have c0 : W5.cell? ⟨w.heap.size, 0, none⟩ = some v0 := (blk_cell h1 0).trans rfl; have c1 : W5.cell? ⟨w.heap.size, 1, none⟩ = some v1 := (blk_cell h1 1).trans rfl; have c2 : W5.cell? ⟨w.heap.size, 2, none⟩ = some v2 := (blk_cell h1 2).trans rfl; have c3 : W5.cell? ⟨w.heap.size, 3, none⟩ = some v3 := (blk_cell h1 3).trans rfl; have c4 : W5.cell? ⟨w.heap.size, 4, none⟩ = some v4 := (blk_cell h1 4).trans rfl; have f0 := blk_frozen h1 0; have f1 := blk_frozen h1 1; have f2 := blk_frozen h1 2; have f3 := blk_frozen h1 3; have f4 := blk_frozen h1 4; clear h0 h1 h2 h3 hW5 hHeld; go_simp)))
    refine hK.out _ _ ?_ ?_
    · ((try dsimp only); (first | (with_reducible refine ⟨below_drew (below_alloc HB1.out _), ⟨_, _, _, _, _, blk_drew (blk_alloc HR1.out _)⟩, blk_drew (blk_alloc HL1.out _), ?_⟩; simp only [World.size_drew, World.size_alloc]; omega) | with_reducible exact two_store HB5.out HK5.out HL5.out | (obtain ⟨h0, ⟨v0, v1, v2, v3, v4, h1⟩, h2, h3⟩ := hHeld; with_reducible refine ⟨below_alloc h0 _, ⟨_, _, _, _, _, blk_alloc h1 _⟩, blk_alloc h2 _, ?_⟩; simp only [World.size_drew, World.size_alloc] at h3 ⊢; omega) | (obtain ⟨h0, ⟨v0, v1, v2, v3, v4, h1⟩, h2, h3⟩ := hHeld; with_reducible exact ⟨below_step h0 hbx.out, ⟨_, _, _, _, _, blk_below h1 hbx.out⟩, blk_below h2 hbx.out, Nat.le_trans h3 hbx.out.size⟩)))
    try clear hHeld
    intro hHeld
    clear hK K
    try simp only [Act.put, List.setIfInBounds_toArray, List.set_cons_zero, List.set_cons_succ]
    refine wpAnyH_done (by kernel_rfl) ?_ _
    rotate_left
    exact AllReadyH.nil
    exact AllReadyH.nil
    refine AllReadyH.cons (o := { dst := some 16, op := Op.buildSlice 23 2 #[(0, Operand.const (Value.int IntKind.i64 0)), (1, Operand.const (Value.int IntKind.i64 1))], type := 23, pos := "outright.go:16", after := #[], guard := none }) rfl (fun K hK => ?_) ?_
    go_simp
    refine hK.out _ _ ?_ ?_
    · ((try dsimp only); (first | (with_reducible refine ⟨below_drew (below_alloc HB1.out _), ⟨_, _, _, _, _, blk_drew (blk_alloc HR1.out _)⟩, blk_drew (blk_alloc HL1.out _), ?_⟩; simp only [World.size_drew, World.size_alloc]; omega) | with_reducible exact two_store HB5.out HK5.out HL5.out | (obtain ⟨h0, ⟨v0, v1, v2, v3, v4, h1⟩, h2, h3⟩ := hHeld; with_reducible refine ⟨below_alloc h0 _, ⟨_, _, _, _, _, blk_alloc h1 _⟩, blk_alloc h2 _, ?_⟩; simp only [World.size_drew, World.size_alloc] at h3 ⊢; omega) | (obtain ⟨h0, ⟨v0, v1, v2, v3, v4, h1⟩, h2, h3⟩ := hHeld; with_reducible exact ⟨below_step h0 hbx.out, ⟨_, _, _, _, _, blk_below h1 hbx.out⟩, blk_below h2 hbx.out, Nat.le_trans h3 hbx.out.size⟩)))
    try clear hHeld
    intro hHeld
    clear hK K
    try simp only [Act.put, List.setIfInBounds_toArray, List.set_cons_zero, List.set_cons_succ]
    refine wpAnyH_ready (rs := [5]) (by kernel_rfl) (by simp) ?_
    refine AllReadyH.cons (o := { dst := some 15, op := Op.buildSlice 32 2 #[(0, Operand.tmp 11), (1, Operand.tmp 14)], type := 32, pos := "outright.go:16", after := #[{ on := 1, ground := Ground.data }, { on := 4, ground := Ground.data }], guard := none }) rfl (fun K hK => ?_) ?_
    go_simp
    refine hK.out _ _ ?_ ?_
    · ((try dsimp only); (first | (with_reducible refine ⟨below_drew (below_alloc HB1.out _), ⟨_, _, _, _, _, blk_drew (blk_alloc HR1.out _)⟩, blk_drew (blk_alloc HL1.out _), ?_⟩; simp only [World.size_drew, World.size_alloc]; omega) | with_reducible exact two_store HB5.out HK5.out HL5.out | (obtain ⟨h0, ⟨v0, v1, v2, v3, v4, h1⟩, h2, h3⟩ := hHeld; with_reducible refine ⟨below_alloc h0 _, ⟨_, _, _, _, _, blk_alloc h1 _⟩, blk_alloc h2 _, ?_⟩; simp only [World.size_drew, World.size_alloc] at h3 ⊢; omega) | (obtain ⟨h0, ⟨v0, v1, v2, v3, v4, h1⟩, h2, h3⟩ := hHeld; with_reducible exact ⟨below_step h0 hbx.out, ⟨_, _, _, _, _, blk_below h1 hbx.out⟩, blk_below h2 hbx.out, Nat.le_trans h3 hbx.out.size⟩)))
    try clear hHeld
    intro hHeld
    clear hK K
    try simp only [Act.put, List.setIfInBounds_toArray, List.set_cons_zero, List.set_cons_succ]
    refine tkT 10 (some 20) (v := ?_) rfl rfl (.inl ⟨by rfl, ?_⟩) ?_
    rotate_left
    · (intro w hSw; (try dsimp only at hSw); go_simp; with_reducible rfl)
    try simp only [Act.put, List.setIfInBounds_toArray, List.set_cons_zero, List.set_cons_succ]
    refine wpAnyH_ready (rs := [11]) (by kernel_rfl) (by simp) ?_
    refine AllReadyH.cons (o := { dst := none, op := Op.store 35 (Operand.tmp 4) (Operand.tmp 20), type := 0, pos := "outright.go:16", after := #[{ on := 10, ground := Ground.data }, { on := 2, ground := Ground.chain }, { on := 0, ground := Ground.phase }, { on := 1, ground := Ground.phase }, { on := 2, ground := Ground.phase }, { on := 3, ground := Ground.phase }, { on := 4, ground := Ground.phase }, { on := 5, ground := Ground.phase }, { on := 6, ground := Ground.phase }, { on := 7, ground := Ground.phase }, { on := 8, ground := Ground.phase }, { on := 9, ground := Ground.phase }, { on := 10, ground := Ground.phase }], guard := none }) rfl (fun K hK => ?_) ?_
    go_simp
    ((first | (go_at_call 86; refine (posserlaw04_between.calls _ _ _ _ _ rfl).mono ?_; rintro e wx ⟨rfl, hbx⟩; have HZX := Aside0.mk (Nat.le_trans hHeld.2.2.2 hbx.size); replace hbx := Aside0.mk hbx) | (obtain ⟨W5, hW5, h0, ⟨v0, v1, v2, v3, v4, h1⟩, h2, h3⟩ : ∃ W5, W5 = _ ∧ Below w.heap.size w W5 ∧ (∃ v0 v1 v2 v3 v4, W5.heap[w.heap.size]? = some (.cells #[v0, v1, v2, v3, v4] 35 (0, 0))) ∧ W5.heap[w.heap.size + 1]? = some (.cells #[.int .i64 1, .int .i64 35, .bool true, .int .i64 1, .int .i64 34, .bool false, .int .i64 1, .int .i64 36, .bool false] 140 (0, 0)) ∧ w.heap.size + 2 ≤ W5.heap.size := ⟨_, rfl, hHeld⟩; simp only [← hW5]; have HB5 := Aside0.mk h0; have HK5 := Aside0.mk h1; have HL5 := Aside0.mk h2; have HW5 := Aside0.mk hW5; have c0 : W5.cell? ⟨w.heap.size, 0, none⟩ = some v0 := (blk_cell h1 0).trans rfl; have c1 : W5.cell? ⟨w.heap.size, 1, none⟩ = some v1 := (blk_cell h1 1).trans rfl; have c2 : W5.cell? ⟨w.heap.size, 2, none⟩ = some v2 := (blk_cell h1 2).trans rfl; have c3 : W5.cell? ⟨w.heap.size, 3, none⟩ = some v3 := (blk_cell h1 3).trans rfl; have c4 : W5.cell? ⟨w.heap.size, 4, none⟩ = some v4 := (blk_cell h1 4).trans rfl; have f0 := blk_frozen h1 0; have f1 := blk_frozen h1 1; have f2 := blk_frozen h1 2; have f3 := blk_frozen h1 3; have f4 := blk_frozen h1 4; clear h0 h1 h2 h3 hW5 hHeld; go_simp)))
    refine hK.out _ _ ?_ ?_
    · ((try dsimp only); (first | (with_reducible refine ⟨below_drew (below_alloc HB1.out _), ⟨_, _, _, _, _, blk_drew (blk_alloc HR1.out _)⟩, blk_drew (blk_alloc HL1.out _), ?_⟩; simp only [World.size_drew, World.size_alloc]; omega) | with_reducible exact two_store HB5.out HK5.out HL5.out | (obtain ⟨h0, ⟨v0, v1, v2, v3, v4, h1⟩, h2, h3⟩ := hHeld; with_reducible refine ⟨below_alloc h0 _, ⟨_, _, _, _, _, blk_alloc h1 _⟩, blk_alloc h2 _, ?_⟩; simp only [World.size_drew, World.size_alloc] at h3 ⊢; omega) | (obtain ⟨h0, ⟨v0, v1, v2, v3, v4, h1⟩, h2, h3⟩ := hHeld; with_reducible exact ⟨below_step h0 hbx.out, ⟨_, _, _, _, _, blk_below h1 hbx.out⟩, blk_below h2 hbx.out, Nat.le_trans h3 hbx.out.size⟩)))
    try clear hHeld
    intro hHeld
    clear hK K
    try simp only [Act.put, List.setIfInBounds_toArray, List.set_cons_zero, List.set_cons_succ]
    refine wpAnyH_done (by kernel_rfl) ?_ _
    rotate_left
    exact AllReadyH.nil
    exact AllReadyH.nil
    exact AllReadyH.nil
    refine AllReadyH.cons (o := { dst := some 16, op := Op.buildSlice 23 2 #[(0, Operand.const (Value.int IntKind.i64 0)), (1, Operand.const (Value.int IntKind.i64 1))], type := 23, pos := "outright.go:16", after := #[], guard := none }) rfl (fun K hK => ?_) ?_
    go_simp
    refine hK.out _ _ ?_ ?_
    · ((try dsimp only); (first | (with_reducible refine ⟨below_drew (below_alloc HB1.out _), ⟨_, _, _, _, _, blk_drew (blk_alloc HR1.out _)⟩, blk_drew (blk_alloc HL1.out _), ?_⟩; simp only [World.size_drew, World.size_alloc]; omega) | with_reducible exact two_store HB5.out HK5.out HL5.out | (obtain ⟨h0, ⟨v0, v1, v2, v3, v4, h1⟩, h2, h3⟩ := hHeld; with_reducible refine ⟨below_alloc h0 _, ⟨_, _, _, _, _, blk_alloc h1 _⟩, blk_alloc h2 _, ?_⟩; simp only [World.size_drew, World.size_alloc] at h3 ⊢; omega) | (obtain ⟨h0, ⟨v0, v1, v2, v3, v4, h1⟩, h2, h3⟩ := hHeld; with_reducible exact ⟨below_step h0 hbx.out, ⟨_, _, _, _, _, blk_below h1 hbx.out⟩, blk_below h2 hbx.out, Nat.le_trans h3 hbx.out.size⟩)))
    try clear hHeld
    intro hHeld
    clear hK K
    try simp only [Act.put, List.setIfInBounds_toArray, List.set_cons_zero, List.set_cons_succ]
    refine wpAnyH_ready (rs := [2]) (by kernel_rfl) (by simp) ?_
    refine AllReadyH.cons (o := { dst := some 12, op := Op.call { callee := Callee.value (Operand.func 86), args := #[Operand.const (Value.int IntKind.i64 30), Operand.const (Value.int IntKind.i64 33)], argTypes := #[3, 3] }, type := 61, pos := "outright.go:16", after := #[{ on := 0, ground := Ground.chain }], guard := none }) rfl (fun K hK => ?_) ?_
    go_simp
    ((first | (go_at_call 86; refine (posserlaw04_between.calls _ _ _ _ _ rfl).mono ?_; rintro e wx ⟨rfl, hbx⟩; have HZX := Aside0.mk (Nat.le_trans hHeld.2.2.2 hbx.size); replace hbx := Aside0.mk hbx) | (obtain ⟨W5, hW5, h0, ⟨v0, v1, v2, v3, v4, h1⟩, h2, h3⟩ : ∃ W5, W5 = _ ∧ Below w.heap.size w W5 ∧ (∃ v0 v1 v2 v3 v4, W5.heap[w.heap.size]? = some (.cells #[v0, v1, v2, v3, v4] 35 (0, 0))) ∧ W5.heap[w.heap.size + 1]? = some (.cells #[.int .i64 1, .int .i64 35, .bool true, .int .i64 1, .int .i64 34, .bool false, .int .i64 1, .int .i64 36, .bool false] 140 (0, 0)) ∧ w.heap.size + 2 ≤ W5.heap.size := ⟨_, rfl, hHeld⟩; simp only [← hW5]; have HB5 := Aside0.mk h0; have HK5 := Aside0.mk h1; have HL5 := Aside0.mk h2; have HW5 := Aside0.mk hW5; have c0 : W5.cell? ⟨w.heap.size, 0, none⟩ = some v0 := (blk_cell h1 0).trans rfl; have c1 : W5.cell? ⟨w.heap.size, 1, none⟩ = some v1 := (blk_cell h1 1).trans rfl; have c2 : W5.cell? ⟨w.heap.size, 2, none⟩ = some v2 := (blk_cell h1 2).trans rfl; have c3 : W5.cell? ⟨w.heap.size, 3, none⟩ = some v3 := (blk_cell h1 3).trans rfl; have c4 : W5.cell? ⟨w.heap.size, 4, none⟩ = some v4 := (blk_cell h1 4).trans rfl; have f0 := blk_frozen h1 0; have f1 := blk_frozen h1 1; have f2 := blk_frozen h1 2; have f3 := blk_frozen h1 3; have f4 := blk_frozen h1 4; clear h0 h1 h2 h3 hW5 hHeld; go_simp)))
    go_wp2_with fail
    refine hK.out _ _ ?_ ?_
    · ((try dsimp only); (first | (with_reducible refine ⟨below_drew (below_alloc HB1.out _), ⟨_, _, _, _, _, blk_drew (blk_alloc HR1.out _)⟩, blk_drew (blk_alloc HL1.out _), ?_⟩; simp only [World.size_drew, World.size_alloc]; omega) | with_reducible exact two_store HB5.out HK5.out HL5.out | (obtain ⟨h0, ⟨v0, v1, v2, v3, v4, h1⟩, h2, h3⟩ := hHeld; with_reducible refine ⟨below_alloc h0 _, ⟨_, _, _, _, _, blk_alloc h1 _⟩, blk_alloc h2 _, ?_⟩; simp only [World.size_drew, World.size_alloc] at h3 ⊢; omega) | (obtain ⟨h0, ⟨v0, v1, v2, v3, v4, h1⟩, h2, h3⟩ := hHeld; with_reducible exact ⟨below_step h0 hbx.out, ⟨_, _, _, _, _, blk_below h1 hbx.out⟩, blk_below h2 hbx.out, Nat.le_trans h3 hbx.out.size⟩)))
    try clear hHeld
    intro hHeld
    clear hK K
    try simp only [Act.put, List.setIfInBounds_toArray, List.set_cons_zero, List.set_cons_succ]
    refine tkT 4 (some 14) (v := ?_) rfl rfl (.inl ⟨by rfl, ?_⟩) ?_
    rotate_left
    · (intro w hSw; (try dsimp only at hSw); go_simp; with_reducible rfl)
    try simp only [Act.put, List.setIfInBounds_toArray, List.set_cons_zero, List.set_cons_succ]
    refine wpAnyH_ready (rs := [5]) (by kernel_rfl) (by simp) ?_
    refine AllReadyH.cons (o := { dst := some 15, op := Op.buildSlice 32 2 #[(0, Operand.tmp 11), (1, Operand.tmp 14)], type := 32, pos := "outright.go:16", after := #[{ on := 1, ground := Ground.data }, { on := 4, ground := Ground.data }], guard := none }) rfl (fun K hK => ?_) ?_
    go_simp
    refine hK.out _ _ ?_ ?_
    · ((try dsimp only); (first | (with_reducible refine ⟨below_drew (below_alloc HB1.out _), ⟨_, _, _, _, _, blk_drew (blk_alloc HR1.out _)⟩, blk_drew (blk_alloc HL1.out _), ?_⟩; simp only [World.size_drew, World.size_alloc]; omega) | with_reducible exact two_store HB5.out HK5.out HL5.out | (obtain ⟨h0, ⟨v0, v1, v2, v3, v4, h1⟩, h2, h3⟩ := hHeld; with_reducible refine ⟨below_alloc h0 _, ⟨_, _, _, _, _, blk_alloc h1 _⟩, blk_alloc h2 _, ?_⟩; simp only [World.size_drew, World.size_alloc] at h3 ⊢; omega) | (obtain ⟨h0, ⟨v0, v1, v2, v3, v4, h1⟩, h2, h3⟩ := hHeld; with_reducible exact ⟨below_step h0 hbx.out, ⟨_, _, _, _, _, blk_below h1 hbx.out⟩, blk_below h2 hbx.out, Nat.le_trans h3 hbx.out.size⟩)))
    try clear hHeld
    intro hHeld
    clear hK K
    try simp only [Act.put, List.setIfInBounds_toArray, List.set_cons_zero, List.set_cons_succ]
    refine tkT 10 (some 20) (v := ?_) rfl rfl (.inl ⟨by rfl, ?_⟩) ?_
    rotate_left
    · (intro w hSw; (try dsimp only at hSw); go_simp; with_reducible rfl)
    try simp only [Act.put, List.setIfInBounds_toArray, List.set_cons_zero, List.set_cons_succ]
    refine wpAnyH_ready (rs := [11]) (by kernel_rfl) (by simp) ?_
    refine AllReadyH.cons (o := { dst := none, op := Op.store 35 (Operand.tmp 4) (Operand.tmp 20), type := 0, pos := "outright.go:16", after := #[{ on := 10, ground := Ground.data }, { on := 2, ground := Ground.chain }, { on := 0, ground := Ground.phase }, { on := 1, ground := Ground.phase }, { on := 2, ground := Ground.phase }, { on := 3, ground := Ground.phase }, { on := 4, ground := Ground.phase }, { on := 5, ground := Ground.phase }, { on := 6, ground := Ground.phase }, { on := 7, ground := Ground.phase }, { on := 8, ground := Ground.phase }, { on := 9, ground := Ground.phase }, { on := 10, ground := Ground.phase }], guard := none }) rfl (fun K hK => ?_) ?_
    go_simp
    ((first | (go_at_call 86; refine (posserlaw04_between.calls _ _ _ _ _ rfl).mono ?_; rintro e wx ⟨rfl, hbx⟩; have HZX := Aside0.mk (Nat.le_trans hHeld.2.2.2 hbx.size); replace hbx := Aside0.mk hbx) | (obtain ⟨W5, hW5, h0, ⟨v0, v1, v2, v3, v4, h1⟩, h2, h3⟩ : ∃ W5, W5 = _ ∧ Below w.heap.size w W5 ∧ (∃ v0 v1 v2 v3 v4, W5.heap[w.heap.size]? = some (.cells #[v0, v1, v2, v3, v4] 35 (0, 0))) ∧ W5.heap[w.heap.size + 1]? = some (.cells #[.int .i64 1, .int .i64 35, .bool true, .int .i64 1, .int .i64 34, .bool false, .int .i64 1, .int .i64 36, .bool false] 140 (0, 0)) ∧ w.heap.size + 2 ≤ W5.heap.size := ⟨_, rfl, hHeld⟩; simp only [← hW5]; have HB5 := Aside0.mk h0; have HK5 := Aside0.mk h1; have HL5 := Aside0.mk h2; have HW5 := Aside0.mk hW5; have c0 : W5.cell? ⟨w.heap.size, 0, none⟩ = some v0 := (blk_cell h1 0).trans rfl; have c1 : W5.cell? ⟨w.heap.size, 1, none⟩ = some v1 := (blk_cell h1 1).trans rfl; have c2 : W5.cell? ⟨w.heap.size, 2, none⟩ = some v2 := (blk_cell h1 2).trans rfl; have c3 : W5.cell? ⟨w.heap.size, 3, none⟩ = some v3 := (blk_cell h1 3).trans rfl; have c4 : W5.cell? ⟨w.heap.size, 4, none⟩ = some v4 := (blk_cell h1 4).trans rfl; have f0 := blk_frozen h1 0; have f1 := blk_frozen h1 1; have f2 := blk_frozen h1 2; have f3 := blk_frozen h1 3; have f4 := blk_frozen h1 4; clear h0 h1 h2 h3 hW5 hHeld; go_simp)))
    refine hK.out _ _ ?_ ?_
    · ((try dsimp only); (first | (with_reducible refine ⟨below_drew (below_alloc HB1.out _), ⟨_, _, _, _, _, blk_drew (blk_alloc HR1.out _)⟩, blk_drew (blk_alloc HL1.out _), ?_⟩; simp only [World.size_drew, World.size_alloc]; omega) | with_reducible exact two_store HB5.out HK5.out HL5.out | (obtain ⟨h0, ⟨v0, v1, v2, v3, v4, h1⟩, h2, h3⟩ := hHeld; with_reducible refine ⟨below_alloc h0 _, ⟨_, _, _, _, _, blk_alloc h1 _⟩, blk_alloc h2 _, ?_⟩; simp only [World.size_drew, World.size_alloc] at h3 ⊢; omega) | (obtain ⟨h0, ⟨v0, v1, v2, v3, v4, h1⟩, h2, h3⟩ := hHeld; with_reducible exact ⟨below_step h0 hbx.out, ⟨_, _, _, _, _, blk_below h1 hbx.out⟩, blk_below h2 hbx.out, Nat.le_trans h3 hbx.out.size⟩)))
    try clear hHeld
    intro hHeld
    clear hK K
    try simp only [Act.put, List.setIfInBounds_toArray, List.set_cons_zero, List.set_cons_succ]
    refine wpAnyH_done (by kernel_rfl) ?_ _
    rotate_left
    exact AllReadyH.nil
    exact AllReadyH.nil
    exact AllReadyH.nil
    exact AllReadyH.nil
    refine AllReadyH.cons (o := { dst := some 16, op := Op.buildSlice 23 2 #[(0, Operand.const (Value.int IntKind.i64 0)), (1, Operand.const (Value.int IntKind.i64 1))], type := 23, pos := "outright.go:16", after := #[], guard := none }) rfl (fun K hK => ?_) ?_
    go_simp
    refine hK.out _ _ ?_ ?_
    · ((try dsimp only); (first | (with_reducible refine ⟨below_drew (below_alloc HB1.out _), ⟨_, _, _, _, _, blk_drew (blk_alloc HR1.out _)⟩, blk_drew (blk_alloc HL1.out _), ?_⟩; simp only [World.size_drew, World.size_alloc]; omega) | with_reducible exact two_store HB5.out HK5.out HL5.out | (obtain ⟨h0, ⟨v0, v1, v2, v3, v4, h1⟩, h2, h3⟩ := hHeld; with_reducible refine ⟨below_alloc h0 _, ⟨_, _, _, _, _, blk_alloc h1 _⟩, blk_alloc h2 _, ?_⟩; simp only [World.size_drew, World.size_alloc] at h3 ⊢; omega) | (obtain ⟨h0, ⟨v0, v1, v2, v3, v4, h1⟩, h2, h3⟩ := hHeld; with_reducible exact ⟨below_step h0 hbx.out, ⟨_, _, _, _, _, blk_below h1 hbx.out⟩, blk_below h2 hbx.out, Nat.le_trans h3 hbx.out.size⟩)))
    try clear hHeld
    intro hHeld
    clear hK K
    try simp only [Act.put, List.setIfInBounds_toArray, List.set_cons_zero, List.set_cons_succ]
    refine wpAnyH_ready (rs := [0]) (by kernel_rfl) (by simp) ?_
    refine AllReadyH.cons (o := { dst := some 10, op := Op.call { callee := Callee.value (Operand.func 86), args := #[Operand.const (Value.int IntKind.i64 20), Operand.const (Value.int IntKind.i64 22)], argTypes := #[3, 3] }, type := 61, pos := "outright.go:16", after := #[], guard := none }) rfl (fun K hK => ?_) ?_
    go_simp
    ((first | (go_at_call 86; refine (posserlaw04_between.calls _ _ _ _ _ rfl).mono ?_; rintro e wx ⟨rfl, hbx⟩; have HZX := Aside0.mk (Nat.le_trans hHeld.2.2.2 hbx.size); replace hbx := Aside0.mk hbx) | (obtain ⟨W5, hW5, h0, ⟨v0, v1, v2, v3, v4, h1⟩, h2, h3⟩ : ∃ W5, W5 = _ ∧ Below w.heap.size w W5 ∧ (∃ v0 v1 v2 v3 v4, W5.heap[w.heap.size]? = some (.cells #[v0, v1, v2, v3, v4] 35 (0, 0))) ∧ W5.heap[w.heap.size + 1]? = some (.cells #[.int .i64 1, .int .i64 35, .bool true, .int .i64 1, .int .i64 34, .bool false, .int .i64 1, .int .i64 36, .bool false] 140 (0, 0)) ∧ w.heap.size + 2 ≤ W5.heap.size := ⟨_, rfl, hHeld⟩; simp only [← hW5]; have HB5 := Aside0.mk h0; have HK5 := Aside0.mk h1; have HL5 := Aside0.mk h2; have HW5 := Aside0.mk hW5; have c0 : W5.cell? ⟨w.heap.size, 0, none⟩ = some v0 := (blk_cell h1 0).trans rfl; have c1 : W5.cell? ⟨w.heap.size, 1, none⟩ = some v1 := (blk_cell h1 1).trans rfl; have c2 : W5.cell? ⟨w.heap.size, 2, none⟩ = some v2 := (blk_cell h1 2).trans rfl; have c3 : W5.cell? ⟨w.heap.size, 3, none⟩ = some v3 := (blk_cell h1 3).trans rfl; have c4 : W5.cell? ⟨w.heap.size, 4, none⟩ = some v4 := (blk_cell h1 4).trans rfl; have f0 := blk_frozen h1 0; have f1 := blk_frozen h1 1; have f2 := blk_frozen h1 2; have f3 := blk_frozen h1 3; have f4 := blk_frozen h1 4; clear h0 h1 h2 h3 hW5 hHeld; go_simp)))
    go_wp2_with fail
    refine hK.out _ _ ?_ ?_
    · ((try dsimp only); (first | (with_reducible refine ⟨below_drew (below_alloc HB1.out _), ⟨_, _, _, _, _, blk_drew (blk_alloc HR1.out _)⟩, blk_drew (blk_alloc HL1.out _), ?_⟩; simp only [World.size_drew, World.size_alloc]; omega) | with_reducible exact two_store HB5.out HK5.out HL5.out | (obtain ⟨h0, ⟨v0, v1, v2, v3, v4, h1⟩, h2, h3⟩ := hHeld; with_reducible refine ⟨below_alloc h0 _, ⟨_, _, _, _, _, blk_alloc h1 _⟩, blk_alloc h2 _, ?_⟩; simp only [World.size_drew, World.size_alloc] at h3 ⊢; omega) | (obtain ⟨h0, ⟨v0, v1, v2, v3, v4, h1⟩, h2, h3⟩ := hHeld; with_reducible exact ⟨below_step h0 hbx.out, ⟨_, _, _, _, _, blk_below h1 hbx.out⟩, blk_below h2 hbx.out, Nat.le_trans h3 hbx.out.size⟩)))
    try clear hHeld
    intro hHeld
    clear hK K
    try simp only [Act.put, List.setIfInBounds_toArray, List.set_cons_zero, List.set_cons_succ]
    refine tkT 1 (some 11) (v := ?_) rfl rfl (.inl ⟨by rfl, ?_⟩) ?_
    rotate_left
    · (intro w hSw; (try dsimp only at hSw); go_simp; with_reducible rfl)
    try simp only [Act.put, List.setIfInBounds_toArray, List.set_cons_zero, List.set_cons_succ]
    refine wpAnyH_ready (rs := [2]) (by kernel_rfl) (by simp) ?_
    refine AllReadyH.cons (o := { dst := some 12, op := Op.call { callee := Callee.value (Operand.func 86), args := #[Operand.const (Value.int IntKind.i64 30), Operand.const (Value.int IntKind.i64 33)], argTypes := #[3, 3] }, type := 61, pos := "outright.go:16", after := #[{ on := 0, ground := Ground.chain }], guard := none }) rfl (fun K hK => ?_) ?_
    go_simp
    ((first | (go_at_call 86; refine (posserlaw04_between.calls _ _ _ _ _ rfl).mono ?_; rintro e wx ⟨rfl, hbx⟩; have HZX := Aside0.mk (Nat.le_trans hHeld.2.2.2 hbx.size); replace hbx := Aside0.mk hbx) | (obtain ⟨W5, hW5, h0, ⟨v0, v1, v2, v3, v4, h1⟩, h2, h3⟩ : ∃ W5, W5 = _ ∧ Below w.heap.size w W5 ∧ (∃ v0 v1 v2 v3 v4, W5.heap[w.heap.size]? = some (.cells #[v0, v1, v2, v3, v4] 35 (0, 0))) ∧ W5.heap[w.heap.size + 1]? = some (.cells #[.int .i64 1, .int .i64 35, .bool true, .int .i64 1, .int .i64 34, .bool false, .int .i64 1, .int .i64 36, .bool false] 140 (0, 0)) ∧ w.heap.size + 2 ≤ W5.heap.size := ⟨_, rfl, hHeld⟩; simp only [← hW5]; have HB5 := Aside0.mk h0; have HK5 := Aside0.mk h1; have HL5 := Aside0.mk h2; have HW5 := Aside0.mk hW5; have c0 : W5.cell? ⟨w.heap.size, 0, none⟩ = some v0 := (blk_cell h1 0).trans rfl; have c1 : W5.cell? ⟨w.heap.size, 1, none⟩ = some v1 := (blk_cell h1 1).trans rfl; have c2 : W5.cell? ⟨w.heap.size, 2, none⟩ = some v2 := (blk_cell h1 2).trans rfl; have c3 : W5.cell? ⟨w.heap.size, 3, none⟩ = some v3 := (blk_cell h1 3).trans rfl; have c4 : W5.cell? ⟨w.heap.size, 4, none⟩ = some v4 := (blk_cell h1 4).trans rfl; have f0 := blk_frozen h1 0; have f1 := blk_frozen h1 1; have f2 := blk_frozen h1 2; have f3 := blk_frozen h1 3; have f4 := blk_frozen h1 4; clear h0 h1 h2 h3 hW5 hHeld; go_simp)))
    go_wp2_with fail
    refine hK.out _ _ ?_ ?_
    · ((try dsimp only); (first | (with_reducible refine ⟨below_drew (below_alloc HB1.out _), ⟨_, _, _, _, _, blk_drew (blk_alloc HR1.out _)⟩, blk_drew (blk_alloc HL1.out _), ?_⟩; simp only [World.size_drew, World.size_alloc]; omega) | with_reducible exact two_store HB5.out HK5.out HL5.out | (obtain ⟨h0, ⟨v0, v1, v2, v3, v4, h1⟩, h2, h3⟩ := hHeld; with_reducible refine ⟨below_alloc h0 _, ⟨_, _, _, _, _, blk_alloc h1 _⟩, blk_alloc h2 _, ?_⟩; simp only [World.size_drew, World.size_alloc] at h3 ⊢; omega) | (obtain ⟨h0, ⟨v0, v1, v2, v3, v4, h1⟩, h2, h3⟩ := hHeld; with_reducible exact ⟨below_step h0 hbx.out, ⟨_, _, _, _, _, blk_below h1 hbx.out⟩, blk_below h2 hbx.out, Nat.le_trans h3 hbx.out.size⟩)))
    try clear hHeld
    intro hHeld
    clear hK K
    try simp only [Act.put, List.setIfInBounds_toArray, List.set_cons_zero, List.set_cons_succ]
    refine tkT 4 (some 14) (v := ?_) rfl rfl (.inl ⟨by rfl, ?_⟩) ?_
    rotate_left
    · (intro w hSw; (try dsimp only at hSw); go_simp; with_reducible rfl)
    try simp only [Act.put, List.setIfInBounds_toArray, List.set_cons_zero, List.set_cons_succ]
    refine wpAnyH_ready (rs := [5]) (by kernel_rfl) (by simp) ?_
    refine AllReadyH.cons (o := { dst := some 15, op := Op.buildSlice 32 2 #[(0, Operand.tmp 11), (1, Operand.tmp 14)], type := 32, pos := "outright.go:16", after := #[{ on := 1, ground := Ground.data }, { on := 4, ground := Ground.data }], guard := none }) rfl (fun K hK => ?_) ?_
    go_simp
    refine hK.out _ _ ?_ ?_
    · ((try dsimp only); (first | (with_reducible refine ⟨below_drew (below_alloc HB1.out _), ⟨_, _, _, _, _, blk_drew (blk_alloc HR1.out _)⟩, blk_drew (blk_alloc HL1.out _), ?_⟩; simp only [World.size_drew, World.size_alloc]; omega) | with_reducible exact two_store HB5.out HK5.out HL5.out | (obtain ⟨h0, ⟨v0, v1, v2, v3, v4, h1⟩, h2, h3⟩ := hHeld; with_reducible refine ⟨below_alloc h0 _, ⟨_, _, _, _, _, blk_alloc h1 _⟩, blk_alloc h2 _, ?_⟩; simp only [World.size_drew, World.size_alloc] at h3 ⊢; omega) | (obtain ⟨h0, ⟨v0, v1, v2, v3, v4, h1⟩, h2, h3⟩ := hHeld; with_reducible exact ⟨below_step h0 hbx.out, ⟨_, _, _, _, _, blk_below h1 hbx.out⟩, blk_below h2 hbx.out, Nat.le_trans h3 hbx.out.size⟩)))
    try clear hHeld
    intro hHeld
    clear hK K
    try simp only [Act.put, List.setIfInBounds_toArray, List.set_cons_zero, List.set_cons_succ]
    refine tkT 10 (some 20) (v := ?_) rfl rfl (.inl ⟨by rfl, ?_⟩) ?_
    rotate_left
    · (intro w hSw; (try dsimp only at hSw); go_simp; with_reducible rfl)
    try simp only [Act.put, List.setIfInBounds_toArray, List.set_cons_zero, List.set_cons_succ]
    refine wpAnyH_ready (rs := [11]) (by kernel_rfl) (by simp) ?_
    refine AllReadyH.cons (o := { dst := none, op := Op.store 35 (Operand.tmp 4) (Operand.tmp 20), type := 0, pos := "outright.go:16", after := #[{ on := 10, ground := Ground.data }, { on := 2, ground := Ground.chain }, { on := 0, ground := Ground.phase }, { on := 1, ground := Ground.phase }, { on := 2, ground := Ground.phase }, { on := 3, ground := Ground.phase }, { on := 4, ground := Ground.phase }, { on := 5, ground := Ground.phase }, { on := 6, ground := Ground.phase }, { on := 7, ground := Ground.phase }, { on := 8, ground := Ground.phase }, { on := 9, ground := Ground.phase }, { on := 10, ground := Ground.phase }], guard := none }) rfl (fun K hK => ?_) ?_
    go_simp
    ((first | (go_at_call 86; refine (posserlaw04_between.calls _ _ _ _ _ rfl).mono ?_; rintro e wx ⟨rfl, hbx⟩; have HZX := Aside0.mk (Nat.le_trans hHeld.2.2.2 hbx.size); replace hbx := Aside0.mk hbx) | (obtain ⟨W5, hW5, h0, ⟨v0, v1, v2, v3, v4, h1⟩, h2, h3⟩ : ∃ W5, W5 = _ ∧ Below w.heap.size w W5 ∧ (∃ v0 v1 v2 v3 v4, W5.heap[w.heap.size]? = some (.cells #[v0, v1, v2, v3, v4] 35 (0, 0))) ∧ W5.heap[w.heap.size + 1]? = some (.cells #[.int .i64 1, .int .i64 35, .bool true, .int .i64 1, .int .i64 34, .bool false, .int .i64 1, .int .i64 36, .bool false] 140 (0, 0)) ∧ w.heap.size + 2 ≤ W5.heap.size := ⟨_, rfl, hHeld⟩; simp only [← hW5]; have HB5 := Aside0.mk h0; have HK5 := Aside0.mk h1; have HL5 := Aside0.mk h2; have HW5 := Aside0.mk hW5; have c0 : W5.cell? ⟨w.heap.size, 0, none⟩ = some v0 := (blk_cell h1 0).trans rfl; have c1 : W5.cell? ⟨w.heap.size, 1, none⟩ = some v1 := (blk_cell h1 1).trans rfl; have c2 : W5.cell? ⟨w.heap.size, 2, none⟩ = some v2 := (blk_cell h1 2).trans rfl; have c3 : W5.cell? ⟨w.heap.size, 3, none⟩ = some v3 := (blk_cell h1 3).trans rfl; have c4 : W5.cell? ⟨w.heap.size, 4, none⟩ = some v4 := (blk_cell h1 4).trans rfl; have f0 := blk_frozen h1 0; have f1 := blk_frozen h1 1; have f2 := blk_frozen h1 2; have f3 := blk_frozen h1 3; have f4 := blk_frozen h1 4; clear h0 h1 h2 h3 hW5 hHeld; go_simp)))
    refine hK.out _ _ ?_ ?_
    · ((try dsimp only); (first | (with_reducible refine ⟨below_drew (below_alloc HB1.out _), ⟨_, _, _, _, _, blk_drew (blk_alloc HR1.out _)⟩, blk_drew (blk_alloc HL1.out _), ?_⟩; simp only [World.size_drew, World.size_alloc]; omega) | with_reducible exact two_store HB5.out HK5.out HL5.out | (obtain ⟨h0, ⟨v0, v1, v2, v3, v4, h1⟩, h2, h3⟩ := hHeld; with_reducible refine ⟨below_alloc h0 _, ⟨_, _, _, _, _, blk_alloc h1 _⟩, blk_alloc h2 _, ?_⟩; simp only [World.size_drew, World.size_alloc] at h3 ⊢; omega) | (obtain ⟨h0, ⟨v0, v1, v2, v3, v4, h1⟩, h2, h3⟩ := hHeld; with_reducible exact ⟨below_step h0 hbx.out, ⟨_, _, _, _, _, blk_below h1 hbx.out⟩, blk_below h2 hbx.out, Nat.le_trans h3 hbx.out.size⟩)))
    try clear hHeld
    intro hHeld
    clear hK K
    try simp only [Act.put, List.setIfInBounds_toArray, List.set_cons_zero, List.set_cons_succ]
    refine wpAnyH_done (by kernel_rfl) ?_ _
    rotate_left
    exact AllReadyH.nil
    exact AllReadyH.nil
    exact AllReadyH.nil
    exact AllReadyH.nil
    exact AllReadyH.nil
  all_goals
    go_wp2_with fail
    refine bodyPost_ret (results_cell_row rfl _ _ w.heap.size 35 _ (0, 0) _ rfl (blk_put (blk_put (blk_put (blk_put (blk_put HK5.out 0 _ rfl) 1 _ rfl) 2 _ rfl) 3 _ rfl) 4 _ rfl) Try.underlying35 rfl (by kernel_rfl)) rfl ?_
    have hZ := HZX.out
    refine two_end hn rfl hHeld.1 hHeld.2.2.1 ?_ ?_
    all_goals
      iterate 5 refine blk_far ?_ (by first | (simp; done) | (simp; omega) | exact Nat.ne_of_gt (Nat.lt_of_lt_of_le (Nat.lt_add_of_pos_right (by decide : 0 < 2)) (Aside0.out (by assumption)))) _
      rw [HW5.out]
      repeat (first | (with_reducible refine blk_new_ ?_; simp; done) | (with_reducible refine blk_new_ ?_; omega) | with_reducible refine blk_alloc ?_ _ | with_reducible refine blk_drew ?_ | with_reducible refine blk_below ?_ (Aside0.out (by assumption)))
end Go.Proofs.Ytokhmghgghjmhaa.Q

namespace Go.Proofs.Ytokhmghgghjmhaa.Q
open Go.RowKit Go.Proofs.YtokhmghgghjmhaaW.PrintWords Go.Proofs.YtokhmghgghjmhaaW.PrintLast Go.Proofs.YtokhmghgghjmhaaW.PrintMore
set_option linter.unusedVariables false
set_option maxRecDepth 100000
theorem play_ex : playR 3 60 (hs2 4) hung2 (looks2.take 0) [0, 1] [21, 33] = ([25, 36], 0) := by kernel_rfl
theorem right_ex : rightR 3 60 (hs2 4) hung2 (looks2.take 0) [0, 1] 0 25 = (3, 0) := by kernel_rfl
theorem good_ex : goodR 3 60 (hs2 4) hung2 (looks2.take 0) [0, 1] 1 = (36, 37, 0) := by kernel_rfl
theorem best_ex : bestR 3 60 (hs2 4) hung2 (looks2.take 0) = ([0, 2], 33, 0) := by kernel_rfl
theorem stuck_ex : stuckR 3 60 (hs2 2) hung2 (looks2.take 0) [0, 2] = (1, 0) := by kernel_rfl
theorem ask_ex : askR 3 60 (hs2 4) hung2 (looks2.take 0) = (1, 34, 6, 0) := by kernel_rfl
theorem first_ex : firstR 3 60 (hs2 4) hung2 (looks2.take 3) = (2, 0) := by kernel_rfl
theorem leave_ex : leaveR 3 60 (hs2 4) hung2 (looks2.take 3) = ([2], 0) := by kernel_rfl

/-- The closets of the examples, as1 they lie in memory. -/
def Two (w : World) (A2 A3 A4 : Option Addr) (c2 c3 c4 n2 n3 n4 : Nat) (n : Nat) (gr : Int) : Prop :=
  n2 = (hs2 gr).length ∧ n3 = hung2.length ∧ n4 = (looks2.take n).length ∧ Mem w A2 A3 A4 c2 c3 c4 (hs2 gr) hung2 (looks2.take n)
theorem Two.later {w w' : World} {A2 A3 A4 : Option Addr} {c2 c3 c4 n2 n3 n4 n : Nat} {gr : Int} (h : Two w A2 A3 A4 c2 c3 c4 n2 n3 n4 n gr) (hb : Below w.heap.size w w') : Two w' A2 A3 A4 c2 c3 c4 n2 n3 n4 n gr := ⟨h.1, h.2.1, h.2.2.1, h.2.2.2.later hb⟩
theorem two_q (n : Nat) (gr : Int) (w : World) (hn : n ≤ 3) :
    Calls Try.prog 83 #[.int .i64 n, .int .i64 gr] w fun e w' => ∃ A2 A3 A4 c2 c3 c4 n2 n3 n4, e = .returned (.agg #[.int .i64 3, .int .i64 60, .slice A2 n2 c2, .slice A3 n3 c3, .slice A4 n4 c4]) ∧ Two w' A2 A3 A4 c2 c3 c4 n2 n3 n4 n gr ∧ Below w.heap.size w w' :=
  (two_calls n gr w hn).mono fun e w' ⟨A2, A3, A4, c2, c3, c4, he, hM, hb⟩ => ⟨A2, A3, A4, c2, c3, c4, _, _, _, he, ⟨rfl, rfl, rfl, hM⟩, hb⟩
/-- Two numbers, as1 they lie in memory. -/
def Ints2 (w : World) (A : Option Addr) (c : Nat) (a b : Int) : Prop := Kd.C (Kd.int .i64) w A [a, b].length [a, b] ∧ 2 ≤ c
theorem Ints2.later {w w' : World} {A : Option Addr} {c : Nat} {a b : Int} (h : Ints2 w A c a b) (hb : Below w.heap.size w w') : Ints2 w' A c a b := ⟨Kd.C_below h.1 hb, h.2⟩
set_option maxHeartbeats 400000 in
theorem beside_q (w : World) : Calls Try.prog 84 #[] w fun e w' => ∃ A c, e = .returned (.slice A 2 c) ∧ Ints2 w' A c 0 1 ∧ Below w.heap.size w w' := by
  have HB := Aside0.mk (below_alloc (Below.refl w.heap.size w) (.cells #[.int .i64 0, .int .i64 1] 3))
  have HN := Aside0.mk (blk_new w (.cells #[.int .i64 0, .int .i64 1] 3))
  go_enter Try.func84, Try.ntmps84
  go_wp2_with fail
  go_ret
  exact ⟨_, _, rfl, ⟨ints2_C HN.out, Nat.le_refl 2⟩, HB.out⟩
set_option maxHeartbeats 400000 in
theorem apart_q (w : World) : Calls Try.prog 85 #[] w fun e w' => ∃ A c, e = .returned (.slice A 2 c) ∧ Ints2 w' A c 0 2 ∧ Below w.heap.size w w' := by
  have HB := Aside0.mk (below_alloc (Below.refl w.heap.size w) (.cells #[.int .i64 0, .int .i64 2] 3))
  have HN := Aside0.mk (blk_new w (.cells #[.int .i64 0, .int .i64 2] 3))
  go_enter Try.func85, Try.ntmps85
  go_wp2_with fail
  go_ret
  exact ⟨_, _, rfl, ⟨ints2_C HN.out, Nat.le_refl 2⟩, HB.out⟩
theorem R_C {w : World} {b : Nat} {v : Value} {xs : List Int} (h : Kd.R (Kd.int .i64) 3 w b (fun _ => True) v xs) : ∃ A c, v = .slice A xs.length c ∧ Kd.C (Kd.int .i64) w A xs.length xs ∧ xs.length ≤ c := by
  obtain ⟨A, c, rfl⟩ := Kd.R_slice h
  have h2 := Kd.R_reads' h
  exact ⟨A, c, rfl, h2.2.2, by have := h2.2.1; simpa using this⟩
section
variable {w : World} {A2 A3 A4 A A' : Option Addr} {c2 c3 c4 n2 n3 n4 c5 c6 : Nat}
theorem ex_play (T : Two w A2 A3 A4 c2 c3 c4 n2 n3 n4 0 4) (h1 : Ints2 w A c5 0 1) (h2 : Ints2 w A' c6 21 33) : Calls Try.prog 48 #[.agg #[.int .i64 3, .int .i64 60, .slice A2 n2 c2, .slice A3 n3 c3, .slice A4 n4 c4], .slice A 2 c5, .slice A' 2 c6] w
    fun e w' => ∃ A c, e = .returned (.tuple #[.slice A 2 c, .int .i64 0]) ∧ Ints2 w' A c 25 36 ∧ Below w.heap.size w w' := by
  obtain ⟨rfl, rfl, rfl, M⟩ := T
  refine (playX_calls 3 60 M h1.1 h1.2 h2.1 h2.2).mono ?_
  rw [play_ex]
  rintro e w' ⟨v, rfl, hR, hb⟩
  obtain ⟨A, c, rfl, h3, h4⟩ := R_C hR
  exact ⟨A, c, rfl, ⟨h3, h4⟩, hb⟩
theorem ex_right (T : Two w A2 A3 A4 c2 c3 c4 n2 n3 n4 0 4) (h1 : Ints2 w A c5 0 1) : Calls Try.prog 71 #[.agg #[.int .i64 3, .int .i64 60, .slice A2 n2 c2, .slice A3 n3 c3, .slice A4 n4 c4], .slice A 2 c5, .int .i64 0, .int .i64 25] w
    fun e w' => e = .returned (.tuple #[.int .i64 3, .int .i64 0]) ∧ Below w.heap.size w w' := by
  obtain ⟨rfl, rfl, rfl, M⟩ := T
  have := rightX_calls 3 60 0 25 M h1.1 h1.2 (by decide)
  rw [right_ex] at this
  exact this
theorem ex_good (T : Two w A2 A3 A4 c2 c3 c4 n2 n3 n4 0 4) (h1 : Ints2 w A c5 0 1) : Calls Try.prog 54 #[.agg #[.int .i64 3, .int .i64 60, .slice A2 n2 c2, .slice A3 n3 c3, .slice A4 n4 c4], .slice A 2 c5, .int .i64 1] w
    fun e w' => e = .returned (.tuple #[.agg #[.int .i64 36, .int .i64 37], .int .i64 0]) ∧ Below w.heap.size w w' := by
  obtain ⟨rfl, rfl, rfl, M⟩ := T
  have := goodX_calls 3 60 1 M h1.1 h1.2 (by decide)
  rw [good_ex] at this
  exact this
theorem ex_best (T : Two w A2 A3 A4 c2 c3 c4 n2 n3 n4 0 4) : Calls Try.prog 49 #[.agg #[.int .i64 3, .int .i64 60, .slice A2 n2 c2, .slice A3 n3 c3, .slice A4 n4 c4]] w
    fun e w' => ∃ A c, e = .returned (.tuple #[.slice A 2 c, .int .i64 33, .int .i64 0]) ∧ Ints2 w' A c 0 2 ∧ Below w.heap.size w w' := by
  obtain ⟨rfl, rfl, rfl, M⟩ := T
  refine (bestX_calls 3 60 M).mono ?_
  rw [best_ex]
  rintro e w' ⟨v, rfl, hR, hb⟩
  obtain ⟨A, c, rfl, h3, h4⟩ := R_C hR
  exact ⟨A, c, rfl, ⟨h3, h4⟩, hb⟩
theorem ex_stuck (T : Two w A2 A3 A4 c2 c3 c4 n2 n3 n4 0 2) (h1 : Ints2 w A c5 0 2) : Calls Try.prog 25 #[.agg #[.int .i64 3, .int .i64 60, .slice A2 n2 c2, .slice A3 n3 c3, .slice A4 n4 c4], .slice A 2 c5] w
    fun e w' => e = .returned (.tuple #[.int .i64 1, .int .i64 0]) ∧ Below w.heap.size w w' := by
  obtain ⟨rfl, rfl, rfl, M⟩ := T
  have := stuck_calls 3 60 M h1.1 h1.2 (by decide)
  rw [stuck_ex] at this
  exact this
theorem ex_ask (T : Two w A2 A3 A4 c2 c3 c4 n2 n3 n4 0 4) : Calls Try.prog 31 #[.agg #[.int .i64 3, .int .i64 60, .slice A2 n2 c2, .slice A3 n3 c3, .slice A4 n4 c4]] w
    fun e w' => e = .returned (.tuple #[.int .i64 1, .int .i64 34, .int .i64 6, .int .i64 0]) ∧ Below w.heap.size w w' := by
  obtain ⟨rfl, rfl, rfl, M⟩ := T
  have := askX_calls 3 60 M
  rw [ask_ex] at this
  exact this
theorem ex_first (T : Two w A2 A3 A4 c2 c3 c4 n2 n3 n4 3 4) : Calls Try.prog 34 #[.agg #[.int .i64 3, .int .i64 60, .slice A2 n2 c2, .slice A3 n3 c3, .slice A4 n4 c4]] w
    fun e w' => e = .returned (.tuple #[.int .i64 2, .int .i64 0]) ∧ Below w.heap.size w w' := by
  obtain ⟨rfl, rfl, rfl, M⟩ := T
  have := firstX_calls 3 60 M
  rw [first_ex] at this
  exact this
theorem ex_leave (T : Two w A2 A3 A4 c2 c3 c4 n2 n3 n4 3 4) : Calls Try.prog 35 #[.agg #[.int .i64 3, .int .i64 60, .slice A2 n2 c2, .slice A3 n3 c3, .slice A4 n4 c4]] w
    fun e w' => ∃ A c, e = .returned (.tuple #[.slice A 1 c, .int .i64 0]) ∧ (Kd.C (Kd.int .i64) w' A [(2 : Int)].length [2] ∧ 1 ≤ c) ∧ Below w.heap.size w w' := by
  obtain ⟨rfl, rfl, rfl, M⟩ := T
  refine (leaveX_calls 3 60 M).mono ?_
  rw [leave_ex]
  rintro e w' ⟨v, rfl, hR, hb⟩
  obtain ⟨A, c, rfl, h3, h4⟩ := R_C hR
  exact ⟨A, c, rfl, ⟨h3, h4⟩, hb⟩
end
end Go.Proofs.Ytokhmghgghjmhaa.Q

namespace Go.Proofs.Ytokhmghgghjmhaa.Q
open Go.RowKit Go.Proofs.YtokhmghgghjmhaaW.PrintWords Go.Proofs.YtokhmghgghjmhaaW.PrintLast Go.Proofs.YtokhmghgghjmhaaW.PrintMore
set_option linter.unusedVariables false
set_option maxRecDepth 100000 in
theorem eq61 (a b : Int) (w : World) : (Op.equalIn 10000 61 (.agg #[.int .i64 a, .int .i64 b]) (.agg #[.int .i64 a, .int .i64 b])).run Try.prog w = .ok true w := by
  have hu61 := Try.underlying61
  have hu3 := Try.underlying3
  refine eqA_of hu61 (by kernel_rfl) ?_
  refine eqf_cons (r := true) (s := true) (a := .int .i64 a) (b := .int .i64 a) (by kernel_rfl) (by kernel_rfl) (by kernel_rfl) ?_ (eqf_last (a := .int .i64 b) (b := .int .i64 b) (by kernel_rfl) (by kernel_rfl) (by kernel_rfl) ?_)
  · exact (run_equalIn_int w 9998 3 .i64 .i64 a a hu3).trans (by rw [beq_self_eq_true])
  · exact (run_equalIn_int w 9998 3 .i64 .i64 b b hu3).trans (by rw [beq_self_eq_true])
theorem ints1_C {w' : World} {g : Nat} {a : Int} (hw : w'.heap[g]? = some (.cells #[.int .i64 a] 3 (0, 0))) : Kd.C (Kd.int .i64) w' (some ⟨g, 0, none⟩) [a].length [a] := by
  refine C_blk [a] (fun x => [.int .i64 x]) (fun x _ => ⟨rfl, rfl⟩) hw (by simp) ?_
  intro j p hj i u hu
  have hj2 : j = 0 := by
    have := (List.getElem?_eq_some_iff.1 hj).1
    simp only [List.length_cons, List.length_nil] at this
    omega
  have hi4 : i = 0 := by
    have := (List.getElem?_eq_some_iff.1 hu).1
    simp only [List.length_cons, List.length_nil] at this
    omega
  subst hi4 hj2
  cases hj
  exact hu
theorem Ints2.of_blk {w' : World} {g : Nat} {a b : Int} (hw : w'.heap[g]? = some (.cells #[.int .i64 a, .int .i64 b] 3 (0, 0))) : Ints2 w' (some ⟨g, 0, none⟩) 2 a b := ⟨ints2_C hw, Nat.le_refl 2⟩
theorem ints1_of {w' : World} {g : Nat} {a : Int} (hw : w'.heap[g]? = some (.cells #[.int .i64 a] 3 (0, 0))) : Kd.C (Kd.int .i64) w' (some ⟨g, 0, none⟩) [a].length [a] ∧ 1 ≤ 1 := ⟨ints1_C hw, Nat.le_refl 1⟩
theorem ints1_later {w w' : World} {A : Option Addr} {c : Nat} {a : Int} (h : Kd.C (Kd.int .i64) w A [a].length [a] ∧ 1 ≤ c) (hb : Below w.heap.size w w') : Kd.C (Kd.int .i64) w' A [a].length [a] ∧ 1 ≤ c := ⟨Kd.C_below h.1 hb, h.2⟩
theorem same_yes (w : World) {A A' : Option Addr} {c c' : Nat} {a b : Int} (h : Ints2 w A c a b) (h' : Ints2 w A' c' a b) : Calls Try.prog 38 #[.slice A 2 c, .slice A' 2 c'] w fun e w' => e = .returned (.bool true) ∧ Below w.heap.size w w' := by
  have hf : posserlaw04_same.f 5 [a, b] [a, b] = some true := by
    simp [posserlaw04_same.f, posserlaw04_same.l0, rd, wrap64]
  exact (posserlaw04_same.calls 5 A c [a, b] A' c' [a, b] true w h.1 h.2 h'.1 h'.2 hf).mono fun e w' h => ⟨h.1, by obtain ⟨m, rfl⟩ := h.2.out; exact pw_below_drewN (Below.refl _ _) m⟩
theorem same_yes1 (w : World) {A A' : Option Addr} {c c' : Nat} {a : Int} (h : Kd.C (Kd.int .i64) w A [a].length [a] ∧ 1 ≤ c) (h' : Kd.C (Kd.int .i64) w A' [a].length [a] ∧ 1 ≤ c') : Calls Try.prog 38 #[.slice A 1 c, .slice A' 1 c'] w fun e w' => e = .returned (.bool true) ∧ Below w.heap.size w w' := by
  have hf : posserlaw04_same.f 5 [a] [a] = some true := by
    simp [posserlaw04_same.f, posserlaw04_same.l0, rd, wrap64]
  exact (posserlaw04_same.calls 5 A c [a] A' c' [a] true w h.1 h.2 h'.1 h'.2 hf).mono fun e w' h => ⟨h.1, by obtain ⟨m, rfl⟩ := h.2.out; exact pw_below_drewN (Below.refl _ _) m⟩
set_option maxHeartbeats 4000000 in
set_option maxRecDepth 100000 in
theorem awake_calls (w : World) : Calls Try.prog 24 #[] w fun e w' => e = .returned (.bool true) ∧ Below w.heap.size w w' := by
  have HB0 := Aside0.mk (Below.refl w.heap.size w)
  go_enter Try.func24, Try.ntmps24
  go_wp2_with fail
  refine (two_q 0 4 _ (by omega)).mono ?_
  rintro e u1 ⟨A2, A3, A4, c2, c3, c4, n2, n3, n4, rfl, hT, hb⟩
  have HT1 := Aside0.mk hT
  have HB1 := Aside0.mk (below_step HB0.out hb)
  clear hT hb
  go_wp2_with fail
  refine (beside_q _).mono ?_
  rintro e u2 ⟨A, c, rfl, hI, hb⟩
  have HI := Aside0.mk hI
  have HB2 := Aside0.mk (below_step HB1.out hb)
  have HT := Aside0.mk (HT1.out.later hb)
  clear hI hb
  go_wp2_with fail
  refine (ex_play (HT.out.later (below_alloc (Below.refl _ _) _)) (HI.out.later (below_alloc (Below.refl _ _) _)) ⟨ints2_C (blk_new _ _), Nat.le_refl 2⟩).mono ?_
  rintro e u3 ⟨A, c, rfl, hI, hb⟩
  have HP3 := Aside0.mk hI
  have HB3 := Aside0.mk (below_step (below_alloc HB2.out _) hb)
  clear hI hb HT HI
  go_wp2_with fail
  refine (two_q 0 4 _ (by omega)).mono ?_
  rintro e u4 ⟨A2, A3, A4, c2, c3, c4, n2, n3, n4, rfl, hT, hb⟩
  have HP4 := Aside0.mk (HP3.out.later hb)
  have HT4 := Aside0.mk hT
  have HB4 := Aside0.mk (below_step HB3.out hb)
  clear hT hb
  go_wp2_with fail
  refine (beside_q _).mono ?_
  rintro e u5 ⟨A, c, rfl, hI, hb⟩
  have HI := Aside0.mk hI
  have HB5 := Aside0.mk (below_step HB4.out hb)
  have HT := Aside0.mk (HT4.out.later hb)
  have HP5 := Aside0.mk (HP4.out.later hb)
  clear hI hb
  go_wp2_with fail
  refine (ex_right HT.out HI.out).mono ?_
  rintro e u6 ⟨rfl, hb⟩
  have HB6 := Aside0.mk (below_step HB5.out hb)
  have HP6 := Aside0.mk (HP5.out.later hb)
  clear hb HT HI
  go_wp2_with fail
  refine (two_q 0 4 _ (by omega)).mono ?_
  rintro e u7 ⟨A2, A3, A4, c2, c3, c4, n2, n3, n4, rfl, hT, hb⟩
  have HP7 := Aside0.mk (HP6.out.later hb)
  have HT7 := Aside0.mk hT
  have HB7 := Aside0.mk (below_step HB6.out hb)
  clear hT hb
  go_wp2_with fail
  refine (beside_q _).mono ?_
  rintro e u8 ⟨A, c, rfl, hI, hb⟩
  have HI := Aside0.mk hI
  have HB8 := Aside0.mk (below_step HB7.out hb)
  have HT := Aside0.mk (HT7.out.later hb)
  have HP8 := Aside0.mk (HP7.out.later hb)
  clear hI hb
  go_wp2_with fail
  refine (ex_good HT.out HI.out).mono ?_
  rintro e u9 ⟨rfl, hb⟩
  have HB9 := Aside0.mk (below_step HB8.out hb)
  have HP9 := Aside0.mk (HP8.out.later hb)
  clear hb HT HI
  obtain ⟨W9, hW9⟩ : ∃ W9, u9.alloc (.cells #[.int .i64 36, .int .i64 37] 61) = W9 := ⟨_, rfl⟩
  go_wp2_with fail
  try rw [hW9]
  have HBW9 := Aside0.mk (show Below u9.heap.size u9 W9 from by rw [← hW9]; exact below_alloc (Below.refl _ _) _)
  have HK9b := Aside0.mk (show W9.heap[u9.heap.size]? = some (.cells #[.int .i64 36, .int .i64 37] 61 (0, 0)) from by rw [← hW9]; exact blk_new _ _)
  have HB9b := Aside0.mk (below_step HB9.out HBW9.out)
  have HP9b := Aside0.mk (HP9.out.later HBW9.out)
  clear hW9
  refine (two_q 0 4 _ (by omega)).mono ?_
  rintro e u10 ⟨A2, A3, A4, c2, c3, c4, n2, n3, n4, rfl, hT, hb⟩
  have HT := Aside0.mk hT
  have HB10 := Aside0.mk (below_step HB9b.out hb)
  have HP10 := Aside0.mk (HP9b.out.later hb)
  have HK10 := Aside0.mk (blk_below HK9b.out hb)
  clear hT hb
  go_wp2_with fail
  refine (ex_best HT.out).mono ?_
  rintro e u11 ⟨A, c, rfl, hI, hb⟩
  have HQ11 := Aside0.mk hI
  have HB11 := Aside0.mk (below_step HB10.out hb)
  have HP11 := Aside0.mk (HP10.out.later hb)
  have HK11 := Aside0.mk (blk_below HK10.out hb)
  clear hI hb HT
  go_wp2_with fail
  refine (two_q 0 2 _ (by omega)).mono ?_
  rintro e u12 ⟨A2, A3, A4, c2, c3, c4, n2, n3, n4, rfl, hT, hb⟩
  have HT := Aside0.mk hT
  have HB12 := Aside0.mk (below_step HB11.out hb)
  have HP12 := Aside0.mk (HP11.out.later hb)
  have HK12 := Aside0.mk (blk_below HK11.out hb)
  have HQ12 := Aside0.mk (HQ11.out.later hb)
  clear hT hb
  go_wp2_with fail
  refine (apart_q _).mono ?_
  rintro e u13 ⟨A, c, rfl, hI, hb⟩
  have HI := Aside0.mk hI
  have HB13 := Aside0.mk (below_step HB12.out hb)
  replace HT := Aside0.mk (HT.out.later hb)
  have HP13 := Aside0.mk (HP12.out.later hb)
  have HK13 := Aside0.mk (blk_below HK12.out hb)
  have HQ13 := Aside0.mk (HQ12.out.later hb)
  clear hI hb
  go_wp2_with fail
  refine (ex_stuck HT.out HI.out).mono ?_
  rintro e u14 ⟨rfl, hb⟩
  have HB14 := Aside0.mk (below_step HB13.out hb)
  have HP14 := Aside0.mk (HP13.out.later hb)
  have HK14 := Aside0.mk (blk_below HK13.out hb)
  have HQ14 := Aside0.mk (HQ13.out.later hb)
  clear hb HT HI
  go_wp2_with fail
  refine (two_q 0 4 _ (by omega)).mono ?_
  rintro e u15 ⟨A2, A3, A4, c2, c3, c4, n2, n3, n4, rfl, hT, hb⟩
  have HT := Aside0.mk hT
  have HB15 := Aside0.mk (below_step HB14.out hb)
  have HP15 := Aside0.mk (HP14.out.later hb)
  have HK15 := Aside0.mk (blk_below HK14.out hb)
  have HQ15 := Aside0.mk (HQ14.out.later hb)
  clear hT hb
  go_wp2_with fail
  refine (ex_ask HT.out).mono ?_
  rintro e u16 ⟨rfl, hb⟩
  have HB16 := Aside0.mk (below_step HB15.out hb)
  have HP16 := Aside0.mk (HP15.out.later hb)
  have HK16 := Aside0.mk (blk_below HK15.out hb)
  have HQ16 := Aside0.mk (HQ15.out.later hb)
  clear hb HT
  go_wp2_with fail
  refine (two_q 3 4 _ (by omega)).mono ?_
  rintro e u17 ⟨A2, A3, A4, c2, c3, c4, n2, n3, n4, rfl, hT, hb⟩
  have HT := Aside0.mk hT
  have HB17 := Aside0.mk (below_step HB16.out hb)
  have HP17 := Aside0.mk (HP16.out.later hb)
  have HK17 := Aside0.mk (blk_below HK16.out hb)
  have HQ17 := Aside0.mk (HQ16.out.later hb)
  clear hT hb
  go_wp2_with fail
  refine (ex_first HT.out).mono ?_
  rintro e u18 ⟨rfl, hb⟩
  have HB18 := Aside0.mk (below_step HB17.out hb)
  have HP18 := Aside0.mk (HP17.out.later hb)
  have HK18 := Aside0.mk (blk_below HK17.out hb)
  have HQ18 := Aside0.mk (HQ17.out.later hb)
  clear hb HT
  go_wp2_with fail
  refine (two_q 3 4 _ (by omega)).mono ?_
  rintro e u19 ⟨A2, A3, A4, c2, c3, c4, n2, n3, n4, rfl, hT, hb⟩
  have HT := Aside0.mk hT
  have HB19 := Aside0.mk (below_step HB18.out hb)
  have HP19 := Aside0.mk (HP18.out.later hb)
  have HK19 := Aside0.mk (blk_below HK18.out hb)
  have HQ19 := Aside0.mk (HQ18.out.later hb)
  clear hT hb
  go_wp2_with fail
  refine (ex_leave HT.out).mono ?_
  rintro e u20 ⟨A, c, rfl, hI, hb⟩
  have HL20 := Aside0.mk hI
  have HB20 := Aside0.mk (below_step HB19.out hb)
  have HP20 := Aside0.mk (HP19.out.later hb)
  have HK20 := Aside0.mk (blk_below HK19.out hb)
  have HQ20 := Aside0.mk (HQ19.out.later hb)
  clear hI hb HT
  go_wp2_with fail
  have k0 : u20.cell? ⟨u9.heap.size, 0, none⟩ = some (.int .i64 36) := (blk_cell HK20.out 0).trans rfl
  have k1 : u20.cell? ⟨u9.heap.size, 1, none⟩ = some (.int .i64 37) := (blk_cell HK20.out 1).trans rfl
  have K0 := Aside0.mk k0
  have K1 := Aside0.mk k1
  have hEQ := eq61 36 37
  simp only [List.append_eq, List.cons_append, List.nil_append]
  go_region_held3 (fun W' => Below u20.heap.size u20 W' ∧ W'.cell? ⟨u9.heap.size, 0, none⟩ = some (.int .i64 36) ∧ W'.cell? ⟨u9.heap.size, 1, none⟩ = some (.int .i64 37))
    (first
      | exact ⟨below_drew (Below.refl _ _), k0, k1⟩
      | (with_reducible refine ⟨below_drew (below_alloc (Below.refl _ _) _), ?_, ?_⟩
         · exact later (below_drew (below_alloc (Below.refl _ _) _)) K0.out
         · exact later (below_drew (below_alloc (Below.refl _ _) _)) K1.out)
      | (go_split_ands; with_reducible exact ⟨below_step (by assumption) hbx.out, later hbx.out (by assumption), later hbx.out (by assumption)⟩)
      | (go_split_ands
         with_reducible refine ⟨below_alloc (by assumption) _, ?_, ?_⟩
         · exact later (below_alloc (Below.refl _ _) _) (by assumption)
         · exact later (below_alloc (Below.refl _ _) _) (by assumption)))
    ((first
      | (go_at_call 38; go_split_ands; with_reducible refine (same_yes _ (HP20.out.later (by assumption)) (Ints2.of_blk (blk_drew (blk_new _ _)))).mono ?_; rintro e wx ⟨rfl, hbx⟩; replace hbx := Aside0.mk hbx)
      | (go_at_call 38; go_split_ands; with_reducible refine (same_yes _ (HQ20.out.later (by assumption)) HIX.out).mono ?_; rintro e wx ⟨rfl, hbx⟩; replace hbx := Aside0.mk hbx)
      | (go_at_call 38; go_split_ands; with_reducible refine (same_yes1 _ (ints1_later HL20.out (by assumption)) (ints1_of (blk_new _ _))).mono ?_; rintro e wx ⟨rfl, hbx⟩; replace hbx := Aside0.mk hbx)
      | (go_at_call 85; go_split_ands; with_reducible refine (apart_q _).mono ?_; rintro e wx ⟨A, c, rfl, hI, hbx⟩; have HIX := Aside0.mk hI; clear hI; replace hbx := Aside0.mk hbx)
      | (go_at_call 86; go_split_ands; with_reducible refine (posserlaw04_between.calls _ _ _ _ _ rfl).mono ?_; rintro e wx ⟨rfl, hbx⟩; replace hbx := Aside0.mk hbx)))
  all_goals
    go_wp2_with fail
    go_ret
    go_split_ands
    exact ⟨rfl, below_step HB20.out (by assumption)⟩
end Go.Proofs.Ytokhmghgghjmhaa.Q

namespace Go.Proofs.Ytokhmghgghjmhaa.Q
open Go.RowKit Go.Proofs.YtokhmghgghjmhaaW.PrintWords Go.Proofs.YtokhmghgghjmhaaW.PrintLast Go.Proofs.YtokhmghgghjmhaaW.PrintMore
set_option linter.unusedVariables false

/-! The reference's closets as1 the program's. -/
def toH (h : S68) : S139 := ⟨⟨h.f0.f0, h.f0.f1⟩, h.f1, h.f2⟩
def toL (l : S84) : S140 := ⟨l.f0, l.f1, l.f2⟩
theorem rd_toH (hs : List S68) (i : Int) : rd_T139 (hs.map toH) i = toH (rd_T68 hs i) := by
  unfold rd_T139 rd_T68
  rw [List.getD_eq_getElem?_getD, List.getD_eq_getElem?_getD, List.getElem?_map]
  cases hs[i.toNat]? <;> rfl
theorem rd_toL (ls : List S84) (i : Int) : rd_T140 (ls.map toL) i = toL (rd_T84 ls i) := by
  unfold rd_T140 rd_T84
  rw [List.getD_eq_getElem?_getD, List.getD_eq_getElem?_getD, List.getElem?_map]
  cases ls[i.toNat]? <;> rfl
theorem in_f (a b c : Int) : posserref04_In.f a b c = some (decide (b ≤ a ∧ a ≤ c)) := by
  unfold posserref04_In.f
  by_cases h : a ≥ b
  · rw [if_pos h]; simp [show b ≤ a from h]
  · rw [if_neg h]; simp [show ¬ b ≤ a from h]
/-- Is a list a placement, from one place on? -/
def plFrom (top : Int) (p : List Int) (i : Nat) : Prop := ∀ m : Nat, i ≤ m → m < p.length → 0 ≤ rd p m ∧ rd p m ≤ top ∧ (p.take m).contains (rd p m) = false
theorem contains_take (p : List Int) (m : Nat) (x : Int) (hm : m ≤ p.length) : (p.take m).contains x = false ↔ ∀ j : Nat, j < m → rd p j ≠ x := by
  rw [← Bool.not_eq_true, List.contains_iff_mem, List.mem_iff_getElem?]
  constructor
  · intro h j hj e
    refine h ⟨j, ?_⟩
    rw [List.getElem?_take, if_pos hj, List.getElem?_eq_getElem (by omega), ← e, rd_nn, List.getD_eq_getElem?_getD, List.getElem?_eq_getElem (by omega)]
    rfl
  · rintro h ⟨j, hj⟩
    rw [List.getElem?_take] at hj
    split at hj
    · rename_i hlt
      refine h j hlt ?_
      rw [rd_nn, List.getD_eq_getElem?_getD, hj]
      rfl
    · cases hj
section
variable (cs cl : Int) (hs : List S68) (hung : List Int) (looks : List S84) (p : List Int)
open Classical in
theorem isPlace_l1 (hl : p.length ≤ 1000) (i : Nat) (hi : i < p.length) : ∀ (d j k : Nat), j + d = i → d < k →
    posserref04_IsPlace.l1 k p i j cs cl hs hung looks = if (∀ m : Nat, j ≤ m → m < i → rd p m ≠ rd p i) then posserref04_IsPlace.l0 (k - d - 1) p ((i + 1 : Nat) : Int) cs cl hs hung looks else some false
  | 0, j, k, h, hk => by
    obtain ⟨k, rfl⟩ : ∃ m, k = m + 1 := ⟨k - 1, by omega⟩
    simp only [posserref04_IsPlace.l1]
    rw [if_neg (by omega), if_pos (fun m h1 h2 => by omega), show wrap64 ((i : Int) + 1) = ((i + 1 : Nat) : Int) from by unfold wrap64; omega]
    rfl
  | d + 1, j, k, h, hk => by
    obtain ⟨k, rfl⟩ : ∃ m, k = m + 1 := ⟨k - 1, by omega⟩
    have ih := isPlace_l1 hl i hi d (j + 1) k (by omega) (by omega)
    simp only [posserref04_IsPlace.l1]
    rw [if_pos (by omega), if_pos (by omega), if_pos (by omega), if_pos (by omega), if_pos (by omega)]
    by_cases e : rd p (j : Int) = rd p (i : Int)
    · rw [if_pos e, if_neg (fun h => h j (Nat.le_refl _) (by omega) e)]
    · rw [if_neg e, show wrap64 ((j : Int) + 1) = ((j + 1 : Nat) : Int) from by unfold wrap64; omega, ih]
      have hiff : (∀ m : Nat, j + 1 ≤ m → m < i → rd p m ≠ rd p i) ↔ (∀ m : Nat, j ≤ m → m < i → rd p m ≠ rd p i) := by
        constructor
        · intro h m h1 h2
          by_cases hm : m = j
          · subst hm; exact e
          · exact h m (by omega) h2
        · exact fun h m h1 h2 => h m (by omega) h2
      rw [show k + 1 - (d + 1) - 1 = k - d - 1 from by omega]
      by_cases hq : ∀ m : Nat, j ≤ m → m < i → rd p m ≠ rd p i
      · rw [if_pos hq, if_pos (hiff.2 hq)]
      · rw [if_neg hq, if_neg (fun h => hq (hiff.1 h))]
open Classical in
theorem isPlace_l0 (hl : p.length ≤ 1000) : ∀ (d i k : Nat), i + d = p.length → (d + 1) * (p.length + 2) ≤ k →
    posserref04_IsPlace.l0 k p i cs cl hs hung looks = some (decide (plFrom (wrap64 (cs - 1)) p i))
  | 0, i, k, h, hk => by
    obtain ⟨k, rfl⟩ : ∃ m, k = m + 1 := ⟨k - 1, by omega⟩
    simp only [posserref04_IsPlace.l0]
    rw [if_neg (by omega)]
    exact congrArg some (decide_eq_true (fun m h1 h2 => by omega)).symm
  | d + 1, i, k, h, hk => by
    have hk2 : (d + 1 + 1) * (p.length + 2) = (d + 1) * (p.length + 2) + (p.length + 2) := by rw [Nat.add_mul (d + 1) 1, Nat.one_mul]
    obtain ⟨k, rfl⟩ : ∃ m, k = m + 1 := ⟨k - 1, by omega⟩
    simp only [posserref04_IsPlace.l0]
    rw [if_pos (by omega), if_pos (by omega), in_f]
    simp only [Option.bind_some]
    by_cases hr : 0 ≤ rd p (i : Int) ∧ rd p (i : Int) ≤ wrap64 (cs - 1)
    · have h1 := isPlace_l1 cs cl hs hung looks p hl i (by omega) i 0 k (by omega) (by omega)
      rw [if_pos (decide_eq_true hr), show (0 : Int) = ((0 : Nat) : Int) from rfl, h1, isPlace_l0 hl d (i + 1) (k - i - 1) (by omega) (by omega)]
      have hc := contains_take p i (rd p i) (by omega)
      by_cases hd : ∀ m : Nat, 0 ≤ m → m < i → rd p m ≠ rd p i
      · rw [if_pos hd]
        refine congrArg some (decide_eq_decide.2 ⟨fun hp m h1 h2 => ?_, fun hp m h1 h2 => hp m (by omega) h2⟩)
        by_cases hm : m = i
        · subst hm; exact ⟨hr.1, hr.2, hc.2 (fun j hj => hd j (by omega) hj)⟩
        · exact hp m (by omega) h2
      · rw [if_neg hd]
        refine congrArg some (decide_eq_false (fun hp => ?_)).symm
        exact hd (fun m _ hm => (hc.1 (hp i (Nat.le_refl _) (by omega)).2.2) m hm)
    · rw [if_neg (by simp only [decide_eq_true_eq]; exact hr)]
      refine congrArg some (decide_eq_false (fun hp => ?_)).symm
      have := hp i (Nat.le_refl _) (by omega)
      exact hr ⟨this.1, this.2.1⟩
theorem isPlace_f (hl : hs.length ≤ 100) (k : Nat) (hk : 20000 ≤ k) : posserref04_IsPlace.f k cs cl hs hung looks p = some (placeB (wrap64 (cs - 1)) hs.length p) := by
  unfold posserref04_IsPlace.f
  by_cases h : p.length = hs.length
  · have hm : (p.length + 1) * (p.length + 2) ≤ 101 * 102 := Nat.mul_le_mul (by omega) (by omega)
    rw [if_pos (by omega), show (0 : Int) = ((0 : Nat) : Int) from rfl, isPlace_l0 cs cl hs hung looks p (by omega) p.length 0 k (by omega) (by omega)]
    refine congrArg some (decide_eq_decide.2 ⟨fun hp => ⟨h, fun m hm => hp m (Nat.zero_le _) hm⟩, fun hp m _ hm => hp.2 m hm⟩)
  · rw [if_neg (by omega)]
    exact congrArg some (decide_eq_false (fun hp => h hp.1)).symm
end

/-! How many dry numbers there are. -/
def manyN (hs : List S68) : Nat → Int
  | 0 => 1
  | n + 1 => mn 3000 (wrap64 (manyN hs n * wrap64 (wrap64 ((rd_T68 hs n).f0.f1 - (rd_T68 hs n).f0.f0) + 1)))
section
variable (cs cl : Int) (hs : List S68) (hung : List Int) (looks : List S84)
theorem many_l0 (hl : hs.length ≤ 1000) : ∀ (d i k : Nat), i + d = hs.length → d < k → posserref04_Many.l0 k (manyN hs i) i cs cl hs hung looks = some (manyN hs hs.length)
  | 0, i, k, h, hk => by
    obtain ⟨k, rfl⟩ : ∃ m, k = m + 1 := ⟨k - 1, by omega⟩
    simp only [posserref04_Many.l0]
    rw [if_neg (by omega)]
    obtain rfl : i = hs.length := by omega
    rfl
  | d + 1, i, k, h, hk => by
    obtain ⟨k, rfl⟩ : ∃ m, k = m + 1 := ⟨k - 1, by omega⟩
    have ih := many_l0 hl d (i + 1) k (by omega) (by omega)
    simp only [posserref04_Many.l0, posserref04_Size.f, Option.bind_some]
    rw [if_pos (by omega), if_pos (by omega), show wrap64 ((i : Int) + 1) = ((i + 1 : Nat) : Int) from by unfold wrap64; omega]
    exact ih
theorem many_f (hl : hs.length ≤ 1000) (k : Nat) (hk : 2000 ≤ k) : posserref04_Many.f k cs cl hs hung looks = some (manyN hs hs.length) := by
  unfold posserref04_Many.f
  exact many_l0 cs cl hs hung looks hl hs.length 0 k (by omega) (by omega)
theorem wrap_small {T : Nat} (h : T ≤ 12960000) : wrap64 (T : Int) = T := by unfold wrap64; omega
theorem mn_big {a b : Nat} (h1 : 3000 ≤ a) (h2 : 3000 ≤ b) : mn 3000 (a : Int) = mn 3000 (b : Int) := by unfold mn; omega
/-- All horses valid: the reference's number, and the program's. -/
theorem many_prod (h4 : hs.length ≤ 4) (hv : allH (hs.map toH) = true) : ∀ n : Nat, n ≤ hs.length → manyN hs n = mn 3000 (plN (hs.map toH) n) ∧ prodH (hs.map toH) n = plN (hs.map toH) n ∧ 1 ≤ plN (hs.map toH) n ∧ plN (hs.map toH) n ≤ 60 ^ n
  | 0, _ => by simp [manyN, plN, prodH, mn]
  | n + 1, h => by
    obtain ⟨h1, h2, h3, h4'⟩ := many_prod h4 hv n (by omega)
    have hn : n ≤ 3 := by omega
    have hp : 60 ^ n ≤ 60 ^ 3 := Nat.pow_le_pow_right (by omega) hn
    have hd := of_decide_eq_true hv n (by simp; omega)
    have hd2 := of_decide_eq_true hd
    have e1 := rd_toH hs n
    have hs1 : (szN (hs.map toH) n : Int) = (rd_T68 hs n).f0.f1 + 1 - (rd_T68 hs n).f0.f0 := by
      unfold szN
      rw [e1] at hd2 ⊢
      simp only [toH] at hd2 ⊢
      omega
    have hs2 : 1 ≤ szN (hs.map toH) n ∧ szN (hs.map toH) n ≤ 60 := by
      rw [e1] at hd2
      simp only [toH] at hd2
      omega
    have hw : wrap64 (wrap64 ((rd_T68 hs n).f0.f1 - (rd_T68 hs n).f0.f0) + 1) = (szN (hs.map toH) n : Int) := by
      rw [e1] at hd2
      simp only [toH] at hd2
      unfold wrap64
      omega
    have hw2 : wrap64 (wrap64 ((rd_T139 (hs.map toH) n).f0.f1 - (rd_T139 (hs.map toH) n).f0.f0) + 1) = (szN (hs.map toH) n : Int) := by rw [e1]; exact hw
    simp only [manyN, plN, prodH]
    rw [hw, hw2, h1, h2]
    generalize plN (hs.map toH) n = P at h3 h4' ⊢
    generalize szN (hs.map toH) n = s at hs2 ⊢
    have hPs : P * s ≤ 60 ^ n * 60 := Nat.mul_le_mul h4' hs2.2
    have hP1 : P ≤ P * s := Nat.le_mul_of_pos_right P hs2.1
    have hbig : 60 ^ n * 60 ≤ 60 ^ 3 * 60 := Nat.mul_le_mul_right 60 hp
    have hc : ((P : Int) * (s : Int)) = ((P * s : Nat) : Int) := by rw [Int.natCast_mul]
    have hT : P * s ≤ 12960000 := Nat.le_trans hPs (Nat.le_trans hbig (by decide))
    have hs3 : 3000 ≤ 3000 * s := Nat.le_mul_of_pos_right 3000 hs2.1
    have hs4 : 3000 * s ≤ 180000 := Nat.le_trans (Nat.mul_le_mul_left 3000 hs2.2) (by decide)
    refine ⟨?_, ?_, by omega, by rw [Nat.pow_succ]; exact hPs⟩
    · by_cases hP : P ≤ 3000
      · have e : mn 3000 (P : Int) = P := by unfold mn; omega
        rw [e, hc, wrap_small hT]
      · have e : mn 3000 (P : Int) = 3000 := by unfold mn; omega
        have e2 : (3000 : Int) * (s : Int) = ((3000 * s : Nat) : Int) := by rw [Int.natCast_mul]; rfl
        rw [e, e2, wrap_small (by omega)]
        exact mn_big hs3 (by omega)
    · rw [hc, wrap_small hT]
end
end Go.Proofs.Ytokhmghgghjmhaa.Q

