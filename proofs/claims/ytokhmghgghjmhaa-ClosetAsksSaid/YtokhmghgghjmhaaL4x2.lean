/- Part L4x2 of the proof (QF, P7, YD, YT, AW, YH): contracts of functions, and plain lemmas about what they compute. -/
import Derived.Test.YtokhmghgghjmhaaA0
import Derived.Test.YtokhmghgghjmhaaA1
import Derived.Test.YtokhmghgghjmhaaA2
import Derived.Test.YtokhmghgghjmhaaA3
import Derived.Test.YtokhmghgghjmhaaA4
import Derived.Test.YtokhmghgghjmhaaB0
import Derived.Test.YtokhmghgghjmhaaB1
import Derived.Test.YtokhmghgghjmhaaB2
import Derived.Test.YtokhmghgghjmhaaB3
import Derived.Test.YtokhmghgghjmhaaB4
import Derived.Test.YtokhmghgghjmhaaB5
import Derived.Test.YtokhmghgghjmhaaB6
import Derived.Test.YtokhmghgghjmhaaL4x0
import Derived.Test.YtokhmghgghjmhaaL4x1
namespace Go.Proofs.Ytokhmghgghjmhaa.Q
open Go.RowKit Go.Proofs.YtokhmghgghjmhaaW.PrintWords Go.Proofs.YtokhmghgghjmhaaW.PrintLast Go.Proofs.YtokhmghgghjmhaaW.PrintMore
attribute [local go_sem] max2_int min2_int max_two min_two max_three min_three max_four min_four   -- for this text's walks alone
set_option linter.unusedVariables false
set_option linter.unusedSimpArgs false
def posserref04_Leaves.l0 : Nat → List (List Int) → Int → Int → Int → Int → Int → Int → List (S68) → List Int → List (S84) → Option (Int)
  | 0, _, _, _, _, _, _, _, _, _, _ => none
  | k + 1, x1, x2, x3, x9, x10, x251000, x251001, x251002, x251003, x251004 => if x10 < (x1.length : Int) then (if 0 ≤ x10 then ((posserref04_Minute.f k x251000 x251001 x251002 x251003 x251004 x251003 (rd_L9 x1 x10) x2).bind fun t252 => (if t252 ≤ x3 then (posserref04_Leaves.l0 k x1 x2 x3 (wrap64 (x9 + 1)) (wrap64 (x10 + 1)) x251000 x251001 x251002 x251003 x251004) else (posserref04_Leaves.l0 k x1 x2 x3 x9 (wrap64 (x10 + 1)) x251000 x251001 x251002 x251003 x251004))) else (none)) else (some (mx x9 (wrap64 ((x1.length : Int) - x9))))
def posserref04_Leaves.f (k : Nat) (a0_0 : Int) (a0_1 : Int) (l0_2 : List (S68)) (l0_3 : List Int) (l0_4 : List (S84)) (l1 : List (List Int)) (a2 : Int) (a3 : Int) : Option (Int) := posserref04_Leaves.l0 k l1 a2 a3 0 0 a0_0 a0_1 l0_2 l0_3 l0_4
def posserref04_Leaves.T5 : Bool × List (List Nat × List Nat) := (true, [([], []), ([], []), ([1], [1]), ([], []), ([], []), ([3, 4], [3, 4]), ([5], [5]), ([], []), ([0, 2, 6, 7], [0, 2, 6, 7]), ([], []), ([8, 9], [8, 9])])
def posserref04_Leaves.B5 : List Nat := [0, 0, 2, 0, 0, 24, 56, 0, 255, 0, 1023]
theorem posserref04_Leaves.tab5 : rtab .any (opsOf Try.f56 5) = posserref04_Leaves.T5 := by kernel_rfl
theorem posserref04_Leaves.bits5 : waitsOk posserref04_Leaves.T5.2 posserref04_Leaves.B5 = true := by kernel_rfl
set_option maxHeartbeats 8000000 in
set_option maxRecDepth 100000 in
theorem posserref04_Leaves.calls (k : Nat) (a0_0 : Int) (a0_1 : Int) (A0_2 : Option Addr) (c0_2 : Nat) (l0_2 : List (S68)) (A0_3 : Option Addr) (c0_3 : Nat) (l0_3 : List Int) (A0_4 : Option Addr) (c0_4 : Nat) (l0_4 : List (S84)) (A1 : Option Addr) (c1 : Nat) (l1 : List (List Int)) (a2 : Int) (a3 : Int) (r : Int) (w : World) (hr0_2 : Kd.C k68 w A0_2 l0_2.length l0_2) (hc0_2 : l0_2.length ≤ c0_2) (hr0_3 : Kd.C (Kd.int .i64) w A0_3 l0_3.length l0_3) (hc0_3 : l0_3.length ≤ c0_3) (hr0_4 : Kd.C k84 w A0_4 l0_4.length l0_4) (hc0_4 : l0_4.length ≤ c0_4) (hr1 : Kd.C (Kd.slice 3 (Kd.int .i64)) w A1 l1.length l1) (hc1 : l1.length ≤ c1) (h : posserref04_Leaves.f k a0_0 a0_1 l0_2 l0_3 l0_4 l1 a2 a3 = some r) :
    Calls Try.prog 56 #[.agg #[.int .i64 a0_0, .int .i64 a0_1, .slice A0_2 l0_2.length c0_2, .slice A0_3 l0_3.length c0_3, .slice A0_4 l0_4.length c0_4], .slice A1 l1.length c1, .int .i64 a2, .int .i64 a3] w fun e w' => e = .returned (.int .i64 r) ∧ Below w.heap.size w w' := by
  have hu26 := Try.underlying26
  have HR0_2 := Aside0.mk hr0_2
  have HC0_2 := Aside0.mk hc0_2
  clear hr0_2 hc0_2
  have HR0_3 := Aside0.mk hr0_3
  have HC0_3 := Aside0.mk hc0_3
  clear hr0_3 hc0_3
  have HR0_4 := Aside0.mk hr0_4
  have HC0_4 := Aside0.mk hc0_4
  clear hr0_4 hc0_4
  have HR1 := Aside0.mk hr1
  have HC1 := Aside0.mk hc1
  clear hr1 hc1
  have HB := Aside0.mk (Below.refl w.heap.size w)
  have H : (posserref04_Leaves.l0 k l1 a2 a3 0 0 a0_0 a0_1 l0_2 l0_3 l0_4) = some r := h
  clear h
  have H' := Aside0.mk H
  clear H
  go_enter Try.func56, Try.ntmps56
  go_wp2_with (first | ((with_reducible refine gate_dst (N := 4) rfl ?_); refine box_event ?hg (N := 4) ?hd (cs := #[.int .i64 a0_0, .int .i64 a0_1, .slice A0_2 l0_2.length c0_2, .slice A0_3 l0_3.length c0_3, .slice A0_4 l0_4.length c0_4]) (t := 26) ?hr ?_; (case hd => rfl); (case hg => rfl); (case hr => first | (go_simp; done) | (go_simp; rfl)); intro gb250 hg w5 hbox hb; have n0_ := Aside0.mk (below_step (by repeat (first | (with_reducible first | exact HB.out | apply below_alloc | apply pw_below_drewN | apply below_drew1) | exact HB.out)) hb); have n1_ := Aside0.mk (hbox); have n2_ := Aside0.mk ((by rw [hg]; exact (below_size (by repeat (first | (with_reducible first | exact HB.out | apply below_alloc | apply pw_below_drewN | apply below_drew1) | exact HB.out))) : w.heap.size ≤ gb250)); have n3_ := Aside0.mk ((by rw [hg]; exact (below_size (by repeat (first | (with_reducible first | exact HB.out | apply below_alloc | apply pw_below_drewN | apply below_drew1) | exact HB.out))) : w.heap.size ≤ gb250)); clear HB; have HB := n0_; have BK250 := n1_; have GW250 := n2_; have GE250 := n3_; clear n0_ n1_ n2_ n3_; clear hb hbox hg))
  go_loopg [9, 10] k (fun kq v9 v10 w' => ∃ (x9_1 : Int) (x10_1 : Int), v9 = .int .i64 x9_1 ∧ v10 = .int .i64 x10_1 ∧ Aside0 (posserref04_Leaves.l0 kq l1 a2 a3 x9_1 x10_1 a0_0 a0_1 l0_2 l0_3 l0_4 = some r) ∧ Aside0 (kq ≤ k) ∧ Aside0 (w'.heap[gb250]? = some (.cells #[.int .i64 a0_0, .int .i64 a0_1, (.slice A0_2 l0_2.length c0_2), (.slice A0_3 l0_3.length c0_3), (.slice A0_4 l0_4.length c0_4)] 26 (0, 0))) ∧ Aside0 (Below w.heap.size w w'))
  case atStart => exact ⟨(0), (0), (by first | rfl | (simp; done) | (simp [*]; done)), (by first | rfl | (simp; done) | (simp [*]; done)), H', ⟨Nat.le_refl _⟩, ⟨by (with_reducible repeat (first | refine blk_drewN ?_ _ | refine blk_drew ?_ | refine blk_alloc ?_ _)); exact BK250.out⟩, ⟨by repeat (first | (with_reducible first | exact HB.out | apply below_alloc | apply pw_below_drewN | apply below_drew1 | refine below_set ?_ GE250.out) | exact HB.out)⟩⟩
  case round =>
    clear H'
    try clear c1
    try clear p2
    try clear c5
    obtain ⟨x9_1, x10_1, rfl, rfl, HA, HK1, BK250, HB⟩ := hrel
    cases gk with
    | zero => exact absurd HA.out (by simp [posserref04_Leaves.l0])
    | succ k1 =>
      have H := HA.out
      clear HA
      simp only [posserref04_Leaves.l0] at H
      by_cases c6 : x10_1 < (l1.length : Int)
      · rw [if_pos c6] at H
        have c6b0 : decide (x10_1 < (l1.length : Int)) = true := decide_eq_true c6
        clear c6
        by_cases c7 : 0 ≤ x10_1
        · rw [if_pos c7] at H
          have c7b0 : decide (0 ≤ x10_1) = true := decide_eq_true c7
          clear c7
          replace H := Option.bind_eq_some_iff.mp H
          obtain ⟨t252, A80, H⟩ := H
          replace H : (if t252 ≤ a3 then (posserref04_Leaves.l0 k1 l1 a2 a3 (wrap64 (x9_1 + 1)) (wrap64 (x10_1 + 1)) a0_0 a0_1 l0_2 l0_3 l0_4) else (posserref04_Leaves.l0 k1 l1 a2 a3 x9_1 (wrap64 (x10_1 + 1)) a0_0 a0_1 l0_2 l0_3 l0_4)) = some r := H
          have A8 := Aside0.mk A80
          clear A80
          by_cases c9 : t252 ≤ a3
          · rw [if_pos c9] at H
            have c9b0 : decide (t252 ≤ a3) = true := decide_eq_true c9
            clear c9
            have H' := Aside0.mk H
            clear H
            try go_wp2
            have n0_ := Aside0.mk (blk_drew BK250.out)
            have n1_ := Aside0.mk (below_drew1 HB.out)
            clear BK250
            clear HB
            have BK250 := n0_
            have HB := n1_
            clear n0_ n1_
            have p251 : 0 ≤ (x10_1 : Int) := of_decide_eq_true (by first | (with_reducible assumption) | assumption)
            have q251 : x10_1 < (l1.length : Int) := of_decide_eq_true (by first | (with_reducible assumption) | assumption)
            obtain ⟨ad251, A251_0, c251_0, e251, hx251_0, hl251_0, hi251_0⟩ := at_L9 HR1.out x10_1 p251 q251
            have hw251_0 := hx251_0
            cases e251
            replace hx251_0 := (HB.out.cell (World.block_lt_of_cell? w _ hx251_0)).trans hx251_0
            have HR251_0 := Aside0.mk hi251_0
            have HC251_0 := Aside0.mk hl251_0
            clear hi251_0 hl251_0
            replace p251 := eq_true p251
            replace q251 := eq_true q251
            refine start_ (n := 11) (S := fun w' => w'.cell? ⟨gb250, 0, none⟩ = some (.int .i64 a0_0) ∧ w'.cell? ⟨gb250, 1, none⟩ = some (.int .i64 a0_1) ∧ w'.cell? ⟨gb250, 2, none⟩ = some (.slice A0_2 l0_2.length c0_2) ∧ w'.cell? ⟨gb250, 3, none⟩ = some (.slice A0_3 l0_3.length c0_3) ∧ w'.cell? ⟨gb250, 4, none⟩ = some (.slice A0_4 l0_4.length c0_4) ∧ w'.cell? (ad251.add (x10_1).toNat) = some (.slice A251_0 (rd_L9 l1 x10_1).length c251_0)) (ds := []) #[false, false, false, false, false, false, false, false, false, false, false] (by kernel_rfl) rfl rfl ⟨(blk_cell BK250.out 0).trans rfl, (blk_cell BK250.out 1).trans rfl, (blk_cell BK250.out 2).trans rfl, (blk_cell BK250.out 3).trans rfl, (blk_cell BK250.out 4).trans rfl, ((HB.out.cell (World.block_lt_of_cell? w _ hw251_0)).trans hw251_0)⟩ (fun hHeld => ?_); refine with_tabW posserref04_Leaves.tab5 posserref04_Leaves.bits5 (fun HT_ HW_ => ?_)
            generalize wr.drew = w10 at BK250 HB HR251_0 hx251_0 hHeld ⊢
            refine pure_ (i := 1) (N := some 18) (v := ?_) (a' := ?_) #[false, true, false, false, false, false, false, false, false, false, false] rfl rfl (any_of HT_.out (by kernel_rfl)) (fun _ _ _ h => h) (Or.inl ⟨by rfl, ?_⟩) ?_ ?_
            rotate_left
            · intro w'
              go_simp
              with_reducible rfl
            rotate_left
            · simp only [Act.put, List.setIfInBounds_toArray, List.set_cons_zero, List.set_cons_succ, i64_w, i32_w]
              rfl
            refine pure_ (i := 3) (N := some 20) (v := ?_) (a' := ?_) #[false, true, false, true, false, false, false, false, false, false, false] rfl rfl (any_of HT_.out (by kernel_rfl)) (fun _ _ _ h => h) (Or.inl ⟨by rfl, ?_⟩) ?_ ?_
            rotate_left
            · intro w'
              go_simp
              with_reducible rfl
            rotate_left
            · simp only [Act.put, List.setIfInBounds_toArray, List.set_cons_zero, List.set_cons_succ, i64_w, i32_w]
              rfl
            refine pure_ (i := 4) (N := some 21) (v := ?_) (a' := ?_) #[false, true, false, true, true, false, false, false, false, false, false] rfl rfl (any_of HT_.out (by kernel_rfl)) (fun _ _ _ h => h) (Or.inl ⟨by rfl, ?_⟩) ?_ ?_
            rotate_left
            · intro w'
              go_simp
              with_reducible rfl
            rotate_left
            · simp only [Act.put, List.setIfInBounds_toArray, List.set_cons_zero, List.set_cons_succ, i64_w, i32_w]
              rfl
            refine pure_ (i := 5) (N := some 22) (v := ?_) (a' := ?_) #[false, true, false, true, true, true, false, false, false, false, false] rfl rfl (any_of HT_.out (by kernel_rfl)) (fun _ _ _ h => h) (Or.inl ⟨by rfl, ?_⟩) ?_ ?_
            rotate_left
            · intro w'
              go_simp
              with_reducible rfl
            rotate_left
            · simp only [Act.put, List.setIfInBounds_toArray, List.set_cons_zero, List.set_cons_succ, i64_w, i32_w]
              rfl
            refine pure_ (i := 7) (N := some 24) (v := ?_) (a' := ?_) #[false, true, false, true, true, true, false, true, false, false, false] rfl rfl (any_of HT_.out (by kernel_rfl)) (fun _ _ _ h => h) (Or.inl ⟨by rfl, ?_⟩) ?_ ?_
            rotate_left
            · intro w'
              go_simp
              with_reducible rfl
            rotate_left
            · simp only [Act.put, List.setIfInBounds_toArray, List.set_cons_zero, List.set_cons_succ, i64_w, i32_w]
              rfl
            refine pure_ (i := 9) (N := some 26) (v := ?_) (a' := ?_) #[false, true, false, true, true, true, false, true, false, true, false] rfl rfl (any_of HT_.out (by kernel_rfl)) (fun _ _ _ h => h) (Or.inl ⟨by rfl, ?_⟩) ?_ ?_
            rotate_left
            · intro w'
              go_simp
              with_reducible rfl
            rotate_left
            · simp only [Act.put, List.setIfInBounds_toArray, List.set_cons_zero, List.set_cons_succ, i64_w, i32_w]
              rfl
            refine take_ (i := 0) (N := some 17) (v := ?_) (a' := ?_) #[true, true, false, true, true, true, false, true, false, true, false] rfl rfl (take_ofW HT_.out HW_.out (by kernel_rfl)) (fun _ _ _ h => h) (Or.inl ⟨by rfl, ?_⟩) hHeld ?_ ?_
            rotate_left
            · rintro w' ⟨s0, s1, s2, s3, s4, s5⟩
              go_simp
              with_reducible rfl
            rotate_left
            · simp only [Act.put, List.setIfInBounds_toArray, List.set_cons_zero, List.set_cons_succ, i64_w, i32_w]
              rfl
            refine take_ (i := 2) (N := some 19) (v := ?_) (a' := ?_) #[true, true, true, true, true, true, false, true, false, true, false] rfl rfl (take_ofW HT_.out HW_.out (by kernel_rfl)) (fun _ _ _ h => h) (Or.inl ⟨by rfl, ?_⟩) hHeld ?_ ?_
            rotate_left
            · rintro w' ⟨s0, s1, s2, s3, s4, s5⟩
              go_simp
              with_reducible rfl
            rotate_left
            · simp only [Act.put, List.setIfInBounds_toArray, List.set_cons_zero, List.set_cons_succ, i64_w, i32_w]
              rfl
            refine take_ (i := 6) (N := some 23) (v := ?_) (a' := ?_) #[true, true, true, true, true, true, true, true, false, true, false] rfl rfl (take_ofW HT_.out HW_.out (by kernel_rfl)) (fun _ _ _ h => h) (Or.inl ⟨by rfl, ?_⟩) hHeld ?_ ?_
            rotate_left
            · rintro w' ⟨s0, s1, s2, s3, s4, s5⟩
              go_simp
              with_reducible rfl
            rotate_left
            · simp only [Act.put, List.setIfInBounds_toArray, List.set_cons_zero, List.set_cons_succ, i64_w, i32_w]
              rfl
            refine one_ (i := 8) (N := some 25) #[true, true, true, true, true, true, true, true, true, true, false] rfl rfl (one_of HT_.out (by kernel_rfl)) (by decide) (fun K hK => ?_)
            refine goes_ Try.func55 (by kernel_rfl) rfl #[.agg #[.int .i64 a0_0, .int .i64 a0_1, .slice A0_2 l0_2.length c0_2, .slice A0_3 l0_3.length c0_3, .slice A0_4 l0_4.length c0_4], .slice A0_3 l0_3.length c0_3, .slice A251_0 (rd_L9 l1 x10_1).length c251_0, .int .i64 a2] (by rfl) rfl rfl (by (try simp only [List.map_toArray, List.map_cons, List.map_nil]); first | done | rfl | (simp only [List.length_drop, List.length_take]; rfl)) ?_
            with_reducible refine (posserref04_Minute.calls k1 a0_0 a0_1 _ _ l0_2 _ _ l0_3 _ _ l0_4 _ _ l0_3 _ _ (rd_L9 l1 x10_1) a2 t252 _ ?side1 ?side2 ?side3 ?side4 ?side5 ?side6 ?side7 ?side8 ?side9 ?side10 A8.out).mono ?_
            (case side1 => repeat (first | exact (Kd.C_below HR0_2.out HB.out) | (with_reducible refine Kd.C_alloc ?_ _) | (with_reducible refine Kd.C_drewN ?_ _) | (with_reducible refine Kd.C_drew ?_)))
            (case side2 => exact HC0_2.out)
            (case side3 => repeat (first | exact (Kd.C_below HR0_3.out HB.out) | (with_reducible refine Kd.C_alloc ?_ _) | (with_reducible refine Kd.C_drewN ?_ _) | (with_reducible refine Kd.C_drew ?_)))
            (case side4 => exact HC0_3.out)
            (case side5 => repeat (first | exact (Kd.C_below HR0_4.out HB.out) | (with_reducible refine Kd.C_alloc ?_ _) | (with_reducible refine Kd.C_drewN ?_ _) | (with_reducible refine Kd.C_drew ?_)))
            (case side6 => exact HC0_4.out)
            (case side7 => repeat (first | exact (Kd.C_below HR0_3.out HB.out) | (with_reducible refine Kd.C_alloc ?_ _) | (with_reducible refine Kd.C_drewN ?_ _) | (with_reducible refine Kd.C_drew ?_)))
            (case side8 => exact HC0_3.out)
            (case side9 => repeat (first | exact (Kd.C_below HR251_0.out HB.out) | (with_reducible refine Kd.C_alloc ?_ _) | (with_reducible refine Kd.C_drewN ?_ _) | (with_reducible refine Kd.C_drew ?_)))
            (case side10 => exact HC251_0.out)
            rintro e w11 ⟨rfl, hb⟩
            refine ⟨_, rfl, ?_⟩
            have n0_ := Aside0.mk (blk_below (g := gb250) (o := .cells #[.int .i64 a0_0, .int .i64 a0_1, .slice A0_2 l0_2.length c0_2, .slice A0_3 l0_3.length c0_3, .slice A0_4 l0_4.length c0_4] 26 (0, 0)) (by (with_reducible repeat (first | refine blk_drewN ?_ _ | refine blk_drew ?_ | refine blk_alloc ?_ _)); exact BK250.out) hb)
            have n1_ := Aside0.mk (below_step (by repeat (first | (with_reducible first | exact HB.out | apply below_alloc | apply pw_below_drewN | apply below_drew1 | refine below_set ?_ GE250.out) | exact HB.out)) hb)
            clear BK250
            clear HB
            have BK250 := n0_
            have HB := n1_
            clear n0_ n1_
            (try clear hb)
            (try clear hb2)
            (try clear hk)
            (try clear hi)
            refine hK.out _ _ ⟨(blk_cell BK250.out 0).trans rfl, (blk_cell BK250.out 1).trans rfl, (blk_cell BK250.out 2).trans rfl, (blk_cell BK250.out 3).trans rfl, (blk_cell BK250.out 4).trans rfl, ((HB.out.cell (World.block_lt_of_cell? w _ hw251_0)).trans hw251_0)⟩ (fun hHeld => ?_)
            clear hK K
            refine norm_ (a' := ?_) ?_ ?_
            rotate_left
            · show Act.put _ (some 25) _ = _
              simp only [Act.put, List.setIfInBounds_toArray, List.set_cons_zero, List.set_cons_succ, i64_w, i32_w]
              rfl
            refine pure_ (i := 10) (N := some 27) (v := ?_) (a' := ?_) #[true, true, true, true, true, true, true, true, true, true, true] rfl rfl (any_of HT_.out (by kernel_rfl)) (fun _ _ _ h => h) (Or.inl ⟨by rfl, ?_⟩) ?_ ?_
            rotate_left
            · intro w'
              go_simp
              with_reducible rfl
            rotate_left
            · simp only [Act.put, List.setIfInBounds_toArray, List.set_cons_zero, List.set_cons_succ, i64_w, i32_w]
              rfl
            refine done_ (done_of HT_.out (by kernel_rfl)) ?_
            try go_wp2
            go_roundg k1
            case measure => have := HK1.out; omega
            case rel => exact ⟨(wrap64 (x9_1 + 1)), (wrap64 (x10_1 + 1)), (by first | rfl | (simp; done) | (simp [*]; done)), (by first | rfl | (simp; done) | (simp [*]; done)), H', ⟨by have := HK1.out; omega⟩, ⟨by (with_reducible repeat (first | refine blk_drewN ?_ _ | refine blk_drew ?_ | refine blk_alloc ?_ _)); exact BK250.out⟩, ⟨by repeat (first | (with_reducible first | exact HB.out | apply below_alloc | apply pw_below_drewN | apply below_drew1 | refine below_set ?_ GE250.out) | exact HB.out)⟩⟩
          · rw [if_neg c9] at H
            have c9b0 : decide (t252 ≤ a3) = false := decide_eq_false c9
            clear c9
            have H' := Aside0.mk H
            clear H
            try go_wp2
            have n0_ := Aside0.mk (blk_drew BK250.out)
            have n1_ := Aside0.mk (below_drew1 HB.out)
            clear BK250
            clear HB
            have BK250 := n0_
            have HB := n1_
            clear n0_ n1_
            have p251 : 0 ≤ (x10_1 : Int) := of_decide_eq_true (by first | (with_reducible assumption) | assumption)
            have q251 : x10_1 < (l1.length : Int) := of_decide_eq_true (by first | (with_reducible assumption) | assumption)
            obtain ⟨ad251, A251_0, c251_0, e251, hx251_0, hl251_0, hi251_0⟩ := at_L9 HR1.out x10_1 p251 q251
            have hw251_0 := hx251_0
            cases e251
            replace hx251_0 := (HB.out.cell (World.block_lt_of_cell? w _ hx251_0)).trans hx251_0
            have HR251_0 := Aside0.mk hi251_0
            have HC251_0 := Aside0.mk hl251_0
            clear hi251_0 hl251_0
            replace p251 := eq_true p251
            replace q251 := eq_true q251
            refine start_ (n := 11) (S := fun w' => w'.cell? ⟨gb250, 0, none⟩ = some (.int .i64 a0_0) ∧ w'.cell? ⟨gb250, 1, none⟩ = some (.int .i64 a0_1) ∧ w'.cell? ⟨gb250, 2, none⟩ = some (.slice A0_2 l0_2.length c0_2) ∧ w'.cell? ⟨gb250, 3, none⟩ = some (.slice A0_3 l0_3.length c0_3) ∧ w'.cell? ⟨gb250, 4, none⟩ = some (.slice A0_4 l0_4.length c0_4) ∧ w'.cell? (ad251.add (x10_1).toNat) = some (.slice A251_0 (rd_L9 l1 x10_1).length c251_0)) (ds := []) #[false, false, false, false, false, false, false, false, false, false, false] (by kernel_rfl) rfl rfl ⟨(blk_cell BK250.out 0).trans rfl, (blk_cell BK250.out 1).trans rfl, (blk_cell BK250.out 2).trans rfl, (blk_cell BK250.out 3).trans rfl, (blk_cell BK250.out 4).trans rfl, ((HB.out.cell (World.block_lt_of_cell? w _ hw251_0)).trans hw251_0)⟩ (fun hHeld => ?_); refine with_tabW posserref04_Leaves.tab5 posserref04_Leaves.bits5 (fun HT_ HW_ => ?_)
            generalize wr.drew = w12 at BK250 HB HR251_0 hx251_0 hHeld ⊢
            refine pure_ (i := 1) (N := some 18) (v := ?_) (a' := ?_) #[false, true, false, false, false, false, false, false, false, false, false] rfl rfl (any_of HT_.out (by kernel_rfl)) (fun _ _ _ h => h) (Or.inl ⟨by rfl, ?_⟩) ?_ ?_
            rotate_left
            · intro w'
              go_simp
              with_reducible rfl
            rotate_left
            · simp only [Act.put, List.setIfInBounds_toArray, List.set_cons_zero, List.set_cons_succ, i64_w, i32_w]
              rfl
            refine pure_ (i := 3) (N := some 20) (v := ?_) (a' := ?_) #[false, true, false, true, false, false, false, false, false, false, false] rfl rfl (any_of HT_.out (by kernel_rfl)) (fun _ _ _ h => h) (Or.inl ⟨by rfl, ?_⟩) ?_ ?_
            rotate_left
            · intro w'
              go_simp
              with_reducible rfl
            rotate_left
            · simp only [Act.put, List.setIfInBounds_toArray, List.set_cons_zero, List.set_cons_succ, i64_w, i32_w]
              rfl
            refine pure_ (i := 4) (N := some 21) (v := ?_) (a' := ?_) #[false, true, false, true, true, false, false, false, false, false, false] rfl rfl (any_of HT_.out (by kernel_rfl)) (fun _ _ _ h => h) (Or.inl ⟨by rfl, ?_⟩) ?_ ?_
            rotate_left
            · intro w'
              go_simp
              with_reducible rfl
            rotate_left
            · simp only [Act.put, List.setIfInBounds_toArray, List.set_cons_zero, List.set_cons_succ, i64_w, i32_w]
              rfl
            refine pure_ (i := 5) (N := some 22) (v := ?_) (a' := ?_) #[false, true, false, true, true, true, false, false, false, false, false] rfl rfl (any_of HT_.out (by kernel_rfl)) (fun _ _ _ h => h) (Or.inl ⟨by rfl, ?_⟩) ?_ ?_
            rotate_left
            · intro w'
              go_simp
              with_reducible rfl
            rotate_left
            · simp only [Act.put, List.setIfInBounds_toArray, List.set_cons_zero, List.set_cons_succ, i64_w, i32_w]
              rfl
            refine pure_ (i := 7) (N := some 24) (v := ?_) (a' := ?_) #[false, true, false, true, true, true, false, true, false, false, false] rfl rfl (any_of HT_.out (by kernel_rfl)) (fun _ _ _ h => h) (Or.inl ⟨by rfl, ?_⟩) ?_ ?_
            rotate_left
            · intro w'
              go_simp
              with_reducible rfl
            rotate_left
            · simp only [Act.put, List.setIfInBounds_toArray, List.set_cons_zero, List.set_cons_succ, i64_w, i32_w]
              rfl
            refine pure_ (i := 9) (N := some 26) (v := ?_) (a' := ?_) #[false, true, false, true, true, true, false, true, false, true, false] rfl rfl (any_of HT_.out (by kernel_rfl)) (fun _ _ _ h => h) (Or.inl ⟨by rfl, ?_⟩) ?_ ?_
            rotate_left
            · intro w'
              go_simp
              with_reducible rfl
            rotate_left
            · simp only [Act.put, List.setIfInBounds_toArray, List.set_cons_zero, List.set_cons_succ, i64_w, i32_w]
              rfl
            refine take_ (i := 0) (N := some 17) (v := ?_) (a' := ?_) #[true, true, false, true, true, true, false, true, false, true, false] rfl rfl (take_ofW HT_.out HW_.out (by kernel_rfl)) (fun _ _ _ h => h) (Or.inl ⟨by rfl, ?_⟩) hHeld ?_ ?_
            rotate_left
            · rintro w' ⟨s0, s1, s2, s3, s4, s5⟩
              go_simp
              with_reducible rfl
            rotate_left
            · simp only [Act.put, List.setIfInBounds_toArray, List.set_cons_zero, List.set_cons_succ, i64_w, i32_w]
              rfl
            refine take_ (i := 2) (N := some 19) (v := ?_) (a' := ?_) #[true, true, true, true, true, true, false, true, false, true, false] rfl rfl (take_ofW HT_.out HW_.out (by kernel_rfl)) (fun _ _ _ h => h) (Or.inl ⟨by rfl, ?_⟩) hHeld ?_ ?_
            rotate_left
            · rintro w' ⟨s0, s1, s2, s3, s4, s5⟩
              go_simp
              with_reducible rfl
            rotate_left
            · simp only [Act.put, List.setIfInBounds_toArray, List.set_cons_zero, List.set_cons_succ, i64_w, i32_w]
              rfl
            refine take_ (i := 6) (N := some 23) (v := ?_) (a' := ?_) #[true, true, true, true, true, true, true, true, false, true, false] rfl rfl (take_ofW HT_.out HW_.out (by kernel_rfl)) (fun _ _ _ h => h) (Or.inl ⟨by rfl, ?_⟩) hHeld ?_ ?_
            rotate_left
            · rintro w' ⟨s0, s1, s2, s3, s4, s5⟩
              go_simp
              with_reducible rfl
            rotate_left
            · simp only [Act.put, List.setIfInBounds_toArray, List.set_cons_zero, List.set_cons_succ, i64_w, i32_w]
              rfl
            refine one_ (i := 8) (N := some 25) #[true, true, true, true, true, true, true, true, true, true, false] rfl rfl (one_of HT_.out (by kernel_rfl)) (by decide) (fun K hK => ?_)
            refine goes_ Try.func55 (by kernel_rfl) rfl #[.agg #[.int .i64 a0_0, .int .i64 a0_1, .slice A0_2 l0_2.length c0_2, .slice A0_3 l0_3.length c0_3, .slice A0_4 l0_4.length c0_4], .slice A0_3 l0_3.length c0_3, .slice A251_0 (rd_L9 l1 x10_1).length c251_0, .int .i64 a2] (by rfl) rfl rfl (by (try simp only [List.map_toArray, List.map_cons, List.map_nil]); first | done | rfl | (simp only [List.length_drop, List.length_take]; rfl)) ?_
            with_reducible refine (posserref04_Minute.calls k1 a0_0 a0_1 _ _ l0_2 _ _ l0_3 _ _ l0_4 _ _ l0_3 _ _ (rd_L9 l1 x10_1) a2 t252 _ ?side1 ?side2 ?side3 ?side4 ?side5 ?side6 ?side7 ?side8 ?side9 ?side10 A8.out).mono ?_
            (case side1 => repeat (first | exact (Kd.C_below HR0_2.out HB.out) | (with_reducible refine Kd.C_alloc ?_ _) | (with_reducible refine Kd.C_drewN ?_ _) | (with_reducible refine Kd.C_drew ?_)))
            (case side2 => exact HC0_2.out)
            (case side3 => repeat (first | exact (Kd.C_below HR0_3.out HB.out) | (with_reducible refine Kd.C_alloc ?_ _) | (with_reducible refine Kd.C_drewN ?_ _) | (with_reducible refine Kd.C_drew ?_)))
            (case side4 => exact HC0_3.out)
            (case side5 => repeat (first | exact (Kd.C_below HR0_4.out HB.out) | (with_reducible refine Kd.C_alloc ?_ _) | (with_reducible refine Kd.C_drewN ?_ _) | (with_reducible refine Kd.C_drew ?_)))
            (case side6 => exact HC0_4.out)
            (case side7 => repeat (first | exact (Kd.C_below HR0_3.out HB.out) | (with_reducible refine Kd.C_alloc ?_ _) | (with_reducible refine Kd.C_drewN ?_ _) | (with_reducible refine Kd.C_drew ?_)))
            (case side8 => exact HC0_3.out)
            (case side9 => repeat (first | exact (Kd.C_below HR251_0.out HB.out) | (with_reducible refine Kd.C_alloc ?_ _) | (with_reducible refine Kd.C_drewN ?_ _) | (with_reducible refine Kd.C_drew ?_)))
            (case side10 => exact HC251_0.out)
            rintro e w13 ⟨rfl, hb⟩
            refine ⟨_, rfl, ?_⟩
            have n0_ := Aside0.mk (blk_below (g := gb250) (o := .cells #[.int .i64 a0_0, .int .i64 a0_1, .slice A0_2 l0_2.length c0_2, .slice A0_3 l0_3.length c0_3, .slice A0_4 l0_4.length c0_4] 26 (0, 0)) (by (with_reducible repeat (first | refine blk_drewN ?_ _ | refine blk_drew ?_ | refine blk_alloc ?_ _)); exact BK250.out) hb)
            have n1_ := Aside0.mk (below_step (by repeat (first | (with_reducible first | exact HB.out | apply below_alloc | apply pw_below_drewN | apply below_drew1 | refine below_set ?_ GE250.out) | exact HB.out)) hb)
            clear BK250
            clear HB
            have BK250 := n0_
            have HB := n1_
            clear n0_ n1_
            (try clear hb)
            (try clear hb2)
            (try clear hk)
            (try clear hi)
            refine hK.out _ _ ⟨(blk_cell BK250.out 0).trans rfl, (blk_cell BK250.out 1).trans rfl, (blk_cell BK250.out 2).trans rfl, (blk_cell BK250.out 3).trans rfl, (blk_cell BK250.out 4).trans rfl, ((HB.out.cell (World.block_lt_of_cell? w _ hw251_0)).trans hw251_0)⟩ (fun hHeld => ?_)
            clear hK K
            refine norm_ (a' := ?_) ?_ ?_
            rotate_left
            · show Act.put _ (some 25) _ = _
              simp only [Act.put, List.setIfInBounds_toArray, List.set_cons_zero, List.set_cons_succ, i64_w, i32_w]
              rfl
            refine pure_ (i := 10) (N := some 27) (v := ?_) (a' := ?_) #[true, true, true, true, true, true, true, true, true, true, true] rfl rfl (any_of HT_.out (by kernel_rfl)) (fun _ _ _ h => h) (Or.inl ⟨by rfl, ?_⟩) ?_ ?_
            rotate_left
            · intro w'
              go_simp
              with_reducible rfl
            rotate_left
            · simp only [Act.put, List.setIfInBounds_toArray, List.set_cons_zero, List.set_cons_succ, i64_w, i32_w]
              rfl
            refine done_ (done_of HT_.out (by kernel_rfl)) ?_
            try go_wp2
            go_roundg k1
            case measure => have := HK1.out; omega
            case rel => exact ⟨(x9_1), (wrap64 (x10_1 + 1)), (by first | rfl | (simp; done) | (simp [*]; done)), (by first | rfl | (simp; done) | (simp [*]; done)), H', ⟨by have := HK1.out; omega⟩, ⟨by (with_reducible repeat (first | refine blk_drewN ?_ _ | refine blk_drew ?_ | refine blk_alloc ?_ _)); exact BK250.out⟩, ⟨by repeat (first | (with_reducible first | exact HB.out | apply below_alloc | apply pw_below_drewN | apply below_drew1 | refine below_set ?_ GE250.out) | exact HB.out)⟩⟩
        · rw [if_neg c7] at H
          exact absurd H (by simp)
      · rw [if_neg c6] at H
        have c6b0 : decide (x10_1 < (l1.length : Int)) = false := decide_eq_false c6
        clear c6
        obtain ⟨ji14, hji14⟩ : ∃ j_ : Int, (mx x9_1 (wrap64 ((l1.length : Int) - x9_1))) = j_ := ⟨_, rfl⟩
        replace H : (some ji14) = some r := by first | (rw [hji14] at H; exact H) | (simp only [hji14] at H ⊢; exact H)
        have hji14_ : (if x9_1 < (wrap64 ((l1.length : Int) - x9_1)) then (wrap64 ((l1.length : Int) - x9_1)) else x9_1) = ji14 := hji14
        obtain rfl := Option.some.inj H
        go_wp2
        go_ret
        exact ⟨by first | rfl | (simp [errW_none, errW_some] <;> rfl) | (simp only [← hji14]; first | rfl | (simp [errW_none, errW_some] <;> rfl)) | (simp [*, errW_none, errW_some] <;> rfl), by repeat (first | (with_reducible first | exact HB.out | apply below_alloc | apply pw_below_drewN | apply below_drew1 | refine below_set ?_ GE250.out) | exact HB.out)⟩
mutual
def posserref04_Ask.l0 : Nat → List (List Int) → Int → Int → Int → Int → Int → Int → List (S68) → List Int → List (S84) → Option (Int × Int × Int)
  | 0, _, _, _, _, _, _, _, _, _, _ => none
  | k + 1, x1, x7, x8, x9, x10, x254000, x254001, x254002, x254003, x254004 => if x10 < (x254002.length : Int) then (posserref04_Ask.l1 k x1 x7 x8 x9 x10 0 x254000 x254001 x254002 x254003 x254004) else (some (x7, x8, x9))
def posserref04_Ask.l1 : Nat → List (List Int) → Int → Int → Int → Int → Int → Int → Int → List (S68) → List Int → List (S84) → Option (Int × Int × Int)
  | 0, _, _, _, _, _, _, _, _, _, _, _ => none
  | k + 1, x1, x7, x8, x9, x10, x11, x254000, x254001, x254002, x254003, x254004 => if x11 ≤ 99 then ((posserref04_Leaves.f k x254000 x254001 x254002 x254003 x254004 x1 x10 x11).bind fun t254 => (if t254 < x9 then (posserref04_Ask.l1 k x1 x10 x11 t254 x10 (wrap64 (x11 + 1)) x254000 x254001 x254002 x254003 x254004) else (posserref04_Ask.l1 k x1 x7 x8 x9 x10 (wrap64 (x11 + 1)) x254000 x254001 x254002 x254003 x254004))) else (posserref04_Ask.l0 k x1 x7 x8 x9 (wrap64 (x10 + 1)) x254000 x254001 x254002 x254003 x254004)
end
def posserref04_Ask.f (k : Nat) (a0_0 : Int) (a0_1 : Int) (l0_2 : List (S68)) (l0_3 : List Int) (l0_4 : List (S84)) (l1 : List (List Int)) : Option (Int × Int × Int) := posserref04_Ask.l0 k l1 0 0 1099511627776 0 a0_0 a0_1 l0_2 l0_3 l0_4
set_option maxHeartbeats 8000000 in
set_option maxRecDepth 100000 in
theorem posserref04_Ask.calls (k : Nat) (a0_0 : Int) (a0_1 : Int) (A0_2 : Option Addr) (c0_2 : Nat) (l0_2 : List (S68)) (A0_3 : Option Addr) (c0_3 : Nat) (l0_3 : List Int) (A0_4 : Option Addr) (c0_4 : Nat) (l0_4 : List (S84)) (A1 : Option Addr) (c1 : Nat) (l1 : List (List Int)) (r1 : Int) (r2 : Int) (r3 : Int) (w : World) (hr0_2 : Kd.C k68 w A0_2 l0_2.length l0_2) (hc0_2 : l0_2.length ≤ c0_2) (hr0_3 : Kd.C (Kd.int .i64) w A0_3 l0_3.length l0_3) (hc0_3 : l0_3.length ≤ c0_3) (hr0_4 : Kd.C k84 w A0_4 l0_4.length l0_4) (hc0_4 : l0_4.length ≤ c0_4) (hr1 : Kd.C (Kd.slice 3 (Kd.int .i64)) w A1 l1.length l1) (hc1 : l1.length ≤ c1) (h : posserref04_Ask.f k a0_0 a0_1 l0_2 l0_3 l0_4 l1 = some (r1, r2, r3)) :
    Calls Try.prog 33 #[.agg #[.int .i64 a0_0, .int .i64 a0_1, .slice A0_2 l0_2.length c0_2, .slice A0_3 l0_3.length c0_3, .slice A0_4 l0_4.length c0_4], .slice A1 l1.length c1] w fun e w' => e = .returned (.tuple #[.int .i64 r1, .int .i64 r2, .int .i64 r3]) ∧ Below w.heap.size w w' := by
  have hu26 := Try.underlying26
  have HR0_2 := Aside0.mk hr0_2
  have HC0_2 := Aside0.mk hc0_2
  clear hr0_2 hc0_2
  have HR0_3 := Aside0.mk hr0_3
  have HC0_3 := Aside0.mk hc0_3
  clear hr0_3 hc0_3
  have HR0_4 := Aside0.mk hr0_4
  have HC0_4 := Aside0.mk hc0_4
  clear hr0_4 hc0_4
  have HR1 := Aside0.mk hr1
  have HC1 := Aside0.mk hc1
  clear hr1 hc1
  have HB := Aside0.mk (Below.refl w.heap.size w)
  have H : (posserref04_Ask.l0 k l1 0 0 1099511627776 0 a0_0 a0_1 l0_2 l0_3 l0_4) = some (r1, r2, r3) := h
  clear h
  have H' := Aside0.mk H
  clear H
  go_enter Try.func33, Try.ntmps33
  go_wp2_with (first | ((with_reducible refine gate_dst (N := 2) rfl ?_); refine box_event ?hg (N := 2) ?hd (cs := #[.int .i64 a0_0, .int .i64 a0_1, .slice A0_2 l0_2.length c0_2, .slice A0_3 l0_3.length c0_3, .slice A0_4 l0_4.length c0_4]) (t := 26) ?hr ?_; (case hd => rfl); (case hg => rfl); (case hr => first | (go_simp; done) | (go_simp; rfl)); intro gb253 hg w3 hbox hb; have n0_ := Aside0.mk (below_step (by repeat (first | (with_reducible first | exact HB.out | apply below_alloc | apply pw_below_drewN | apply below_drew1) | exact HB.out)) hb); have n1_ := Aside0.mk (hbox); have n2_ := Aside0.mk ((by rw [hg]; exact (below_size (by repeat (first | (with_reducible first | exact HB.out | apply below_alloc | apply pw_below_drewN | apply below_drew1) | exact HB.out))) : w.heap.size ≤ gb253)); have n3_ := Aside0.mk ((by rw [hg]; exact (below_size (by repeat (first | (with_reducible first | exact HB.out | apply below_alloc | apply pw_below_drewN | apply below_drew1) | exact HB.out))) : w.heap.size ≤ gb253)); clear HB; have HB := n0_; have BK253 := n1_; have GW253 := n2_; have GE253 := n3_; clear n0_ n1_ n2_ n3_; clear hb hbox hg))
  go_loopg [7, 8, 9, 10] k (fun kq v7 v8 v9 v10 w' => ∃ (x7_1 : Int) (x8_1 : Int) (x9_1 : Int) (x10_1 : Int), v7 = .int .i64 x7_1 ∧ v8 = .int .i64 x8_1 ∧ v9 = .int .i64 x9_1 ∧ v10 = .int .i64 x10_1 ∧ Aside0 (posserref04_Ask.l0 kq l1 x7_1 x8_1 x9_1 x10_1 a0_0 a0_1 l0_2 l0_3 l0_4 = some (r1, r2, r3)) ∧ Aside0 (kq ≤ k) ∧ Aside0 (w'.heap[gb253]? = some (.cells #[.int .i64 a0_0, .int .i64 a0_1, (.slice A0_2 l0_2.length c0_2), (.slice A0_3 l0_3.length c0_3), (.slice A0_4 l0_4.length c0_4)] 26 (0, 0))) ∧ Aside0 (Below w.heap.size w w'))
  case atStart => exact ⟨(0), (0), (1099511627776), (0), (by first | rfl | (simp; done) | (simp [*]; done)), (by first | rfl | (simp; done) | (simp [*]; done)), (by first | rfl | (simp; done) | (simp [*]; done)), (by first | rfl | (simp; done) | (simp [*]; done)), H', ⟨Nat.le_refl _⟩, ⟨by (with_reducible repeat (first | refine blk_drewN ?_ _ | refine blk_drew ?_ | refine blk_alloc ?_ _)); exact BK253.out⟩, ⟨by repeat (first | (with_reducible first | exact HB.out | apply below_alloc | apply pw_below_drewN | apply below_drew1 | refine below_set ?_ GE253.out) | exact HB.out)⟩⟩
  case round =>
    clear H'
    try clear c1
    try clear p2
    try clear c3
    obtain ⟨x7_1, x8_1, x9_1, x10_1, rfl, rfl, rfl, rfl, HA, HK1, BK253, HB⟩ := hrel
    cases gk with
    | zero => exact absurd HA.out (by simp [posserref04_Ask.l0])
    | succ k1 =>
      have H := HA.out
      clear HA
      simp only [posserref04_Ask.l0] at H
      by_cases c4 : x10_1 < (l0_2.length : Int)
      · rw [if_pos c4] at H
        have c4b0 : decide (x10_1 < (l0_2.length : Int)) = true := decide_eq_true c4
        clear c4
        have H' := Aside0.mk H
        clear H
        have hcz5_0 : wr.cell? ⟨gb253, 0, none⟩ = some (.int .i64 a0_0) := (blk_cell BK253.out 0).trans rfl
        have hcz5_1 : wr.cell? ⟨gb253, 1, none⟩ = some (.int .i64 a0_1) := (blk_cell BK253.out 1).trans rfl
        have hcz5_2 : wr.cell? ⟨gb253, 2, none⟩ = some (.slice A0_2 l0_2.length c0_2) := (blk_cell BK253.out 2).trans rfl
        have hcz5_3 : wr.cell? ⟨gb253, 3, none⟩ = some (.slice A0_3 l0_3.length c0_3) := (blk_cell BK253.out 3).trans rfl
        have hcz5_4 : wr.cell? ⟨gb253, 4, none⟩ = some (.slice A0_4 l0_4.length c0_4) := (blk_cell BK253.out 4).trans rfl
        have hfz5_0 := blk_frozen BK253.out 0
        have hfz5_1 := blk_frozen BK253.out 1
        have hfz5_2 := blk_frozen BK253.out 2
        have hfz5_3 := blk_frozen BK253.out 3
        have hfz5_4 := blk_frozen BK253.out 4
        go_wp2
        go_loopg [7, 8, 9, 11] k1 (fun kq v7 v8 v9 v11 w' => ∃ (x7_2 : Int) (x8_2 : Int) (x9_2 : Int) (x11_2 : Int), v7 = .int .i64 x7_2 ∧ v8 = .int .i64 x8_2 ∧ v9 = .int .i64 x9_2 ∧ v11 = .int .i64 x11_2 ∧ Aside0 (posserref04_Ask.l1 kq l1 x7_2 x8_2 x9_2 x10_1 x11_2 a0_0 a0_1 l0_2 l0_3 l0_4 = some (r1, r2, r3)) ∧ Aside0 (kq ≤ k1) ∧ Aside0 (w'.heap[gb253]? = some (.cells #[.int .i64 a0_0, .int .i64 a0_1, (.slice A0_2 l0_2.length c0_2), (.slice A0_3 l0_3.length c0_3), (.slice A0_4 l0_4.length c0_4)] 26 (0, 0))) ∧ Aside0 (Below w.heap.size w w'))
        case atStart => exact ⟨(x7_1), (x8_1), (x9_1), (0), (by first | rfl | (simp; done) | (simp [*]; done)), (by first | rfl | (simp; done) | (simp [*]; done)), (by first | rfl | (simp; done) | (simp [*]; done)), (by first | rfl | (simp; done) | (simp [*]; done)), H', ⟨Nat.le_refl _⟩, ⟨by (with_reducible repeat (first | refine blk_drewN ?_ _ | refine blk_drew ?_ | refine blk_alloc ?_ _)); exact BK253.out⟩, ⟨by repeat (first | (with_reducible first | exact HB.out | apply below_alloc | apply pw_below_drewN | apply below_drew1 | refine below_set ?_ GE253.out) | exact HB.out)⟩⟩
        case round =>
          clear H'
          try clear c1
          try clear p2
          try clear c3
          try clear c4
          try clear c4b0
          try clear hcz5_0
          try clear hcz5_1
          try clear hcz5_2
          try clear hcz5_3
          try clear hcz5_4
          try clear hfz5_0
          try clear hfz5_1
          try clear hfz5_2
          try clear hfz5_3
          try clear hfz5_4
          try clear p2
          obtain ⟨x7_2, x8_2, x9_2, x11_2, rfl, rfl, rfl, rfl, HA, HK2, BK253, HB⟩ := hrel
          cases gk with
          | zero => exact absurd HA.out (by simp [posserref04_Ask.l1])
          | succ k2 =>
            have H := HA.out
            clear HA
            simp only [posserref04_Ask.l1] at H
            by_cases c6 : x11_2 ≤ 99
            · rw [if_pos c6] at H
              have c6b0 : decide (x11_2 ≤ 99) = true := decide_eq_true c6
              clear c6
              replace H := Option.bind_eq_some_iff.mp H
              obtain ⟨t254, A70, H⟩ := H
              replace H : (if t254 < x9_2 then (posserref04_Ask.l1 k2 l1 x10_1 x11_2 t254 x10_1 (wrap64 (x11_2 + 1)) a0_0 a0_1 l0_2 l0_3 l0_4) else (posserref04_Ask.l1 k2 l1 x7_2 x8_2 x9_2 x10_1 (wrap64 (x11_2 + 1)) a0_0 a0_1 l0_2 l0_3 l0_4)) = some (r1, r2, r3) := H
              have A7 := Aside0.mk A70
              clear A70
              by_cases c8 : t254 < x9_2
              · rw [if_pos c8] at H
                have c8b0 : decide (t254 < x9_2) = true := decide_eq_true c8
                clear c8
                have H' := Aside0.mk H
                clear H
                have hcz9_0 : wr.cell? ⟨gb253, 0, none⟩ = some (.int .i64 a0_0) := (blk_cell BK253.out 0).trans rfl
                have hcz9_1 : wr.cell? ⟨gb253, 1, none⟩ = some (.int .i64 a0_1) := (blk_cell BK253.out 1).trans rfl
                have hcz9_2 : wr.cell? ⟨gb253, 2, none⟩ = some (.slice A0_2 l0_2.length c0_2) := (blk_cell BK253.out 2).trans rfl
                have hcz9_3 : wr.cell? ⟨gb253, 3, none⟩ = some (.slice A0_3 l0_3.length c0_3) := (blk_cell BK253.out 3).trans rfl
                have hcz9_4 : wr.cell? ⟨gb253, 4, none⟩ = some (.slice A0_4 l0_4.length c0_4) := (blk_cell BK253.out 4).trans rfl
                have hfz9_0 := blk_frozen BK253.out 0
                have hfz9_1 := blk_frozen BK253.out 1
                have hfz9_2 := blk_frozen BK253.out 2
                have hfz9_3 := blk_frozen BK253.out 3
                have hfz9_4 := blk_frozen BK253.out 4
                go_wp2_with (first | ((with_reducible refine gate_callee (f := 56) rfl ?_); refine goesL_ (some 28) rfl rfl Try.func56 (by kernel_rfl) rfl #[.agg #[.int .i64 a0_0, .int .i64 a0_1, .slice A0_2 l0_2.length c0_2, .slice A0_3 l0_3.length c0_3, .slice A0_4 l0_4.length c0_4], .slice A1 l1.length c1, .int .i64 x10_1, .int .i64 x11_2] rfl (by (try simp only [List.map_toArray, List.map_cons, List.map_nil]); first | done | rfl | (simp only [List.length_drop, List.length_take]; rfl)) ?_; (with_reducible refine (posserref04_Leaves.calls k2 a0_0 a0_1 _ _ l0_2 _ _ l0_3 _ _ l0_4 _ _ l1 x10_1 x11_2 t254 _ ?side1 ?side2 ?side3 ?side4 ?side5 ?side6 ?side7 ?side8 A7.out).mono ?_); (case side1 => repeat (first | exact (Kd.C_below HR0_2.out HB.out) | (with_reducible refine Kd.C_alloc ?_ _) | (with_reducible refine Kd.C_drewN ?_ _) | (with_reducible refine Kd.C_drew ?_))); (case side2 => exact HC0_2.out); (case side3 => repeat (first | exact (Kd.C_below HR0_3.out HB.out) | (with_reducible refine Kd.C_alloc ?_ _) | (with_reducible refine Kd.C_drewN ?_ _) | (with_reducible refine Kd.C_drew ?_))); (case side4 => exact HC0_3.out); (case side5 => repeat (first | exact (Kd.C_below HR0_4.out HB.out) | (with_reducible refine Kd.C_alloc ?_ _) | (with_reducible refine Kd.C_drewN ?_ _) | (with_reducible refine Kd.C_drew ?_))); (case side6 => exact HC0_4.out); (case side7 => repeat (first | exact (Kd.C_below HR1.out HB.out) | (with_reducible refine Kd.C_alloc ?_ _) | (with_reducible refine Kd.C_drewN ?_ _) | (with_reducible refine Kd.C_drew ?_))); (case side8 => exact HC1.out); rintro e w10 ⟨rfl, hb⟩; refine ⟨_, rfl, ?_⟩; have n0_ := Aside0.mk (blk_below (g := gb253) (o := .cells #[.int .i64 a0_0, .int .i64 a0_1, .slice A0_2 l0_2.length c0_2, .slice A0_3 l0_3.length c0_3, .slice A0_4 l0_4.length c0_4] 26 (0, 0)) (by (with_reducible repeat (first | refine blk_drewN ?_ _ | refine blk_drew ?_ | refine blk_alloc ?_ _)); exact BK253.out) hb); have n1_ := Aside0.mk (below_step (by repeat (first | (with_reducible first | exact HB.out | apply below_alloc | apply pw_below_drewN | apply below_drew1 | refine below_set ?_ GE253.out) | exact HB.out)) hb); clear BK253; clear HB; have BK253 := n0_; have HB := n1_; clear n0_ n1_; (try clear hb); (try clear hb2); (try clear hk); (try clear hi)))
                go_roundg k2
                case measure => have := HK1.out; have := HK2.out; omega
                case rel => exact ⟨(x10_1), (x11_2), (t254), (wrap64 (x11_2 + 1)), (by first | rfl | (simp; done) | (simp [*]; done)), (by first | rfl | (simp; done) | (simp [*]; done)), (by first | rfl | (simp; done) | (simp [*]; done)), (by first | rfl | (simp; done) | (simp [*]; done)), H', ⟨by have := HK1.out; have := HK2.out; omega⟩, ⟨by (with_reducible repeat (first | refine blk_drewN ?_ _ | refine blk_drew ?_ | refine blk_alloc ?_ _)); exact BK253.out⟩, ⟨by repeat (first | (with_reducible first | exact HB.out | apply below_alloc | apply pw_below_drewN | apply below_drew1 | refine below_set ?_ GE253.out) | exact HB.out)⟩⟩
              · rw [if_neg c8] at H
                have c8b0 : decide (t254 < x9_2) = false := decide_eq_false c8
                clear c8
                have H' := Aside0.mk H
                clear H
                have hcz11_0 : wr.cell? ⟨gb253, 0, none⟩ = some (.int .i64 a0_0) := (blk_cell BK253.out 0).trans rfl
                have hcz11_1 : wr.cell? ⟨gb253, 1, none⟩ = some (.int .i64 a0_1) := (blk_cell BK253.out 1).trans rfl
                have hcz11_2 : wr.cell? ⟨gb253, 2, none⟩ = some (.slice A0_2 l0_2.length c0_2) := (blk_cell BK253.out 2).trans rfl
                have hcz11_3 : wr.cell? ⟨gb253, 3, none⟩ = some (.slice A0_3 l0_3.length c0_3) := (blk_cell BK253.out 3).trans rfl
                have hcz11_4 : wr.cell? ⟨gb253, 4, none⟩ = some (.slice A0_4 l0_4.length c0_4) := (blk_cell BK253.out 4).trans rfl
                have hfz11_0 := blk_frozen BK253.out 0
                have hfz11_1 := blk_frozen BK253.out 1
                have hfz11_2 := blk_frozen BK253.out 2
                have hfz11_3 := blk_frozen BK253.out 3
                have hfz11_4 := blk_frozen BK253.out 4
                go_wp2_with (first | ((with_reducible refine gate_callee (f := 56) rfl ?_); refine goesL_ (some 28) rfl rfl Try.func56 (by kernel_rfl) rfl #[.agg #[.int .i64 a0_0, .int .i64 a0_1, .slice A0_2 l0_2.length c0_2, .slice A0_3 l0_3.length c0_3, .slice A0_4 l0_4.length c0_4], .slice A1 l1.length c1, .int .i64 x10_1, .int .i64 x11_2] rfl (by (try simp only [List.map_toArray, List.map_cons, List.map_nil]); first | done | rfl | (simp only [List.length_drop, List.length_take]; rfl)) ?_; (with_reducible refine (posserref04_Leaves.calls k2 a0_0 a0_1 _ _ l0_2 _ _ l0_3 _ _ l0_4 _ _ l1 x10_1 x11_2 t254 _ ?side1 ?side2 ?side3 ?side4 ?side5 ?side6 ?side7 ?side8 A7.out).mono ?_); (case side1 => repeat (first | exact (Kd.C_below HR0_2.out HB.out) | (with_reducible refine Kd.C_alloc ?_ _) | (with_reducible refine Kd.C_drewN ?_ _) | (with_reducible refine Kd.C_drew ?_))); (case side2 => exact HC0_2.out); (case side3 => repeat (first | exact (Kd.C_below HR0_3.out HB.out) | (with_reducible refine Kd.C_alloc ?_ _) | (with_reducible refine Kd.C_drewN ?_ _) | (with_reducible refine Kd.C_drew ?_))); (case side4 => exact HC0_3.out); (case side5 => repeat (first | exact (Kd.C_below HR0_4.out HB.out) | (with_reducible refine Kd.C_alloc ?_ _) | (with_reducible refine Kd.C_drewN ?_ _) | (with_reducible refine Kd.C_drew ?_))); (case side6 => exact HC0_4.out); (case side7 => repeat (first | exact (Kd.C_below HR1.out HB.out) | (with_reducible refine Kd.C_alloc ?_ _) | (with_reducible refine Kd.C_drewN ?_ _) | (with_reducible refine Kd.C_drew ?_))); (case side8 => exact HC1.out); rintro e w12 ⟨rfl, hb⟩; refine ⟨_, rfl, ?_⟩; have n0_ := Aside0.mk (blk_below (g := gb253) (o := .cells #[.int .i64 a0_0, .int .i64 a0_1, .slice A0_2 l0_2.length c0_2, .slice A0_3 l0_3.length c0_3, .slice A0_4 l0_4.length c0_4] 26 (0, 0)) (by (with_reducible repeat (first | refine blk_drewN ?_ _ | refine blk_drew ?_ | refine blk_alloc ?_ _)); exact BK253.out) hb); have n1_ := Aside0.mk (below_step (by repeat (first | (with_reducible first | exact HB.out | apply below_alloc | apply pw_below_drewN | apply below_drew1 | refine below_set ?_ GE253.out) | exact HB.out)) hb); clear BK253; clear HB; have BK253 := n0_; have HB := n1_; clear n0_ n1_; (try clear hb); (try clear hb2); (try clear hk); (try clear hi)))
                go_roundg k2
                case measure => have := HK1.out; have := HK2.out; omega
                case rel => exact ⟨(x7_2), (x8_2), (x9_2), (wrap64 (x11_2 + 1)), (by first | rfl | (simp; done) | (simp [*]; done)), (by first | rfl | (simp; done) | (simp [*]; done)), (by first | rfl | (simp; done) | (simp [*]; done)), (by first | rfl | (simp; done) | (simp [*]; done)), H', ⟨by have := HK1.out; have := HK2.out; omega⟩, ⟨by (with_reducible repeat (first | refine blk_drewN ?_ _ | refine blk_drew ?_ | refine blk_alloc ?_ _)); exact BK253.out⟩, ⟨by repeat (first | (with_reducible first | exact HB.out | apply below_alloc | apply pw_below_drewN | apply below_drew1 | refine below_set ?_ GE253.out) | exact HB.out)⟩⟩
            · rw [if_neg c6] at H
              have c6b0 : decide (x11_2 ≤ 99) = false := decide_eq_false c6
              clear c6
              have H' := Aside0.mk H
              clear H
              go_wp2
              go_roundg k2
              case measure => have := HK1.out; have := HK2.out; omega
              case rel => exact ⟨(x7_2), (x8_2), (x9_2), (wrap64 (x10_1 + 1)), (by first | rfl | (simp; done) | (simp [*]; done)), (by first | rfl | (simp; done) | (simp [*]; done)), (by first | rfl | (simp; done) | (simp [*]; done)), (by first | rfl | (simp; done) | (simp [*]; done)), H', ⟨by have := HK1.out; have := HK2.out; omega⟩, ⟨by (with_reducible repeat (first | refine blk_drewN ?_ _ | refine blk_drew ?_ | refine blk_alloc ?_ _)); exact BK253.out⟩, ⟨by repeat (first | (with_reducible first | exact HB.out | apply below_alloc | apply pw_below_drewN | apply below_drew1 | refine below_set ?_ GE253.out) | exact HB.out)⟩⟩
      · rw [if_neg c4] at H
        have c4b0 : decide (x10_1 < (l0_2.length : Int)) = false := decide_eq_false c4
        clear c4
        simp only [Option.some.injEq, Prod.mk.injEq] at H
        obtain ⟨rfl, rfl, rfl⟩ := H
        have hcz13_0 : wr.cell? ⟨gb253, 0, none⟩ = some (.int .i64 a0_0) := (blk_cell BK253.out 0).trans rfl
        have hcz13_1 : wr.cell? ⟨gb253, 1, none⟩ = some (.int .i64 a0_1) := (blk_cell BK253.out 1).trans rfl
        have hcz13_2 : wr.cell? ⟨gb253, 2, none⟩ = some (.slice A0_2 l0_2.length c0_2) := (blk_cell BK253.out 2).trans rfl
        have hcz13_3 : wr.cell? ⟨gb253, 3, none⟩ = some (.slice A0_3 l0_3.length c0_3) := (blk_cell BK253.out 3).trans rfl
        have hcz13_4 : wr.cell? ⟨gb253, 4, none⟩ = some (.slice A0_4 l0_4.length c0_4) := (blk_cell BK253.out 4).trans rfl
        have hfz13_0 := blk_frozen BK253.out 0
        have hfz13_1 := blk_frozen BK253.out 1
        have hfz13_2 := blk_frozen BK253.out 2
        have hfz13_3 := blk_frozen BK253.out 3
        have hfz13_4 := blk_frozen BK253.out 4
        go_wp2
        go_ret3
        exact ⟨by first | rfl | (simp [errW_none, errW_some] <;> rfl) | (simp [*, errW_none, errW_some] <;> rfl), by repeat (first | (with_reducible first | exact HB.out | apply below_alloc | apply pw_below_drewN | apply below_drew1 | refine below_set ?_ GE253.out) | exact HB.out)⟩
end Go.Proofs.Ytokhmghgghjmhaa.Q
namespace Go.Proofs.Ytokhmghgghjmhaa.Q
open Go.RowKit Go.Proofs.YtokhmghgghjmhaaW.PrintWords Go.Proofs.YtokhmghgghjmhaaW.PrintLast Go.Proofs.YtokhmghgghjmhaaW.PrintMore
set_option linter.unusedVariables false
def lvF (hs : List S139) (hung : List Int) (h : Nat) (m : Int) (L : List (List Int)) : Nat → Nat → Int
  | 0, _ => 0
  | d + 1, i => (if mins hs hung (nums (rd_L9 L i)) h ≤ m then 1 else 0) + lvF hs hung h m L d (i + 1)
theorem lvF_count (hs : List S139) (hung : List Int) (h : Nat) (m : Int) (L : List (List Int)) : ∀ d i, i + d = L.length → lvF hs hung h m L d i = (((L.drop i).filter (fun l => dryP hs hung h m (nums l))).length : Int)
  | 0, i, e => by rw [List.drop_eq_nil_of_le (by omega)]; rfl
  | d + 1, i, e => by
    have hr : rd_L9 L i = L[i]'(by omega) := by
      unfold rd_L9
      rw [Int.toNat_natCast, List.getD_eq_getElem?_getD, List.getElem?_eq_getElem (by omega)]
      rfl
    rw [List.drop_eq_getElem_cons (by omega)]
    simp only [lvF, lvF_count hs hung h m L d (i + 1) (by omega), hr, List.filter_cons, dryP]
    by_cases hc : mins hs hung (nums (L[i]'(by omega))) h ≤ m
    · rw [if_pos hc, if_pos (decide_eq_true hc), List.length_cons]; omega
    · rw [if_neg hc, if_neg (by rw [decide_eq_false hc]; decide)]; omega
section
variable {cs cl : Int} {hs : List S68} {hung : List Int} {looks : List S84}
theorem hung_pl (V : Valid cs cl (hs.map toH) hung (looks.map toL)) : Pl cs hs.length hung :=
  ⟨by have := V.place; simpa using this, V.inside, fun a b ha hb hne e => by
    rcases Nat.lt_or_ge a b with h | h
    · exact V.apart b a hb h e.symm
    · exact V.apart a b ha (by omega) e⟩
theorem leaves_l0 (V : Valid cs cl (hs.map toH) hung (looks.map toL)) (L : List (List Int)) (hL : Trs hs L) (h : Nat) (hh : h < hs.length) (m : Int) : ∀ (d i k : Nat) (y : Int), i + d = L.length → d + 1001 < k → 0 ≤ y → y ≤ i →
    posserref04_Leaves.l0 k L h m y i cs cl hs hung looks = some (mx (y + lvF (hs.map toH) hung h m L d i) ((L.length : Int) - (y + lvF (hs.map toH) hung h m L d i)))
  | 0, i, k, y, e, hk, h0, h1 => by
    obtain ⟨k, rfl⟩ : ∃ m, k = m + 1 := ⟨k - 1, by omega⟩
    have hl := hL.1
    simp only [posserref04_Leaves.l0, lvF, Int.add_zero]
    rw [if_neg (by omega), show wrap64 ((L.length : Int) - y) = (L.length : Int) - y from by unfold wrap64; omega]
  | d + 1, i, k, y, e, hk, h0, h1 => by
    obtain ⟨k, rfl⟩ : ∃ m, k = m + 1 := ⟨k - 1, by omega⟩
    have hl := hL.1
    have h4 := V.n4
    have hc4 := V.c4
    simp only [List.length_map] at h4
    obtain ⟨t1, t2⟩ := hL.2 i (by omega)
    simp only [posserref04_Leaves.l0, lvF]
    rw [if_pos (by omega), if_pos (by omega), minute_f (hung_pl V) (by omega) h4 V.wet t1 t2 h hh k (by omega)]
    simp only [Option.bind_some]
    rw [show wrap64 ((i : Int) + 1) = ((i + 1 : Nat) : Int) from by unfold wrap64; omega]
    change (if mins (hs.map toH) hung (nums (rd_L9 L i)) h ≤ m then _ else _) = _
    by_cases hc : mins (hs.map toH) hung (nums (rd_L9 L i)) h ≤ m
    · rw [if_pos hc, if_pos hc, show wrap64 (y + 1) = y + 1 from by unfold wrap64; omega, leaves_l0 V L hL h hh m d (i + 1) k (y + 1) (by omega) (by omega) (by omega) (by omega), Int.add_assoc]
    · rw [if_neg hc, if_neg hc, leaves_l0 V L hL h hh m d (i + 1) k y (by omega) (by omega) (by omega) (by omega), Int.zero_add]
theorem truL_length (hc : checkB cs cl (hs.map toH) hung (looks.map toL) = 0) : (truL (hs.map toH) hung (looks.map toL)).length = (truthsT (hs.map toH) hung (looks.map toL)).length := by
  have V := valid_of hc
  have := truL_count (hung := hung) (looks := looks.map toL) V.dry V.n4 (fun _ => true)
  rw [List.filter_eq_self.2 (fun _ _ => rfl), List.filter_eq_self.2 (fun _ _ => rfl)] at this
  exact this
theorem leaves_f (hc : checkB cs cl (hs.map toH) hung (looks.map toL) = 0) (h : Nat) (hh : h < hs.length) (m : Int) (k : Nat) (hk : 4000 ≤ k) :
    posserref04_Leaves.f k cs cl hs hung looks (truL (hs.map toH) hung (looks.map toL)) h m = some (lookN (hs.map toH) hung (truthsT (hs.map toH) hung (looks.map toL)) h m) := by
  have V := valid_of hc
  obtain ⟨h1, h2⟩ := truL_trs hc
  unfold posserref04_Leaves.f
  have := leaves_l0 V _ h1 h hh m _ 0 k 0 (Nat.zero_add _) (by omega) (by omega) (by omega)
  refine this.trans ?_
  rw [Int.zero_add, lvF_count _ _ _ _ _ _ _ (Nat.zero_add _), List.drop_zero, truL_count (hung := hung) (looks := looks.map toL) V.dry V.n4 (dryP (hs.map toH) hung h m), truL_length hc]
  unfold lookN dryN
  rw [List.take_length]
/-- The looks tried, from any start. -/
def askG (hs : List S139) (hung : List Int) (ts : List (Nat → Int)) (st : Int × Int × Int) : Nat → Int × Int × Int
  | 0 => st
  | k + 1 => askM hs hung ts k (askG hs hung ts st k) 100
theorem askG_H (hs : List S139) (hung : List Int) (ts : List (Nat → Int)) : ∀ k, askG hs hung ts (0, 0, (ts.length : Int) + 1) k = askH hs hung ts k
  | 0 => rfl
  | k + 1 => by simp only [askG, askH, askG_H hs hung ts k]
theorem askM_start (hs : List S139) (hung : List Int) (ts : List (Nat → Int)) (k : Nat) (s1 s2 : Int × Int × Int) (h : askS hs hung ts k 0 s1 = askS hs hung ts k 0 s2) : ∀ b, askM hs hung ts k s1 (b + 1) = askM hs hung ts k s2 (b + 1)
  | 0 => h
  | b + 1 => by
    have := askM_start hs hung ts k s1 s2 h b
    show askS hs hung ts k (b + 1) (askM hs hung ts k s1 (b + 1)) = askS hs hung ts k (b + 1) (askM hs hung ts k s2 (b + 1))
    rw [this]
theorem askG_start (hs : List S139) (hung : List Int) (ts : List (Nat → Int)) (s1 s2 : Int × Int × Int) (h : askS hs hung ts 0 0 s1 = askS hs hung ts 0 0 s2) : ∀ k, askG hs hung ts s1 (k + 1) = askG hs hung ts s2 (k + 1)
  | 0 => askM_start hs hung ts 0 s1 s2 h 99
  | k + 1 => by
    have := askG_start hs hung ts s1 s2 h k
    show askM hs hung ts (k + 1) (askG hs hung ts s1 (k + 1)) 100 = askM hs hung ts (k + 1) (askG hs hung ts s2 (k + 1)) 100
    rw [this]
theorem look_bd (hs : List S139) (hung : List Int) (ts : List (Nat → Int)) (k : Nat) (b : Int) : lookN hs hung ts k b ≤ ts.length := by
  have := dry_le hs hung k b ts ts.length
  unfold lookN mx
  split <;> omega
theorem ask_l1 (hc : checkB cs cl (hs.map toH) hung (looks.map toL) = 0) (h : Nat) (hh : h < hs.length) (st : Int × Int × Int) : ∀ (d j k : Nat), j + d = 100 → d + 4001 ≤ k →
    posserref04_Ask.l1 k (truL (hs.map toH) hung (looks.map toL)) (askM (hs.map toH) hung (truthsT (hs.map toH) hung (looks.map toL)) h st j).1 (askM (hs.map toH) hung (truthsT (hs.map toH) hung (looks.map toL)) h st j).2.1 (askM (hs.map toH) hung (truthsT (hs.map toH) hung (looks.map toL)) h st j).2.2 h j cs cl hs hung looks =
      posserref04_Ask.l0 (k - d - 1) (truL (hs.map toH) hung (looks.map toL)) (askM (hs.map toH) hung (truthsT (hs.map toH) hung (looks.map toL)) h st 100).1 (askM (hs.map toH) hung (truthsT (hs.map toH) hung (looks.map toL)) h st 100).2.1 (askM (hs.map toH) hung (truthsT (hs.map toH) hung (looks.map toL)) h st 100).2.2 ((h + 1 : Nat) : Int) cs cl hs hung looks
  | 0, j, k, e, hk => by
    obtain ⟨k, rfl⟩ : ∃ m, k = m + 1 := ⟨k - 1, by omega⟩
    have h4 := (valid_of hc).n4
    simp only [List.length_map] at h4
    obtain rfl : j = 100 := by omega
    simp only [posserref04_Ask.l1]
    rw [if_neg (by omega), show wrap64 ((h : Int) + 1) = ((h + 1 : Nat) : Int) from by unfold wrap64; omega]
    rfl
  | d + 1, j, k, e, hk => by
    obtain ⟨k, rfl⟩ : ∃ m, k = m + 1 := ⟨k - 1, by omega⟩
    have ih := ask_l1 hc h hh st d (j + 1) k (by omega) (by omega)
    rw [show k + 1 - (d + 1) - 1 = k - d - 1 from by omega, ← ih]
    simp only [posserref04_Ask.l1]
    rw [if_pos (by omega), leaves_f hc h hh j k (by omega)]
    simp only [Option.bind_some]
    rw [show wrap64 ((j : Int) + 1) = ((j + 1 : Nat) : Int) from by unfold wrap64; omega]
    have e1 : askM (hs.map toH) hung (truthsT (hs.map toH) hung (looks.map toL)) h st (j + 1) = askS (hs.map toH) hung (truthsT (hs.map toH) hung (looks.map toL)) h j (askM (hs.map toH) hung (truthsT (hs.map toH) hung (looks.map toL)) h st j) := rfl
    rw [e1]
    unfold askS
    split <;> rfl
theorem askG_succ (hs : List S139) (hung : List Int) (ts : List (Nat → Int)) (st : Int × Int × Int) (k : Nat) : askG hs hung ts st (k + 1) = askM hs hung ts k (askG hs hung ts st k) 100 := by rw [askG]
theorem ask_l0 (hc : checkB cs cl (hs.map toH) hung (looks.map toL) = 0) (st : Int × Int × Int) : ∀ (d h k : Nat), h + d = hs.length → d * 102 + 4200 ≤ k →
    posserref04_Ask.l0 k (truL (hs.map toH) hung (looks.map toL)) (askG (hs.map toH) hung (truthsT (hs.map toH) hung (looks.map toL)) st h).1 (askG (hs.map toH) hung (truthsT (hs.map toH) hung (looks.map toL)) st h).2.1 (askG (hs.map toH) hung (truthsT (hs.map toH) hung (looks.map toL)) st h).2.2 h cs cl hs hung looks =
      some (askG (hs.map toH) hung (truthsT (hs.map toH) hung (looks.map toL)) st hs.length)
  | 0, h, k, e, hk => by
    obtain ⟨k, rfl⟩ : ∃ m, k = m + 1 := ⟨k - 1, by omega⟩
    obtain rfl : h = hs.length := by omega
    simp only [posserref04_Ask.l0]
    rw [if_neg (by omega)]
  | d + 1, h, k, e, hk => by
    obtain ⟨k, rfl⟩ : ∃ m, k = m + 1 := ⟨k - 1, by omega⟩
    have ih := ask_l0 hc st d (h + 1) (k - 100 - 1) (by omega) (by omega)
    rw [askG_succ] at ih
    have h1 := ask_l1 hc h (by omega) (askG (hs.map toH) hung (truthsT (hs.map toH) hung (looks.map toL)) st h) 100 0 k (by omega) (by omega)
    simp only [posserref04_Ask.l0]
    rw [if_pos (by omega)]
    rw [ih] at h1
    exact h1
/-- The reference's best look is the program's. -/
theorem ask_f (hc : checkB cs cl (hs.map toH) hung (looks.map toL) = 0) (hne : hs.length ≠ 0) (k : Nat) (hk : 6000 ≤ k) :
    posserref04_Ask.f k cs cl hs hung looks (truL (hs.map toH) hung (looks.map toL)) = some (askH (hs.map toH) hung (truthsT (hs.map toH) hung (looks.map toL)) hs.length) := by
  have h4 := (valid_of hc).n4
  simp only [List.length_map] at h4
  have hlen := truths_len hc
  have hb := look_bd (hs.map toH) hung (truthsT (hs.map toH) hung (looks.map toL)) 0 ((0 : Nat) : Int)
  have := ask_l0 hc (0, 0, 1099511627776) hs.length 0 k (by omega) (by omega)
  unfold posserref04_Ask.f
  refine this.trans ?_
  rw [← askG_H]
  obtain ⟨n, hn⟩ : ∃ n, hs.length = n + 1 := ⟨hs.length - 1, by omega⟩
  rw [hn]
  refine congrArg some (askG_start _ _ _ _ _ ?_ n)
  unfold askS
  rw [if_pos (by show lookN _ _ _ _ _ < (1099511627776 : Int); omega), if_pos (by show lookN _ _ _ _ _ < ((truthsT (hs.map toH) hung (looks.map toL)).length : Int) + 1; omega)]
end
end Go.Proofs.Ytokhmghgghjmhaa.Q
namespace Go.Proofs.Ytokhmghgghjmhaa.Q
open Go.RowKit Go.Proofs.YtokhmghgghjmhaaW.PrintWords Go.Proofs.YtokhmghgghjmhaaW.PrintLast Go.Proofs.YtokhmghgghjmhaaW.PrintMore
set_option linter.unusedVariables false
/-- Ranges that lie in memory. -/
def Bd (w : World) (A : Option Addr) (c : Nat) (l : List S61) : Prop := Kd.C k61 w A l.length l ∧ l.length ≤ c
theorem Bd.later {w w' : World} {A : Option Addr} {c : Nat} {l : List S61} (h : Bd w A c l) (hb : Below w.heap.size w w') : Bd w' A c l := ⟨Kd.C_below h.1 hb, h.2⟩
end Go.Proofs.Ytokhmghgghjmhaa.Q
namespace Go.Proofs.Ytokhmghgghjmhaa.Q
open Go.RowKit Go.Proofs.YtokhmghgghjmhaaW.PrintWords Go.Proofs.YtokhmghgghjmhaaW.PrintLast Go.Proofs.YtokhmghgghjmhaaW.PrintMore
set_option linter.unusedVariables false
/-- Truths that lie in memory. -/
def Tr (w : World) (A : Option Addr) (c : Nat) (L : List (List Int)) : Prop := Kd.C (Kd.slice 3 (Kd.int .i64)) w A L.length L ∧ L.length ≤ c
theorem Tr.later {w w' : World} {A : Option Addr} {c : Nat} {L : List (List Int)} (h : Tr w A c L) (hb : Below w.heap.size w w') : Tr w' A c L := ⟨Kd.C_below h.1 hb, h.2⟩
theorem Tr.at {w : World} {A : Option Addr} {c : Nat} {L : List (List Int)} (h : Tr w A c L) (i : Nat) (hi : i < L.length) : ∃ ad A0 c0, A = some ad ∧ w.cell? (ad.add i) = some (.slice A0 (rd_L9 L i).length c0) ∧ Ls .i64 w A0 c0 (rd_L9 L i) := by
  obtain ⟨ad, A0, c0, h1, h2, h3, h4⟩ := at_L9 h.1 i (by omega) (by omega)
  exact ⟨ad, A0, c0, h1, by rwa [Int.toNat_natCast] at h2, h4, h3⟩
end Go.Proofs.Ytokhmghgghjmhaa.Q
namespace Go.Proofs.Ytokhmghgghjmhaa.Q
open Go.RowKit Go.Proofs.YtokhmghgghjmhaaW.PrintWords Go.Proofs.YtokhmghgghjmhaaW.PrintLast Go.Proofs.YtokhmghgghjmhaaW.PrintMore
set_option linter.unusedVariables false
section
variable {cs cl : Int} {A2 A3 A4 : Option Addr} {c2 c3 c4 : Nat} {hs : List S68} {hung : List Int} {looks : List S84} {w : World}
theorem sure_q (M : Ref w A2 A3 A4 c2 c3 c4 hs hung looks) {code : Int} {L : List (List Int)} (hc : askCode cs cl (hs.map toH) hung (looks.map toL) true = code) (hL : (if code = 0 then truL (hs.map toH) hung (looks.map toL) else []) = L) :
    Calls Try.prog 32 #[.agg #[.int .i64 cs, .int .i64 cl, .slice A2 hs.length c2, .slice A3 hung.length c3, .slice A4 looks.length c4]] w
      fun e w' => ∃ B d, e = .returned (.tuple #[.slice B L.length d, .int .i64 code]) ∧ (Kd.C (Kd.slice 3 (Kd.int .i64)) w' B L.length L ∧ L.length ≤ d) ∧ Below w.heap.size w w' := by
  have hf := placed_f (cs := cs) (cl := cl) (hs := hs) (hung := hung) (looks := looks) true 6000 (Nat.le_refl _)
  rw [hc, hL] at hf
  have hf2 : posserlaw04_sure.f 6000 cs cl hs hung looks = some (L, code) := by unfold posserlaw04_sure.f; rw [hf]; rfl
  refine (posserlaw04_sure.calls 6000 cs cl A2 c2 hs A3 c3 hung A4 c4 looks L code w M.h2 M.l2 M.h3 M.l3 M.h4 M.l4 hf2).mono ?_
  rintro e w' ⟨v, rfl, hS, hb⟩
  have hR := Kd.S_R hS
  obtain ⟨B, d, rfl⟩ := Kd.R_slice hR
  have h2 := Kd.R_reads' hR
  exact ⟨B, d, rfl, ⟨h2.2.2, h2.2.1⟩, hb⟩
theorem ask_q {n2 n3 n4 : Nat} {s : Int × Int × Int × Int} (C : Cls w A2 A3 A4 c2 c3 c4 n2 n3 n4 hs hung looks) (hs' : askR cs cl (hs.map toH) hung (looks.map toL) = s) :
    Calls Try.prog 31 #[.agg #[.int .i64 cs, .int .i64 cl, .slice A2 n2 c2, .slice A3 n3 c3, .slice A4 n4 c4]] w fun e w' => e = .returned (.tuple #[.int .i64 s.1, .int .i64 s.2.1, .int .i64 s.2.2.1, .int .i64 s.2.2.2]) ∧ Below w.heap.size w w' := by
  obtain ⟨rfl, rfl, rfl, M⟩ := C
  have := askX_calls cs cl M
  rw [hs'] at this
  exact this
end
theorem ask_cases (cs cl : Int) (hs : List S68) (hung : List Int) (looks : List S84) {code : Int} (hc : askCode cs cl (hs.map toH) hung (looks.map toL) true = code) :
    (code ≠ 0 ∧ askR cs cl (hs.map toH) hung (looks.map toL) = (0, 0, 0, code)) ∨ (code = 0 ∧ hs.length = 0 ∧ askR cs cl (hs.map toH) hung (looks.map toL) = (0, 0, 0, 7)) ∨
    (code = 0 ∧ hs.length ≠ 0 ∧ ∃ a b c : Int, posserref04_Ask.f 6000 cs cl hs hung looks (truL (hs.map toH) hung (looks.map toL)) = some (a, b, c) ∧ askR cs cl (hs.map toH) hung (looks.map toL) = (a, b, c, 0)) := by
  subst hc
  by_cases hc : askCode cs cl (hs.map toH) hung (looks.map toL) true = 0
  · by_cases h0 : hs.length = 0
    · refine .inr (.inl ⟨hc, h0, ?_⟩)
      unfold askR
      rw [if_neg (by simp [hc]), if_pos (by rw [List.length_map]; exact h0)]
    · refine .inr (.inr ⟨hc, h0, ?_⟩)
      have hck : checkB cs cl (hs.map toH) hung (looks.map toL) = 0 := by
        unfold askCode at hc
        split at hc
        · rename_i h; exact absurd hc h
        · rename_i h; exact Decidable.byContradiction h
      refine ⟨_, _, _, ask_f hck h0 6000 (Nat.le_refl _), ?_⟩
      unfold askR
      rw [if_neg (by simp [hc]), if_neg (by rw [List.length_map]; exact h0), List.length_map]
  · refine .inl ⟨hc, ?_⟩
    unfold askR
    rw [if_pos hc]
set_option maxHeartbeats 4000000 in
set_option maxRecDepth 100000 in
theorem ask_walk {cs cl : Int} {A2 A3 A4 : Option Addr} {c2 c3 c4 : Nat} {hs : List S68} {hung : List Int} {looks : List S84} {w : World} (M : Ref w A2 A3 A4 c2 c3 c4 hs hung looks) :
    Calls Try.prog 4 #[.agg #[.int .i64 cs, .int .i64 cl, .slice A2 hs.length c2, .slice A3 hung.length c3, .slice A4 looks.length c4]] w fun e w' => e = .returned (.bool true) ∧ Below w.heap.size w w' := by
  have HM := Aside0.mk M
  clear M
  obtain ⟨W0, hW0⟩ : ∃ W0, w.alloc (.cells #[.int .i64 cs, .int .i64 cl, .slice A2 hs.length c2, .slice A3 hung.length c3, .slice A4 looks.length c4] 26) = W0 := ⟨_, rfl⟩
  have HB0 := Aside0.mk (show Below w.heap.size w W0 from by rw [← hW0]; exact below_alloc (Below.refl _ _) _)
  have HBK := Aside0.mk (show W0.heap[w.heap.size]? = some (.cells #[.int .i64 cs, .int .i64 cl, .slice A2 hs.length c2, .slice A3 hung.length c3, .slice A4 looks.length c4] 26 (0, 0)) from by rw [← hW0]; exact blk_new _ _)
  have b0 : W0.cell? ⟨w.heap.size, 0, none⟩ = some (.int .i64 cs) := (blk_cell HBK.out 0).trans rfl
  have b1 : W0.cell? ⟨w.heap.size, 1, none⟩ = some (.int .i64 cl) := (blk_cell HBK.out 1).trans rfl
  have b2 : W0.cell? ⟨w.heap.size, 2, none⟩ = some (.slice A2 hs.length c2) := (blk_cell HBK.out 2).trans rfl
  have b3 : W0.cell? ⟨w.heap.size, 3, none⟩ = some (.slice A3 hung.length c3) := (blk_cell HBK.out 3).trans rfl
  have b4 : W0.cell? ⟨w.heap.size, 4, none⟩ = some (.slice A4 looks.length c4) := (blk_cell HBK.out 4).trans rfl
  go_enter Try.func4, Try.ntmps4
  obtain ⟨th, hth⟩ : ∃ th, decide (hs.length ≤ 30 ∧ hung.length ≤ 30 ∧ looks.length ≤ 30) = th := ⟨_, rfl⟩
  have HTH := Aside0.mk hth
  have HF := Aside0.mk (show posserlaw04_Thin.f cs cl hs hung looks = some th from by rw [thin_f, hth])
  clear hth
  go_wp2_with (rw [hW0])
  try rw [hW0]
  clear hW0
  refine (posserlaw04_Thin.calls cs cl A2 c2 hs A3 c3 hung A4 c4 looks th _ (HM.out.later HB0.out).h2 HM.out.l2 (HM.out.later HB0.out).h3 HM.out.l3 (HM.out.later HB0.out).h4 HM.out.l4 HF.out).mono ?_
  rintro e w1 ⟨rfl, hb⟩
  have HB1 := Aside0.mk (below_step HB0.out hb)
  have HK1 := Aside0.mk (blk_below HBK.out hb)
  clear hb b0 b1 b2 b3 b4
  cases th with
  | false =>
    go_wp2_with fail
    refine (awake_calls _).mono ?_
    rintro e w2 ⟨rfl, hb⟩
    have HB2 := Aside0.mk (below_step HB1.out hb)
    clear hb
    go_wp2_with fail
    go_ret
    exact ⟨rfl, HB2.out⟩
  | true =>
  have HT := Aside0.mk (of_decide_eq_true HTH.out)
  have b0 : w1.cell? ⟨w.heap.size, 0, none⟩ = some (.int .i64 cs) := (blk_cell HK1.out 0).trans rfl
  have b1 : w1.cell? ⟨w.heap.size, 1, none⟩ = some (.int .i64 cl) := (blk_cell HK1.out 1).trans rfl
  have b2 : w1.cell? ⟨w.heap.size, 2, none⟩ = some (.slice A2 hs.length c2) := (blk_cell HK1.out 2).trans rfl
  have b3 : w1.cell? ⟨w.heap.size, 3, none⟩ = some (.slice A3 hung.length c3) := (blk_cell HK1.out 3).trans rfl
  have b4 : w1.cell? ⟨w.heap.size, 4, none⟩ = some (.slice A4 looks.length c4) := (blk_cell HK1.out 4).trans rfl
  go_wp2_with fail
  refine (refcl_q (HM.out.later HB1.out) (by have := HT.out; omega) (by have := HT.out; omega) (by have := HT.out; omega)).mono ?_
  rintro e w2 ⟨B2, B3, B4, d2, d3, d4, n2, n3, n4, rfl, hcl, hb⟩
  have HB2 := Aside0.mk (below_step HB1.out hb)
  have HK2 := Aside0.mk (blk_below HK1.out hb)
  have HCL := Aside0.mk hcl
  clear hb hcl b0 b1 b2 b3 b4
  obtain ⟨s, hs0⟩ : ∃ s, askR cs cl (hs.map toH) hung (looks.map toL) = s := ⟨_, rfl⟩
  have HS := Aside0.mk hs0
  clear hs0
  go_wp2_with fail
  refine (ask_q HCL.out HS.out).mono ?_
  rintro e w3 ⟨rfl, hb⟩
  have HB3 := Aside0.mk (below_step HB2.out hb)
  have HK3 := Aside0.mk (blk_below HK2.out hb)
  clear hb
  obtain ⟨code, hcode⟩ : ∃ code, askCode cs cl (hs.map toH) hung (looks.map toL) true = code := ⟨_, rfl⟩
  have HCODE := Aside0.mk hcode
  clear hcode
  obtain ⟨L, hL⟩ : ∃ L, (if code = 0 then truL (hs.map toH) hung (looks.map toL) else []) = L := ⟨_, rfl⟩
  have HLL := Aside0.mk hL
  clear hL
  have b0 : w3.cell? ⟨w.heap.size, 0, none⟩ = some (.int .i64 cs) := (blk_cell HK3.out 0).trans rfl
  have b1 : w3.cell? ⟨w.heap.size, 1, none⟩ = some (.int .i64 cl) := (blk_cell HK3.out 1).trans rfl
  have b2 : w3.cell? ⟨w.heap.size, 2, none⟩ = some (.slice A2 hs.length c2) := (blk_cell HK3.out 2).trans rfl
  have b3 : w3.cell? ⟨w.heap.size, 3, none⟩ = some (.slice A3 hung.length c3) := (blk_cell HK3.out 3).trans rfl
  have b4 : w3.cell? ⟨w.heap.size, 4, none⟩ = some (.slice A4 looks.length c4) := (blk_cell HK3.out 4).trans rfl
  go_wp2_with fail
  refine (sure_q (HM.out.later HB3.out) HCODE.out HLL.out).mono ?_
  rintro e w4 ⟨E, dE, rfl, hE, hb⟩
  have HE := Aside0.mk hE
  have HB4 := Aside0.mk (below_step HB3.out hb)
  have HK4 := Aside0.mk (blk_below HK3.out hb)
  clear hE hb b0 b1 b2 b3 b4
  have b0 : w4.cell? ⟨w.heap.size, 0, none⟩ = some (.int .i64 cs) := (blk_cell HK4.out 0).trans rfl
  have b1 : w4.cell? ⟨w.heap.size, 1, none⟩ = some (.int .i64 cl) := (blk_cell HK4.out 1).trans rfl
  have b2 : w4.cell? ⟨w.heap.size, 2, none⟩ = some (.slice A2 hs.length c2) := (blk_cell HK4.out 2).trans rfl
  have b3 : w4.cell? ⟨w.heap.size, 3, none⟩ = some (.slice A3 hung.length c3) := (blk_cell HK4.out 3).trans rfl
  have b4 : w4.cell? ⟨w.heap.size, 4, none⟩ = some (.slice A4 looks.length c4) := (blk_cell HK4.out 4).trans rfl
  rcases ask_cases cs cl hs hung looks HCODE.out with ⟨hc, hs2⟩ | ⟨hc, hn, hs2⟩ | ⟨hc, hn, a, bb, cc, hd, hs2⟩
  · rw [HS.out] at hs2
    subst hs2
    have h1 : (code != 0) = true := by rw [bne_iff_ne]; exact hc
    have h2 : (code == 0) = false := beq_eq_false_iff_ne.2 hc
    clear hc
    go_wp2_with fail
    refine (awake_calls _).mono ?_
    rintro e w6 ⟨rfl, hb⟩
    have HB6 := Aside0.mk (below_step HB4.out hb)
    clear hb
    go_wp2_with fail
    go_ret
    exact ⟨rfl, HB6.out⟩
  · rw [HS.out] at hs2
    subst hs2 hc
    have h2 : ((hs.length : Int) == 0) = true := by rw [beq_iff_eq]; omega
    go_wp2_with fail
    refine (awake_calls _).mono ?_
    rintro e w6 ⟨rfl, hb⟩
    have HB6 := Aside0.mk (below_step HB4.out hb)
    clear hb
    go_wp2_with fail
    go_ret
    exact ⟨rfl, HB6.out⟩
  · rw [HS.out] at hs2
    subst hs2 hc
    have h2 : ((hs.length : Int) == 0) = false := beq_eq_false_iff_ne.2 (by omega)
    have HD := Aside0.mk (show posserref04_Ask.f 6000 cs cl hs hung looks L = some (a, bb, cc) from by
      have h := HLL.out
      rw [if_pos rfl] at h
      rw [← h]
      exact hd)
    clear hd
    go_wp2_with fail
    refine (posserref04_Ask.calls 6000 cs cl A2 c2 hs A3 c3 hung A4 c4 looks E dE L a bb cc _ (HM.out.later HB4.out).h2 HM.out.l2 (HM.out.later HB4.out).h3 HM.out.l3 (HM.out.later HB4.out).h4 HM.out.l4 HE.out.1 HE.out.2 HD.out).mono ?_
    rintro e w6 ⟨rfl, hb⟩
    have HB6 := Aside0.mk (below_step HB4.out hb)
    clear hb
    go_wp2_with fail
    refine (awake_calls _).mono ?_
    rintro e w7 ⟨rfl, hb⟩
    have HB7 := Aside0.mk (below_step HB6.out hb)
    clear hb
    go_wp2_with fail
    go_ret
    exact ⟨rfl, HB7.out⟩
end Go.Proofs.Ytokhmghgghjmhaa.Q
namespace Go.Proofs.Ytokhmghgghjmhaa.Q
open Go.RowKit Go.Proofs.YtokhmghgghjmhaaW.PrintWords Go.Proofs.YtokhmghgghjmhaaW.PrintLast Go.Proofs.YtokhmghgghjmhaaW.PrintMore
set_option linter.unusedVariables false
/-- Horses of a law's own: a row of a block that it made. -/
def Hr (w : World) (base : Nat) (A : Option Addr) (d : Nat) (hs : List S68) (ok : Nat → Prop) : Prop := Kd.R k68 68 w base ok (.slice A hs.length d) hs
theorem Hr.later {w w' : World} {base : Nat} {A : Option Addr} {d : Nat} {hs : List S68} {ok : Nat → Prop} (h : Hr w base A d hs ok) (hb : Below w.heap.size w w') : Hr w' base A d hs ok := Kd.R_below h hb
theorem Hr.reads {w : World} {base : Nat} {A : Option Addr} {d : Nat} {hs : List S68} {ok : Nat → Prop} (h : Hr w base A d hs ok) : Kd.C k68 w A hs.length hs ∧ hs.length ≤ d := by
  have h2 := Kd.R_reads' h
  exact ⟨h2.2.2, h2.2.1⟩
/-- A field of one horse is written. -/
theorem Hr.put {w : World} {base g d : Nat} {hs : List S68} {ok : Nat → Prop} (h : Hr w base (some ⟨g, 0, none⟩) d hs ok) (k : Nat) (hk : k < hs.length) (j : Nat) (hj : j < 4) (v : Int) (x : S68)
    (hx : ([.int .i64 (rd_T68 hs k).f0.f0, .int .i64 (rd_T68 hs k).f0.f1, .int .i64 (rd_T68 hs k).f1, .int .i64 (rd_T68 hs k).f2] : List Value).set j (.int .i64 v) = [.int .i64 x.f0.f0, .int .i64 x.f0.f1, .int .i64 x.f1, .int .i64 x.f2]) :
    Hr (w.setCell ⟨g, k * 4 + j, none⟩ (.int .i64 v)) base (some ⟨g, 0, none⟩) d (hs.set k x) ok := by
  obtain ⟨c, hcl, hM, hcc, hfr⟩ := Kd.R_elem h z68 (k : Int) (by omega) (by omega)
  rw [Int.toNat_natCast] at hM hcc
  have hc : c = [.int .i64 (rd_T68 hs k).f0.f0, .int .i64 (rd_T68 hs k).f0.f1, .int .i64 (rd_T68 hs k).f1, .int .i64 (rd_T68 hs k).f2] := by
    have := k68_openM hM
    exact this
  have e : c.take j ++ [.int .i64 v] ++ c.drop (j + 1) = [.int .i64 x.f0.f0, .int .i64 x.f0.f1, .int .i64 x.f1, .int .i64 x.f2] := by
    rw [← hx, hc]
    rcases j with _ | _ | _ | _ | j
    · rfl
    · rfl
    · rfl
    · rfl
    · omega
  have hs2 := (Kd.R_seg h (k : Int) (by omega) (by omega) (seg := [.int .i64 v]) (j := j) (by exact hcl) (by rw [Int.toNat_natCast]; exact hcc) (show j + 1 ≤ 4 by omega) (x' := x) (okp := fun k' => ok k' ∧ k' ≠ g) (by
    show k68.M w base _ x (c.take j ++ [.int .i64 v] ++ c.drop (j + 1))
    rw [e]; exact k68_mkM _ _ _ x) (fun _ hk => hk)).1
  rw [Int.toNat_natCast] at hs2
  unfold Hr
  rw [List.length_set]
  exact hs2
theorem Hr.at {w : World} {base g d : Nat} {hs : List S68} {ok : Nat → Prop} (h : Hr w base (some ⟨g, 0, none⟩) d hs ok) (k : Nat) (hk : k < hs.length) :
    w.cell? ⟨g, k * 4, none⟩ = some (.int .i64 (rd_T68 hs k).f0.f0) ∧ w.cell? ⟨g, k * 4 + 1, none⟩ = some (.int .i64 (rd_T68 hs k).f0.f1) ∧ w.cell? ⟨g, k * 4 + 2, none⟩ = some (.int .i64 (rd_T68 hs k).f1) ∧ w.cell? ⟨g, k * 4 + 3, none⟩ = some (.int .i64 (rd_T68 hs k).f2) ∧ ∀ j, w.frozen? ⟨g, k * 4 + j, none⟩ = false := by
  obtain ⟨c, hcl, hM, hcc, hfr⟩ := Kd.R_elem h z68 (k : Int) (by omega) (by omega)
  rw [Int.toNat_natCast] at hM hcc hfr
  obtain rfl := k68_openM hM
  exact ⟨hcc 0 _ rfl, hcc 1 _ rfl, hcc 2 _ rfl, hcc 3 _ rfl, hfr⟩
theorem Hr.form {w : World} {base : Nat} {A : Option Addr} {d : Nat} {hs : List S68} {ok : Nat → Prop} (h : Hr w base A d hs ok) (hp : 0 < hs.length) : ∃ g, A = some ⟨g, 0, none⟩ ∧ base ≤ g ∧ g < w.heap.size := by
  obtain ⟨g, cap, e, h1, h2, _⟩ := Kd.R_form h hp
  injection e with e1 e2 e3
  exact ⟨g, e1, h1, h2⟩
end Go.Proofs.Ytokhmghgghjmhaa.Q
