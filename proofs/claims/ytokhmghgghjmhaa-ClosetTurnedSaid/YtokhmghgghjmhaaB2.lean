/- Part B2 of the proof (QC, P0, Fault, QD, QH, P1, P4, P5, P6): contracts of functions, and plain lemmas about what they compute. -/
import Derived.Test.YtokhmghgghjmhaaA0
import Derived.Test.YtokhmghgghjmhaaA1
import Derived.Test.YtokhmghgghjmhaaA2
import Derived.Test.YtokhmghgghjmhaaA3
import Derived.Test.YtokhmghgghjmhaaA4
import Derived.Test.YtokhmghgghjmhaaB0
import Derived.Test.YtokhmghgghjmhaaB1
namespace Go.Proofs.Ytokhmghgghjmhaa.Q
open Go.RowKit Go.Proofs.YtokhmghgghjmhaaW.PrintWords Go.Proofs.YtokhmghgghjmhaaW.PrintLast Go.Proofs.YtokhmghgghjmhaaW.PrintMore
attribute [local go_sem] max2_int min2_int max_two min_two max_three min_three max_four min_four   -- for this text's walks alone
set_option linter.unusedVariables false
set_option linter.unusedSimpArgs false
def posserref04_Size.f (a0_0 : Int) (a0_1 : Int) : Option (Int) := some (wrap64 ((wrap64 (a0_1 - a0_0)) + 1))
set_option maxHeartbeats 8000000 in
set_option maxRecDepth 100000 in
theorem posserref04_Size.calls (a0_0 : Int) (a0_1 : Int) (r : Int) (w : World) (h : posserref04_Size.f a0_0 a0_1 = some r) :
    Calls Try.prog 97 #[.agg #[.int .i64 a0_0, .int .i64 a0_1]] w fun e w' => e = .returned (.int .i64 r) ∧ Below w.heap.size w w' := by
  have hu66 := Try.underlying66
  have HB := Aside0.mk (Below.refl w.heap.size w)
  have H : (some (wrap64 ((wrap64 (a0_1 - a0_0)) + 1))) = some r := h
  clear h
  obtain rfl := Option.some.inj H
  go_enter Try.func97, Try.ntmps97
  go_wp2_with (first | ((with_reducible refine gate_dst (N := 1) rfl ?_); refine box_event ?hg (N := 1) ?hd (cs := #[.int .i64 a0_0, .int .i64 a0_1]) (t := 66) ?hr ?_; (case hd => rfl); (case hg => rfl); (case hr => first | (go_simp; done) | (go_simp; rfl)); intro gb153 hg w2 hbox hb; have n0_ := Aside0.mk (below_step (by repeat (first | (with_reducible first | exact HB.out | apply below_alloc | apply pw_below_drewN | apply below_drew1) | exact HB.out)) hb); have n1_ := Aside0.mk (hbox); have n2_ := Aside0.mk ((by rw [hg]; exact (below_size (by repeat (first | (with_reducible first | exact HB.out | apply below_alloc | apply pw_below_drewN | apply below_drew1) | exact HB.out))) : w.heap.size ≤ gb153)); have n3_ := Aside0.mk ((by rw [hg]; exact (below_size (by repeat (first | (with_reducible first | exact HB.out | apply below_alloc | apply pw_below_drewN | apply below_drew1) | exact HB.out))) : w.heap.size ≤ gb153)); clear HB; have HB := n0_; have BK153 := n1_; have GW153 := n2_; have GE153 := n3_; clear n0_ n1_ n2_ n3_; clear hb hbox hg; have hcz3_0 : w2.cell? ⟨gb153, 0, none⟩ = some (.int .i64 a0_0) := (blk_cell BK153.out 0).trans rfl; have hcz3_1 : w2.cell? ⟨gb153, 1, none⟩ = some (.int .i64 a0_1) := (blk_cell BK153.out 1).trans rfl; have hfz3_0 := blk_frozen BK153.out 0; have hfz3_1 := blk_frozen BK153.out 1))
  go_ret
  exact ⟨by first | rfl | (simp [errW_none, errW_some] <;> rfl) | (simp [*, errW_none, errW_some] <;> rfl), by repeat (first | (with_reducible first | exact HB.out | apply below_alloc | apply pw_below_drewN | apply below_drew1 | refine below_set ?_ GE153.out) | exact HB.out)⟩
def posserref04_Many.l0 : Nat → Int → Int → Int → Int → List (S68) → List Int → List (S84) → Option (Int)
  | 0, _, _, _, _, _, _, _ => none
  | k + 1, x3, x4, x163000, x163001, x163002, x163003, x163004 => if x4 < (x163002.length : Int) then (if 0 ≤ x4 then ((posserref04_Size.f ((rd_T68 x163002 x4).f0.f0) ((rd_T68 x163002 x4).f0.f1)).bind fun t164 => (posserref04_Many.l0 k (mn 3000 (wrap64 (x3 * t164))) (wrap64 (x4 + 1)) x163000 x163001 x163002 x163003 x163004)) else (none)) else (some x3)
def posserref04_Many.f (k : Nat) (a0_0 : Int) (a0_1 : Int) (l0_2 : List (S68)) (l0_3 : List Int) (l0_4 : List (S84)) : Option (Int) := posserref04_Many.l0 k 1 0 a0_0 a0_1 l0_2 l0_3 l0_4
set_option maxHeartbeats 8000000 in
set_option maxRecDepth 100000 in
theorem posserref04_Many.calls (k : Nat) (a0_0 : Int) (a0_1 : Int) (A0_2 : Option Addr) (c0_2 : Nat) (l0_2 : List (S68)) (A0_3 : Option Addr) (c0_3 : Nat) (l0_3 : List Int) (A0_4 : Option Addr) (c0_4 : Nat) (l0_4 : List (S84)) (r : Int) (w : World) (hr0_2 : Kd.C k68 w A0_2 l0_2.length l0_2) (hc0_2 : l0_2.length ≤ c0_2) (hr0_3 : Kd.C (Kd.int .i64) w A0_3 l0_3.length l0_3) (hc0_3 : l0_3.length ≤ c0_3) (hr0_4 : Kd.C k84 w A0_4 l0_4.length l0_4) (hc0_4 : l0_4.length ≤ c0_4) (h : posserref04_Many.f k a0_0 a0_1 l0_2 l0_3 l0_4 = some r) :
    Calls Try.prog 47 #[.agg #[.int .i64 a0_0, .int .i64 a0_1, .slice A0_2 l0_2.length c0_2, .slice A0_3 l0_3.length c0_3, .slice A0_4 l0_4.length c0_4]] w fun e w' => e = .returned (.int .i64 r) ∧ Below w.heap.size w w' := by
  have hu26 := Try.underlying26
  have hu66 := Try.underlying66
  have HR0_2 := Aside0.mk hr0_2
  have HC0_2 := Aside0.mk hc0_2
  clear hr0_2 hc0_2
  have HR0_3 := Aside0.mk hr0_3
  have HC0_3 := Aside0.mk hc0_3
  clear hr0_3 hc0_3
  have HR0_4 := Aside0.mk hr0_4
  have HC0_4 := Aside0.mk hc0_4
  clear hr0_4 hc0_4
  have HB := Aside0.mk (Below.refl w.heap.size w)
  have H : (posserref04_Many.l0 k 1 0 a0_0 a0_1 l0_2 l0_3 l0_4) = some r := h
  clear h
  have H' := Aside0.mk H
  clear H
  go_enter Try.func47, Try.ntmps47
  go_wp2_with (first | ((with_reducible refine gate_dst (N := 1) rfl ?_); refine box_event ?hg (N := 1) ?hd (cs := #[.int .i64 a0_0, .int .i64 a0_1, .slice A0_2 l0_2.length c0_2, .slice A0_3 l0_3.length c0_3, .slice A0_4 l0_4.length c0_4]) (t := 26) ?hr ?_; (case hd => rfl); (case hg => rfl); (case hr => first | (go_simp; done) | (go_simp; rfl)); intro gb162 hg w2 hbox hb; have n0_ := Aside0.mk (below_step (by repeat (first | (with_reducible first | exact HB.out | apply below_alloc | apply pw_below_drewN | apply below_drew1) | exact HB.out)) hb); have n1_ := Aside0.mk (hbox); have n2_ := Aside0.mk ((by rw [hg]; exact (below_size (by repeat (first | (with_reducible first | exact HB.out | apply below_alloc | apply pw_below_drewN | apply below_drew1) | exact HB.out))) : w.heap.size ≤ gb162)); have n3_ := Aside0.mk ((by rw [hg]; exact (below_size (by repeat (first | (with_reducible first | exact HB.out | apply below_alloc | apply pw_below_drewN | apply below_drew1) | exact HB.out))) : w.heap.size ≤ gb162)); clear HB; have HB := n0_; have BK162 := n1_; have GW162 := n2_; have GE162 := n3_; clear n0_ n1_ n2_ n3_; clear hb hbox hg))
  go_loopg [3, 4] k (fun kq v3 v4 w' => ∃ (x3_1 : Int) (x4_1 : Int), v3 = .int .i64 x3_1 ∧ v4 = .int .i64 x4_1 ∧ Aside0 (posserref04_Many.l0 kq x3_1 x4_1 a0_0 a0_1 l0_2 l0_3 l0_4 = some r) ∧ Aside0 (kq ≤ k) ∧ Aside0 (w'.heap[gb162]? = some (.cells #[.int .i64 a0_0, .int .i64 a0_1, (.slice A0_2 l0_2.length c0_2), (.slice A0_3 l0_3.length c0_3), (.slice A0_4 l0_4.length c0_4)] 26 (0, 0))) ∧ Aside0 (Below w.heap.size w w'))
  case atStart => exact ⟨(1), (0), (by first | rfl | (simp; done) | (simp [*]; done)), (by first | rfl | (simp; done) | (simp [*]; done)), H', ⟨Nat.le_refl _⟩, ⟨by (with_reducible repeat (first | refine blk_drewN ?_ _ | refine blk_drew ?_ | refine blk_alloc ?_ _)); exact BK162.out⟩, ⟨by repeat (first | (with_reducible first | exact HB.out | apply below_alloc | apply pw_below_drewN | apply below_drew1 | refine below_set ?_ GE162.out) | exact HB.out)⟩⟩
  case round =>
    clear H'
    try clear p2
    obtain ⟨x3_1, x4_1, rfl, rfl, HA, HK1, BK162, HB⟩ := hrel
    cases gk with
    | zero => exact absurd HA.out (by simp [posserref04_Many.l0])
    | succ k1 =>
      have H := HA.out
      clear HA
      simp only [posserref04_Many.l0] at H
      by_cases c3 : x4_1 < (l0_2.length : Int)
      · rw [if_pos c3] at H
        have c3b0 : decide (x4_1 < (l0_2.length : Int)) = true := decide_eq_true c3
        clear c3
        by_cases c4 : 0 ≤ x4_1
        · rw [if_pos c4] at H
          have c4b0 : decide (0 ≤ x4_1) = true := decide_eq_true c4
          clear c4
          replace H := Option.bind_eq_some_iff.mp H
          obtain ⟨t164, A50, H⟩ := H
          replace H : (posserref04_Many.l0 k1 (mn 3000 (wrap64 (x3_1 * t164))) (wrap64 (x4_1 + 1)) a0_0 a0_1 l0_2 l0_3 l0_4) = some r := H
          have A5 := Aside0.mk A50
          clear A50
          obtain ⟨ji6, hji6⟩ : ∃ j_ : Int, (mn 3000 (wrap64 (x3_1 * t164))) = j_ := ⟨_, rfl⟩
          replace H : (posserref04_Many.l0 k1 ji6 (wrap64 (x4_1 + 1)) a0_0 a0_1 l0_2 l0_3 l0_4) = some r := by first | (rw [hji6] at H; exact H) | (simp only [hji6] at H ⊢; exact H)
          (try rw [hji6] at A5)
          have hji6_ : (if (wrap64 (x3_1 * t164)) < 3000 then (wrap64 (x3_1 * t164)) else 3000) = ji6 := hji6
          have H' := Aside0.mk H
          clear H
          have hcz7_0 : wr.cell? ⟨gb162, 0, none⟩ = some (.int .i64 a0_0) := (blk_cell BK162.out 0).trans rfl
          have hcz7_1 : wr.cell? ⟨gb162, 1, none⟩ = some (.int .i64 a0_1) := (blk_cell BK162.out 1).trans rfl
          have hcz7_2 : wr.cell? ⟨gb162, 2, none⟩ = some (.slice A0_2 l0_2.length c0_2) := (blk_cell BK162.out 2).trans rfl
          have hcz7_3 : wr.cell? ⟨gb162, 3, none⟩ = some (.slice A0_3 l0_3.length c0_3) := (blk_cell BK162.out 3).trans rfl
          have hcz7_4 : wr.cell? ⟨gb162, 4, none⟩ = some (.slice A0_4 l0_4.length c0_4) := (blk_cell BK162.out 4).trans rfl
          have hfz7_0 := blk_frozen BK162.out 0
          have hfz7_1 := blk_frozen BK162.out 1
          have hfz7_2 := blk_frozen BK162.out 2
          have hfz7_3 := blk_frozen BK162.out 3
          have hfz7_4 := blk_frozen BK162.out 4
          have p163 : 0 ≤ (x4_1 : Int) := of_decide_eq_true (by first | (with_reducible assumption) | assumption)
          have q163 : x4_1 < (l0_2.length : Int) := of_decide_eq_true (by first | (with_reducible assumption) | assumption)
          obtain ⟨ad163, e163, hx163_0, hx163_1, hx163_2, hx163_3⟩ := at_T68 HR0_2.out x4_1 p163 q163
          cases e163
          replace hx163_0 := (HB.out.cell (World.block_lt_of_cell? w _ hx163_0)).trans hx163_0
          replace hx163_1 := (HB.out.cell (World.block_lt_of_cell? w _ hx163_1)).trans hx163_1
          replace hx163_2 := (HB.out.cell (World.block_lt_of_cell? w _ hx163_2)).trans hx163_2
          replace hx163_3 := (HB.out.cell (World.block_lt_of_cell? w _ hx163_3)).trans hx163_3
          replace p163 := eq_true p163
          replace q163 := eq_true q163
          go_wp2_with (first | ((with_reducible refine gate_callee (f := 97) rfl ?_); refine goesL_ (some 19) rfl rfl Try.func97 (by kernel_rfl) rfl #[.agg #[.int .i64 ((rd_T68 l0_2 x4_1).f0.f0), .int .i64 ((rd_T68 l0_2 x4_1).f0.f1)]] rfl (by (try simp only [List.map_toArray, List.map_cons, List.map_nil]); first | done | rfl | (simp only [List.length_drop, List.length_take]; rfl)) ?_; (with_reducible refine (posserref04_Size.calls ((rd_T68 l0_2 x4_1).f0.f0) ((rd_T68 l0_2 x4_1).f0.f1) t164 _ A5.out).mono ?_); rintro e w8 ⟨rfl, hb⟩; refine ⟨_, rfl, ?_⟩; have n0_ := Aside0.mk (blk_below (g := gb162) (o := .cells #[.int .i64 a0_0, .int .i64 a0_1, .slice (some ad163) l0_2.length c0_2, .slice A0_3 l0_3.length c0_3, .slice A0_4 l0_4.length c0_4] 26 (0, 0)) (by (with_reducible repeat (first | refine blk_drewN ?_ _ | refine blk_drew ?_ | refine blk_alloc ?_ _)); exact BK162.out) hb); have n1_ := Aside0.mk (below_step (by repeat (first | (with_reducible first | exact HB.out | apply below_alloc | apply pw_below_drewN | apply below_drew1 | refine below_set ?_ GE162.out) | exact HB.out)) hb); clear BK162; clear HB; have BK162 := n0_; have HB := n1_; clear n0_ n1_; (try clear hb); (try clear hb2); (try clear hk); (try clear hi)))
          go_roundg k1
          case measure => have := HK1.out; omega
          case rel => exact ⟨(ji6), (wrap64 (x4_1 + 1)), (by first | rfl | (simp; done) | (simp only [← hji6] <;> (first | rfl | simp)) | (simp [*]; done)), (by first | rfl | (simp; done) | (simp [*]; done)), H', ⟨by have := HK1.out; omega⟩, ⟨by (with_reducible repeat (first | refine blk_drewN ?_ _ | refine blk_drew ?_ | refine blk_alloc ?_ _)); exact BK162.out⟩, ⟨by repeat (first | (with_reducible first | exact HB.out | apply below_alloc | apply pw_below_drewN | apply below_drew1 | refine below_set ?_ GE162.out) | exact HB.out)⟩⟩
        · rw [if_neg c4] at H
          exact absurd H (by simp)
      · rw [if_neg c3] at H
        have c3b0 : decide (x4_1 < (l0_2.length : Int)) = false := decide_eq_false c3
        clear c3
        obtain rfl := Option.some.inj H
        have hcz9_0 : wr.cell? ⟨gb162, 0, none⟩ = some (.int .i64 a0_0) := (blk_cell BK162.out 0).trans rfl
        have hcz9_1 : wr.cell? ⟨gb162, 1, none⟩ = some (.int .i64 a0_1) := (blk_cell BK162.out 1).trans rfl
        have hcz9_2 : wr.cell? ⟨gb162, 2, none⟩ = some (.slice A0_2 l0_2.length c0_2) := (blk_cell BK162.out 2).trans rfl
        have hcz9_3 : wr.cell? ⟨gb162, 3, none⟩ = some (.slice A0_3 l0_3.length c0_3) := (blk_cell BK162.out 3).trans rfl
        have hcz9_4 : wr.cell? ⟨gb162, 4, none⟩ = some (.slice A0_4 l0_4.length c0_4) := (blk_cell BK162.out 4).trans rfl
        have hfz9_0 := blk_frozen BK162.out 0
        have hfz9_1 := blk_frozen BK162.out 1
        have hfz9_2 := blk_frozen BK162.out 2
        have hfz9_3 := blk_frozen BK162.out 3
        have hfz9_4 := blk_frozen BK162.out 4
        go_wp2
        go_ret
        exact ⟨by first | rfl | (simp [errW_none, errW_some] <;> rfl) | (simp [*, errW_none, errW_some] <;> rfl), by repeat (first | (with_reducible first | exact HB.out | apply below_alloc | apply pw_below_drewN | apply below_drew1 | refine below_set ?_ GE162.out) | exact HB.out)⟩
def posserref04_In.f (a0 : Int) (a1 : Int) (a2 : Int) : Option (Bool) := if a0 ≥ a1 then (some (decide (a0 ≤ a2))) else (some false)
set_option maxHeartbeats 8000000 in
set_option maxRecDepth 100000 in
theorem posserref04_In.calls (a0 : Int) (a1 : Int) (a2 : Int) (r : Bool) (w : World) (h : posserref04_In.f a0 a1 a2 = some r) :
    Calls Try.prog 44 #[.int .i64 a0, .int .i64 a1, .int .i64 a2] w fun e w' => e = .returned (.bool r) ∧ Drawn0 w w' := by
  have H : (if a0 ≥ a1 then (some (decide (a0 ≤ a2))) else (some false)) = some r := h
  clear h
  by_cases c4 : a0 ≥ a1
  · rw [if_pos c4] at H
    have c4b0 : decide (a1 ≤ a0) = true := decide_eq_true c4
    clear c4
    obtain rfl := Option.some.inj H
    go_enter Try.func44, Try.ntmps44
    go_wp2
    go_ret
    exact ⟨by first | rfl | (simp; done) | (simp [*]; done), by repeat (first | exact Drawn0.refl _ | apply Drawn0.step)⟩
  · rw [if_neg c4] at H
    have c4b0 : decide (a1 ≤ a0) = false := decide_eq_false c4
    clear c4
    obtain rfl := Option.some.inj H
    go_enter Try.func44, Try.ntmps44
    go_wp2
    go_ret
    exact ⟨by first | rfl | (simp; done) | (simp [*]; done), by repeat (first | exact Drawn0.refl _ | apply Drawn0.step)⟩
mutual
def posserref04_IsPlace.l0 : Nat → List Int → Int → Int → Int → List (S68) → List Int → List (S84) → Option (Bool)
  | 0, _, _, _, _, _, _, _ => none
  | k + 1, x1, x5, x198000, x198001, x198002, x198003, x198004 => if x5 < (x1.length : Int) then (if 0 ≤ x5 then ((posserref04_In.f (rd x1 x5) 0 (wrap64 (x198000 - 1))).bind fun t199 => (if t199 = true then (posserref04_IsPlace.l1 k x1 x5 0 x198000 x198001 x198002 x198003 x198004) else (some false))) else (none)) else (some true)
def posserref04_IsPlace.l1 : Nat → List Int → Int → Int → Int → Int → List (S68) → List Int → List (S84) → Option (Bool)
  | 0, _, _, _, _, _, _, _, _ => none
  | k + 1, x1, x5, x6, x198000, x198001, x198002, x198003, x198004 => if x6 < x5 then (if 0 ≤ x6 then (if x6 < (x1.length : Int) then (if 0 ≤ x5 then (if x5 < (x1.length : Int) then (if (rd x1 x6) = (rd x1 x5) then (some false) else (posserref04_IsPlace.l1 k x1 x5 (wrap64 (x6 + 1)) x198000 x198001 x198002 x198003 x198004)) else (none)) else (none)) else (none)) else (none)) else (posserref04_IsPlace.l0 k x1 (wrap64 (x5 + 1)) x198000 x198001 x198002 x198003 x198004)
end
def posserref04_IsPlace.f (k : Nat) (a0_0 : Int) (a0_1 : Int) (l0_2 : List (S68)) (l0_3 : List Int) (l0_4 : List (S84)) (l1 : List Int) : Option (Bool) := if (l1.length : Int) = (l0_2.length : Int) then (posserref04_IsPlace.l0 k l1 0 a0_0 a0_1 l0_2 l0_3 l0_4) else (some false)
set_option maxHeartbeats 8000000 in
set_option maxRecDepth 100000 in
theorem posserref04_IsPlace.calls (k : Nat) (a0_0 : Int) (a0_1 : Int) (A0_2 : Option Addr) (c0_2 : Nat) (l0_2 : List (S68)) (A0_3 : Option Addr) (c0_3 : Nat) (l0_3 : List Int) (A0_4 : Option Addr) (c0_4 : Nat) (l0_4 : List (S84)) (A1 : Option Addr) (c1 : Nat) (l1 : List Int) (r : Bool) (w : World) (hr0_2 : Kd.C k68 w A0_2 l0_2.length l0_2) (hc0_2 : l0_2.length ≤ c0_2) (hr0_3 : Kd.C (Kd.int .i64) w A0_3 l0_3.length l0_3) (hc0_3 : l0_3.length ≤ c0_3) (hr0_4 : Kd.C k84 w A0_4 l0_4.length l0_4) (hc0_4 : l0_4.length ≤ c0_4) (hr1 : Kd.C (Kd.int .i64) w A1 l1.length l1) (hc1 : l1.length ≤ c1) (h : posserref04_IsPlace.f k a0_0 a0_1 l0_2 l0_3 l0_4 l1 = some r) :
    Calls Try.prog 29 #[.agg #[.int .i64 a0_0, .int .i64 a0_1, .slice A0_2 l0_2.length c0_2, .slice A0_3 l0_3.length c0_3, .slice A0_4 l0_4.length c0_4], .slice A1 l1.length c1] w fun e w' => e = .returned (.bool r) ∧ Below w.heap.size w w' := by
  have hu26 := Try.underlying26
  have HR0_2 := Aside0.mk hr0_2
  have HC0_2 := Aside0.mk hc0_2
  clear hr0_2 hc0_2
  have HR0_3 := Aside0.mk hr0_3
  have HC0_3 := Aside0.mk hc0_3
  clear hr0_3 hc0_3
  have HR0_4 := Aside0.mk hr0_4
  have HC0_4 := Aside0.mk hc0_4
  clear hr0_4 hc0_4
  have HR1 := Aside0.mk hr1
  have HC1 := Aside0.mk hc1
  clear hr1 hc1
  have HB := Aside0.mk (Below.refl w.heap.size w)
  have H : (if (l1.length : Int) = (l0_2.length : Int) then (posserref04_IsPlace.l0 k l1 0 a0_0 a0_1 l0_2 l0_3 l0_4) else (some false)) = some r := h
  clear h
  by_cases c3 : (l1.length : Int) = (l0_2.length : Int)
  · rw [if_pos c3] at H
    have c3b0 : ((l1.length : Int) == (l0_2.length : Int)) = true := beq_iff_eq.mpr c3
    have c3b1 : ((l1.length : Int) != (l0_2.length : Int)) = false := bne_eq_false_iff_eq.mpr c3
    have c3b2 : (l1.length == l0_2.length) = true := by first | simpa using c3 | (simp at c3 ⊢; omega)
    clear c3
    have H' := Aside0.mk H
    clear H
    go_enter Try.func29, Try.ntmps29
    go_wp2_with (first | ((with_reducible refine gate_dst (N := 2) rfl ?_); refine box_event ?hg (N := 2) ?hd (cs := #[.int .i64 a0_0, .int .i64 a0_1, .slice A0_2 l0_2.length c0_2, .slice A0_3 l0_3.length c0_3, .slice A0_4 l0_4.length c0_4]) (t := 26) ?hr ?_; (case hd => rfl); (case hg => rfl); (case hr => first | (go_simp; done) | (go_simp; rfl)); intro gb197 hg w4 hbox hb; have n0_ := Aside0.mk (below_step (by repeat (first | (with_reducible first | exact HB.out | apply below_alloc | apply pw_below_drewN | apply below_drew1) | exact HB.out)) hb); have n1_ := Aside0.mk (hbox); have n2_ := Aside0.mk ((by rw [hg]; exact (below_size (by repeat (first | (with_reducible first | exact HB.out | apply below_alloc | apply pw_below_drewN | apply below_drew1) | exact HB.out))) : w.heap.size ≤ gb197)); have n3_ := Aside0.mk ((by rw [hg]; exact (below_size (by repeat (first | (with_reducible first | exact HB.out | apply below_alloc | apply pw_below_drewN | apply below_drew1) | exact HB.out))) : w.heap.size ≤ gb197)); clear HB; have HB := n0_; have BK197 := n1_; have GW197 := n2_; have GE197 := n3_; clear n0_ n1_ n2_ n3_; clear hb hbox hg; have hcz5_0 : w4.cell? ⟨gb197, 0, none⟩ = some (.int .i64 a0_0) := (blk_cell BK197.out 0).trans rfl; have hcz5_1 : w4.cell? ⟨gb197, 1, none⟩ = some (.int .i64 a0_1) := (blk_cell BK197.out 1).trans rfl; have hcz5_2 : w4.cell? ⟨gb197, 2, none⟩ = some (.slice A0_2 l0_2.length c0_2) := (blk_cell BK197.out 2).trans rfl; have hcz5_3 : w4.cell? ⟨gb197, 3, none⟩ = some (.slice A0_3 l0_3.length c0_3) := (blk_cell BK197.out 3).trans rfl; have hcz5_4 : w4.cell? ⟨gb197, 4, none⟩ = some (.slice A0_4 l0_4.length c0_4) := (blk_cell BK197.out 4).trans rfl; have hfz5_0 := blk_frozen BK197.out 0; have hfz5_1 := blk_frozen BK197.out 1; have hfz5_2 := blk_frozen BK197.out 2; have hfz5_3 := blk_frozen BK197.out 3; have hfz5_4 := blk_frozen BK197.out 4))
    repeat (go_quiet (first | ((with_reducible refine gate_dst (N := 2) rfl ?_); refine box_event ?hg (N := 2) ?hd (cs := #[.int .i64 a0_0, .int .i64 a0_1, .slice A0_2 l0_2.length c0_2, .slice A0_3 l0_3.length c0_3, .slice A0_4 l0_4.length c0_4]) (t := 26) ?hr ?_; (case hd => rfl); (case hg => rfl); (case hr => first | (go_simp; done) | (go_simp; rfl)); intro gb197 hg w4 hbox hb; have n0_ := Aside0.mk (below_step (by repeat (first | (with_reducible first | exact HB.out | apply below_alloc | apply pw_below_drewN | apply below_drew1) | exact HB.out)) hb); have n1_ := Aside0.mk (hbox); have n2_ := Aside0.mk ((by rw [hg]; exact (below_size (by repeat (first | (with_reducible first | exact HB.out | apply below_alloc | apply pw_below_drewN | apply below_drew1) | exact HB.out))) : w.heap.size ≤ gb197)); have n3_ := Aside0.mk ((by rw [hg]; exact (below_size (by repeat (first | (with_reducible first | exact HB.out | apply below_alloc | apply pw_below_drewN | apply below_drew1) | exact HB.out))) : w.heap.size ≤ gb197)); clear HB; have HB := n0_; have BK197 := n1_; have GW197 := n2_; have GE197 := n3_; clear n0_ n1_ n2_ n3_; clear hb hbox hg; have hcz5_0 : w4.cell? ⟨gb197, 0, none⟩ = some (.int .i64 a0_0) := (blk_cell BK197.out 0).trans rfl; have hcz5_1 : w4.cell? ⟨gb197, 1, none⟩ = some (.int .i64 a0_1) := (blk_cell BK197.out 1).trans rfl; have hcz5_2 : w4.cell? ⟨gb197, 2, none⟩ = some (.slice A0_2 l0_2.length c0_2) := (blk_cell BK197.out 2).trans rfl; have hcz5_3 : w4.cell? ⟨gb197, 3, none⟩ = some (.slice A0_3 l0_3.length c0_3) := (blk_cell BK197.out 3).trans rfl; have hcz5_4 : w4.cell? ⟨gb197, 4, none⟩ = some (.slice A0_4 l0_4.length c0_4) := (blk_cell BK197.out 4).trans rfl; have hfz5_0 := blk_frozen BK197.out 0; have hfz5_1 := blk_frozen BK197.out 1; have hfz5_2 := blk_frozen BK197.out 2; have hfz5_3 := blk_frozen BK197.out 3; have hfz5_4 := blk_frozen BK197.out 4)); try go_wp2_with (first | ((with_reducible refine gate_dst (N := 2) rfl ?_); refine box_event ?hg (N := 2) ?hd (cs := #[.int .i64 a0_0, .int .i64 a0_1, .slice A0_2 l0_2.length c0_2, .slice A0_3 l0_3.length c0_3, .slice A0_4 l0_4.length c0_4]) (t := 26) ?hr ?_; (case hd => rfl); (case hg => rfl); (case hr => first | (go_simp; done) | (go_simp; rfl)); intro gb197 hg w4 hbox hb; have n0_ := Aside0.mk (below_step (by repeat (first | (with_reducible first | exact HB.out | apply below_alloc | apply pw_below_drewN | apply below_drew1) | exact HB.out)) hb); have n1_ := Aside0.mk (hbox); have n2_ := Aside0.mk ((by rw [hg]; exact (below_size (by repeat (first | (with_reducible first | exact HB.out | apply below_alloc | apply pw_below_drewN | apply below_drew1) | exact HB.out))) : w.heap.size ≤ gb197)); have n3_ := Aside0.mk ((by rw [hg]; exact (below_size (by repeat (first | (with_reducible first | exact HB.out | apply below_alloc | apply pw_below_drewN | apply below_drew1) | exact HB.out))) : w.heap.size ≤ gb197)); clear HB; have HB := n0_; have BK197 := n1_; have GW197 := n2_; have GE197 := n3_; clear n0_ n1_ n2_ n3_; clear hb hbox hg; have hcz5_0 : w4.cell? ⟨gb197, 0, none⟩ = some (.int .i64 a0_0) := (blk_cell BK197.out 0).trans rfl; have hcz5_1 : w4.cell? ⟨gb197, 1, none⟩ = some (.int .i64 a0_1) := (blk_cell BK197.out 1).trans rfl; have hcz5_2 : w4.cell? ⟨gb197, 2, none⟩ = some (.slice A0_2 l0_2.length c0_2) := (blk_cell BK197.out 2).trans rfl; have hcz5_3 : w4.cell? ⟨gb197, 3, none⟩ = some (.slice A0_3 l0_3.length c0_3) := (blk_cell BK197.out 3).trans rfl; have hcz5_4 : w4.cell? ⟨gb197, 4, none⟩ = some (.slice A0_4 l0_4.length c0_4) := (blk_cell BK197.out 4).trans rfl; have hfz5_0 := blk_frozen BK197.out 0; have hfz5_1 := blk_frozen BK197.out 1; have hfz5_2 := blk_frozen BK197.out 2; have hfz5_3 := blk_frozen BK197.out 3; have hfz5_4 := blk_frozen BK197.out 4)))
    go_loopg [5] k (fun kq v5 w' => ∃ (x5_1 : Int), v5 = .int .i64 x5_1 ∧ Aside0 (posserref04_IsPlace.l0 kq l1 x5_1 a0_0 a0_1 l0_2 l0_3 l0_4 = some r) ∧ Aside0 (kq ≤ k) ∧ Aside0 (w'.heap[gb197]? = some (.cells #[.int .i64 a0_0, .int .i64 a0_1, (.slice A0_2 l0_2.length c0_2), (.slice A0_3 l0_3.length c0_3), (.slice A0_4 l0_4.length c0_4)] 26 (0, 0))) ∧ Aside0 (Below w.heap.size w w'))
    case atStart => exact ⟨(0), (by first | rfl | (simp; done) | (simp [*]; done)), H', ⟨Nat.le_refl _⟩, ⟨by (with_reducible repeat (first | refine blk_drewN ?_ _ | refine blk_drew ?_ | refine blk_alloc ?_ _)); exact BK197.out⟩, ⟨by repeat (first | (with_reducible first | exact HB.out | apply below_alloc | apply pw_below_drewN | apply below_drew1 | refine below_set ?_ GE197.out) | exact HB.out)⟩⟩
    case round =>
      clear H'
      try clear c1
      try clear c2
      try clear p2
      try clear c3
      try clear c3b0
      try clear c3b1
      try clear c3b2
      try clear hcz5_0
      try clear hcz5_1
      try clear hcz5_2
      try clear hcz5_3
      try clear hcz5_4
      try clear hfz5_0
      try clear hfz5_1
      try clear hfz5_2
      try clear hfz5_3
      try clear hfz5_4
      obtain ⟨x5_1, rfl, HA, HK1, BK197, HB⟩ := hrel
      cases gk with
      | zero => exact absurd HA.out (by simp [posserref04_IsPlace.l0])
      | succ k1 =>
        have H := HA.out
        clear HA
        simp only [posserref04_IsPlace.l0] at H
        by_cases c6 : x5_1 < (l1.length : Int)
        · rw [if_pos c6] at H
          have c6b0 : decide (x5_1 < (l1.length : Int)) = true := decide_eq_true c6
          clear c6
          by_cases c7 : 0 ≤ x5_1
          · rw [if_pos c7] at H
            have c7b0 : decide (0 ≤ x5_1) = true := decide_eq_true c7
            clear c7
            replace H := Option.bind_eq_some_iff.mp H
            obtain ⟨t199, A80, H⟩ := H
            replace H : (if t199 = true then (posserref04_IsPlace.l1 k1 l1 x5_1 0 a0_0 a0_1 l0_2 l0_3 l0_4) else (some false)) = some r := H
            have A8 := Aside0.mk A80
            clear A80
            by_cases c9 : t199 = true
            · subst c9
              have H1 : (posserref04_IsPlace.l1 k1 l1 x5_1 0 a0_0 a0_1 l0_2 l0_3 l0_4) = some r := by rw [if_pos rfl] at H; exact H
              clear H
              have H := H1
              clear H1
              have H' := Aside0.mk H
              clear H
              have p198 : 0 ≤ (x5_1 : Int) := of_decide_eq_true (by first | (with_reducible assumption) | assumption)
              have q198 : x5_1 < (l1.length : Int) := of_decide_eq_true (by first | (with_reducible assumption) | assumption)
              obtain ⟨ad198, e198, hx198_0⟩ := Kd.at_int HR1.out x5_1 p198 q198
              cases e198
              replace hx198_0 := (HB.out.cell (World.block_lt_of_cell? w _ hx198_0)).trans hx198_0
              replace p198 := eq_true p198
              replace q198 := eq_true q198
              have hcz10_0 : wr.cell? ⟨gb197, 0, none⟩ = some (.int .i64 a0_0) := (blk_cell BK197.out 0).trans rfl
              have hcz10_1 : wr.cell? ⟨gb197, 1, none⟩ = some (.int .i64 a0_1) := (blk_cell BK197.out 1).trans rfl
              have hcz10_2 : wr.cell? ⟨gb197, 2, none⟩ = some (.slice A0_2 l0_2.length c0_2) := (blk_cell BK197.out 2).trans rfl
              have hcz10_3 : wr.cell? ⟨gb197, 3, none⟩ = some (.slice A0_3 l0_3.length c0_3) := (blk_cell BK197.out 3).trans rfl
              have hcz10_4 : wr.cell? ⟨gb197, 4, none⟩ = some (.slice A0_4 l0_4.length c0_4) := (blk_cell BK197.out 4).trans rfl
              have hfz10_0 := blk_frozen BK197.out 0
              have hfz10_1 := blk_frozen BK197.out 1
              have hfz10_2 := blk_frozen BK197.out 2
              have hfz10_3 := blk_frozen BK197.out 3
              have hfz10_4 := blk_frozen BK197.out 4
              go_wp2_with (first | (go_at_call 44; (with_reducible refine (posserref04_In.calls (rd l1 x5_1) 0 (wrap64 (a0_0 - 1)) true _ A8.out).mono ?_); rintro e w' ⟨rfl, ⟨nd, rfl⟩⟩; (try first | exact ⟨rfl, _, World.drewN_drewN _ _ _⟩ | exact ⟨rfl, _, Eq.trans (World.drewN_drewN _ _ _) (congrArg (World.drewN _) (Nat.add_assoc _ _ _))⟩)))
              repeat (go_quiet (first | (go_at_call 44; (with_reducible refine (posserref04_In.calls (rd l1 x5_1) 0 (wrap64 (a0_0 - 1)) true _ A8.out).mono ?_); rintro e w' ⟨rfl, ⟨nd, rfl⟩⟩; (try first | exact ⟨rfl, _, World.drewN_drewN _ _ _⟩ | exact ⟨rfl, _, Eq.trans (World.drewN_drewN _ _ _) (congrArg (World.drewN _) (Nat.add_assoc _ _ _))⟩))); try go_wp2_with (first | (go_at_call 44; (with_reducible refine (posserref04_In.calls (rd l1 x5_1) 0 (wrap64 (a0_0 - 1)) true _ A8.out).mono ?_); rintro e w' ⟨rfl, ⟨nd, rfl⟩⟩; (try first | exact ⟨rfl, _, World.drewN_drewN _ _ _⟩ | exact ⟨rfl, _, Eq.trans (World.drewN_drewN _ _ _) (congrArg (World.drewN _) (Nat.add_assoc _ _ _))⟩))))
              go_loopg [6] k1 (fun kq v6 w' => ∃ (x6_2 : Int), v6 = .int .i64 x6_2 ∧ Aside0 (posserref04_IsPlace.l1 kq l1 x5_1 x6_2 a0_0 a0_1 l0_2 l0_3 l0_4 = some r) ∧ Aside0 (kq ≤ k1) ∧ Aside0 (w'.heap[gb197]? = some (.cells #[.int .i64 a0_0, .int .i64 a0_1, (.slice A0_2 l0_2.length c0_2), (.slice A0_3 l0_3.length c0_3), (.slice A0_4 l0_4.length c0_4)] 26 (0, 0))) ∧ Aside0 (Below w.heap.size w w'))
              case atStart => exact ⟨(0), (by first | rfl | (simp; done) | (simp [*]; done)), H', ⟨Nat.le_refl _⟩, ⟨by (with_reducible repeat (first | refine blk_drewN ?_ _ | refine blk_drew ?_ | refine blk_alloc ?_ _)); exact BK197.out⟩, ⟨by repeat (first | (with_reducible first | exact HB.out | apply below_alloc | apply pw_below_drewN | apply below_drew1 | refine below_set ?_ GE197.out) | exact HB.out)⟩⟩
              case round =>
                clear H'
                try clear c1
                try clear p1
                try clear q1
                try clear hx1
                try clear c2
                try clear p2
                try clear c3
                try clear c3b0
                try clear c3b1
                try clear c3b2
                try clear c6
                try clear c6b0
                try clear p6
                try clear c7
                try clear c7b0
                try clear c9
                try clear hcz10_0
                try clear hcz10_1
                try clear hcz10_2
                try clear hcz10_3
                try clear hcz10_4
                try clear hcz5_0
                try clear hcz5_1
                try clear hcz5_2
                try clear hcz5_3
                try clear hcz5_4
                try clear hfz10_0
                try clear hfz10_1
                try clear hfz10_2
                try clear hfz10_3
                try clear hfz10_4
                try clear hfz5_0
                try clear hfz5_1
                try clear hfz5_2
                try clear hfz5_3
                try clear hfz5_4
                try clear hx198_0
                try clear p198
                try clear p2
                try clear q198
                obtain ⟨x6_2, rfl, HA, HK2, BK197, HB⟩ := hrel
                cases gk with
                | zero => exact absurd HA.out (by simp [posserref04_IsPlace.l1])
                | succ k2 =>
                  have H := HA.out
                  clear HA
                  simp only [posserref04_IsPlace.l1] at H
                  by_cases c11 : x6_2 < x5_1
                  · rw [if_pos c11] at H
                    have c11b0 : decide (x6_2 < x5_1) = true := decide_eq_true c11
                    clear c11
                    by_cases c12 : 0 ≤ x6_2
                    · rw [if_pos c12] at H
                      have c12b0 : decide (0 ≤ x6_2) = true := decide_eq_true c12
                      clear c12
                      by_cases c13 : x6_2 < (l1.length : Int)
                      · rw [if_pos c13] at H
                        have c13b0 : decide (x6_2 < (l1.length : Int)) = true := decide_eq_true c13
                        clear c13
                        by_cases c14 : 0 ≤ x5_1
                        · rw [if_pos c14] at H
                          have c14b0 : decide (0 ≤ x5_1) = true := decide_eq_true c14
                          clear c14
                          by_cases c15 : x5_1 < (l1.length : Int)
                          · rw [if_pos c15] at H
                            have c15b0 : decide (x5_1 < (l1.length : Int)) = true := decide_eq_true c15
                            clear c15
                            by_cases c16 : (rd l1 x6_2) = (rd l1 x5_1)
                            · rw [if_pos c16] at H
                              have c16b0 : ((rd l1 x6_2) == (rd l1 x5_1)) = true := beq_iff_eq.mpr c16
                              have c16b1 : ((rd l1 x6_2) != (rd l1 x5_1)) = false := bne_eq_false_iff_eq.mpr c16
                              clear c16
                              obtain rfl := Option.some.inj H
                              have p200 : 0 ≤ (x6_2 : Int) := of_decide_eq_true (by first | (with_reducible assumption) | assumption)
                              have q200 : x6_2 < (l1.length : Int) := of_decide_eq_true (by first | (with_reducible assumption) | assumption)
                              obtain ⟨ad200, e200, hx200_0⟩ := Kd.at_int HR1.out x6_2 p200 q200
                              obtain rfl : ad198 = ad200 := (by injection e200)
                              replace hx200_0 := (HB.out.cell (World.block_lt_of_cell? w _ hx200_0)).trans hx200_0
                              replace p200 := eq_true p200
                              replace q200 := eq_true q200
                              have p201 : 0 ≤ (x5_1 : Int) := of_decide_eq_true (by first | (with_reducible assumption) | assumption)
                              have q201 : x5_1 < (l1.length : Int) := of_decide_eq_true (by first | (with_reducible assumption) | assumption)
                              obtain ⟨ad201, e201, hx201_0⟩ := Kd.at_int HR1.out x5_1 p201 q201
                              obtain rfl : ad198 = ad201 := (by injection e201)
                              replace hx201_0 := (HB.out.cell (World.block_lt_of_cell? w _ hx201_0)).trans hx201_0
                              replace p201 := eq_true p201
                              replace q201 := eq_true q201
                              go_wp2
                              repeat (go_quiet (fail); try go_wp2)
                              go_ret
                              exact ⟨by first | rfl | (simp [errW_none, errW_some] <;> rfl) | (simp [*, errW_none, errW_some] <;> rfl), by repeat (first | (with_reducible first | exact HB.out | apply below_alloc | apply pw_below_drewN | apply below_drew1 | refine below_set ?_ GE197.out) | exact HB.out)⟩
                            · rw [if_neg c16] at H
                              have c16b0 : ((rd l1 x6_2) == (rd l1 x5_1)) = false := beq_eq_false_iff_ne.mpr c16
                              have c16b1 : ((rd l1 x6_2) != (rd l1 x5_1)) = true := bne_iff_ne.mpr c16
                              have H' := Aside0.mk H
                              clear H
                              have p200 : 0 ≤ (x6_2 : Int) := of_decide_eq_true (by first | (with_reducible assumption) | assumption)
                              have q200 : x6_2 < (l1.length : Int) := of_decide_eq_true (by first | (with_reducible assumption) | assumption)
                              obtain ⟨ad200, e200, hx200_0⟩ := Kd.at_int HR1.out x6_2 p200 q200
                              obtain rfl : ad198 = ad200 := (by injection e200)
                              replace hx200_0 := (HB.out.cell (World.block_lt_of_cell? w _ hx200_0)).trans hx200_0
                              replace p200 := eq_true p200
                              replace q200 := eq_true q200
                              have p201 : 0 ≤ (x5_1 : Int) := of_decide_eq_true (by first | (with_reducible assumption) | assumption)
                              have q201 : x5_1 < (l1.length : Int) := of_decide_eq_true (by first | (with_reducible assumption) | assumption)
                              obtain ⟨ad201, e201, hx201_0⟩ := Kd.at_int HR1.out x5_1 p201 q201
                              obtain rfl : ad198 = ad201 := (by injection e201)
                              replace hx201_0 := (HB.out.cell (World.block_lt_of_cell? w _ hx201_0)).trans hx201_0
                              replace p201 := eq_true p201
                              replace q201 := eq_true q201
                              go_wp2
                              repeat (go_quiet (fail); try go_wp2)
                              go_roundg k2
                              case measure => have := HK1.out; have := HK2.out; omega
                              case rel => exact ⟨(wrap64 (x6_2 + 1)), (by first | rfl | (simp; done) | (simp [*]; done)), H', ⟨by have := HK1.out; have := HK2.out; omega⟩, ⟨by (with_reducible repeat (first | refine blk_drewN ?_ _ | refine blk_drew ?_ | refine blk_alloc ?_ _)); exact BK197.out⟩, ⟨by repeat (first | (with_reducible first | exact HB.out | apply below_alloc | apply pw_below_drewN | apply below_drew1 | refine below_set ?_ GE197.out) | exact HB.out)⟩⟩
                          · rw [if_neg c15] at H
                            exact absurd H (by simp)
                        · rw [if_neg c14] at H
                          exact absurd H (by simp)
                      · rw [if_neg c13] at H
                        exact absurd H (by simp)
                    · rw [if_neg c12] at H
                      exact absurd H (by simp)
                  · rw [if_neg c11] at H
                    have c11b0 : decide (x6_2 < x5_1) = false := decide_eq_false c11
                    clear c11
                    have H' := Aside0.mk H
                    clear H
                    go_wp2
                    repeat (go_quiet (fail); try go_wp2)
                    go_roundg k2
                    case measure => have := HK1.out; have := HK2.out; omega
                    case rel => exact ⟨(wrap64 (x5_1 + 1)), (by first | rfl | (simp; done) | (simp [*]; done)), H', ⟨by have := HK1.out; have := HK2.out; omega⟩, ⟨by (with_reducible repeat (first | refine blk_drewN ?_ _ | refine blk_drew ?_ | refine blk_alloc ?_ _)); exact BK197.out⟩, ⟨by repeat (first | (with_reducible first | exact HB.out | apply below_alloc | apply pw_below_drewN | apply below_drew1 | refine below_set ?_ GE197.out) | exact HB.out)⟩⟩
            · replace c9 := Bool.eq_false_iff.mpr c9
              subst c9
              have H1 : (some false) = some r := by rw [if_neg (show ¬ (false = true) by decide)] at H; exact H
              clear H
              have H := H1
              clear H1
              obtain rfl := Option.some.inj H
              have p198 : 0 ≤ (x5_1 : Int) := of_decide_eq_true (by first | (with_reducible assumption) | assumption)
              have q198 : x5_1 < (l1.length : Int) := of_decide_eq_true (by first | (with_reducible assumption) | assumption)
              obtain ⟨ad198, e198, hx198_0⟩ := Kd.at_int HR1.out x5_1 p198 q198
              cases e198
              replace hx198_0 := (HB.out.cell (World.block_lt_of_cell? w _ hx198_0)).trans hx198_0
              replace p198 := eq_true p198
              replace q198 := eq_true q198
              have hcz17_0 : wr.cell? ⟨gb197, 0, none⟩ = some (.int .i64 a0_0) := (blk_cell BK197.out 0).trans rfl
              have hcz17_1 : wr.cell? ⟨gb197, 1, none⟩ = some (.int .i64 a0_1) := (blk_cell BK197.out 1).trans rfl
              have hcz17_2 : wr.cell? ⟨gb197, 2, none⟩ = some (.slice A0_2 l0_2.length c0_2) := (blk_cell BK197.out 2).trans rfl
              have hcz17_3 : wr.cell? ⟨gb197, 3, none⟩ = some (.slice A0_3 l0_3.length c0_3) := (blk_cell BK197.out 3).trans rfl
              have hcz17_4 : wr.cell? ⟨gb197, 4, none⟩ = some (.slice A0_4 l0_4.length c0_4) := (blk_cell BK197.out 4).trans rfl
              have hfz17_0 := blk_frozen BK197.out 0
              have hfz17_1 := blk_frozen BK197.out 1
              have hfz17_2 := blk_frozen BK197.out 2
              have hfz17_3 := blk_frozen BK197.out 3
              have hfz17_4 := blk_frozen BK197.out 4
              go_wp2_with (first | (go_at_call 44; (with_reducible refine (posserref04_In.calls (rd l1 x5_1) 0 (wrap64 (a0_0 - 1)) false _ A8.out).mono ?_); rintro e w' ⟨rfl, ⟨nd, rfl⟩⟩; (try first | exact ⟨rfl, _, World.drewN_drewN _ _ _⟩ | exact ⟨rfl, _, Eq.trans (World.drewN_drewN _ _ _) (congrArg (World.drewN _) (Nat.add_assoc _ _ _))⟩)))
              repeat (go_quiet (first | (go_at_call 44; (with_reducible refine (posserref04_In.calls (rd l1 x5_1) 0 (wrap64 (a0_0 - 1)) false _ A8.out).mono ?_); rintro e w' ⟨rfl, ⟨nd, rfl⟩⟩; (try first | exact ⟨rfl, _, World.drewN_drewN _ _ _⟩ | exact ⟨rfl, _, Eq.trans (World.drewN_drewN _ _ _) (congrArg (World.drewN _) (Nat.add_assoc _ _ _))⟩))); try go_wp2_with (first | (go_at_call 44; (with_reducible refine (posserref04_In.calls (rd l1 x5_1) 0 (wrap64 (a0_0 - 1)) false _ A8.out).mono ?_); rintro e w' ⟨rfl, ⟨nd, rfl⟩⟩; (try first | exact ⟨rfl, _, World.drewN_drewN _ _ _⟩ | exact ⟨rfl, _, Eq.trans (World.drewN_drewN _ _ _) (congrArg (World.drewN _) (Nat.add_assoc _ _ _))⟩))))
              go_ret
              exact ⟨by first | rfl | (simp [errW_none, errW_some] <;> rfl) | (simp [*, errW_none, errW_some] <;> rfl), by repeat (first | (with_reducible first | exact HB.out | apply below_alloc | apply pw_below_drewN | apply below_drew1 | refine below_set ?_ GE197.out) | exact HB.out)⟩
          · rw [if_neg c7] at H
            exact absurd H (by simp)
        · rw [if_neg c6] at H
          have c6b0 : decide (x5_1 < (l1.length : Int)) = false := decide_eq_false c6
          clear c6
          obtain rfl := Option.some.inj H
          go_wp2
          repeat (go_quiet (fail); try go_wp2)
          go_ret
          exact ⟨by first | rfl | (simp [errW_none, errW_some] <;> rfl) | (simp [*, errW_none, errW_some] <;> rfl), by repeat (first | (with_reducible first | exact HB.out | apply below_alloc | apply pw_below_drewN | apply below_drew1 | refine below_set ?_ GE197.out) | exact HB.out)⟩
  · rw [if_neg c3] at H
    have c3b0 : ((l1.length : Int) == (l0_2.length : Int)) = false := beq_eq_false_iff_ne.mpr c3
    have c3b1 : ((l1.length : Int) != (l0_2.length : Int)) = true := bne_iff_ne.mpr c3
    have c3b2 : (l1.length == l0_2.length) = false := by first | simpa using c3 | (simp at c3 ⊢; omega)
    obtain rfl := Option.some.inj H
    go_enter Try.func29, Try.ntmps29
    go_wp2_with (first | ((with_reducible refine gate_dst (N := 2) rfl ?_); refine box_event ?hg (N := 2) ?hd (cs := #[.int .i64 a0_0, .int .i64 a0_1, .slice A0_2 l0_2.length c0_2, .slice A0_3 l0_3.length c0_3, .slice A0_4 l0_4.length c0_4]) (t := 26) ?hr ?_; (case hd => rfl); (case hg => rfl); (case hr => first | (go_simp; done) | (go_simp; rfl)); intro gb197 hg w18 hbox hb; have n0_ := Aside0.mk (below_step (by repeat (first | (with_reducible first | exact HB.out | apply below_alloc | apply pw_below_drewN | apply below_drew1) | exact HB.out)) hb); have n1_ := Aside0.mk (hbox); have n2_ := Aside0.mk ((by rw [hg]; exact (below_size (by repeat (first | (with_reducible first | exact HB.out | apply below_alloc | apply pw_below_drewN | apply below_drew1) | exact HB.out))) : w.heap.size ≤ gb197)); have n3_ := Aside0.mk ((by rw [hg]; exact (below_size (by repeat (first | (with_reducible first | exact HB.out | apply below_alloc | apply pw_below_drewN | apply below_drew1) | exact HB.out))) : w.heap.size ≤ gb197)); clear HB; have HB := n0_; have BK197 := n1_; have GW197 := n2_; have GE197 := n3_; clear n0_ n1_ n2_ n3_; clear hb hbox hg; have hcz19_0 : w18.cell? ⟨gb197, 0, none⟩ = some (.int .i64 a0_0) := (blk_cell BK197.out 0).trans rfl; have hcz19_1 : w18.cell? ⟨gb197, 1, none⟩ = some (.int .i64 a0_1) := (blk_cell BK197.out 1).trans rfl; have hcz19_2 : w18.cell? ⟨gb197, 2, none⟩ = some (.slice A0_2 l0_2.length c0_2) := (blk_cell BK197.out 2).trans rfl; have hcz19_3 : w18.cell? ⟨gb197, 3, none⟩ = some (.slice A0_3 l0_3.length c0_3) := (blk_cell BK197.out 3).trans rfl; have hcz19_4 : w18.cell? ⟨gb197, 4, none⟩ = some (.slice A0_4 l0_4.length c0_4) := (blk_cell BK197.out 4).trans rfl; have hfz19_0 := blk_frozen BK197.out 0; have hfz19_1 := blk_frozen BK197.out 1; have hfz19_2 := blk_frozen BK197.out 2; have hfz19_3 := blk_frozen BK197.out 3; have hfz19_4 := blk_frozen BK197.out 4))
    repeat (go_quiet (first | ((with_reducible refine gate_dst (N := 2) rfl ?_); refine box_event ?hg (N := 2) ?hd (cs := #[.int .i64 a0_0, .int .i64 a0_1, .slice A0_2 l0_2.length c0_2, .slice A0_3 l0_3.length c0_3, .slice A0_4 l0_4.length c0_4]) (t := 26) ?hr ?_; (case hd => rfl); (case hg => rfl); (case hr => first | (go_simp; done) | (go_simp; rfl)); intro gb197 hg w18 hbox hb; have n0_ := Aside0.mk (below_step (by repeat (first | (with_reducible first | exact HB.out | apply below_alloc | apply pw_below_drewN | apply below_drew1) | exact HB.out)) hb); have n1_ := Aside0.mk (hbox); have n2_ := Aside0.mk ((by rw [hg]; exact (below_size (by repeat (first | (with_reducible first | exact HB.out | apply below_alloc | apply pw_below_drewN | apply below_drew1) | exact HB.out))) : w.heap.size ≤ gb197)); have n3_ := Aside0.mk ((by rw [hg]; exact (below_size (by repeat (first | (with_reducible first | exact HB.out | apply below_alloc | apply pw_below_drewN | apply below_drew1) | exact HB.out))) : w.heap.size ≤ gb197)); clear HB; have HB := n0_; have BK197 := n1_; have GW197 := n2_; have GE197 := n3_; clear n0_ n1_ n2_ n3_; clear hb hbox hg; have hcz19_0 : w18.cell? ⟨gb197, 0, none⟩ = some (.int .i64 a0_0) := (blk_cell BK197.out 0).trans rfl; have hcz19_1 : w18.cell? ⟨gb197, 1, none⟩ = some (.int .i64 a0_1) := (blk_cell BK197.out 1).trans rfl; have hcz19_2 : w18.cell? ⟨gb197, 2, none⟩ = some (.slice A0_2 l0_2.length c0_2) := (blk_cell BK197.out 2).trans rfl; have hcz19_3 : w18.cell? ⟨gb197, 3, none⟩ = some (.slice A0_3 l0_3.length c0_3) := (blk_cell BK197.out 3).trans rfl; have hcz19_4 : w18.cell? ⟨gb197, 4, none⟩ = some (.slice A0_4 l0_4.length c0_4) := (blk_cell BK197.out 4).trans rfl; have hfz19_0 := blk_frozen BK197.out 0; have hfz19_1 := blk_frozen BK197.out 1; have hfz19_2 := blk_frozen BK197.out 2; have hfz19_3 := blk_frozen BK197.out 3; have hfz19_4 := blk_frozen BK197.out 4)); try go_wp2_with (first | ((with_reducible refine gate_dst (N := 2) rfl ?_); refine box_event ?hg (N := 2) ?hd (cs := #[.int .i64 a0_0, .int .i64 a0_1, .slice A0_2 l0_2.length c0_2, .slice A0_3 l0_3.length c0_3, .slice A0_4 l0_4.length c0_4]) (t := 26) ?hr ?_; (case hd => rfl); (case hg => rfl); (case hr => first | (go_simp; done) | (go_simp; rfl)); intro gb197 hg w18 hbox hb; have n0_ := Aside0.mk (below_step (by repeat (first | (with_reducible first | exact HB.out | apply below_alloc | apply pw_below_drewN | apply below_drew1) | exact HB.out)) hb); have n1_ := Aside0.mk (hbox); have n2_ := Aside0.mk ((by rw [hg]; exact (below_size (by repeat (first | (with_reducible first | exact HB.out | apply below_alloc | apply pw_below_drewN | apply below_drew1) | exact HB.out))) : w.heap.size ≤ gb197)); have n3_ := Aside0.mk ((by rw [hg]; exact (below_size (by repeat (first | (with_reducible first | exact HB.out | apply below_alloc | apply pw_below_drewN | apply below_drew1) | exact HB.out))) : w.heap.size ≤ gb197)); clear HB; have HB := n0_; have BK197 := n1_; have GW197 := n2_; have GE197 := n3_; clear n0_ n1_ n2_ n3_; clear hb hbox hg; have hcz19_0 : w18.cell? ⟨gb197, 0, none⟩ = some (.int .i64 a0_0) := (blk_cell BK197.out 0).trans rfl; have hcz19_1 : w18.cell? ⟨gb197, 1, none⟩ = some (.int .i64 a0_1) := (blk_cell BK197.out 1).trans rfl; have hcz19_2 : w18.cell? ⟨gb197, 2, none⟩ = some (.slice A0_2 l0_2.length c0_2) := (blk_cell BK197.out 2).trans rfl; have hcz19_3 : w18.cell? ⟨gb197, 3, none⟩ = some (.slice A0_3 l0_3.length c0_3) := (blk_cell BK197.out 3).trans rfl; have hcz19_4 : w18.cell? ⟨gb197, 4, none⟩ = some (.slice A0_4 l0_4.length c0_4) := (blk_cell BK197.out 4).trans rfl; have hfz19_0 := blk_frozen BK197.out 0; have hfz19_1 := blk_frozen BK197.out 1; have hfz19_2 := blk_frozen BK197.out 2; have hfz19_3 := blk_frozen BK197.out 3; have hfz19_4 := blk_frozen BK197.out 4)))
    go_ret
    exact ⟨by first | rfl | (simp [errW_none, errW_some] <;> rfl) | (simp [*, errW_none, errW_some] <;> rfl), by repeat (first | (with_reducible first | exact HB.out | apply below_alloc | apply pw_below_drewN | apply below_drew1 | refine below_set ?_ GE197.out) | exact HB.out)⟩
end Go.Proofs.Ytokhmghgghjmhaa.Q
namespace Go.Proofs.Ytokhmghgghjmhaa.Q
open Go.RowKit Go.Proofs.YtokhmghgghjmhaaW.PrintWords Go.Proofs.YtokhmghgghjmhaaW.PrintLast Go.Proofs.YtokhmghgghjmhaaW.PrintMore
set_option linter.unusedVariables false
def toH (h : S68) : S139 := ⟨⟨h.f0.f0, h.f0.f1⟩, h.f1, h.f2⟩
def toL (l : S84) : S140 := ⟨l.f0, l.f1, l.f2⟩
theorem rd_toH (hs : List S68) (i : Int) : rd_T139 (hs.map toH) i = toH (rd_T68 hs i) := by
  unfold rd_T139 rd_T68
  rw [List.getD_eq_getElem?_getD, List.getD_eq_getElem?_getD, List.getElem?_map]
  cases hs[i.toNat]? <;> rfl
theorem rd_toL (ls : List S84) (i : Int) : rd_T140 (ls.map toL) i = toL (rd_T84 ls i) := by
  unfold rd_T140 rd_T84
  rw [List.getD_eq_getElem?_getD, List.getD_eq_getElem?_getD, List.getElem?_map]
  cases ls[i.toNat]? <;> rfl
theorem in_f (a b c : Int) : posserref04_In.f a b c = some (decide (b ≤ a ∧ a ≤ c)) := by
  unfold posserref04_In.f
  by_cases h : a ≥ b
  · rw [if_pos h]; simp [show b ≤ a from h]
  · rw [if_neg h]; simp [show ¬ b ≤ a from h]
/-- Is a list a placement, from one place on? -/
def plFrom (top : Int) (p : List Int) (i : Nat) : Prop := ∀ m : Nat, i ≤ m → m < p.length → 0 ≤ rd p m ∧ rd p m ≤ top ∧ (p.take m).contains (rd p m) = false
theorem contains_take (p : List Int) (m : Nat) (x : Int) (hm : m ≤ p.length) : (p.take m).contains x = false ↔ ∀ j : Nat, j < m → rd p j ≠ x := by
  rw [← Bool.not_eq_true, List.contains_iff_mem, List.mem_iff_getElem?]
  constructor
  · intro h j hj e
    refine h ⟨j, ?_⟩
    rw [List.getElem?_take, if_pos hj, List.getElem?_eq_getElem (by omega), ← e, rd_nn, List.getD_eq_getElem?_getD, List.getElem?_eq_getElem (by omega)]
    rfl
  · rintro h ⟨j, hj⟩
    rw [List.getElem?_take] at hj
    split at hj
    · rename_i hlt
      refine h j hlt ?_
      rw [rd_nn, List.getD_eq_getElem?_getD, hj]
      rfl
    · cases hj
section
variable (cs cl : Int) (hs : List S68) (hung : List Int) (looks : List S84) (p : List Int)
open Classical in
theorem isPlace_l1 (hl : p.length ≤ 1000) (i : Nat) (hi : i < p.length) : ∀ (d j k : Nat), j + d = i → d < k →
    posserref04_IsPlace.l1 k p i j cs cl hs hung looks = if (∀ m : Nat, j ≤ m → m < i → rd p m ≠ rd p i) then posserref04_IsPlace.l0 (k - d - 1) p ((i + 1 : Nat) : Int) cs cl hs hung looks else some false
  | 0, j, k, h, hk => by
    obtain ⟨k, rfl⟩ : ∃ m, k = m + 1 := ⟨k - 1, by omega⟩
    simp only [posserref04_IsPlace.l1]
    rw [if_neg (by omega), if_pos (fun m h1 h2 => by omega), show wrap64 ((i : Int) + 1) = ((i + 1 : Nat) : Int) from by unfold wrap64; omega]
    rfl
  | d + 1, j, k, h, hk => by
    obtain ⟨k, rfl⟩ : ∃ m, k = m + 1 := ⟨k - 1, by omega⟩
    have ih := isPlace_l1 hl i hi d (j + 1) k (by omega) (by omega)
    simp only [posserref04_IsPlace.l1]
    rw [if_pos (by omega), if_pos (by omega), if_pos (by omega), if_pos (by omega), if_pos (by omega)]
    by_cases e : rd p (j : Int) = rd p (i : Int)
    · rw [if_pos e, if_neg (fun h => h j (Nat.le_refl _) (by omega) e)]
    · rw [if_neg e, show wrap64 ((j : Int) + 1) = ((j + 1 : Nat) : Int) from by unfold wrap64; omega, ih]
      have hiff : (∀ m : Nat, j + 1 ≤ m → m < i → rd p m ≠ rd p i) ↔ (∀ m : Nat, j ≤ m → m < i → rd p m ≠ rd p i) := by
        constructor
        · intro h m h1 h2
          by_cases hm : m = j
          · subst hm; exact e
          · exact h m (by omega) h2
        · exact fun h m h1 h2 => h m (by omega) h2
      rw [show k + 1 - (d + 1) - 1 = k - d - 1 from by omega]
      by_cases hq : ∀ m : Nat, j ≤ m → m < i → rd p m ≠ rd p i
      · rw [if_pos hq, if_pos (hiff.2 hq)]
      · rw [if_neg hq, if_neg (fun h => hq (hiff.1 h))]
open Classical in
theorem isPlace_l0 (hl : p.length ≤ 1000) : ∀ (d i k : Nat), i + d = p.length → (d + 1) * (p.length + 2) ≤ k →
    posserref04_IsPlace.l0 k p i cs cl hs hung looks = some (decide (plFrom (wrap64 (cs - 1)) p i))
  | 0, i, k, h, hk => by
    obtain ⟨k, rfl⟩ : ∃ m, k = m + 1 := ⟨k - 1, by omega⟩
    simp only [posserref04_IsPlace.l0]
    rw [if_neg (by omega)]
    exact congrArg some (decide_eq_true (fun m h1 h2 => by omega)).symm
  | d + 1, i, k, h, hk => by
    have hk2 : (d + 1 + 1) * (p.length + 2) = (d + 1) * (p.length + 2) + (p.length + 2) := by rw [Nat.add_mul (d + 1) 1, Nat.one_mul]
    obtain ⟨k, rfl⟩ : ∃ m, k = m + 1 := ⟨k - 1, by omega⟩
    simp only [posserref04_IsPlace.l0]
    rw [if_pos (by omega), if_pos (by omega), in_f]
    simp only [Option.bind_some]
    by_cases hr : 0 ≤ rd p (i : Int) ∧ rd p (i : Int) ≤ wrap64 (cs - 1)
    · have h1 := isPlace_l1 cs cl hs hung looks p hl i (by omega) i 0 k (by omega) (by omega)
      rw [if_pos (decide_eq_true hr), show (0 : Int) = ((0 : Nat) : Int) from rfl, h1, isPlace_l0 hl d (i + 1) (k - i - 1) (by omega) (by omega)]
      have hc := contains_take p i (rd p i) (by omega)
      by_cases hd : ∀ m : Nat, 0 ≤ m → m < i → rd p m ≠ rd p i
      · rw [if_pos hd]
        refine congrArg some (decide_eq_decide.2 ⟨fun hp m h1 h2 => ?_, fun hp m h1 h2 => hp m (by omega) h2⟩)
        by_cases hm : m = i
        · subst hm; exact ⟨hr.1, hr.2, hc.2 (fun j hj => hd j (by omega) hj)⟩
        · exact hp m (by omega) h2
      · rw [if_neg hd]
        refine congrArg some (decide_eq_false (fun hp => ?_)).symm
        exact hd (fun m _ hm => (hc.1 (hp i (Nat.le_refl _) (by omega)).2.2) m hm)
    · rw [if_neg (by simp only [decide_eq_true_eq]; exact hr)]
      refine congrArg some (decide_eq_false (fun hp => ?_)).symm
      have := hp i (Nat.le_refl _) (by omega)
      exact hr ⟨this.1, this.2.1⟩
theorem isPlace_f (hl : hs.length ≤ 100) (k : Nat) (hk : 20000 ≤ k) : posserref04_IsPlace.f k cs cl hs hung looks p = some (placeB (wrap64 (cs - 1)) hs.length p) := by
  unfold posserref04_IsPlace.f
  by_cases h : p.length = hs.length
  · have hm : (p.length + 1) * (p.length + 2) ≤ 101 * 102 := Nat.mul_le_mul (by omega) (by omega)
    rw [if_pos (by omega), show (0 : Int) = ((0 : Nat) : Int) from rfl, isPlace_l0 cs cl hs hung looks p (by omega) p.length 0 k (by omega) (by omega)]
    refine congrArg some (decide_eq_decide.2 ⟨fun hp => ⟨h, fun m hm => hp m (Nat.zero_le _) hm⟩, fun hp m _ hm => hp.2 m hm⟩)
  · rw [if_neg (by omega)]
    exact congrArg some (decide_eq_false (fun hp => h hp.1)).symm
end
def manyN (hs : List S68) : Nat → Int
  | 0 => 1
  | n + 1 => mn 3000 (wrap64 (manyN hs n * wrap64 (wrap64 ((rd_T68 hs n).f0.f1 - (rd_T68 hs n).f0.f0) + 1)))
section
variable (cs cl : Int) (hs : List S68) (hung : List Int) (looks : List S84)
theorem many_l0 (hl : hs.length ≤ 1000) : ∀ (d i k : Nat), i + d = hs.length → d < k → posserref04_Many.l0 k (manyN hs i) i cs cl hs hung looks = some (manyN hs hs.length)
  | 0, i, k, h, hk => by
    obtain ⟨k, rfl⟩ : ∃ m, k = m + 1 := ⟨k - 1, by omega⟩
    simp only [posserref04_Many.l0]
    rw [if_neg (by omega)]
    obtain rfl : i = hs.length := by omega
    rfl
  | d + 1, i, k, h, hk => by
    obtain ⟨k, rfl⟩ : ∃ m, k = m + 1 := ⟨k - 1, by omega⟩
    have ih := many_l0 hl d (i + 1) k (by omega) (by omega)
    simp only [posserref04_Many.l0, posserref04_Size.f, Option.bind_some]
    rw [if_pos (by omega), if_pos (by omega), show wrap64 ((i : Int) + 1) = ((i + 1 : Nat) : Int) from by unfold wrap64; omega]
    exact ih
theorem many_f (hl : hs.length ≤ 1000) (k : Nat) (hk : 2000 ≤ k) : posserref04_Many.f k cs cl hs hung looks = some (manyN hs hs.length) := by
  unfold posserref04_Many.f
  exact many_l0 cs cl hs hung looks hl hs.length 0 k (by omega) (by omega)
theorem wrap_small {T : Nat} (h : T ≤ 12960000) : wrap64 (T : Int) = T := by unfold wrap64; omega
theorem mn_big {a b : Nat} (h1 : 3000 ≤ a) (h2 : 3000 ≤ b) : mn 3000 (a : Int) = mn 3000 (b : Int) := by unfold mn; omega
/-- All horses valid: the reference's number, and the program's. -/
theorem many_prod (h4 : hs.length ≤ 4) (hv : allH (hs.map toH) = true) : ∀ n : Nat, n ≤ hs.length → manyN hs n = mn 3000 (plN (hs.map toH) n) ∧ prodH (hs.map toH) n = plN (hs.map toH) n ∧ 1 ≤ plN (hs.map toH) n ∧ plN (hs.map toH) n ≤ 60 ^ n
  | 0, _ => by simp [manyN, plN, prodH, mn]
  | n + 1, h => by
    obtain ⟨h1, h2, h3, h4'⟩ := many_prod h4 hv n (by omega)
    have hn : n ≤ 3 := by omega
    have hp : 60 ^ n ≤ 60 ^ 3 := Nat.pow_le_pow_right (by omega) hn
    have hd := of_decide_eq_true hv n (by simp; omega)
    have hd2 := of_decide_eq_true hd
    have e1 := rd_toH hs n
    have hs1 : (szN (hs.map toH) n : Int) = (rd_T68 hs n).f0.f1 + 1 - (rd_T68 hs n).f0.f0 := by
      unfold szN
      rw [e1] at hd2 ⊢
      simp only [toH] at hd2 ⊢
      omega
    have hs2 : 1 ≤ szN (hs.map toH) n ∧ szN (hs.map toH) n ≤ 60 := by
      rw [e1] at hd2
      simp only [toH] at hd2
      omega
    have hw : wrap64 (wrap64 ((rd_T68 hs n).f0.f1 - (rd_T68 hs n).f0.f0) + 1) = (szN (hs.map toH) n : Int) := by
      rw [e1] at hd2
      simp only [toH] at hd2
      unfold wrap64
      omega
    have hw2 : wrap64 (wrap64 ((rd_T139 (hs.map toH) n).f0.f1 - (rd_T139 (hs.map toH) n).f0.f0) + 1) = (szN (hs.map toH) n : Int) := by rw [e1]; exact hw
    simp only [manyN, plN, prodH]
    rw [hw, hw2, h1, h2]
    generalize plN (hs.map toH) n = P at h3 h4' ⊢
    generalize szN (hs.map toH) n = s at hs2 ⊢
    have hPs : P * s ≤ 60 ^ n * 60 := Nat.mul_le_mul h4' hs2.2
    have hP1 : P ≤ P * s := Nat.le_mul_of_pos_right P hs2.1
    have hbig : 60 ^ n * 60 ≤ 60 ^ 3 * 60 := Nat.mul_le_mul_right 60 hp
    have hc : ((P : Int) * (s : Int)) = ((P * s : Nat) : Int) := by rw [Int.natCast_mul]
    have hT : P * s ≤ 12960000 := Nat.le_trans hPs (Nat.le_trans hbig (by decide))
    have hs3 : 3000 ≤ 3000 * s := Nat.le_mul_of_pos_right 3000 hs2.1
    have hs4 : 3000 * s ≤ 180000 := Nat.le_trans (Nat.mul_le_mul_left 3000 hs2.2) (by decide)
    refine ⟨?_, ?_, by omega, by rw [Nat.pow_succ]; exact hPs⟩
    · by_cases hP : P ≤ 3000
      · have e : mn 3000 (P : Int) = P := by unfold mn; omega
        rw [e, hc, wrap_small hT]
      · have e : mn 3000 (P : Int) = 3000 := by unfold mn; omega
        have e2 : (3000 : Int) * (s : Int) = ((3000 * s : Nat) : Int) := by rw [Int.natCast_mul]; rfl
        rw [e, e2, wrap_small (by omega)]
        exact mn_big hs3 (by omega)
    · rw [hc, wrap_small hT]
end
end Go.Proofs.Ytokhmghgghjmhaa.Q
namespace Go.Proofs.Ytokhmghgghjmhaa.Q
open Go.RowKit Go.Proofs.YtokhmghgghjmhaaW.PrintWords Go.Proofs.YtokhmghgghjmhaaW.PrintLast Go.Proofs.YtokhmghgghjmhaaW.PrintMore
set_option linter.unusedVariables false
set_option linter.unusedSimpArgs false
theorem at_h68 {w : World} {A : Option Addr} {n : Nat} {xs : List S68} (h : Kd.C k68 w A n xs) (i : Nat) (h1 : i < n) : ∃ ad , A = some ad ∧ w.cell? (ad.add (i * 4)) = some (.int .i64 (rd_T68 xs i).f0.f0) ∧ w.cell? ⟨(ad.add (i * 4)).block, (ad.add (i * 4)).off + 1, none⟩ = some (.int .i64 (rd_T68 xs i).f0.f1) ∧ w.cell? ⟨(ad.add (i * 4)).block, (ad.add (i * 4)).off + 2, none⟩ = some (.int .i64 (rd_T68 xs i).f1) ∧ w.cell? ⟨(ad.add (i * 4)).block, (ad.add (i * 4)).off + 3, none⟩ = some (.int .i64 (rd_T68 xs i).f2) := by
  have h := at_T68 h (i : Int) (by omega) (by omega)
  rwa [Int.toNat_natCast] at h
theorem at_l84 {w : World} {A : Option Addr} {n : Nat} {xs : List S84} (h : Kd.C k84 w A n xs) (i : Nat) (h1 : i < n) : ∃ ad , A = some ad ∧ w.cell? (ad.add (i * 3)) = some (.int .i64 (rd_T84 xs i).f0) ∧ w.cell? ⟨(ad.add (i * 3)).block, (ad.add (i * 3)).off + 1, none⟩ = some (.int .i64 (rd_T84 xs i).f1) ∧ w.cell? ⟨(ad.add (i * 3)).block, (ad.add (i * 3)).off + 2, none⟩ = some (.bool (rd_T84 xs i).f2) := by
  have h := at_T84 h (i : Int) (by omega) (by omega)
  rwa [Int.toNat_natCast] at h
/-- The error of closets, as1 the reference tells it: the program's. -/
def faultB (cs cl : Int) (hs : List S68) (hung : List Int) (looks : List S84) : Int := checkB cs cl (hs.map toH) hung (looks.map toL)
def posserref04_Fault.f (cs cl : Int) (hs : List S68) (hung : List Int) (looks : List S84) : Option Int := some (faultB cs cl hs hung looks)
set_option maxHeartbeats 4000000 in
set_option maxRecDepth 100000 in
theorem fault_calls (cs cl : Int) {A2 A3 A4 : Option Addr} {c2 c3 c4 : Nat} {hs : List S68} {hung : List Int} {looks : List S84} {w : World}
    (h2 : Kd.C k68 w A2 hs.length hs) (l2 : hs.length ≤ c2) (h3 : Kd.C (Kd.int .i64) w A3 hung.length hung) (l3 : hung.length ≤ c3) (h4 : Kd.C k84 w A4 looks.length looks) (l4 : looks.length ≤ c4) :
    Calls Try.prog 57 #[.agg #[.int .i64 cs, .int .i64 cl, .slice A2 hs.length c2, .slice A3 hung.length c3, .slice A4 looks.length c4]] w
      fun e w' => e = .returned (.int .i64 (faultB cs cl hs hung looks)) ∧ Below w.heap.size w w' := by
  have H2 := Aside0.mk h2
  have H3 := Aside0.mk h3
  have H4 := Aside0.mk h4
  have L2 := Aside0.mk l2
  have L3 := Aside0.mk l3
  have L4 := Aside0.mk l4
  clear h2 h3 h4 l2 l3 l4
  obtain ⟨W0, hW0⟩ : ∃ W0, w.alloc (.cells #[.int .i64 cs, .int .i64 cl, .slice A2 hs.length c2, .slice A3 hung.length c3, .slice A4 looks.length c4] 26) = W0 := ⟨_, rfl⟩
  have HB0 := Aside0.mk (show Below w.heap.size w W0 from by rw [← hW0]; exact below_alloc (Below.refl _ _) _)
  have HBK := Aside0.mk (show W0.heap[w.heap.size]? = some (.cells #[.int .i64 cs, .int .i64 cl, .slice A2 hs.length c2, .slice A3 hung.length c3, .slice A4 looks.length c4] 26 (0, 0)) from by rw [← hW0]; exact blk_new _ _)
  have b0 : W0.cell? ⟨w.heap.size, 0, none⟩ = some (.int .i64 cs) := (blk_cell HBK.out 0).trans rfl
  have b1 : W0.cell? ⟨w.heap.size, 1, none⟩ = some (.int .i64 cl) := (blk_cell HBK.out 1).trans rfl
  have b2 : W0.cell? ⟨w.heap.size, 2, none⟩ = some (.slice A2 hs.length c2) := (blk_cell HBK.out 2).trans rfl
  have b3 : W0.cell? ⟨w.heap.size, 3, none⟩ = some (.slice A3 hung.length c3) := (blk_cell HBK.out 3).trans rfl
  have b4 : W0.cell? ⟨w.heap.size, 4, none⟩ = some (.slice A4 looks.length c4) := (blk_cell HBK.out 4).trans rfl
  go_enter Try.func57, Try.ntmps57
  by_cases h1 : cs > 4
  · have HR : Aside0 (faultB cs cl hs hung looks = 3) := ⟨by unfold faultB checkB; rw [if_pos (.inl h1)]⟩
    go_wp2_with (rw [hW0])
    go_ret
    exact ⟨by rw [HR.out]; rfl, HB0.out⟩
  by_cases h2 : hs.length > 4
  · have HR : Aside0 (faultB cs cl hs hung looks = 3) := ⟨by unfold faultB checkB; rw [if_pos (.inr (.inl (by simpa using h2)))]⟩
    have h2' : (hs.length : Int) > 4 := by omega
    go_wp2_with (rw [hW0])
    go_ret
    exact ⟨by rw [HR.out]; rfl, HB0.out⟩
  by_cases h3 : looks.length > 5
  · have HR : Aside0 (faultB cs cl hs hung looks = 3) := ⟨by unfold faultB checkB; rw [if_pos (.inr (.inr (by simpa using h3)))]⟩
    have h2' : ¬ (hs.length : Int) > 4 := by omega
    have h3' : (looks.length : Int) > 5 := by omega
    go_wp2_with (rw [hW0])
    go_ret
    exact ⟨by rw [HR.out]; rfl, HB0.out⟩
  have HN := Aside0.mk (show ¬ (cs > 4 ∨ (hs.map toH).length > 4 ∨ (looks.map toL).length > 5) from fun h => by simp only [List.length_map] at h; omega)
  have h2' : ¬ (hs.length : Int) > 4 := by omega
  have h3' : ¬ (looks.length : Int) > 5 := by omega
  have HL4 := Aside0.mk (show hs.length ≤ 4 from by omega)
  have HL5 := Aside0.mk (show looks.length ≤ 5 from by omega)
  clear h2 h3
  have h1n : decide (cs > 4) = false := decide_eq_false h1
  have h1g : cs ≤ 4 := by omega
  clear h1
  by_cases h4 : cs < 1
  · have HR : Aside0 (faultB cs cl hs hung looks = 1) := ⟨by unfold faultB checkB; rw [if_neg HN.out, if_pos (.inl h4)]⟩
    go_wp2_with (rw [hW0])
    go_ret
    exact ⟨by rw [HR.out]; rfl, HB0.out⟩
  cases h5 : decide (0 ≤ cl ∧ cl ≤ 99) with
  | false =>
    have HR : Aside0 (faultB cs cl hs hung looks = 1) := ⟨by unfold faultB checkB; rw [if_neg HN.out, if_pos (.inr (.inl (of_decide_eq_false h5)))]⟩
    have HX : Aside0 (posserref04_In.f cl 0 99 = some false) := ⟨by rw [in_f, h5]⟩
    clear h5
    go_wp2_with (rw [hW0])
    refine (posserref04_In.calls _ _ _ _ _ HX.out).mono ?_
    rintro e w1 ⟨rfl, ⟨nd, rfl⟩⟩
    go_wp2_with fail
    go_ret
    exact ⟨by rw [HR.out]; rfl, pw_below_drewN HB0.out _⟩
  | true =>
  have HX : Aside0 (posserref04_In.f cl 0 99 = some true) := ⟨by rw [in_f, h5]⟩
  have H5 := Aside0.mk h5
  clear h5
  go_wp2_with (rw [hW0])
  refine (posserref04_In.calls _ _ _ _ _ HX.out).mono ?_
  clear HX
  rintro e w1 ⟨rfl, ⟨nd, rfl⟩⟩
  have HB1 := Aside0.mk (pw_below_drewN HB0.out nd)
  cases h7 : placeB (wrap64 (cs - 1)) hs.length hung with
  | false =>
    have HR : Aside0 (faultB cs cl hs hung looks = 1) := ⟨by unfold faultB checkB; rw [if_neg HN.out, if_pos (.inr (.inr (.inr (.inl (by rw [List.length_map]; exact h7)))))]⟩
    have HX : Aside0 (posserref04_IsPlace.f 20000 cs cl hs hung looks hung = some false) := ⟨by rw [isPlace_f cs cl hs hung looks hung (by have := HL4.out; omega) 20000 (Nat.le_refl _), h7]⟩
    clear h7
    go_wp2_with fail
    refine (posserref04_IsPlace.calls 20000 cs cl A2 c2 hs A3 c3 hung A4 c4 looks A3 c3 hung false _ (Kd.C_below H2.out HB1.out) L2.out (Kd.C_below H3.out HB1.out) L3.out (Kd.C_below H4.out HB1.out) L4.out (Kd.C_below H3.out HB1.out) L3.out HX.out).mono ?_
    rintro e w2 ⟨rfl, hb⟩
    have HB2 := Aside0.mk (below_step HB1.out hb)
    clear hb
    go_wp2_with fail
    go_ret
    exact ⟨by rw [HR.out]; rfl, HB2.out⟩
  | true =>
  have HX : Aside0 (posserref04_IsPlace.f 20000 cs cl hs hung looks hung = some true) := ⟨by rw [isPlace_f cs cl hs hung looks hung (by have := HL4.out; omega) 20000 (Nat.le_refl _), h7]⟩
  have H7 := Aside0.mk h7
  clear h7
  go_wp2_with fail
  refine (posserref04_IsPlace.calls 20000 cs cl A2 c2 hs A3 c3 hung A4 c4 looks A3 c3 hung true _ (Kd.C_below H2.out HB1.out) L2.out (Kd.C_below H3.out HB1.out) L3.out (Kd.C_below H4.out HB1.out) L4.out (Kd.C_below H3.out HB1.out) L3.out HX.out).mono ?_
  clear HX
  rintro e w2 ⟨rfl, hb⟩
  have HB2 := Aside0.mk (below_step HB1.out hb)
  have HK2 := Aside0.mk (blk_below (blk_drewN HBK.out nd) hb)
  clear hb b0 b1 b2 b3 b4
  go_wp2_with fail
  go_loopg [3] hs.length (fun k v wr => ∃ n : Nat, v = .int .i64 n ∧ Aside0 (n + k = hs.length) ∧ Aside0 (Below w.heap.size w wr) ∧ Aside0 (wr.heap[w.heap.size]? = some (.cells #[.int .i64 cs, .int .i64 cl, .slice A2 hs.length c2, .slice A3 hung.length c3, .slice A4 looks.length c4] 26 (0, 0))) ∧ Aside0 (∀ j : Nat, j < n → validB (toH (rd_T68 hs j)) = true))
  case atStart => exact ⟨0, rfl, ⟨by omega⟩, HB2, HK2, ⟨fun j hj => absurd hj (by omega)⟩⟩
  case round =>
    obtain ⟨n, rfl, HI, HB, HK, HV⟩ := hrel
    have b0 : wr.cell? ⟨w.heap.size, 0, none⟩ = some (.int .i64 cs) := (blk_cell HK.out 0).trans rfl
    have b1 : wr.cell? ⟨w.heap.size, 1, none⟩ = some (.int .i64 cl) := (blk_cell HK.out 1).trans rfl
    have b2 : wr.cell? ⟨w.heap.size, 2, none⟩ = some (.slice A2 hs.length c2) := (blk_cell HK.out 2).trans rfl
    have b3 : wr.cell? ⟨w.heap.size, 3, none⟩ = some (.slice A3 hung.length c3) := (blk_cell HK.out 3).trans rfl
    have b4 : wr.cell? ⟨w.heap.size, 4, none⟩ = some (.slice A4 looks.length c4) := (blk_cell HK.out 4).trans rfl
    have z0 := blk_lt HK.out
    by_cases hlt : n < hs.length
    · obtain ⟨ad, e, y0, y1, y2, y3⟩ := at_h68 H2.out n hlt
      cases e
      replace y0 := later HB.out y0
      replace y1 := later HB.out y1
      replace y2 := later HB.out y2
      replace y3 := later HB.out y3
      have hlt4 : (n : Int) < 4 := by have := HL4.out; omega
      have hlt' : (n : Int) < (hs.length : Int) := by omega
      obtain ⟨hh, ehh⟩ : ∃ hh, rd_T68 hs (n : Int) = hh := ⟨_, rfl⟩
      have EHH := Aside0.mk ehh
      rw [ehh] at y0 y1 y2 y3
      clear ehh
      have HBN := Aside0.mk (below_alloc HB.out (.cells #[.int .i64 hh.f0.f0, .int .i64 hh.f0.f1, .int .i64 hh.f1, .int .i64 hh.f2] 68))
      have HKN := Aside0.mk (blk_alloc HK.out (.cells #[.int .i64 hh.f0.f0, .int .i64 hh.f0.f1, .int .i64 hh.f1, .int .i64 hh.f2] 68))
      have HNW := Aside0.mk (blk_new wr (.cells #[.int .i64 hh.f0.f0, .int .i64 hh.f0.f1, .int .i64 hh.f1, .int .i64 hh.f2] 68))
      obtain ⟨W3, hW3⟩ : ∃ W3, wr.alloc (.cells #[.int .i64 hh.f0.f0, .int .i64 hh.f0.f1, .int .i64 hh.f1, .int .i64 hh.f2] 68) = W3 := ⟨_, rfl⟩
      rw [hW3] at HBN HKN HNW
      have d0 : W3.cell? ⟨wr.heap.size, 0, none⟩ = some (.int .i64 hh.f0.f0) := (blk_cell HNW.out 0).trans rfl
      have d1 : W3.cell? ⟨wr.heap.size, 1, none⟩ = some (.int .i64 hh.f0.f1) := (blk_cell HNW.out 1).trans rfl
      have d2 : W3.cell? ⟨wr.heap.size, 2, none⟩ = some (.int .i64 hh.f1) := (blk_cell HNW.out 2).trans rfl
      have d3 : W3.cell? ⟨wr.heap.size, 3, none⟩ = some (.int .i64 hh.f2) := (blk_cell HNW.out 3).trans rfl
      have HBAD : Aside0 (validB (toH hh) = false → faultB cs cl hs hung looks = 1) := ⟨fun hv => by
        unfold faultB checkB
        rw [if_neg HN.out, if_pos]
        refine .inr (.inr (.inl ?_))
        refine decide_eq_false (fun h => ?_)
        have := h n (by simpa using hlt)
        rw [rd_toH, EHH.out, hv] at this
        cases this⟩
      by_cases v1 : hh.f0.f0 < 1
      · have HR : Aside0 (faultB cs cl hs hung looks = 1) := ⟨HBAD.out (decide_eq_false (fun h => by have := h.1; simp only [toH] at this; omega))⟩
        go_wp2_with (rw [hW3])
        go_ret
        exact ⟨by rw [HR.out]; rfl, HBN.out⟩
      by_cases v2 : hh.f0.f0 > hh.f0.f1
      · have HR : Aside0 (faultB cs cl hs hung looks = 1) := ⟨HBAD.out (decide_eq_false (fun h => by have := h.2.1; simp only [toH] at this; omega))⟩
        go_wp2_with (rw [hW3])
        go_ret
        exact ⟨by rw [HR.out]; rfl, HBN.out⟩
      by_cases v3 : hh.f0.f1 > 60
      · have HR : Aside0 (faultB cs cl hs hung looks = 1) := ⟨HBAD.out (decide_eq_false (fun h => by have := h.2.2.1; simp only [toH] at this; omega))⟩
        go_wp2_with (rw [hW3])
        go_ret
        exact ⟨by rw [HR.out]; rfl, HBN.out⟩
      cases v4 : decide (0 ≤ hh.f1 ∧ hh.f1 ≤ 9) with
      | false =>
        have HR : Aside0 (faultB cs cl hs hung looks = 1) := ⟨HBAD.out (decide_eq_false (fun h => of_decide_eq_false v4 h.2.2.2.1))⟩
        have HX : Aside0 (posserref04_In.f hh.f1 0 9 = some false) := ⟨by rw [in_f, v4]⟩
        clear v4
        go_wp2_with (rw [hW3])
        refine (posserref04_In.calls _ _ _ _ _ HX.out).mono ?_
        rintro e w4 ⟨rfl, ⟨nd, rfl⟩⟩
        go_wp2_with fail
        go_ret
        exact ⟨by rw [HR.out]; rfl, pw_below_drewN HBN.out _⟩
      | true =>
      have HX : Aside0 (posserref04_In.f hh.f1 0 9 = some true) := ⟨by rw [in_f, v4]⟩
      have V4 := Aside0.mk v4
      clear v4
      go_wp2_with (rw [hW3])
      refine (posserref04_In.calls _ _ _ _ _ HX.out).mono ?_
      clear HX
      rintro e w4 ⟨rfl, ⟨nd4, rfl⟩⟩
      cases v5 : decide (0 ≤ hh.f2 ∧ hh.f2 ≤ 30) with
      | false =>
        have HR : Aside0 (faultB cs cl hs hung looks = 1) := ⟨HBAD.out (decide_eq_false (fun h => of_decide_eq_false v5 h.2.2.2.2))⟩
        have HX : Aside0 (posserref04_In.f hh.f2 0 30 = some false) := ⟨by rw [in_f, v5]⟩
        clear v5
        go_wp2_with fail
        refine (posserref04_In.calls _ _ _ _ _ HX.out).mono ?_
        rintro e w5 ⟨rfl, ⟨nd5, rfl⟩⟩
        go_wp2_with fail
        go_ret
        exact ⟨by rw [HR.out]; rfl, pw_below_drewN HBN.out _⟩
      | true =>
      have HX : Aside0 (posserref04_In.f hh.f2 0 30 = some true) := ⟨by rw [in_f, v5]⟩
      have HVV : Aside0 (validB (toH hh) = true) := ⟨decide_eq_true ⟨by simp only [toH]; omega, by simp only [toH]; omega, by simp only [toH]; omega, of_decide_eq_true V4.out, of_decide_eq_true v5⟩⟩
      clear v5
      go_wp2_with fail
      refine (posserref04_In.calls _ _ _ _ _ HX.out).mono ?_
      clear HX
      rintro e w5 ⟨rfl, ⟨nd5, rfl⟩⟩
      go_wp2_with fail
      go_roundg (hs.length - (n + 1))
      case measure => have := HI.out; omega
      case rel =>
        refine ⟨n + 1, by go_num, ⟨by have := HI.out; omega⟩, ⟨pw_below_drewN HBN.out _⟩, ⟨blk_drewN HKN.out _⟩, ⟨fun j hj => ?_⟩⟩
        by_cases hjn : j = n
        · subst hjn; rw [EHH.out]; exact HVV.out
        · exact HV.out j (by omega)
    · have hlt' : ¬ (n : Int) < (hs.length : Int) := by omega
      obtain rfl : n = hs.length := by have := HI.out; omega
      have H6 := Aside0.mk (show allH (hs.map toH) = true from decide_eq_true (fun i hi => by rw [rd_toH]; exact HV.out i (by simpa using hi)))
      clear b0 b1 b3 hlt'
      go_wp2_with fail
      go_loopg [5] looks.length (fun k v wq => ∃ n : Nat, v = .int .i64 n ∧ Aside0 (n + k = looks.length) ∧ Aside0 (Below w.heap.size w wq) ∧ Aside0 (wq.heap[w.heap.size]? = some (.cells #[.int .i64 cs, .int .i64 cl, .slice A2 hs.length c2, .slice A3 hung.length c3, .slice A4 looks.length c4] 26 (0, 0))) ∧ Aside0 (∀ j : Nat, j < n → lookB hs.length (toL (rd_T84 looks j)) = true))
      case atStart => exact ⟨0, rfl, ⟨by omega⟩, HB, HK, ⟨fun j hj => absurd hj (by omega)⟩⟩
      case round =>
        obtain ⟨n, rfl, HI2, HB2, HK2, HV2⟩ := hrel
        clear b2 b4 z0
        have b0 : wr.cell? ⟨w.heap.size, 0, none⟩ = some (.int .i64 cs) := (blk_cell HK2.out 0).trans rfl
        have b1 : wr.cell? ⟨w.heap.size, 1, none⟩ = some (.int .i64 cl) := (blk_cell HK2.out 1).trans rfl
        have b2 : wr.cell? ⟨w.heap.size, 2, none⟩ = some (.slice A2 hs.length c2) := (blk_cell HK2.out 2).trans rfl
        have b3 : wr.cell? ⟨w.heap.size, 3, none⟩ = some (.slice A3 hung.length c3) := (blk_cell HK2.out 3).trans rfl
        have b4 : wr.cell? ⟨w.heap.size, 4, none⟩ = some (.slice A4 looks.length c4) := (blk_cell HK2.out 4).trans rfl
        have z0 := blk_lt HK2.out
        by_cases hlt : n < looks.length
        · obtain ⟨ad, e, y0, y1, y2⟩ := at_l84 H4.out n hlt
          cases e
          replace y0 := later HB2.out y0
          replace y1 := later HB2.out y1
          have hlt5 : (n : Int) < 5 := by have := HL5.out; omega
          have hlt' : (n : Int) < (looks.length : Int) := by omega
          have hh4 := HL4.out
          obtain ⟨lk, elk⟩ : ∃ lk, rd_T84 looks (n : Int) = lk := ⟨_, rfl⟩
          have ELK := Aside0.mk elk
          rw [elk] at y0 y1
          clear elk y2
          have HBAD : Aside0 (lookB hs.length (toL lk) = false → faultB cs cl hs hung looks = 1) := ⟨fun hv => by
            unfold faultB checkB
            rw [if_neg HN.out, if_pos]
            refine .inr (.inr (.inr (.inr ?_)))
            refine decide_eq_false (fun h => ?_)
            have := h n (by simpa using hlt)
            rw [rd_toL, ELK.out, List.length_map, hv] at this
            cases this⟩
          have hwx : IntKind.i64.wrap ((hs.length : Int) - 1) = (hs.length : Int) - 1 := IntWalk.i64_in _ (by omega)
          have hw : wrap64 ((hs.length : Int) - 1) = (hs.length : Int) - 1 := wrap_dec (by omega) (by omega)
          have HWX := Aside0.mk hwx
          have HW := Aside0.mk hw
          clear hwx hw
          cases v4 : decide (0 ≤ lk.f0 ∧ lk.f0 ≤ (hs.length : Int) - 1) with
          | false =>
            have HR : Aside0 (faultB cs cl hs hung looks = 1) := ⟨HBAD.out (decide_eq_false (fun h => of_decide_eq_false v4 ⟨h.1, by have := h.2.1; rw [HW.out] at this; exact this⟩))⟩
            have HX : Aside0 (posserref04_In.f lk.f0 0 (IntKind.i64.wrap ((hs.length : Int) - 1)) = some false) := ⟨by rw [in_f, HWX.out, v4]⟩
            clear v4
            go_wp2_with fail
            refine wp_region_held_drew (S := fun W' => Below wr.heap.size wr W' ∧ W'.cell? ⟨w.heap.size, 2, none⟩ = some (.slice A2 hs.length c2) ∧ W'.cell? ⟨w.heap.size, 4, none⟩ = some (.slice (some ad) looks.length c4) ∧ W'.cell? (ad.add (n * 3)) = some (.int .i64 lk.f0) ∧ W'.cell? ⟨(ad.add (n * 3)).block, (ad.add (n * 3)).off + 1, none⟩ = some (.int .i64 lk.f1)) (by kernel_rfl) ?hS (fun hHeld => ?_)
            case hS => exact ⟨below_drew (Below.refl _ _), b2, b4, y0, y1⟩
            focus
              refine tkT 0 (some 87) (v := ?_) rfl rfl (.inl ⟨by rfl, ?_⟩) ?_
              rotate_left
              · (intro w hSw; (try dsimp only at hSw); go_simp; with_reducible rfl)
              try simp only [pS]
              refine tkT 1 (some 88) (v := ?_) rfl rfl (.inl ⟨by rfl, ?_⟩) ?_
              rotate_left
              · (intro w hSw; (try dsimp only at hSw); go_simp; with_reducible rfl)
              try simp only [pS]
              refine tkT 2 (some 89) (v := ?_) rfl rfl (.inl ⟨by rfl, ?_⟩) ?_
              rotate_left
              · (intro w hSw; (try dsimp only at hSw); go_simp; with_reducible rfl)
              try simp only [pS]
              refine tkT 3 (some 90) (v := ?_) rfl rfl (.inl ⟨by rfl, ?_⟩) ?_
              rotate_left
              · (intro w hSw; (try dsimp only at hSw); go_simp; with_reducible rfl)
              try simp only [pS]
              refine tkT 4 (some 91) (v := ?_) rfl rfl (.inl ⟨by rfl, ?_⟩) ?_
              rotate_left
              · (intro w hSw; (try dsimp only at hSw); go_simp; with_reducible rfl)
              try simp only [pS]
              refine tkT 5 (some 92) (v := ?_) rfl rfl (.inl ⟨by rfl, ?_⟩) ?_
              rotate_left
              · (intro w hSw; (try dsimp only at hSw); go_simp; with_reducible rfl)
              try simp only [pS]
              refine tkT 6 (some 93) (v := ?_) rfl rfl (.inl ⟨by rfl, ?_⟩) ?_
              rotate_left
              · (intro w hSw; (try dsimp only at hSw); go_simp; with_reducible rfl)
              try simp only [pS]
              refine tkT 7 (some 94) (v := ?_) rfl rfl (.inl ⟨by rfl, ?_⟩) ?_
              rotate_left
              · (intro w hSw; (try dsimp only at hSw); go_simp; with_reducible rfl)
              try simp only [pS]
              refine tkT 8 (some 95) (v := ?_) rfl rfl (.inl ⟨by rfl, ?_⟩) ?_
              rotate_left
              · (intro w hSw; (try dsimp only at hSw); go_simp; with_reducible rfl)
              try simp only [pS]
              refine tkT 9 (some 96) (v := ?_) rfl rfl (.inl ⟨by rfl, ?_⟩) ?_
              rotate_left
              · (intro w hSw; (try dsimp only at hSw); go_simp; with_reducible rfl)
              try simp only [pS]
              refine wpAnyH_ready (rs := [10]) (by kernel_rfl) (by simp) ?_
              refine AllReadyH.cons (o := { dst := some 97, op := Op.call { callee := Callee.value (Operand.func 44), args := #[Operand.tmp 92, Operand.const (Value.int IntKind.i64 0), Operand.tmp 96], argTypes := #[3, 3, 3] }, type := 4, pos := "ref.go:65", after := #[{ on := 5, ground := Ground.data }, { on := 9, ground := Ground.data }], guard := none }) rfl (fun K hK => ?_) ?_
              go_simp
              ((first | (go_at_call 44; with_reducible refine (posserref04_In.calls _ _ _ _ _ HX.out).mono ?_; rintro e wx ⟨rfl, ⟨nd9, rfl⟩⟩)))
              go_wp2_with fail
              refine hK.out _ _ ?_ ?_
              · ((try dsimp only); (with_reducible exact ⟨pw_below_drewN (Below.refl _ _) _, later (pw_below_drewN (Below.refl _ _) _) b2, later (pw_below_drewN (Below.refl _ _) _) b4, later (pw_below_drewN (Below.refl _ _) _) y0, later (pw_below_drewN (Below.refl _ _) _) y1⟩))
              try clear hHeld
              intro hHeld
              clear hK K
              try simp only [pS]
              refine tkT 11 (some 98) (v := ?_) rfl rfl (.inl ⟨by rfl, ?_⟩) ?_
              rotate_left
              · (intro w hSw; (try dsimp only at hSw); go_simp; with_reducible rfl)
              try simp only [pS]
              refine tkT 12 (some 99) (v := ?_) rfl rfl (.inl ⟨by rfl, ?_⟩) ?_
              rotate_left
              · (intro w hSw; (try dsimp only at hSw); go_simp; with_reducible rfl)
              try simp only [pS]
              refine tkT 13 (some 100) (v := undef) rfl rfl (.inr ⟨by rfl, rfl⟩) ?_
              try simp only [pS]
              refine tkT 14 (some 101) (v := undef) rfl rfl (.inr ⟨by rfl, rfl⟩) ?_
              try simp only [pS]
              refine tkT 15 (some 102) (v := undef) rfl rfl (.inr ⟨by rfl, rfl⟩) ?_
              try simp only [pS]
              refine tkT 16 (some 103) (v := undef) rfl rfl (.inr ⟨by rfl, rfl⟩) ?_
              try simp only [pS]
              refine tkT 17 (some 104) (v := undef) rfl rfl (.inr ⟨by rfl, rfl⟩) ?_
              try simp only [pS]
              refine tkT 18 (some 105) (v := undef) rfl rfl (.inr ⟨by rfl, rfl⟩) ?_
              try simp only [pS]
              refine tkT 19 (some 106) (v := undef) rfl rfl (.inr ⟨by rfl, rfl⟩) ?_
              try simp only [pS]
              refine tkT 20 (some 107) (v := undef) rfl rfl (.inr ⟨by rfl, rfl⟩) ?_
              try simp only [pS]
              refine tkT 21 (some 108) (v := ?_) rfl rfl (.inl ⟨by rfl, ?_⟩) ?_
              rotate_left
              · (intro w hSw; (try dsimp only at hSw); go_simp; with_reducible rfl)
              try simp only [pS]
              refine wpAnyH_done (by kernel_rfl) ?_ _
              rotate_left
              exact AllReadyH.nil
            all_goals
              have HBZ := Aside0.mk (below_step HB2.out hHeld.1)
              go_wp2_with fail
              go_ret
              exact ⟨by rw [HR.out]; rfl, HBZ.out⟩
          | true =>
          have HX : Aside0 (posserref04_In.f lk.f0 0 (IntKind.i64.wrap ((hs.length : Int) - 1)) = some true) := ⟨by rw [in_f, HWX.out, v4]⟩
          have V4 := Aside0.mk v4
          clear v4
          cases v5 : decide (0 ≤ lk.f1 ∧ lk.f1 ≤ 99) with
          | false =>
            have HR : Aside0 (faultB cs cl hs hung looks = 1) := ⟨HBAD.out (decide_eq_false (fun h => of_decide_eq_false v5 h.2.2))⟩
            have HY : Aside0 (posserref04_In.f lk.f1 0 99 = some false) := ⟨by rw [in_f, v5]⟩
            clear v5
            go_wp2_with fail
            refine wp_region_held_drew (S := fun W' => Below wr.heap.size wr W' ∧ W'.cell? ⟨w.heap.size, 2, none⟩ = some (.slice A2 hs.length c2) ∧ W'.cell? ⟨w.heap.size, 4, none⟩ = some (.slice (some ad) looks.length c4) ∧ W'.cell? (ad.add (n * 3)) = some (.int .i64 lk.f0) ∧ W'.cell? ⟨(ad.add (n * 3)).block, (ad.add (n * 3)).off + 1, none⟩ = some (.int .i64 lk.f1)) (by kernel_rfl) ?hS (fun hHeld => ?_)
            case hS => exact ⟨below_drew (Below.refl _ _), b2, b4, y0, y1⟩
            focus
              refine tkT 0 (some 87) (v := ?_) rfl rfl (.inl ⟨by rfl, ?_⟩) ?_
              rotate_left
              · (intro w hSw; (try dsimp only at hSw); go_simp; with_reducible rfl)
              try simp only [pS]
              refine tkT 1 (some 88) (v := ?_) rfl rfl (.inl ⟨by rfl, ?_⟩) ?_
              rotate_left
              · (intro w hSw; (try dsimp only at hSw); go_simp; with_reducible rfl)
              try simp only [pS]
              refine tkT 2 (some 89) (v := ?_) rfl rfl (.inl ⟨by rfl, ?_⟩) ?_
              rotate_left
              · (intro w hSw; (try dsimp only at hSw); go_simp; with_reducible rfl)
              try simp only [pS]
              refine tkT 3 (some 90) (v := ?_) rfl rfl (.inl ⟨by rfl, ?_⟩) ?_
              rotate_left
              · (intro w hSw; (try dsimp only at hSw); go_simp; with_reducible rfl)
              try simp only [pS]
              refine tkT 4 (some 91) (v := ?_) rfl rfl (.inl ⟨by rfl, ?_⟩) ?_
              rotate_left
              · (intro w hSw; (try dsimp only at hSw); go_simp; with_reducible rfl)
              try simp only [pS]
              refine tkT 5 (some 92) (v := ?_) rfl rfl (.inl ⟨by rfl, ?_⟩) ?_
              rotate_left
              · (intro w hSw; (try dsimp only at hSw); go_simp; with_reducible rfl)
              try simp only [pS]
              refine tkT 6 (some 93) (v := ?_) rfl rfl (.inl ⟨by rfl, ?_⟩) ?_
              rotate_left
              · (intro w hSw; (try dsimp only at hSw); go_simp; with_reducible rfl)
              try simp only [pS]
              refine tkT 7 (some 94) (v := ?_) rfl rfl (.inl ⟨by rfl, ?_⟩) ?_
              rotate_left
              · (intro w hSw; (try dsimp only at hSw); go_simp; with_reducible rfl)
              try simp only [pS]
              refine tkT 8 (some 95) (v := ?_) rfl rfl (.inl ⟨by rfl, ?_⟩) ?_
              rotate_left
              · (intro w hSw; (try dsimp only at hSw); go_simp; with_reducible rfl)
              try simp only [pS]
              refine tkT 9 (some 96) (v := ?_) rfl rfl (.inl ⟨by rfl, ?_⟩) ?_
              rotate_left
              · (intro w hSw; (try dsimp only at hSw); go_simp; with_reducible rfl)
              try simp only [pS]
              refine wpAnyH_ready (rs := [10]) (by kernel_rfl) (by simp) ?_
              refine AllReadyH.cons (o := { dst := some 97, op := Op.call { callee := Callee.value (Operand.func 44), args := #[Operand.tmp 92, Operand.const (Value.int IntKind.i64 0), Operand.tmp 96], argTypes := #[3, 3, 3] }, type := 4, pos := "ref.go:65", after := #[{ on := 5, ground := Ground.data }, { on := 9, ground := Ground.data }], guard := none }) rfl (fun K hK => ?_) ?_
              go_simp
              ((first | (go_at_call 44; with_reducible refine (posserref04_In.calls _ _ _ _ _ HX.out).mono ?_; rintro e wx ⟨rfl, ⟨nd9, rfl⟩⟩) | (go_at_call 44; with_reducible refine (posserref04_In.calls _ _ _ _ _ HY.out).mono ?_; rintro e wx ⟨rfl, ⟨nd9, rfl⟩⟩)))
              go_wp2_with fail
              refine hK.out _ _ ?_ ?_
              · ((try dsimp only); (with_reducible exact ⟨pw_below_drewN (Below.refl _ _) _, later (pw_below_drewN (Below.refl _ _) _) b2, later (pw_below_drewN (Below.refl _ _) _) b4, later (pw_below_drewN (Below.refl _ _) _) y0, later (pw_below_drewN (Below.refl _ _) _) y1⟩))
              try clear hHeld
              intro hHeld
              clear hK K
              try simp only [pS]
              refine tkT 11 (some 98) (v := ?_) rfl rfl (.inl ⟨by rfl, ?_⟩) ?_
              rotate_left
              · (intro w hSw; (try dsimp only at hSw); go_simp; with_reducible rfl)
              try simp only [pS]
              refine tkT 12 (some 99) (v := ?_) rfl rfl (.inl ⟨by rfl, ?_⟩) ?_
              rotate_left
              · (intro w hSw; (try dsimp only at hSw); go_simp; with_reducible rfl)
              try simp only [pS]
              refine tkT 13 (some 100) (v := ?_) rfl rfl (.inl ⟨by rfl, ?_⟩) ?_
              rotate_left
              · (intro w hSw; (try dsimp only at hSw); go_simp; with_reducible rfl)
              try simp only [pS]
              refine tkT 14 (some 101) (v := ?_) rfl rfl (.inl ⟨by rfl, ?_⟩) ?_
              rotate_left
              · (intro w hSw; (try dsimp only at hSw); go_simp; with_reducible rfl)
              try simp only [pS]
              refine tkT 15 (some 102) (v := ?_) rfl rfl (.inl ⟨by rfl, ?_⟩) ?_
              rotate_left
              · (intro w hSw; (try dsimp only at hSw); go_simp; with_reducible rfl)
              try simp only [pS]
              refine tkT 16 (some 103) (v := ?_) rfl rfl (.inl ⟨by rfl, ?_⟩) ?_
              rotate_left
              · (intro w hSw; (try dsimp only at hSw); go_simp; with_reducible rfl)
              try simp only [pS]
              refine tkT 17 (some 104) (v := ?_) rfl rfl (.inl ⟨by rfl, ?_⟩) ?_
              rotate_left
              · (intro w hSw; (try dsimp only at hSw); go_simp; with_reducible rfl)
              try simp only [pS]
              refine tkT 18 (some 105) (v := ?_) rfl rfl (.inl ⟨by rfl, ?_⟩) ?_
              rotate_left
              · (intro w hSw; (try dsimp only at hSw); go_simp; with_reducible rfl)
              try simp only [pS]
              refine wpAnyH_ready (rs := [19]) (by kernel_rfl) (by simp) ?_
              refine AllReadyH.cons (o := { dst := some 106, op := Op.call { callee := Callee.value (Operand.func 44), args := #[Operand.tmp 105, Operand.const (Value.int IntKind.i64 0), Operand.const (Value.int IntKind.i64 99)], argTypes := #[3, 3, 3] }, type := 4, pos := "ref.go:65", after := #[{ on := 18, ground := Ground.data }, { on := 12, ground := Ground.chain }, { on := 12, ground := Ground.guard }], guard := some (12, false) }) rfl (fun K hK => ?_) ?_
              go_simp
              ((first | (go_at_call 44; with_reducible refine (posserref04_In.calls _ _ _ _ _ HX.out).mono ?_; rintro e wx ⟨rfl, ⟨nd9, rfl⟩⟩) | (go_at_call 44; with_reducible refine (posserref04_In.calls _ _ _ _ _ HY.out).mono ?_; rintro e wx ⟨rfl, ⟨nd9, rfl⟩⟩)))
              go_wp2_with fail
              refine hK.out _ _ ?_ ?_
              · ((try dsimp only); (with_reducible exact ⟨pw_below_drewN (Below.refl _ _) _, later (pw_below_drewN (Below.refl _ _) _) b2, later (pw_below_drewN (Below.refl _ _) _) b4, later (pw_below_drewN (Below.refl _ _) _) y0, later (pw_below_drewN (Below.refl _ _) _) y1⟩))
              try clear hHeld
              intro hHeld
              clear hK K
              try simp only [pS]
              refine tkT 20 (some 107) (v := ?_) rfl rfl (.inl ⟨by rfl, ?_⟩) ?_
              rotate_left
              · (intro w hSw; (try dsimp only at hSw); go_simp; with_reducible rfl)
              try simp only [pS]
              refine tkT 21 (some 108) (v := ?_) rfl rfl (.inl ⟨by rfl, ?_⟩) ?_
              rotate_left
              · (intro w hSw; (try dsimp only at hSw); go_simp; with_reducible rfl)
              try simp only [pS]
              refine wpAnyH_done (by kernel_rfl) ?_ _
              rotate_left
              exact AllReadyH.nil
              exact AllReadyH.nil
            all_goals
              have HBZ := Aside0.mk (below_step HB2.out hHeld.1)
              go_wp2_with fail
              go_ret
              exact ⟨by rw [HR.out]; rfl, HBZ.out⟩
          | true =>
          have HY : Aside0 (posserref04_In.f lk.f1 0 99 = some true) := ⟨by rw [in_f, v5]⟩
          have HVV : Aside0 (lookB hs.length (toL lk) = true) := ⟨decide_eq_true (by rw [HW.out]; exact ⟨(of_decide_eq_true V4.out).1, (of_decide_eq_true V4.out).2, of_decide_eq_true v5⟩)⟩
          clear v5
          go_wp2_with fail
          refine wp_region_held_drew (S := fun W' => Below wr.heap.size wr W' ∧ W'.cell? ⟨w.heap.size, 2, none⟩ = some (.slice A2 hs.length c2) ∧ W'.cell? ⟨w.heap.size, 4, none⟩ = some (.slice (some ad) looks.length c4) ∧ W'.cell? (ad.add (n * 3)) = some (.int .i64 lk.f0) ∧ W'.cell? ⟨(ad.add (n * 3)).block, (ad.add (n * 3)).off + 1, none⟩ = some (.int .i64 lk.f1)) (by kernel_rfl) ?hS (fun hHeld => ?_)
          case hS => exact ⟨below_drew (Below.refl _ _), b2, b4, y0, y1⟩
          focus
            refine tkT 0 (some 87) (v := ?_) rfl rfl (.inl ⟨by rfl, ?_⟩) ?_
            rotate_left
            · (intro w hSw; (try dsimp only at hSw); go_simp; with_reducible rfl)
            try simp only [pS]
            refine tkT 1 (some 88) (v := ?_) rfl rfl (.inl ⟨by rfl, ?_⟩) ?_
            rotate_left
            · (intro w hSw; (try dsimp only at hSw); go_simp; with_reducible rfl)
            try simp only [pS]
            refine tkT 2 (some 89) (v := ?_) rfl rfl (.inl ⟨by rfl, ?_⟩) ?_
            rotate_left
            · (intro w hSw; (try dsimp only at hSw); go_simp; with_reducible rfl)
            try simp only [pS]
            refine tkT 3 (some 90) (v := ?_) rfl rfl (.inl ⟨by rfl, ?_⟩) ?_
            rotate_left
            · (intro w hSw; (try dsimp only at hSw); go_simp; with_reducible rfl)
            try simp only [pS]
            refine tkT 4 (some 91) (v := ?_) rfl rfl (.inl ⟨by rfl, ?_⟩) ?_
            rotate_left
            · (intro w hSw; (try dsimp only at hSw); go_simp; with_reducible rfl)
            try simp only [pS]
            refine tkT 5 (some 92) (v := ?_) rfl rfl (.inl ⟨by rfl, ?_⟩) ?_
            rotate_left
            · (intro w hSw; (try dsimp only at hSw); go_simp; with_reducible rfl)
            try simp only [pS]
            refine tkT 6 (some 93) (v := ?_) rfl rfl (.inl ⟨by rfl, ?_⟩) ?_
            rotate_left
            · (intro w hSw; (try dsimp only at hSw); go_simp; with_reducible rfl)
            try simp only [pS]
            refine tkT 7 (some 94) (v := ?_) rfl rfl (.inl ⟨by rfl, ?_⟩) ?_
            rotate_left
            · (intro w hSw; (try dsimp only at hSw); go_simp; with_reducible rfl)
            try simp only [pS]
            refine tkT 8 (some 95) (v := ?_) rfl rfl (.inl ⟨by rfl, ?_⟩) ?_
            rotate_left
            · (intro w hSw; (try dsimp only at hSw); go_simp; with_reducible rfl)
            try simp only [pS]
            refine tkT 9 (some 96) (v := ?_) rfl rfl (.inl ⟨by rfl, ?_⟩) ?_
            rotate_left
            · (intro w hSw; (try dsimp only at hSw); go_simp; with_reducible rfl)
            try simp only [pS]
            refine wpAnyH_ready (rs := [10]) (by kernel_rfl) (by simp) ?_
            refine AllReadyH.cons (o := { dst := some 97, op := Op.call { callee := Callee.value (Operand.func 44), args := #[Operand.tmp 92, Operand.const (Value.int IntKind.i64 0), Operand.tmp 96], argTypes := #[3, 3, 3] }, type := 4, pos := "ref.go:65", after := #[{ on := 5, ground := Ground.data }, { on := 9, ground := Ground.data }], guard := none }) rfl (fun K hK => ?_) ?_
            go_simp
            ((first | (go_at_call 44; with_reducible refine (posserref04_In.calls _ _ _ _ _ HX.out).mono ?_; rintro e wx ⟨rfl, ⟨nd9, rfl⟩⟩) | (go_at_call 44; with_reducible refine (posserref04_In.calls _ _ _ _ _ HY.out).mono ?_; rintro e wx ⟨rfl, ⟨nd9, rfl⟩⟩)))
            go_wp2_with fail
            refine hK.out _ _ ?_ ?_
            · ((try dsimp only); (with_reducible exact ⟨pw_below_drewN (Below.refl _ _) _, later (pw_below_drewN (Below.refl _ _) _) b2, later (pw_below_drewN (Below.refl _ _) _) b4, later (pw_below_drewN (Below.refl _ _) _) y0, later (pw_below_drewN (Below.refl _ _) _) y1⟩))
            try clear hHeld
            intro hHeld
            clear hK K
            try simp only [pS]
            refine tkT 11 (some 98) (v := ?_) rfl rfl (.inl ⟨by rfl, ?_⟩) ?_
            rotate_left
            · (intro w hSw; (try dsimp only at hSw); go_simp; with_reducible rfl)
            try simp only [pS]
            refine tkT 12 (some 99) (v := ?_) rfl rfl (.inl ⟨by rfl, ?_⟩) ?_
            rotate_left
            · (intro w hSw; (try dsimp only at hSw); go_simp; with_reducible rfl)
            try simp only [pS]
            refine tkT 13 (some 100) (v := ?_) rfl rfl (.inl ⟨by rfl, ?_⟩) ?_
            rotate_left
            · (intro w hSw; (try dsimp only at hSw); go_simp; with_reducible rfl)
            try simp only [pS]
            refine tkT 14 (some 101) (v := ?_) rfl rfl (.inl ⟨by rfl, ?_⟩) ?_
            rotate_left
            · (intro w hSw; (try dsimp only at hSw); go_simp; with_reducible rfl)
            try simp only [pS]
            refine tkT 15 (some 102) (v := ?_) rfl rfl (.inl ⟨by rfl, ?_⟩) ?_
            rotate_left
            · (intro w hSw; (try dsimp only at hSw); go_simp; with_reducible rfl)
            try simp only [pS]
            refine tkT 16 (some 103) (v := ?_) rfl rfl (.inl ⟨by rfl, ?_⟩) ?_
            rotate_left
            · (intro w hSw; (try dsimp only at hSw); go_simp; with_reducible rfl)
            try simp only [pS]
            refine tkT 17 (some 104) (v := ?_) rfl rfl (.inl ⟨by rfl, ?_⟩) ?_
            rotate_left
            · (intro w hSw; (try dsimp only at hSw); go_simp; with_reducible rfl)
            try simp only [pS]
            refine tkT 18 (some 105) (v := ?_) rfl rfl (.inl ⟨by rfl, ?_⟩) ?_
            rotate_left
            · (intro w hSw; (try dsimp only at hSw); go_simp; with_reducible rfl)
            try simp only [pS]
            refine wpAnyH_ready (rs := [19]) (by kernel_rfl) (by simp) ?_
            refine AllReadyH.cons (o := { dst := some 106, op := Op.call { callee := Callee.value (Operand.func 44), args := #[Operand.tmp 105, Operand.const (Value.int IntKind.i64 0), Operand.const (Value.int IntKind.i64 99)], argTypes := #[3, 3, 3] }, type := 4, pos := "ref.go:65", after := #[{ on := 18, ground := Ground.data }, { on := 12, ground := Ground.chain }, { on := 12, ground := Ground.guard }], guard := some (12, false) }) rfl (fun K hK => ?_) ?_
            go_simp
            ((first | (go_at_call 44; with_reducible refine (posserref04_In.calls _ _ _ _ _ HX.out).mono ?_; rintro e wx ⟨rfl, ⟨nd9, rfl⟩⟩) | (go_at_call 44; with_reducible refine (posserref04_In.calls _ _ _ _ _ HY.out).mono ?_; rintro e wx ⟨rfl, ⟨nd9, rfl⟩⟩)))
            go_wp2_with fail
            refine hK.out _ _ ?_ ?_
            · ((try dsimp only); (with_reducible exact ⟨pw_below_drewN (Below.refl _ _) _, later (pw_below_drewN (Below.refl _ _) _) b2, later (pw_below_drewN (Below.refl _ _) _) b4, later (pw_below_drewN (Below.refl _ _) _) y0, later (pw_below_drewN (Below.refl _ _) _) y1⟩))
            try clear hHeld
            intro hHeld
            clear hK K
            try simp only [pS]
            refine tkT 20 (some 107) (v := ?_) rfl rfl (.inl ⟨by rfl, ?_⟩) ?_
            rotate_left
            · (intro w hSw; (try dsimp only at hSw); go_simp; with_reducible rfl)
            try simp only [pS]
            refine tkT 21 (some 108) (v := ?_) rfl rfl (.inl ⟨by rfl, ?_⟩) ?_
            rotate_left
            · (intro w hSw; (try dsimp only at hSw); go_simp; with_reducible rfl)
            try simp only [pS]
            refine wpAnyH_done (by kernel_rfl) ?_ _
            rotate_left
            exact AllReadyH.nil
            exact AllReadyH.nil
          all_goals
            have HBZ := Aside0.mk (below_step HB2.out hHeld.1)
            have HKZ := Aside0.mk (blk_below HK2.out hHeld.1)
            go_wp2_with fail
            go_roundg (looks.length - (n + 1))
            case measure => have := HI2.out; omega
            case rel =>
              refine ⟨n + 1, by go_num, ⟨by have := HI2.out; omega⟩, HBZ, HKZ, ⟨fun j hj => ?_⟩⟩
              by_cases hjn : j = n
              · subst hjn; rw [ELK.out]; exact HVV.out
              · exact HV2.out j (by omega)
        · have hlt' : ¬ (n : Int) < (looks.length : Int) := by omega
          obtain rfl : n = looks.length := by have := HI2.out; omega
          have H8 := Aside0.mk (show allL hs.length (looks.map toL) = true from decide_eq_true (fun i hi => by rw [rd_toL]; exact HV2.out i (by simpa using hi)))
          have HR : Aside0 (faultB cs cl hs hung looks = if prodH (hs.map toH) (hs.map toH).length > 2000 then 3 else 0) := ⟨by
            unfold faultB checkB
            rw [if_neg HN.out, if_neg]
            have h5 := of_decide_eq_true H5.out
            have h8 := H8.out
            have h7 := H7.out
            rw [H6.out]
            simp only [List.length_map]
            rw [h7, h8]
            simp
            omega⟩
          have HMP := Aside0.mk (many_prod hs HL4.out H6.out hs.length (Nat.le_refl _))
          have HX : Aside0 (posserref04_Many.f 2000 cs cl hs hung looks = some (manyN hs hs.length)) := ⟨many_f cs cl hs hung looks (by have := HL4.out; omega) 2000 (Nat.le_refl _)⟩
          go_wp2_with fail
          refine (posserref04_Many.calls 2000 cs cl A2 c2 hs A3 c3 hung A4 c4 looks _ _ (Kd.C_below H2.out HB2.out) L2.out (Kd.C_below H3.out HB2.out) L3.out (Kd.C_below H4.out HB2.out) L4.out HX.out).mono ?_
          rintro e w8 ⟨rfl, hb⟩
          have HB8 := Aside0.mk (below_step HB2.out hb)
          clear hb
          by_cases h9 : manyN hs hs.length > 2000
          · have h10 : Aside0 (prodH (hs.map toH) (hs.map toH).length > 2000) := ⟨by
              have h := HMP.out
              rw [List.length_map, h.2.1]
              rw [h.1] at h9
              unfold mn at h9
              split at h9 <;> omega⟩
            go_wp2_with fail
            go_ret
            exact ⟨by rw [HR.out, if_pos h10.out]; rfl, HB8.out⟩
          · have h10 : Aside0 (¬ prodH (hs.map toH) (hs.map toH).length > 2000) := ⟨by
              have h := HMP.out
              rw [List.length_map, h.2.1]
              rw [h.1] at h9
              unfold mn at h9
              split at h9 <;> omega⟩
            go_wp2_with fail
            go_ret
            exact ⟨by rw [HR.out, if_neg (Int.not_lt.2 h10.out)]; rfl, HB8.out⟩
theorem posserref04_Fault.calls (cs cl : Int) (A2 : Option Addr) (c2 : Nat) (hs : List S68) (A3 : Option Addr) (c3 : Nat) (hung : List Int) (A4 : Option Addr) (c4 : Nat) (looks : List S84) (r : Int) (w : World)
    (h2 : Kd.C k68 w A2 hs.length hs) (l2 : hs.length ≤ c2) (h3 : Kd.C (Kd.int .i64) w A3 hung.length hung) (l3 : hung.length ≤ c3) (h4 : Kd.C k84 w A4 looks.length looks) (l4 : looks.length ≤ c4) (h : posserref04_Fault.f cs cl hs hung looks = some r) :
    Calls Try.prog 57 #[.agg #[.int .i64 cs, .int .i64 cl, .slice A2 hs.length c2, .slice A3 hung.length c3, .slice A4 looks.length c4]] w fun e w' => e = .returned (.int .i64 r) ∧ Below w.heap.size w w' := by
  cases h
  exact fault_calls cs cl h2 l2 h3 l3 h4 l4
end Go.Proofs.Ytokhmghgghjmhaa.Q
namespace Go.Proofs.Ytokhmghgghjmhaa.Q
open Go.RowKit Go.Proofs.YtokhmghgghjmhaaW.PrintWords Go.Proofs.YtokhmghgghjmhaaW.PrintLast Go.Proofs.YtokhmghgghjmhaaW.PrintMore
attribute [local go_sem] max2_int min2_int max_two min_two max_three min_three max_four min_four   -- for this text's walks alone
set_option linter.unusedVariables false
set_option linter.unusedSimpArgs false
def posserlaw04_fault.f (a0_0 : Int) (a0_1 : Int) (l0_2 : List (S68)) (l0_3 : List Int) (l0_4 : List (S84)) : Option (Int) := (posserref04_Fault.f a0_0 a0_1 l0_2 l0_3 l0_4).bind fun t152 => (some t152)
set_option maxHeartbeats 8000000 in
set_option maxRecDepth 100000 in
theorem posserlaw04_fault.calls (a0_0 : Int) (a0_1 : Int) (A0_2 : Option Addr) (c0_2 : Nat) (l0_2 : List (S68)) (A0_3 : Option Addr) (c0_3 : Nat) (l0_3 : List Int) (A0_4 : Option Addr) (c0_4 : Nat) (l0_4 : List (S84)) (r : Int) (w : World) (hr0_2 : Kd.C k68 w A0_2 l0_2.length l0_2) (hc0_2 : l0_2.length ≤ c0_2) (hr0_3 : Kd.C (Kd.int .i64) w A0_3 l0_3.length l0_3) (hc0_3 : l0_3.length ≤ c0_3) (hr0_4 : Kd.C k84 w A0_4 l0_4.length l0_4) (hc0_4 : l0_4.length ≤ c0_4) (h : posserlaw04_fault.f a0_0 a0_1 l0_2 l0_3 l0_4 = some r) :
    Calls Try.prog 36 #[.agg #[.int .i64 a0_0, .int .i64 a0_1, .slice A0_2 l0_2.length c0_2, .slice A0_3 l0_3.length c0_3, .slice A0_4 l0_4.length c0_4]] w fun e w' => e = .returned (.int .i64 r) ∧ Below w.heap.size w w' := by
  have hu26 := Try.underlying26
  have HR0_2 := Aside0.mk hr0_2
  have HC0_2 := Aside0.mk hc0_2
  clear hr0_2 hc0_2
  have HR0_3 := Aside0.mk hr0_3
  have HC0_3 := Aside0.mk hc0_3
  clear hr0_3 hc0_3
  have HR0_4 := Aside0.mk hr0_4
  have HC0_4 := Aside0.mk hc0_4
  clear hr0_4 hc0_4
  have HB := Aside0.mk (Below.refl w.heap.size w)
  have H : ((posserref04_Fault.f a0_0 a0_1 l0_2 l0_3 l0_4).bind fun t152 => (some t152)) = some r := h
  clear h
  replace H := Option.bind_eq_some_iff.mp H
  obtain ⟨t152, A20, H⟩ := H
  replace H : (some t152) = some r := H
  have A2 := Aside0.mk A20
  clear A20
  obtain rfl := Option.some.inj H
  go_enter Try.func36, Try.ntmps36
  go_wp2_with (first | ((with_reducible refine gate_dst (N := 1) rfl ?_); refine box_event ?hg (N := 1) ?hd (cs := #[.int .i64 a0_0, .int .i64 a0_1, .slice A0_2 l0_2.length c0_2, .slice A0_3 l0_3.length c0_3, .slice A0_4 l0_4.length c0_4]) (t := 26) ?hr ?_; (case hd => rfl); (case hg => rfl); (case hr => first | (go_simp; done) | (go_simp; rfl)); intro gb151 hg w3 hbox hb; have n0_ := Aside0.mk (below_step (by repeat (first | (with_reducible first | exact HB.out | apply below_alloc | apply pw_below_drewN | apply below_drew1) | exact HB.out)) hb); have n1_ := Aside0.mk (hbox); have n2_ := Aside0.mk ((by rw [hg]; exact (below_size (by repeat (first | (with_reducible first | exact HB.out | apply below_alloc | apply pw_below_drewN | apply below_drew1) | exact HB.out))) : w.heap.size ≤ gb151)); have n3_ := Aside0.mk ((by rw [hg]; exact (below_size (by repeat (first | (with_reducible first | exact HB.out | apply below_alloc | apply pw_below_drewN | apply below_drew1) | exact HB.out))) : w.heap.size ≤ gb151)); clear HB; have HB := n0_; have BK151 := n1_; have GW151 := n2_; have GE151 := n3_; clear n0_ n1_ n2_ n3_; clear hb hbox hg; have hcz4_0 : w3.cell? ⟨gb151, 0, none⟩ = some (.int .i64 a0_0) := (blk_cell BK151.out 0).trans rfl; have hcz4_1 : w3.cell? ⟨gb151, 1, none⟩ = some (.int .i64 a0_1) := (blk_cell BK151.out 1).trans rfl; have hcz4_2 : w3.cell? ⟨gb151, 2, none⟩ = some (.slice A0_2 l0_2.length c0_2) := (blk_cell BK151.out 2).trans rfl; have hcz4_3 : w3.cell? ⟨gb151, 3, none⟩ = some (.slice A0_3 l0_3.length c0_3) := (blk_cell BK151.out 3).trans rfl; have hcz4_4 : w3.cell? ⟨gb151, 4, none⟩ = some (.slice A0_4 l0_4.length c0_4) := (blk_cell BK151.out 4).trans rfl; have hfz4_0 := blk_frozen BK151.out 0; have hfz4_1 := blk_frozen BK151.out 1; have hfz4_2 := blk_frozen BK151.out 2; have hfz4_3 := blk_frozen BK151.out 3; have hfz4_4 := blk_frozen BK151.out 4) | ((with_reducible refine gate_callee (f := 57) rfl ?_); refine goesL_ (some 4) rfl rfl Try.func57 (by kernel_rfl) rfl #[.agg #[.int .i64 a0_0, .int .i64 a0_1, .slice A0_2 l0_2.length c0_2, .slice A0_3 l0_3.length c0_3, .slice A0_4 l0_4.length c0_4]] rfl (by (try simp only [List.map_toArray, List.map_cons, List.map_nil]); first | done | rfl | (simp only [List.length_drop, List.length_take]; rfl)) ?_; (with_reducible refine (posserref04_Fault.calls a0_0 a0_1 _ _ l0_2 _ _ l0_3 _ _ l0_4 t152 _ ?side1 ?side2 ?side3 ?side4 ?side5 ?side6 A2.out).mono ?_); (case side1 => repeat (first | exact (Kd.C_below HR0_2.out HB.out) | (with_reducible refine Kd.C_alloc ?_ _) | (with_reducible refine Kd.C_drewN ?_ _) | (with_reducible refine Kd.C_drew ?_))); (case side2 => exact HC0_2.out); (case side3 => repeat (first | exact (Kd.C_below HR0_3.out HB.out) | (with_reducible refine Kd.C_alloc ?_ _) | (with_reducible refine Kd.C_drewN ?_ _) | (with_reducible refine Kd.C_drew ?_))); (case side4 => exact HC0_3.out); (case side5 => repeat (first | exact (Kd.C_below HR0_4.out HB.out) | (with_reducible refine Kd.C_alloc ?_ _) | (with_reducible refine Kd.C_drewN ?_ _) | (with_reducible refine Kd.C_drew ?_))); (case side6 => exact HC0_4.out); rintro e w5 ⟨rfl, hb⟩; refine ⟨_, rfl, ?_⟩; have n0_ := Aside0.mk (blk_below (g := gb151) (o := .cells #[.int .i64 a0_0, .int .i64 a0_1, .slice A0_2 l0_2.length c0_2, .slice A0_3 l0_3.length c0_3, .slice A0_4 l0_4.length c0_4] 26 (0, 0)) (by (with_reducible repeat (first | refine blk_drewN ?_ _ | refine blk_drew ?_ | refine blk_alloc ?_ _)); exact BK151.out) hb); have n1_ := Aside0.mk (below_step (by repeat (first | (with_reducible first | exact HB.out | apply below_alloc | apply pw_below_drewN | apply below_drew1 | refine below_set ?_ GE151.out) | exact HB.out)) hb); clear BK151; clear HB; have BK151 := n0_; have HB := n1_; clear n0_ n1_; (try clear hb); (try clear hb2); (try clear hk); (try clear hi)))
  go_ret
  exact ⟨by first | rfl | (simp [errW_none, errW_some] <;> rfl) | (simp [*, errW_none, errW_some] <;> rfl), by repeat (first | (with_reducible first | exact HB.out | apply below_alloc | apply pw_below_drewN | apply below_drew1 | refine below_set ?_ GE151.out) | exact HB.out)⟩
end Go.Proofs.Ytokhmghgghjmhaa.Q
namespace Go.Proofs.Ytokhmghgghjmhaa.Q
open Go.RowKit Go.Proofs.YtokhmghgghjmhaaW.PrintWords Go.Proofs.YtokhmghgghjmhaaW.PrintLast Go.Proofs.YtokhmghgghjmhaaW.PrintMore
attribute [local go_sem] max2_int min2_int max_two min_two max_three min_three max_four min_four   -- for this text's walks alone
set_option linter.unusedVariables false
set_option linter.unusedSimpArgs false
def posserlaw04_ready.f (a0_0 : Int) (a0_1 : Int) (l0_2 : List (S68)) (l0_3 : List Int) (l0_4 : List (S84)) : Option (Bool) := (posserlaw04_Thin.f a0_0 a0_1 l0_2 l0_3 l0_4).bind fun t360 => (if t360 = true then ((posserlaw04_fault.f a0_0 a0_1 l0_2 l0_3 l0_4).bind fun t361 => (some (t361 == 0))) else (some false))
set_option maxHeartbeats 8000000 in
set_option maxRecDepth 100000 in
theorem posserlaw04_ready.calls (a0_0 : Int) (a0_1 : Int) (A0_2 : Option Addr) (c0_2 : Nat) (l0_2 : List (S68)) (A0_3 : Option Addr) (c0_3 : Nat) (l0_3 : List Int) (A0_4 : Option Addr) (c0_4 : Nat) (l0_4 : List (S84)) (r : Bool) (w : World) (hr0_2 : Kd.C k68 w A0_2 l0_2.length l0_2) (hc0_2 : l0_2.length ≤ c0_2) (hr0_3 : Kd.C (Kd.int .i64) w A0_3 l0_3.length l0_3) (hc0_3 : l0_3.length ≤ c0_3) (hr0_4 : Kd.C k84 w A0_4 l0_4.length l0_4) (hc0_4 : l0_4.length ≤ c0_4) (h : posserlaw04_ready.f a0_0 a0_1 l0_2 l0_3 l0_4 = some r) :
    Calls Try.prog 41 #[.agg #[.int .i64 a0_0, .int .i64 a0_1, .slice A0_2 l0_2.length c0_2, .slice A0_3 l0_3.length c0_3, .slice A0_4 l0_4.length c0_4]] w fun e w' => e = .returned (.bool r) ∧ Below w.heap.size w w' := by
  have hu26 := Try.underlying26
  have HR0_2 := Aside0.mk hr0_2
  have HC0_2 := Aside0.mk hc0_2
  clear hr0_2 hc0_2
  have HR0_3 := Aside0.mk hr0_3
  have HC0_3 := Aside0.mk hc0_3
  clear hr0_3 hc0_3
  have HR0_4 := Aside0.mk hr0_4
  have HC0_4 := Aside0.mk hc0_4
  clear hr0_4 hc0_4
  have HB := Aside0.mk (Below.refl w.heap.size w)
  have H : ((posserlaw04_Thin.f a0_0 a0_1 l0_2 l0_3 l0_4).bind fun t360 => (if t360 = true then ((posserlaw04_fault.f a0_0 a0_1 l0_2 l0_3 l0_4).bind fun t361 => (some (t361 == 0))) else (some false))) = some r := h
  clear h
  replace H := Option.bind_eq_some_iff.mp H
  obtain ⟨t360, A20, H⟩ := H
  replace H : (if t360 = true then ((posserlaw04_fault.f a0_0 a0_1 l0_2 l0_3 l0_4).bind fun t361 => (some (t361 == 0))) else (some false)) = some r := H
  have A2 := Aside0.mk A20
  clear A20
  by_cases c3 : t360 = true
  · subst c3
    have H1 : ((posserlaw04_fault.f a0_0 a0_1 l0_2 l0_3 l0_4).bind fun t361 => (some (t361 == 0))) = some r := by rw [if_pos rfl] at H; exact H
    clear H
    have H := H1
    clear H1
    replace H := Option.bind_eq_some_iff.mp H
    obtain ⟨t361, A40, H⟩ := H
    replace H : (some (t361 == 0)) = some r := H
    have A4 := Aside0.mk A40
    clear A40
    obtain rfl := Option.some.inj H
    go_enter Try.func41, Try.ntmps41
    go_wp2_with (first | ((with_reducible refine gate_dst (N := 1) rfl ?_); refine box_event ?hg (N := 1) ?hd (cs := #[.int .i64 a0_0, .int .i64 a0_1, .slice A0_2 l0_2.length c0_2, .slice A0_3 l0_3.length c0_3, .slice A0_4 l0_4.length c0_4]) (t := 26) ?hr ?_; (case hd => rfl); (case hg => rfl); (case hr => first | (go_simp; done) | (go_simp; rfl)); intro gb359 hg w5 hbox hb; have n0_ := Aside0.mk (below_step (by repeat (first | (with_reducible first | exact HB.out | apply below_alloc | apply pw_below_drewN | apply below_drew1) | exact HB.out)) hb); have n1_ := Aside0.mk (hbox); have n2_ := Aside0.mk ((by rw [hg]; exact (below_size (by repeat (first | (with_reducible first | exact HB.out | apply below_alloc | apply pw_below_drewN | apply below_drew1) | exact HB.out))) : w.heap.size ≤ gb359)); have n3_ := Aside0.mk ((by rw [hg]; exact (below_size (by repeat (first | (with_reducible first | exact HB.out | apply below_alloc | apply pw_below_drewN | apply below_drew1) | exact HB.out))) : w.heap.size ≤ gb359)); clear HB; have HB := n0_; have BK359 := n1_; have GW359 := n2_; have GE359 := n3_; clear n0_ n1_ n2_ n3_; clear hb hbox hg; have hcz6_0 : w5.cell? ⟨gb359, 0, none⟩ = some (.int .i64 a0_0) := (blk_cell BK359.out 0).trans rfl; have hcz6_1 : w5.cell? ⟨gb359, 1, none⟩ = some (.int .i64 a0_1) := (blk_cell BK359.out 1).trans rfl; have hcz6_2 : w5.cell? ⟨gb359, 2, none⟩ = some (.slice A0_2 l0_2.length c0_2) := (blk_cell BK359.out 2).trans rfl; have hcz6_3 : w5.cell? ⟨gb359, 3, none⟩ = some (.slice A0_3 l0_3.length c0_3) := (blk_cell BK359.out 3).trans rfl; have hcz6_4 : w5.cell? ⟨gb359, 4, none⟩ = some (.slice A0_4 l0_4.length c0_4) := (blk_cell BK359.out 4).trans rfl; have hfz6_0 := blk_frozen BK359.out 0; have hfz6_1 := blk_frozen BK359.out 1; have hfz6_2 := blk_frozen BK359.out 2; have hfz6_3 := blk_frozen BK359.out 3; have hfz6_4 := blk_frozen BK359.out 4) | ((with_reducible refine gate_callee (f := 23) rfl ?_); refine goesL_ (some 4) rfl rfl Try.func23 (by kernel_rfl) rfl #[.agg #[.int .i64 a0_0, .int .i64 a0_1, .slice A0_2 l0_2.length c0_2, .slice A0_3 l0_3.length c0_3, .slice A0_4 l0_4.length c0_4]] rfl (by (try simp only [List.map_toArray, List.map_cons, List.map_nil]); first | done | rfl | (simp only [List.length_drop, List.length_take]; rfl)) ?_; (with_reducible refine (posserlaw04_Thin.calls a0_0 a0_1 _ _ l0_2 _ _ l0_3 _ _ l0_4 true _ ?side1 ?side2 ?side3 ?side4 ?side5 ?side6 A2.out).mono ?_); (case side1 => repeat (first | exact (Kd.C_below HR0_2.out HB.out) | (with_reducible refine Kd.C_alloc ?_ _) | (with_reducible refine Kd.C_drewN ?_ _) | (with_reducible refine Kd.C_drew ?_))); (case side2 => exact HC0_2.out); (case side3 => repeat (first | exact (Kd.C_below HR0_3.out HB.out) | (with_reducible refine Kd.C_alloc ?_ _) | (with_reducible refine Kd.C_drewN ?_ _) | (with_reducible refine Kd.C_drew ?_))); (case side4 => exact HC0_3.out); (case side5 => repeat (first | exact (Kd.C_below HR0_4.out HB.out) | (with_reducible refine Kd.C_alloc ?_ _) | (with_reducible refine Kd.C_drewN ?_ _) | (with_reducible refine Kd.C_drew ?_))); (case side6 => exact HC0_4.out); rintro e w7 ⟨rfl, hb⟩; refine ⟨_, rfl, ?_⟩; have n0_ := Aside0.mk (blk_below (g := gb359) (o := .cells #[.int .i64 a0_0, .int .i64 a0_1, .slice A0_2 l0_2.length c0_2, .slice A0_3 l0_3.length c0_3, .slice A0_4 l0_4.length c0_4] 26 (0, 0)) (by (with_reducible repeat (first | refine blk_drewN ?_ _ | refine blk_drew ?_ | refine blk_alloc ?_ _)); exact BK359.out) hb); have n1_ := Aside0.mk (below_step (by repeat (first | (with_reducible first | exact HB.out | apply below_alloc | apply pw_below_drewN | apply below_drew1 | refine below_set ?_ GE359.out) | exact HB.out)) hb); clear BK359; clear HB; have BK359 := n0_; have HB := n1_; clear n0_ n1_; (try clear hb); (try clear hb2); (try clear hk); (try clear hi); have hcz8_0 : w7.cell? ⟨gb359, 0, none⟩ = some (.int .i64 a0_0) := (blk_cell BK359.out 0).trans rfl; have hcz8_1 : w7.cell? ⟨gb359, 1, none⟩ = some (.int .i64 a0_1) := (blk_cell BK359.out 1).trans rfl; have hcz8_2 : w7.cell? ⟨gb359, 2, none⟩ = some (.slice A0_2 l0_2.length c0_2) := (blk_cell BK359.out 2).trans rfl; have hcz8_3 : w7.cell? ⟨gb359, 3, none⟩ = some (.slice A0_3 l0_3.length c0_3) := (blk_cell BK359.out 3).trans rfl; have hcz8_4 : w7.cell? ⟨gb359, 4, none⟩ = some (.slice A0_4 l0_4.length c0_4) := (blk_cell BK359.out 4).trans rfl; have hfz8_0 := blk_frozen BK359.out 0; have hfz8_1 := blk_frozen BK359.out 1; have hfz8_2 := blk_frozen BK359.out 2; have hfz8_3 := blk_frozen BK359.out 3; have hfz8_4 := blk_frozen BK359.out 4) | (go_at_call 36; (with_reducible refine (posserlaw04_fault.calls a0_0 a0_1 _ _ l0_2 _ _ l0_3 _ _ l0_4 t361 _ ?side1 ?side2 ?side3 ?side4 ?side5 ?side6 A4.out).mono ?_); (case side1 => repeat (first | exact (Kd.C_below HR0_2.out HB.out) | (with_reducible refine Kd.C_alloc ?_ _) | (with_reducible refine Kd.C_drewN ?_ _) | (with_reducible refine Kd.C_drew ?_))); (case side2 => exact HC0_2.out); (case side3 => repeat (first | exact (Kd.C_below HR0_3.out HB.out) | (with_reducible refine Kd.C_alloc ?_ _) | (with_reducible refine Kd.C_drewN ?_ _) | (with_reducible refine Kd.C_drew ?_))); (case side4 => exact HC0_3.out); (case side5 => repeat (first | exact (Kd.C_below HR0_4.out HB.out) | (with_reducible refine Kd.C_alloc ?_ _) | (with_reducible refine Kd.C_drewN ?_ _) | (with_reducible refine Kd.C_drew ?_))); (case side6 => exact HC0_4.out); rintro e w9 ⟨rfl, hb⟩; have n0_ := Aside0.mk (blk_below (g := gb359) (o := .cells #[.int .i64 a0_0, .int .i64 a0_1, .slice A0_2 l0_2.length c0_2, .slice A0_3 l0_3.length c0_3, .slice A0_4 l0_4.length c0_4] 26 (0, 0)) (by (with_reducible repeat (first | refine blk_drewN ?_ _ | refine blk_drew ?_ | refine blk_alloc ?_ _)); exact BK359.out) hb); have n1_ := Aside0.mk (below_step (by repeat (first | (with_reducible first | exact HB.out | apply below_alloc | apply pw_below_drewN | apply below_drew1 | refine below_set ?_ GE359.out) | exact HB.out)) hb); clear BK359; clear HB; have BK359 := n0_; have HB := n1_; clear n0_ n1_; (try clear hb); (try clear hb2); (try clear hk); (try clear hi)))
    go_ret
    exact ⟨by first | rfl | (simp [errW_none, errW_some] <;> rfl) | (simp [*, errW_none, errW_some] <;> rfl), by repeat (first | (with_reducible first | exact HB.out | apply below_alloc | apply pw_below_drewN | apply below_drew1 | refine below_set ?_ GE359.out) | exact HB.out)⟩
  · replace c3 := Bool.eq_false_iff.mpr c3
    subst c3
    have H1 : (some false) = some r := by rw [if_neg (show ¬ (false = true) by decide)] at H; exact H
    clear H
    have H := H1
    clear H1
    obtain rfl := Option.some.inj H
    go_enter Try.func41, Try.ntmps41
    go_wp2_with (first | ((with_reducible refine gate_dst (N := 1) rfl ?_); refine box_event ?hg (N := 1) ?hd (cs := #[.int .i64 a0_0, .int .i64 a0_1, .slice A0_2 l0_2.length c0_2, .slice A0_3 l0_3.length c0_3, .slice A0_4 l0_4.length c0_4]) (t := 26) ?hr ?_; (case hd => rfl); (case hg => rfl); (case hr => first | (go_simp; done) | (go_simp; rfl)); intro gb359 hg w10 hbox hb; have n0_ := Aside0.mk (below_step (by repeat (first | (with_reducible first | exact HB.out | apply below_alloc | apply pw_below_drewN | apply below_drew1) | exact HB.out)) hb); have n1_ := Aside0.mk (hbox); have n2_ := Aside0.mk ((by rw [hg]; exact (below_size (by repeat (first | (with_reducible first | exact HB.out | apply below_alloc | apply pw_below_drewN | apply below_drew1) | exact HB.out))) : w.heap.size ≤ gb359)); have n3_ := Aside0.mk ((by rw [hg]; exact (below_size (by repeat (first | (with_reducible first | exact HB.out | apply below_alloc | apply pw_below_drewN | apply below_drew1) | exact HB.out))) : w.heap.size ≤ gb359)); clear HB; have HB := n0_; have BK359 := n1_; have GW359 := n2_; have GE359 := n3_; clear n0_ n1_ n2_ n3_; clear hb hbox hg; have hcz11_0 : w10.cell? ⟨gb359, 0, none⟩ = some (.int .i64 a0_0) := (blk_cell BK359.out 0).trans rfl; have hcz11_1 : w10.cell? ⟨gb359, 1, none⟩ = some (.int .i64 a0_1) := (blk_cell BK359.out 1).trans rfl; have hcz11_2 : w10.cell? ⟨gb359, 2, none⟩ = some (.slice A0_2 l0_2.length c0_2) := (blk_cell BK359.out 2).trans rfl; have hcz11_3 : w10.cell? ⟨gb359, 3, none⟩ = some (.slice A0_3 l0_3.length c0_3) := (blk_cell BK359.out 3).trans rfl; have hcz11_4 : w10.cell? ⟨gb359, 4, none⟩ = some (.slice A0_4 l0_4.length c0_4) := (blk_cell BK359.out 4).trans rfl; have hfz11_0 := blk_frozen BK359.out 0; have hfz11_1 := blk_frozen BK359.out 1; have hfz11_2 := blk_frozen BK359.out 2; have hfz11_3 := blk_frozen BK359.out 3; have hfz11_4 := blk_frozen BK359.out 4) | ((with_reducible refine gate_callee (f := 23) rfl ?_); refine goesL_ (some 4) rfl rfl Try.func23 (by kernel_rfl) rfl #[.agg #[.int .i64 a0_0, .int .i64 a0_1, .slice A0_2 l0_2.length c0_2, .slice A0_3 l0_3.length c0_3, .slice A0_4 l0_4.length c0_4]] rfl (by (try simp only [List.map_toArray, List.map_cons, List.map_nil]); first | done | rfl | (simp only [List.length_drop, List.length_take]; rfl)) ?_; (with_reducible refine (posserlaw04_Thin.calls a0_0 a0_1 _ _ l0_2 _ _ l0_3 _ _ l0_4 false _ ?side1 ?side2 ?side3 ?side4 ?side5 ?side6 A2.out).mono ?_); (case side1 => repeat (first | exact (Kd.C_below HR0_2.out HB.out) | (with_reducible refine Kd.C_alloc ?_ _) | (with_reducible refine Kd.C_drewN ?_ _) | (with_reducible refine Kd.C_drew ?_))); (case side2 => exact HC0_2.out); (case side3 => repeat (first | exact (Kd.C_below HR0_3.out HB.out) | (with_reducible refine Kd.C_alloc ?_ _) | (with_reducible refine Kd.C_drewN ?_ _) | (with_reducible refine Kd.C_drew ?_))); (case side4 => exact HC0_3.out); (case side5 => repeat (first | exact (Kd.C_below HR0_4.out HB.out) | (with_reducible refine Kd.C_alloc ?_ _) | (with_reducible refine Kd.C_drewN ?_ _) | (with_reducible refine Kd.C_drew ?_))); (case side6 => exact HC0_4.out); rintro e w12 ⟨rfl, hb⟩; refine ⟨_, rfl, ?_⟩; have n0_ := Aside0.mk (blk_below (g := gb359) (o := .cells #[.int .i64 a0_0, .int .i64 a0_1, .slice A0_2 l0_2.length c0_2, .slice A0_3 l0_3.length c0_3, .slice A0_4 l0_4.length c0_4] 26 (0, 0)) (by (with_reducible repeat (first | refine blk_drewN ?_ _ | refine blk_drew ?_ | refine blk_alloc ?_ _)); exact BK359.out) hb); have n1_ := Aside0.mk (below_step (by repeat (first | (with_reducible first | exact HB.out | apply below_alloc | apply pw_below_drewN | apply below_drew1 | refine below_set ?_ GE359.out) | exact HB.out)) hb); clear BK359; clear HB; have BK359 := n0_; have HB := n1_; clear n0_ n1_; (try clear hb); (try clear hb2); (try clear hk); (try clear hi)))
    go_ret
    exact ⟨by first | rfl | (simp [errW_none, errW_some] <;> rfl) | (simp [*, errW_none, errW_some] <;> rfl), by repeat (first | (with_reducible first | exact HB.out | apply below_alloc | apply pw_below_drewN | apply below_drew1 | refine below_set ?_ GE359.out) | exact HB.out)⟩
def posserlaw04_used.l0 : Nat → List Int → Int → Int → Option (Bool)
  | 0, _, _, _ => none
  | k + 1, x0, x1, x5 => if x5 < (x0.length : Int) then (if 0 ≤ x5 then (if (rd x0 x5) = x1 then (some true) else (posserlaw04_used.l0 k x0 x1 (wrap64 (x5 + 1)))) else (none)) else (some false)
def posserlaw04_used.f (k : Nat) (l0 : List Int) (a1 : Int) : Option (Bool) := posserlaw04_used.l0 k l0 a1 0
set_option maxHeartbeats 8000000 in
set_option maxRecDepth 100000 in
theorem posserlaw04_used.calls (k : Nat) (A0 : Option Addr) (c0 : Nat) (l0 : List Int) (a1 : Int) (r : Bool) (w : World) (hr0 : Kd.C (Kd.int .i64) w A0 l0.length l0) (hc0 : l0.length ≤ c0) (h : posserlaw04_used.f k l0 a1 = some r) :
    Calls Try.prog 53 #[.slice A0 l0.length c0, .int .i64 a1] w fun e w' => e = .returned (.bool r) ∧ Drawn0 w w' := by
  have HR0 := Aside0.mk hr0
  have HC0 := Aside0.mk hc0
  clear hr0 hc0
  have H : (posserlaw04_used.l0 k l0 a1 0) = some r := h
  clear h
  have H' := Aside0.mk H
  clear H
  go_enter Try.func53, Try.ntmps53
  go_wp2
  go_loopg [5] k (fun kq v5 w' => ∃ (x5_1 : Int), v5 = .int .i64 x5_1 ∧ Aside0 (posserlaw04_used.l0 kq l0 a1 x5_1 = some r) ∧ Aside0 (kq ≤ k) ∧ Drawn0 w w')
  case atStart => exact ⟨(0), (by first | rfl | (simp; done) | (simp [*]; done)), H', ⟨Nat.le_refl _⟩, by repeat (first | exact Drawn0.refl _ | apply Drawn0.step)⟩
  case round =>
    clear H'
    try clear p2
    obtain ⟨x5_1, rfl, HA, HK1, ⟨m1, rfl⟩⟩ := hrel
    cases gk with
    | zero => exact absurd HA.out (by simp [posserlaw04_used.l0])
    | succ k1 =>
      have H := HA.out
      clear HA
      simp only [posserlaw04_used.l0] at H
      by_cases c3 : x5_1 < (l0.length : Int)
      · rw [if_pos c3] at H
        have c3b0 : decide (x5_1 < (l0.length : Int)) = true := decide_eq_true c3
        clear c3
        by_cases c4 : 0 ≤ x5_1
        · rw [if_pos c4] at H
          have c4b0 : decide (0 ≤ x5_1) = true := decide_eq_true c4
          clear c4
          by_cases c5 : (rd l0 x5_1) = a1
          · rw [if_pos c5] at H
            have c5b0 : ((rd l0 x5_1) == a1) = true := beq_iff_eq.mpr c5
            have c5b1 : ((rd l0 x5_1) != a1) = false := bne_eq_false_iff_eq.mpr c5
            clear c5
            obtain rfl := Option.some.inj H
            have p362 : 0 ≤ (x5_1 : Int) := of_decide_eq_true (by first | (with_reducible assumption) | assumption)
            have q362 : x5_1 < (l0.length : Int) := of_decide_eq_true (by first | (with_reducible assumption) | assumption)
            obtain ⟨ad362, e362, hx362_0⟩ := Kd.at_int HR0.out x5_1 p362 q362
            cases e362
            replace p362 := eq_true p362
            replace q362 := eq_true q362
            go_wp2
            go_ret
            exact ⟨by first | rfl | (simp; done) | (simp [*]; done), by repeat (first | exact Drawn0.refl _ | apply Drawn0.step)⟩
          · rw [if_neg c5] at H
            have c5b0 : ((rd l0 x5_1) == a1) = false := beq_eq_false_iff_ne.mpr c5
            have c5b1 : ((rd l0 x5_1) != a1) = true := bne_iff_ne.mpr c5
            have H' := Aside0.mk H
            clear H
            have p362 : 0 ≤ (x5_1 : Int) := of_decide_eq_true (by first | (with_reducible assumption) | assumption)
            have q362 : x5_1 < (l0.length : Int) := of_decide_eq_true (by first | (with_reducible assumption) | assumption)
            obtain ⟨ad362, e362, hx362_0⟩ := Kd.at_int HR0.out x5_1 p362 q362
            cases e362
            replace p362 := eq_true p362
            replace q362 := eq_true q362
            go_wp2
            go_roundg k1
            case measure => have := HK1.out; omega
            case rel => exact ⟨(wrap64 (x5_1 + 1)), (by first | rfl | (simp; done) | (simp [*]; done)), H', ⟨by have := HK1.out; omega⟩, by repeat (first | exact Drawn0.refl _ | apply Drawn0.step)⟩
        · rw [if_neg c4] at H
          exact absurd H (by simp)
      · rw [if_neg c3] at H
        have c3b0 : decide (x5_1 < (l0.length : Int)) = false := decide_eq_false c3
        clear c3
        obtain rfl := Option.some.inj H
        go_wp2
        go_ret
        exact ⟨by first | rfl | (simp; done) | (simp [*]; done), by repeat (first | exact Drawn0.refl _ | apply Drawn0.step)⟩
def posserlaw04_word.f (l0 : List Int) (a1 : Int) : Option (Int) := if (l0.length : Int) = 0 then (some 0) else (if 0 ≤ (Int.tmod a1 (l0.length : Int)) then (if (Int.tmod a1 (l0.length : Int)) < (l0.length : Int) then (some (wrap64 (rd l0 (Int.tmod a1 (l0.length : Int))))) else (none)) else (none))
set_option maxHeartbeats 8000000 in
set_option maxRecDepth 100000 in
theorem posserlaw04_word.calls (A0 : Option Addr) (c0 : Nat) (l0 : List Int) (a1 : Int) (r : Int) (w : World) (hr0 : Kd.C (Kd.int .u16) w A0 l0.length l0) (hc0 : l0.length ≤ c0) (h : posserlaw04_word.f l0 a1 = some r) :
    Calls Try.prog 96 #[.slice A0 l0.length c0, .int .i64 a1] w fun e w' => e = .returned (.int .i64 r) ∧ Drawn0 w w' := by
  have HR0 := Aside0.mk hr0
  have HC0 := Aside0.mk hc0
  clear hr0 hc0
  have H : (if (l0.length : Int) = 0 then (some 0) else (if 0 ≤ (Int.tmod a1 (l0.length : Int)) then (if (Int.tmod a1 (l0.length : Int)) < (l0.length : Int) then (some (wrap64 (rd l0 (Int.tmod a1 (l0.length : Int))))) else (none)) else (none))) = some r := h
  clear h
  by_cases c3 : (l0.length : Int) = 0
  · rw [if_pos c3] at H
    have c3b0 : ((l0.length : Int) == 0) = true := beq_iff_eq.mpr c3
    have c3b1 : ((l0.length : Int) != 0) = false := bne_eq_false_iff_eq.mpr c3
    clear c3
    obtain rfl := Option.some.inj H
    go_enter Try.func96, Try.ntmps96
    go_wp2
    go_ret
    exact ⟨by first | rfl | (simp; done) | (simp [*]; done), by repeat (first | exact Drawn0.refl _ | apply Drawn0.step)⟩
  · rw [if_neg c3] at H
    have c3b0 : ((l0.length : Int) == 0) = false := beq_eq_false_iff_ne.mpr c3
    have c3b1 : ((l0.length : Int) != 0) = true := bne_iff_ne.mpr c3
    have c3b2 : ¬ (l0 = []) := fun h_ => c3 (by rw [h_]; rfl)
    obtain ⟨ji4, hji4⟩ : ∃ j_ : Int, (Int.tmod a1 (l0.length : Int)) = j_ := ⟨_, rfl⟩
    replace H : (if 0 ≤ (ji4) then (if (ji4) < (l0.length : Int) then (some (wrap64 (rd l0 (ji4)))) else (none)) else (none)) = some r := by first | (rw [hji4] at H; exact H) | (simp only [hji4] at H ⊢; exact H)
    by_cases c5 : 0 ≤ (ji4)
    · rw [if_pos c5] at H
      have c5b0 : decide (0 ≤ (ji4)) = true := decide_eq_true c5
      clear c5
      by_cases c6 : (ji4) < (l0.length : Int)
      · rw [if_pos c6] at H
        have c6b0 : decide ((ji4) < (l0.length : Int)) = true := decide_eq_true c6
        clear c6
        obtain rfl := Option.some.inj H
        have p363 : 0 ≤ ((ji4) : Int) := of_decide_eq_true (by first | (with_reducible assumption) | assumption)
        have q363 : (ji4) < (l0.length : Int) := of_decide_eq_true (by first | (with_reducible assumption) | assumption)
        obtain ⟨ad363, e363, hx363_0⟩ := Kd.at_int HR0.out (ji4) p363 q363
        cases e363
        replace p363 := eq_true p363
        replace q363 := eq_true q363
        go_enter Try.func96, Try.ntmps96
        go_wp2
        go_ret
        exact ⟨by first | rfl | (simp; done) | (simp only [← hji4] <;> (first | rfl | simp)) | (simp [*]; done), by repeat (first | exact Drawn0.refl _ | apply Drawn0.step)⟩
      · rw [if_neg c6] at H
        exact absurd H (by simp)
    · rw [if_neg c5] at H
      exact absurd H (by simp)
mutual
def posserlaw04_Placed.l0 : Nat → List Int → List Int → Int → Int → Int → List (S68) → List Int → List (S84) → Option (List Int)
  | 0, _, _, _, _, _, _, _, _ => none
  | k + 1, x1, x5, x6, x365000, x365001, x365002, x365003, x365004 => if x6 < (x365002.length : Int) then ((posserlaw04_word.f x1 x6).bind fun t365 => (if x365000 = 0 then (none) else (posserlaw04_Placed.l1 k x1 x5 x6 (Int.tmod t365 x365000) x365000 x365001 x365002 x365003 x365004))) else (some x5)
def posserlaw04_Placed.l1 : Nat → List Int → List Int → Int → Int → Int → Int → List (S68) → List Int → List (S84) → Option (List Int)
  | 0, _, _, _, _, _, _, _, _, _ => none
  | k + 1, x1, x5, x6, x7, x365000, x365001, x365002, x365003, x365004 => (posserlaw04_used.f k x5 x7).bind fun t366 => (if t366 = true then (if x365000 = 0 then (none) else (posserlaw04_Placed.l1 k x1 x5 x6 (Int.tmod (wrap64 (x7 + 1)) x365000) x365000 x365001 x365002 x365003 x365004)) else (if x5.length < 17592186044416 then (posserlaw04_Placed.l0 k x1 (x5 ++ [x7]) (wrap64 (x6 + 1)) x365000 x365001 x365002 x365003 x365004) else (none)))
end
def posserlaw04_Placed.f (k : Nat) (a0_0 : Int) (a0_1 : Int) (l0_2 : List (S68)) (l0_3 : List Int) (l0_4 : List (S84)) (l1 : List Int) : Option (List Int) := posserlaw04_Placed.l0 k l1 ([] : List Int) 0 a0_0 a0_1 l0_2 l0_3 l0_4
set_option maxHeartbeats 8000000 in
set_option maxRecDepth 100000 in
theorem posserlaw04_Placed.calls (k : Nat) (a0_0 : Int) (a0_1 : Int) (A0_2 : Option Addr) (c0_2 : Nat) (l0_2 : List (S68)) (A0_3 : Option Addr) (c0_3 : Nat) (l0_3 : List Int) (A0_4 : Option Addr) (c0_4 : Nat) (l0_4 : List (S84)) (A1 : Option Addr) (c1 : Nat) (l1 : List Int) (r : List Int) (w : World) (hr0_2 : Kd.C k68 w A0_2 l0_2.length l0_2) (hc0_2 : l0_2.length ≤ c0_2) (hr0_3 : Kd.C (Kd.int .i64) w A0_3 l0_3.length l0_3) (hc0_3 : l0_3.length ≤ c0_3) (hr0_4 : Kd.C k84 w A0_4 l0_4.length l0_4) (hc0_4 : l0_4.length ≤ c0_4) (hr1 : Kd.C (Kd.int .u16) w A1 l1.length l1) (hc1 : l1.length ≤ c1) (h : posserlaw04_Placed.f k a0_0 a0_1 l0_2 l0_3 l0_4 l1 = some r) :
    Calls Try.prog 42 #[.agg #[.int .i64 a0_0, .int .i64 a0_1, .slice A0_2 l0_2.length c0_2, .slice A0_3 l0_3.length c0_3, .slice A0_4 l0_4.length c0_4], .slice A1 l1.length c1] w fun e w' => ∃ v0_ : Value, e = .returned (v0_) ∧ Kd.R (Kd.int .i64) 3 w' w.heap.size (fun _ => True) v0_ r ∧ Below w.heap.size w w' := by
  have hu26 := Try.underlying26
  have HR0_2 := Aside0.mk hr0_2
  have HC0_2 := Aside0.mk hc0_2
  clear hr0_2 hc0_2
  have HR0_3 := Aside0.mk hr0_3
  have HC0_3 := Aside0.mk hc0_3
  clear hr0_3 hc0_3
  have HR0_4 := Aside0.mk hr0_4
  have HC0_4 := Aside0.mk hc0_4
  clear hr0_4 hc0_4
  have HR1 := Aside0.mk hr1
  have HC1 := Aside0.mk hc1
  clear hr1 hc1
  have HB := Aside0.mk (Below.refl w.heap.size w)
  have H : (posserlaw04_Placed.l0 k l1 ([] : List Int) 0 a0_0 a0_1 l0_2 l0_3 l0_4) = some r := h
  clear h
  have H' := Aside0.mk H
  clear H
  go_enter Try.func42, Try.ntmps42
  go_wp2_with (first | ((with_reducible refine gate_dst (N := 2) rfl ?_); refine box_event ?hg (N := 2) ?hd (cs := #[.int .i64 a0_0, .int .i64 a0_1, .slice A0_2 l0_2.length c0_2, .slice A0_3 l0_3.length c0_3, .slice A0_4 l0_4.length c0_4]) (t := 26) ?hr ?_; (case hd => rfl); (case hg => rfl); (case hr => first | (go_simp; done) | (go_simp; rfl)); intro gb364 hg w3 hbox hb; have n0_ := Aside0.mk (below_step (by repeat (first | (with_reducible first | exact HB.out | apply below_alloc | apply pw_below_drewN | apply below_drew1) | exact HB.out)) hb); have n1_ := Aside0.mk (hbox); have n2_ := Aside0.mk ((by rw [hg]; exact (below_size (by repeat (first | (with_reducible first | exact HB.out | apply below_alloc | apply pw_below_drewN | apply below_drew1) | exact HB.out))) : w.heap.size ≤ gb364)); have n3_ := Aside0.mk ((by rw [hg]; exact (below_size (by repeat (first | (with_reducible first | exact HB.out | apply below_alloc | apply pw_below_drewN | apply below_drew1) | exact HB.out))) : w.heap.size ≤ gb364)); clear HB; have HB := n0_; have BK364 := n1_; have GW364 := n2_; have GE364 := n3_; clear n0_ n1_ n2_ n3_; clear hb hbox hg))
  repeat (go_quiet (first | ((with_reducible refine gate_dst (N := 2) rfl ?_); refine box_event ?hg (N := 2) ?hd (cs := #[.int .i64 a0_0, .int .i64 a0_1, .slice A0_2 l0_2.length c0_2, .slice A0_3 l0_3.length c0_3, .slice A0_4 l0_4.length c0_4]) (t := 26) ?hr ?_; (case hd => rfl); (case hg => rfl); (case hr => first | (go_simp; done) | (go_simp; rfl)); intro gb364 hg w3 hbox hb; have n0_ := Aside0.mk (below_step (by repeat (first | (with_reducible first | exact HB.out | apply below_alloc | apply pw_below_drewN | apply below_drew1) | exact HB.out)) hb); have n1_ := Aside0.mk (hbox); have n2_ := Aside0.mk ((by rw [hg]; exact (below_size (by repeat (first | (with_reducible first | exact HB.out | apply below_alloc | apply pw_below_drewN | apply below_drew1) | exact HB.out))) : w.heap.size ≤ gb364)); have n3_ := Aside0.mk ((by rw [hg]; exact (below_size (by repeat (first | (with_reducible first | exact HB.out | apply below_alloc | apply pw_below_drewN | apply below_drew1) | exact HB.out))) : w.heap.size ≤ gb364)); clear HB; have HB := n0_; have BK364 := n1_; have GW364 := n2_; have GE364 := n3_; clear n0_ n1_ n2_ n3_; clear hb hbox hg)); try go_wp2_with (first | ((with_reducible refine gate_dst (N := 2) rfl ?_); refine box_event ?hg (N := 2) ?hd (cs := #[.int .i64 a0_0, .int .i64 a0_1, .slice A0_2 l0_2.length c0_2, .slice A0_3 l0_3.length c0_3, .slice A0_4 l0_4.length c0_4]) (t := 26) ?hr ?_; (case hd => rfl); (case hg => rfl); (case hr => first | (go_simp; done) | (go_simp; rfl)); intro gb364 hg w3 hbox hb; have n0_ := Aside0.mk (below_step (by repeat (first | (with_reducible first | exact HB.out | apply below_alloc | apply pw_below_drewN | apply below_drew1) | exact HB.out)) hb); have n1_ := Aside0.mk (hbox); have n2_ := Aside0.mk ((by rw [hg]; exact (below_size (by repeat (first | (with_reducible first | exact HB.out | apply below_alloc | apply pw_below_drewN | apply below_drew1) | exact HB.out))) : w.heap.size ≤ gb364)); have n3_ := Aside0.mk ((by rw [hg]; exact (below_size (by repeat (first | (with_reducible first | exact HB.out | apply below_alloc | apply pw_below_drewN | apply below_drew1) | exact HB.out))) : w.heap.size ≤ gb364)); clear HB; have HB := n0_; have BK364 := n1_; have GW364 := n2_; have GE364 := n3_; clear n0_ n1_ n2_ n3_; clear hb hbox hg)))
  go_loopg [5, 6] k (fun kq v5 v6 w' => ∃ (x5_1 : List Int) (x6_1 : Int), v6 = .int .i64 x6_1 ∧ Aside0 (posserlaw04_Placed.l0 kq l1 x5_1 x6_1 a0_0 a0_1 l0_2 l0_3 l0_4 = some r) ∧ Aside0 (kq ≤ k) ∧ Aside0 (Kd.R (Kd.int .i64) 3 w' w.heap.size (fun _ => True) v5 x5_1) ∧ Aside0 (w'.heap[gb364]? = some (.cells #[.int .i64 a0_0, .int .i64 a0_1, (.slice A0_2 l0_2.length c0_2), (.slice A0_3 l0_3.length c0_3), (.slice A0_4 l0_4.length c0_4)] 26 (0, 0))) ∧ Aside0 (Below w.heap.size w w'))
  case atStart => exact ⟨(([] : List Int)), (0), (by first | rfl | (simp; done) | (simp [*]; done)), H', ⟨Nat.le_refl _⟩, ⟨by first | exact Kd.R_nil _ _ _ _ _ | exact Kd.N_nil _ _ _ _ _ | exact Kd.V_nil _ _ _ _ _ | exact Kd.Q_nil _ _ _ _ _ | exact Kd.S_nil _ _ _ _ _⟩, ⟨by (with_reducible repeat (first | refine blk_drewN ?_ _ | refine blk_drew ?_ | refine blk_alloc ?_ _)); exact BK364.out⟩, ⟨by repeat (first | (with_reducible first | exact HB.out | apply below_alloc | apply pw_below_drewN | apply below_drew1 | refine below_set ?_ GE364.out) | exact HB.out)⟩⟩
  case round =>
    clear H'
    try clear c1
    try clear p2
    obtain ⟨x5_1, x6_1, rfl, HA, HK1, HO_5, BK364, HB⟩ := hrel
    cases gk with
    | zero => exact absurd HA.out (by simp [posserlaw04_Placed.l0])
    | succ k1 =>
      have H := HA.out
      clear HA
      simp only [posserlaw04_Placed.l0] at H
      by_cases c4 : x6_1 < (l0_2.length : Int)
      · rw [if_pos c4] at H
        have c4b0 : decide (x6_1 < (l0_2.length : Int)) = true := decide_eq_true c4
        clear c4
        replace H := Option.bind_eq_some_iff.mp H
        obtain ⟨t365, A50, H⟩ := H
        replace H : (if a0_0 = 0 then (none) else (posserlaw04_Placed.l1 k1 l1 x5_1 x6_1 (Int.tmod t365 a0_0) a0_0 a0_1 l0_2 l0_3 l0_4)) = some r := H
        have A5 := Aside0.mk A50
        clear A50
        by_cases c6 : a0_0 = 0
        · rw [if_pos c6] at H
          exact absurd H (by simp)
        · rw [if_neg c6] at H
          have c6b0 : (a0_0 == 0) = false := beq_eq_false_iff_ne.mpr c6
          have c6b1 : (a0_0 != 0) = true := bne_iff_ne.mpr c6
          have H' := Aside0.mk H
          clear H
          have hcz7_0 : wr.cell? ⟨gb364, 0, none⟩ = some (.int .i64 a0_0) := (blk_cell BK364.out 0).trans rfl
          have hcz7_1 : wr.cell? ⟨gb364, 1, none⟩ = some (.int .i64 a0_1) := (blk_cell BK364.out 1).trans rfl
          have hcz7_2 : wr.cell? ⟨gb364, 2, none⟩ = some (.slice A0_2 l0_2.length c0_2) := (blk_cell BK364.out 2).trans rfl
          have hcz7_3 : wr.cell? ⟨gb364, 3, none⟩ = some (.slice A0_3 l0_3.length c0_3) := (blk_cell BK364.out 3).trans rfl
          have hcz7_4 : wr.cell? ⟨gb364, 4, none⟩ = some (.slice A0_4 l0_4.length c0_4) := (blk_cell BK364.out 4).trans rfl
          have hfz7_0 := blk_frozen BK364.out 0
          have hfz7_1 := blk_frozen BK364.out 1
          have hfz7_2 := blk_frozen BK364.out 2
          have hfz7_3 := blk_frozen BK364.out 3
          have hfz7_4 := blk_frozen BK364.out 4
          go_wp2_with (first | (go_at_call 96; (with_reducible refine (posserlaw04_word.calls _ _ l1 x6_1 t365 _ ?side1 ?side2 A5.out).mono ?_); (case side1 => repeat (first | exact (Kd.C_below HR1.out HB.out) | (with_reducible refine Kd.C_alloc ?_ _) | (with_reducible refine Kd.C_drewN ?_ _) | (with_reducible refine Kd.C_drew ?_))); (case side2 => exact HC1.out); rintro e w' ⟨rfl, ⟨nd, rfl⟩⟩; (try first | exact ⟨rfl, _, World.drewN_drewN _ _ _⟩ | exact ⟨rfl, _, Eq.trans (World.drewN_drewN _ _ _) (congrArg (World.drewN _) (Nat.add_assoc _ _ _))⟩)))
          repeat (go_quiet (first | (go_at_call 96; (with_reducible refine (posserlaw04_word.calls _ _ l1 x6_1 t365 _ ?side1 ?side2 A5.out).mono ?_); (case side1 => repeat (first | exact (Kd.C_below HR1.out HB.out) | (with_reducible refine Kd.C_alloc ?_ _) | (with_reducible refine Kd.C_drewN ?_ _) | (with_reducible refine Kd.C_drew ?_))); (case side2 => exact HC1.out); rintro e w' ⟨rfl, ⟨nd, rfl⟩⟩; (try first | exact ⟨rfl, _, World.drewN_drewN _ _ _⟩ | exact ⟨rfl, _, Eq.trans (World.drewN_drewN _ _ _) (congrArg (World.drewN _) (Nat.add_assoc _ _ _))⟩))); try go_wp2_with (first | (go_at_call 96; (with_reducible refine (posserlaw04_word.calls _ _ l1 x6_1 t365 _ ?side1 ?side2 A5.out).mono ?_); (case side1 => repeat (first | exact (Kd.C_below HR1.out HB.out) | (with_reducible refine Kd.C_alloc ?_ _) | (with_reducible refine Kd.C_drewN ?_ _) | (with_reducible refine Kd.C_drew ?_))); (case side2 => exact HC1.out); rintro e w' ⟨rfl, ⟨nd, rfl⟩⟩; (try first | exact ⟨rfl, _, World.drewN_drewN _ _ _⟩ | exact ⟨rfl, _, Eq.trans (World.drewN_drewN _ _ _) (congrArg (World.drewN _) (Nat.add_assoc _ _ _))⟩))))
          go_loopg [7] k1 (fun kq v7 w' => ∃ (x7_2 : Int), v7 = .int .i64 x7_2 ∧ Aside0 (posserlaw04_Placed.l1 kq l1 x5_1 x6_1 x7_2 a0_0 a0_1 l0_2 l0_3 l0_4 = some r) ∧ Aside0 (kq ≤ k1) ∧ Aside0 (Kd.R (Kd.int .i64) 3 w' w.heap.size (fun _ => True) u5 x5_1) ∧ Aside0 (w'.heap[gb364]? = some (.cells #[.int .i64 a0_0, .int .i64 a0_1, (.slice A0_2 l0_2.length c0_2), (.slice A0_3 l0_3.length c0_3), (.slice A0_4 l0_4.length c0_4)] 26 (0, 0))) ∧ Aside0 (Below w.heap.size w w'))
          case atStart => exact ⟨(Int.tmod t365 a0_0), (by first | rfl | (simp; done) | (simp [*]; done)), H', ⟨Nat.le_refl _⟩, ⟨by (with_reducible repeat (first | apply Kd.R_alloc | apply Kd.R_drewN | apply Kd.R_drew)); exact HO_5.out⟩, ⟨by (with_reducible repeat (first | refine blk_drewN ?_ _ | refine blk_drew ?_ | refine blk_alloc ?_ _)); exact BK364.out⟩, ⟨by repeat (first | (with_reducible first | exact HB.out | apply below_alloc | apply pw_below_drewN | apply below_drew1 | refine below_set ?_ GE364.out) | exact HB.out)⟩⟩
          case round =>
            clear H'
            try clear c1
            try clear p2
            try clear c4
            try clear c4b0
            try clear c6
            try clear c6b0
            try clear c6b1
            try clear hcz7_0
            try clear hcz7_1
            try clear hcz7_2
            try clear hcz7_3
            try clear hcz7_4
            try clear hfz7_0
            try clear hfz7_1
            try clear hfz7_2
            try clear hfz7_3
            try clear hfz7_4
            try clear p2
            obtain ⟨x7_2, rfl, HA, HK2, HO_5, BK364, HB⟩ := hrel
            cases gk with
            | zero => exact absurd HA.out (by simp [posserlaw04_Placed.l1])
            | succ k2 =>
              have H := HA.out
              clear HA
              simp only [posserlaw04_Placed.l1] at H
              replace H := Option.bind_eq_some_iff.mp H
              obtain ⟨t366, A80, H⟩ := H
              replace H : (if t366 = true then (if a0_0 = 0 then (none) else (posserlaw04_Placed.l1 k2 l1 x5_1 x6_1 (Int.tmod (wrap64 (x7_2 + 1)) a0_0) a0_0 a0_1 l0_2 l0_3 l0_4)) else (if x5_1.length < 17592186044416 then (posserlaw04_Placed.l0 k2 l1 (x5_1 ++ [x7_2]) (wrap64 (x6_1 + 1)) a0_0 a0_1 l0_2 l0_3 l0_4) else (none))) = some r := H
              have A8 := Aside0.mk A80
              clear A80
              by_cases c9 : t366 = true
              · subst c9
                have H1 : (if a0_0 = 0 then (none) else (posserlaw04_Placed.l1 k2 l1 x5_1 x6_1 (Int.tmod (wrap64 (x7_2 + 1)) a0_0) a0_0 a0_1 l0_2 l0_3 l0_4)) = some r := by rw [if_pos rfl] at H; exact H
                clear H
                have H := H1
                clear H1
                by_cases c10 : a0_0 = 0
                · rw [if_pos c10] at H
                  exact absurd H (by simp)
                · rw [if_neg c10] at H
                  have c10b0 : (a0_0 == 0) = false := beq_eq_false_iff_ne.mpr c10
                  have c10b1 : (a0_0 != 0) = true := bne_iff_ne.mpr c10
                  have H' := Aside0.mk H
                  clear H
                  obtain ⟨Ao11, co11, eo11⟩ := Kd.R_slice HO_5.out
                  subst eo11
                  go_wp2_with (first | (go_at_call 53; (with_reducible refine (posserlaw04_used.calls k2 _ _ x5_1 x7_2 true _ ?side1 ?side2 A8.out).mono ?_); (case side1 => repeat (first | exact (Kd.R_reads' HO_5.out).2.2 | (with_reducible refine Kd.C_alloc ?_ _) | (with_reducible refine Kd.C_drewN ?_ _) | (with_reducible refine Kd.C_drew ?_))); (case side2 => exact (Kd.R_reads' HO_5.out).2.1); rintro e w' ⟨rfl, ⟨nd, rfl⟩⟩; (try first | exact ⟨rfl, _, World.drewN_drewN _ _ _⟩ | exact ⟨rfl, _, Eq.trans (World.drewN_drewN _ _ _) (congrArg (World.drewN _) (Nat.add_assoc _ _ _))⟩); have hcz12_0 : wr.cell? ⟨gb364, 0, none⟩ = some (.int .i64 a0_0) := (blk_cell BK364.out 0).trans rfl; have hcz12_1 : wr.cell? ⟨gb364, 1, none⟩ = some (.int .i64 a0_1) := (blk_cell BK364.out 1).trans rfl; have hcz12_2 : wr.cell? ⟨gb364, 2, none⟩ = some (.slice A0_2 l0_2.length c0_2) := (blk_cell BK364.out 2).trans rfl; have hcz12_3 : wr.cell? ⟨gb364, 3, none⟩ = some (.slice A0_3 l0_3.length c0_3) := (blk_cell BK364.out 3).trans rfl; have hcz12_4 : wr.cell? ⟨gb364, 4, none⟩ = some (.slice A0_4 l0_4.length c0_4) := (blk_cell BK364.out 4).trans rfl; have hfz12_0 := blk_frozen BK364.out 0; have hfz12_1 := blk_frozen BK364.out 1; have hfz12_2 := blk_frozen BK364.out 2; have hfz12_3 := blk_frozen BK364.out 3; have hfz12_4 := blk_frozen BK364.out 4))
                  repeat (go_quiet (first | (go_at_call 53; (with_reducible refine (posserlaw04_used.calls k2 _ _ x5_1 x7_2 true _ ?side1 ?side2 A8.out).mono ?_); (case side1 => repeat (first | exact (Kd.R_reads' HO_5.out).2.2 | (with_reducible refine Kd.C_alloc ?_ _) | (with_reducible refine Kd.C_drewN ?_ _) | (with_reducible refine Kd.C_drew ?_))); (case side2 => exact (Kd.R_reads' HO_5.out).2.1); rintro e w' ⟨rfl, ⟨nd, rfl⟩⟩; (try first | exact ⟨rfl, _, World.drewN_drewN _ _ _⟩ | exact ⟨rfl, _, Eq.trans (World.drewN_drewN _ _ _) (congrArg (World.drewN _) (Nat.add_assoc _ _ _))⟩); have hcz12_0 : wr.cell? ⟨gb364, 0, none⟩ = some (.int .i64 a0_0) := (blk_cell BK364.out 0).trans rfl; have hcz12_1 : wr.cell? ⟨gb364, 1, none⟩ = some (.int .i64 a0_1) := (blk_cell BK364.out 1).trans rfl; have hcz12_2 : wr.cell? ⟨gb364, 2, none⟩ = some (.slice A0_2 l0_2.length c0_2) := (blk_cell BK364.out 2).trans rfl; have hcz12_3 : wr.cell? ⟨gb364, 3, none⟩ = some (.slice A0_3 l0_3.length c0_3) := (blk_cell BK364.out 3).trans rfl; have hcz12_4 : wr.cell? ⟨gb364, 4, none⟩ = some (.slice A0_4 l0_4.length c0_4) := (blk_cell BK364.out 4).trans rfl; have hfz12_0 := blk_frozen BK364.out 0; have hfz12_1 := blk_frozen BK364.out 1; have hfz12_2 := blk_frozen BK364.out 2; have hfz12_3 := blk_frozen BK364.out 3; have hfz12_4 := blk_frozen BK364.out 4)); try go_wp2_with (first | (go_at_call 53; (with_reducible refine (posserlaw04_used.calls k2 _ _ x5_1 x7_2 true _ ?side1 ?side2 A8.out).mono ?_); (case side1 => repeat (first | exact (Kd.R_reads' HO_5.out).2.2 | (with_reducible refine Kd.C_alloc ?_ _) | (with_reducible refine Kd.C_drewN ?_ _) | (with_reducible refine Kd.C_drew ?_))); (case side2 => exact (Kd.R_reads' HO_5.out).2.1); rintro e w' ⟨rfl, ⟨nd, rfl⟩⟩; (try first | exact ⟨rfl, _, World.drewN_drewN _ _ _⟩ | exact ⟨rfl, _, Eq.trans (World.drewN_drewN _ _ _) (congrArg (World.drewN _) (Nat.add_assoc _ _ _))⟩); have hcz12_0 : wr.cell? ⟨gb364, 0, none⟩ = some (.int .i64 a0_0) := (blk_cell BK364.out 0).trans rfl; have hcz12_1 : wr.cell? ⟨gb364, 1, none⟩ = some (.int .i64 a0_1) := (blk_cell BK364.out 1).trans rfl; have hcz12_2 : wr.cell? ⟨gb364, 2, none⟩ = some (.slice A0_2 l0_2.length c0_2) := (blk_cell BK364.out 2).trans rfl; have hcz12_3 : wr.cell? ⟨gb364, 3, none⟩ = some (.slice A0_3 l0_3.length c0_3) := (blk_cell BK364.out 3).trans rfl; have hcz12_4 : wr.cell? ⟨gb364, 4, none⟩ = some (.slice A0_4 l0_4.length c0_4) := (blk_cell BK364.out 4).trans rfl; have hfz12_0 := blk_frozen BK364.out 0; have hfz12_1 := blk_frozen BK364.out 1; have hfz12_2 := blk_frozen BK364.out 2; have hfz12_3 := blk_frozen BK364.out 3; have hfz12_4 := blk_frozen BK364.out 4)))
                  go_roundg k2
                  case measure => have := HK1.out; have := HK2.out; omega
                  case rel => exact ⟨(Int.tmod (wrap64 (x7_2 + 1)) a0_0), (by first | rfl | (simp; done) | (simp [*]; done)), H', ⟨by have := HK1.out; have := HK2.out; omega⟩, ⟨by (with_reducible repeat (first | apply Kd.R_alloc | apply Kd.R_drewN | apply Kd.R_drew)); exact HO_5.out⟩, ⟨by (with_reducible repeat (first | refine blk_drewN ?_ _ | refine blk_drew ?_ | refine blk_alloc ?_ _)); exact BK364.out⟩, ⟨by repeat (first | (with_reducible first | exact HB.out | apply below_alloc | apply pw_below_drewN | apply below_drew1 | refine below_set ?_ GE364.out) | exact HB.out)⟩⟩
              · replace c9 := Bool.eq_false_iff.mpr c9
                subst c9
                have H1 : (if x5_1.length < 17592186044416 then (posserlaw04_Placed.l0 k2 l1 (x5_1 ++ [x7_2]) (wrap64 (x6_1 + 1)) a0_0 a0_1 l0_2 l0_3 l0_4) else (none)) = some r := by rw [if_neg (show ¬ (false = true) by decide)] at H; exact H
                clear H
                have H := H1
                clear H1
                by_cases c13 : x5_1.length < 17592186044416
                · rw [if_pos c13] at H
                  have LMc13 := Aside0.mk c13
                  clear c13
                  obtain ⟨y367, hy367⟩ : ∃ y_ : List Int, y_ = (x5_1 ++ [x7_2]) := ⟨_, rfl⟩
                  replace H : (posserlaw04_Placed.l0 k2 l1 y367 (wrap64 (x6_1 + 1)) a0_0 a0_1 l0_2 l0_3 l0_4) = some r := by first | (rw [hy367]; with_reducible exact H) | (have H2_ := (Option.bind_some _ _).symm.trans H; rw [hy367]; with_reducible exact H2_) | (have H2_ := (Option.bind_some _ _).symm.trans H; with_reducible exact H2_) | with_reducible exact H | (rw [hy367]; exact H) | exact H
                  have Ny367 := Aside0.mk hy367
                  clear hy367
                  have H' := Aside0.mk H
                  clear H
                  obtain ⟨Ao14, co14, eo14⟩ := Kd.R_slice HO_5.out
                  subst eo14
                  go_wp2_with (first | (go_at_call 53; (with_reducible refine (posserlaw04_used.calls k2 _ _ x5_1 x7_2 false _ ?side1 ?side2 A8.out).mono ?_); (case side1 => repeat (first | exact (Kd.R_reads' HO_5.out).2.2 | (with_reducible refine Kd.C_alloc ?_ _) | (with_reducible refine Kd.C_drewN ?_ _) | (with_reducible refine Kd.C_drew ?_))); (case side2 => exact (Kd.R_reads' HO_5.out).2.1); rintro e w' ⟨rfl, ⟨nd, rfl⟩⟩; (try first | exact ⟨rfl, _, World.drewN_drewN _ _ _⟩ | exact ⟨rfl, _, Eq.trans (World.drewN_drewN _ _ _) (congrArg (World.drewN _) (Nat.add_assoc _ _ _))⟩)) | ((with_reducible refine gate_builtin (b := .append) (xs := #[.tmp 29, .tmp 31]) rfl ?_); at_builtin; refine Kd.R_append (Kd.int .i64) (w0 := w) w.heap.size rfl (.tmp 29) (.tmp 31) 23 3 (.int .i64 0) 8 rfl Try.underlying23 info3 rfl (by decide) (by omega) (.slice Ao14 x5_1.length co14) x5_1 x7_2 [.int .i64 x7_2] (fun _ => True) (fun _ => False) rfl rfl ?aP (fun _ hk => hk.elim) ?aF ?aO ?aB ?aS ?aL ?_; (case aP => exact rfl); (case aB => exact (by repeat (first | (with_reducible first | exact HB.out | apply below_alloc | apply pw_below_drewN | apply below_drew1 | refine below_set ?_ GE364.out) | exact HB.out))); (case aF => exact (fun _ _ => trivial)); (case aO => exact (by (with_reducible repeat (first | apply Kd.R_alloc | apply Kd.R_drewN | apply Kd.R_drew)); exact HO_5.out)); (case aS => exact (below_size (by repeat (first | (with_reducible first | exact HB.out | apply below_alloc | apply pw_below_drewN | apply below_drew1 | refine below_set ?_ GE364.out) | exact HB.out)))); (case aL => have := LMc13.out; omega); intro v368 w15 ho hb hg hat; rw [← Ny367.out] at ho; have n0_ := Aside0.mk (blk_grown (g := gb364) (o := .cells #[.int .i64 a0_0, .int .i64 a0_1, .slice A0_2 l0_2.length c0_2, .slice A0_3 l0_3.length c0_3, .slice A0_4 l0_4.length c0_4] 26 (0, 0)) (by (with_reducible repeat (first | refine blk_drewN ?_ _ | refine blk_drew ?_ | refine blk_alloc ?_ _)); exact BK364.out) hg (Kd.R_ne HO_5.out BK364.out (by decide))); have n1_ := Aside0.mk (hb); have n2_ := Aside0.mk (ho); clear BK364; clear HB; clear HO_5; have BK364 := n0_; have HB := n1_; have HO369 := n2_; clear n0_ n1_ n2_; clear ho hb hg hat))
                  repeat (go_quiet (first | (go_at_call 53; (with_reducible refine (posserlaw04_used.calls k2 _ _ x5_1 x7_2 false _ ?side1 ?side2 A8.out).mono ?_); (case side1 => repeat (first | exact (Kd.R_reads' HO_5.out).2.2 | (with_reducible refine Kd.C_alloc ?_ _) | (with_reducible refine Kd.C_drewN ?_ _) | (with_reducible refine Kd.C_drew ?_))); (case side2 => exact (Kd.R_reads' HO_5.out).2.1); rintro e w' ⟨rfl, ⟨nd, rfl⟩⟩; (try first | exact ⟨rfl, _, World.drewN_drewN _ _ _⟩ | exact ⟨rfl, _, Eq.trans (World.drewN_drewN _ _ _) (congrArg (World.drewN _) (Nat.add_assoc _ _ _))⟩)) | ((with_reducible refine gate_builtin (b := .append) (xs := #[.tmp 29, .tmp 31]) rfl ?_); at_builtin; refine Kd.R_append (Kd.int .i64) (w0 := w) w.heap.size rfl (.tmp 29) (.tmp 31) 23 3 (.int .i64 0) 8 rfl Try.underlying23 info3 rfl (by decide) (by omega) (.slice Ao14 x5_1.length co14) x5_1 x7_2 [.int .i64 x7_2] (fun _ => True) (fun _ => False) rfl rfl ?aP (fun _ hk => hk.elim) ?aF ?aO ?aB ?aS ?aL ?_; (case aP => exact rfl); (case aB => exact (by repeat (first | (with_reducible first | exact HB.out | apply below_alloc | apply pw_below_drewN | apply below_drew1 | refine below_set ?_ GE364.out) | exact HB.out))); (case aF => exact (fun _ _ => trivial)); (case aO => exact (by (with_reducible repeat (first | apply Kd.R_alloc | apply Kd.R_drewN | apply Kd.R_drew)); exact HO_5.out)); (case aS => exact (below_size (by repeat (first | (with_reducible first | exact HB.out | apply below_alloc | apply pw_below_drewN | apply below_drew1 | refine below_set ?_ GE364.out) | exact HB.out)))); (case aL => have := LMc13.out; omega); intro v368 w15 ho hb hg hat; rw [← Ny367.out] at ho; have n0_ := Aside0.mk (blk_grown (g := gb364) (o := .cells #[.int .i64 a0_0, .int .i64 a0_1, .slice A0_2 l0_2.length c0_2, .slice A0_3 l0_3.length c0_3, .slice A0_4 l0_4.length c0_4] 26 (0, 0)) (by (with_reducible repeat (first | refine blk_drewN ?_ _ | refine blk_drew ?_ | refine blk_alloc ?_ _)); exact BK364.out) hg (Kd.R_ne HO_5.out BK364.out (by decide))); have n1_ := Aside0.mk (hb); have n2_ := Aside0.mk (ho); clear BK364; clear HB; clear HO_5; have BK364 := n0_; have HB := n1_; have HO369 := n2_; clear n0_ n1_ n2_; clear ho hb hg hat)); try go_wp2_with (first | (go_at_call 53; (with_reducible refine (posserlaw04_used.calls k2 _ _ x5_1 x7_2 false _ ?side1 ?side2 A8.out).mono ?_); (case side1 => repeat (first | exact (Kd.R_reads' HO_5.out).2.2 | (with_reducible refine Kd.C_alloc ?_ _) | (with_reducible refine Kd.C_drewN ?_ _) | (with_reducible refine Kd.C_drew ?_))); (case side2 => exact (Kd.R_reads' HO_5.out).2.1); rintro e w' ⟨rfl, ⟨nd, rfl⟩⟩; (try first | exact ⟨rfl, _, World.drewN_drewN _ _ _⟩ | exact ⟨rfl, _, Eq.trans (World.drewN_drewN _ _ _) (congrArg (World.drewN _) (Nat.add_assoc _ _ _))⟩)) | ((with_reducible refine gate_builtin (b := .append) (xs := #[.tmp 29, .tmp 31]) rfl ?_); at_builtin; refine Kd.R_append (Kd.int .i64) (w0 := w) w.heap.size rfl (.tmp 29) (.tmp 31) 23 3 (.int .i64 0) 8 rfl Try.underlying23 info3 rfl (by decide) (by omega) (.slice Ao14 x5_1.length co14) x5_1 x7_2 [.int .i64 x7_2] (fun _ => True) (fun _ => False) rfl rfl ?aP (fun _ hk => hk.elim) ?aF ?aO ?aB ?aS ?aL ?_; (case aP => exact rfl); (case aB => exact (by repeat (first | (with_reducible first | exact HB.out | apply below_alloc | apply pw_below_drewN | apply below_drew1 | refine below_set ?_ GE364.out) | exact HB.out))); (case aF => exact (fun _ _ => trivial)); (case aO => exact (by (with_reducible repeat (first | apply Kd.R_alloc | apply Kd.R_drewN | apply Kd.R_drew)); exact HO_5.out)); (case aS => exact (below_size (by repeat (first | (with_reducible first | exact HB.out | apply below_alloc | apply pw_below_drewN | apply below_drew1 | refine below_set ?_ GE364.out) | exact HB.out)))); (case aL => have := LMc13.out; omega); intro v368 w15 ho hb hg hat; rw [← Ny367.out] at ho; have n0_ := Aside0.mk (blk_grown (g := gb364) (o := .cells #[.int .i64 a0_0, .int .i64 a0_1, .slice A0_2 l0_2.length c0_2, .slice A0_3 l0_3.length c0_3, .slice A0_4 l0_4.length c0_4] 26 (0, 0)) (by (with_reducible repeat (first | refine blk_drewN ?_ _ | refine blk_drew ?_ | refine blk_alloc ?_ _)); exact BK364.out) hg (Kd.R_ne HO_5.out BK364.out (by decide))); have n1_ := Aside0.mk (hb); have n2_ := Aside0.mk (ho); clear BK364; clear HB; clear HO_5; have BK364 := n0_; have HB := n1_; have HO369 := n2_; clear n0_ n1_ n2_; clear ho hb hg hat)))
                  go_roundg k2
                  case measure => have := HK1.out; have := HK2.out; omega
                  case rel => exact ⟨(y367), (wrap64 (x6_1 + 1)), (by first | rfl | (simp; done) | (simp [*]; done)), H', ⟨by have := HK1.out; have := HK2.out; omega⟩, ⟨by (with_reducible repeat (first | apply Kd.R_alloc | apply Kd.R_drewN | apply Kd.R_drew)); exact HO369.out⟩, ⟨by (with_reducible repeat (first | refine blk_drewN ?_ _ | refine blk_drew ?_ | refine blk_alloc ?_ _)); exact BK364.out⟩, ⟨by repeat (first | (with_reducible first | exact HB.out | apply below_alloc | apply pw_below_drewN | apply below_drew1 | refine below_set ?_ GE364.out) | exact HB.out)⟩⟩
                · rw [if_neg c13] at H
                  exact absurd H (by simp)
      · rw [if_neg c4] at H
        have c4b0 : decide (x6_1 < (l0_2.length : Int)) = false := decide_eq_false c4
        clear c4
        obtain rfl := Option.some.inj H
        have hcz16_0 : wr.cell? ⟨gb364, 0, none⟩ = some (.int .i64 a0_0) := (blk_cell BK364.out 0).trans rfl
        have hcz16_1 : wr.cell? ⟨gb364, 1, none⟩ = some (.int .i64 a0_1) := (blk_cell BK364.out 1).trans rfl
        have hcz16_2 : wr.cell? ⟨gb364, 2, none⟩ = some (.slice A0_2 l0_2.length c0_2) := (blk_cell BK364.out 2).trans rfl
        have hcz16_3 : wr.cell? ⟨gb364, 3, none⟩ = some (.slice A0_3 l0_3.length c0_3) := (blk_cell BK364.out 3).trans rfl
        have hcz16_4 : wr.cell? ⟨gb364, 4, none⟩ = some (.slice A0_4 l0_4.length c0_4) := (blk_cell BK364.out 4).trans rfl
        have hfz16_0 := blk_frozen BK364.out 0
        have hfz16_1 := blk_frozen BK364.out 1
        have hfz16_2 := blk_frozen BK364.out 2
        have hfz16_3 := blk_frozen BK364.out 3
        have hfz16_4 := blk_frozen BK364.out 4
        go_wp2
        repeat (go_quiet (fail); try go_wp2)
        go_ret
        exact ⟨_, by first | rfl | (simp [errW_none, errW_some] <;> rfl) | (simp [*, errW_none, errW_some] <;> rfl), by (with_reducible repeat (first | apply Kd.R_alloc | apply Kd.R_drewN | apply Kd.R_drew)); exact HO_5.out, by repeat (first | (with_reducible first | exact HB.out | apply below_alloc | apply pw_below_drewN | apply below_drew1 | refine below_set ?_ GE364.out) | exact HB.out)⟩
end Go.Proofs.Ytokhmghgghjmhaa.Q
namespace Go.Proofs.Ytokhmghgghjmhaa.Q
open Go.RowKit Go.Proofs.YtokhmghgghjmhaaW.PrintWords Go.Proofs.YtokhmghgghjmhaaW.PrintLast Go.Proofs.YtokhmghgghjmhaaW.PrintMore
set_option linter.unusedVariables false
/-- A list of so many numbers, each in a closet, no two alike. -/
structure Pl (cs : Int) (n : Nat) (p : List Int) : Prop where
  len : p.length = n
  inside : ∀ i : Nat, i < p.length → 0 ≤ rd p i ∧ rd p i ≤ cs - 1
  apart : ∀ i j : Nat, i < p.length → j < p.length → i ≠ j → rd p i ≠ rd p j
theorem Pl.of {cs : Int} {n : Nat} {p : List Int} (h : placeB (cs - 1) n p = true) : Pl cs n p := by
  obtain ⟨h1, h2⟩ := of_decide_eq_true h
  refine ⟨h1, fun i hi => ⟨(h2 i hi).1, (h2 i hi).2.1⟩, fun i j hi hj hne e => ?_⟩
  rcases Nat.lt_or_ge i j with hlt | hge
  · exact (contains_take p j (rd p j) (by omega)).1 (h2 j hj).2.2 i hlt e
  · exact (contains_take p i (rd p i) (by omega)).1 (h2 i hi).2.2 j (by omega) e.symm
end Go.Proofs.Ytokhmghgghjmhaa.Q
namespace Go.Proofs.Ytokhmghgghjmhaa.Q
open Go.RowKit Go.Proofs.YtokhmghgghjmhaaW.PrintWords Go.Proofs.YtokhmghgghjmhaaW.PrintLast Go.Proofs.YtokhmghgghjmhaaW.PrintMore
set_option linter.unusedVariables false
theorem bnd_tells (v : (Nat → Int) → Int) : ∀ T : List (Nat → Int), T ≠ [] → (∀ t ∈ T, (bnd v T).1 ≤ v t ∧ v t ≤ (bnd v T).2) ∧ (∃ t ∈ T, v t = (bnd v T).1) ∧ (∃ t ∈ T, v t = (bnd v T).2) := by
  have key : ∀ (r pre : List (Nat → Int)) (lo hi : Int), (∀ t ∈ pre, lo ≤ v t ∧ v t ≤ hi) → (∃ t ∈ pre, v t = lo) → (∃ t ∈ pre, v t = hi) →
      (∀ t ∈ pre ++ r, (r.foldl (fun p t => (mn p.1 (v t), mx p.2 (v t))) (lo, hi)).1 ≤ v t ∧ v t ≤ (r.foldl (fun p t => (mn p.1 (v t), mx p.2 (v t))) (lo, hi)).2) ∧
      (∃ t ∈ pre ++ r, v t = (r.foldl (fun p t => (mn p.1 (v t), mx p.2 (v t))) (lo, hi)).1) ∧ (∃ t ∈ pre ++ r, v t = (r.foldl (fun p t => (mn p.1 (v t), mx p.2 (v t))) (lo, hi)).2) := by
    intro r
    induction r with
    | nil => intro pre lo hi h1 h2 h3; simpa using ⟨h1, h2, h3⟩
    | cons a r ih =>
      intro pre lo hi h1 h2 h3
      have := ih (pre ++ [a]) (mn lo (v a)) (mx hi (v a)) (by
        intro t ht
        rcases List.mem_append.1 ht with h | h
        · have := h1 t h; unfold mn mx; constructor <;> split <;> omega
        · rw [List.mem_singleton] at h; subst h; unfold mn mx; constructor <;> split <;> omega)
        (by
          by_cases hc : v a < lo
          · exact ⟨a, by simp, by unfold mn; rw [if_pos hc]⟩
          · obtain ⟨t, ht, e⟩ := h2
            exact ⟨t, List.mem_append_left _ ht, by unfold mn; rw [if_neg hc]; exact e⟩)
        (by
          by_cases hc : hi < v a
          · exact ⟨a, by simp, by unfold mx; rw [if_pos hc]⟩
          · obtain ⟨t, ht, e⟩ := h3
            exact ⟨t, List.mem_append_left _ ht, by unfold mx; rw [if_neg hc]; exact e⟩)
      simpa using this
  intro T hT
  cases T with
  | nil => exact absurd rfl hT
  | cons a r =>
    have := key r [a] (v a) (v a) (fun t ht => by rw [List.mem_singleton] at ht; subst ht; omega) ⟨a, by simp, rfl⟩ ⟨a, by simp, rfl⟩
    exact this
end Go.Proofs.Ytokhmghgghjmhaa.Q
namespace Go.Proofs.Ytokhmghgghjmhaa.Q
open Go.RowKit Go.Proofs.YtokhmghgghjmhaaW.PrintWords Go.Proofs.YtokhmghgghjmhaaW.PrintLast Go.Proofs.YtokhmghgghjmhaaW.PrintMore
set_option linter.unusedVariables false
section
variable {cs cl : Int} {hs : List S68} {hung : List Int} {looks : List S84} {p : List Int}
/-- The first horse without a good minute. -/
def stF (cl : Int) (hs : List S139) (p : List Int) (T : List (Nat → Int)) : Nat → Nat → Int
  | 0, _ => -1
  | d + 1, i => if goodLo hs p T i > goodHi cl hs p T i then (i : Int) else stF cl hs p T d (i + 1)
theorem dn_st (cl : Int) (hs : List S139) (p : List Int) (T : List (Nat → Int)) : ∀ (d i : Nat) (n : Int), (dn cl hs p T d i n).2 = if stF cl hs p T d i < 0 then ((i + d : Nat) : Int) else stF cl hs p T d i
  | 0, i, n => by simp [dn, stF]
  | d + 1, i, n => by
    by_cases h : goodLo hs p T i > goodHi cl hs p T i
    · have e1 : stF cl hs p T (d + 1) i = (i : Int) := by simp only [stF]; rw [if_pos h]
      have e2 : dn cl hs p T (d + 1) i n = (0, (i : Int)) := by simp only [dn]; rw [if_pos h]
      rw [e1, e2, if_neg (by omega)]
    · have e1 : stF cl hs p T (d + 1) i = stF cl hs p T d (i + 1) := by simp only [stF]; rw [if_neg h]
      have e2 : dn cl hs p T (d + 1) i n = dn cl hs p T d (i + 1) (mx n (goodLo hs p T i)) := by simp only [dn]; rw [if_neg h]
      rw [e1, e2, dn_st cl hs p T d (i + 1), show i + 1 + d = i + (d + 1) from by omega]
theorem stF_bd (cl : Int) (hs : List S139) (p : List Int) (T : List (Nat → Int)) : ∀ (d i : Nat), stF cl hs p T d i < ((i + d : Nat) : Int)
  | 0, i => by simp only [stF]; omega
  | d + 1, i => by
    simp only [stF]
    split
    · omega
    · have := stF_bd cl hs p T d (i + 1); omega
/-- The program's answer about who is stuck, by the reference's. -/
theorem done_st (cl : Int) (hs : List S139) (p : List Int) (T : List (Nat → Int)) : ((doneR cl hs p T).2 = hs.length ↔ stF cl hs p T hs.length 0 < 0) ∧ (¬ stF cl hs p T hs.length 0 < 0 → (doneR cl hs p T).2 = stF cl hs p T hs.length 0) := by
  have h1 := dn_st cl hs p T hs.length 0 0
  have h2 := stF_bd cl hs p T hs.length 0
  unfold doneR
  rw [h1]
  constructor
  · split
    · rename_i h; simp [h]
    · rename_i h; constructor
      · intro e; omega
      · intro e; omega
  · intro h; rw [if_neg h]
theorem list_f (l : List Int) (hl : l.length ≤ 1000) : posserlaw04_list.f l = some l := by
  unfold posserlaw04_list.f
  simp only [Option.bind_some, List.nil_append, List.length_nil]
  rw [if_pos (by omega)]
theorem closet_l1 (x0 x1 : Int) (x2 : List S139) (x3 : List Int) (h5 : looks.length ≤ 1000) : ∀ (d i k : Nat), i + d = looks.length → d < k →
    posserlaw04_Closet.l1 k i cs cl hs hung looks x0 x1 x2 x3 ((looks.take i).map toL) = some (x0, x1, x2, x3, looks.map toL)
  | 0, i, k, h, hk => by
    obtain ⟨k, rfl⟩ : ∃ m, k = m + 1 := ⟨k - 1, by omega⟩
    simp only [posserlaw04_Closet.l1]
    rw [if_neg (by omega), List.take_of_length_le (by omega)]
  | d + 1, i, k, h, hk => by
    obtain ⟨k, rfl⟩ : ∃ m, k = m + 1 := ⟨k - 1, by omega⟩
    have ih := closet_l1 x0 x1 x2 x3 h5 d (i + 1) k (by omega) (by omega)
    have e : (looks.take (i + 1)).map toL = (looks.take i).map toL ++ [toL (rd_T84 looks i)] := by
      rw [List.take_succ_eq_append_getElem (by omega), List.map_append]
      unfold rd_T84
      rw [Int.toNat_natCast, List.getD_eq_getElem?_getD, List.getElem?_eq_getElem (by omega)]
      rfl
    rw [e] at ih
    simp only [posserlaw04_Closet.l1]
    rw [if_pos (by omega), if_pos (by omega), if_pos (by simp only [List.length_map, List.length_take]; omega), show wrap64 ((i : Int) + 1) = ((i + 1 : Nat) : Int) from by unfold wrap64; omega]
    exact ih
theorem closet_l0 (h4 : hs.length ≤ 1000) (h5 : looks.length ≤ 1000) (x0 x1 : Int) (x3 : List Int) : ∀ (d i k : Nat), i + d = hs.length → d + 1002 < k →
    posserlaw04_Closet.l0 k i cs cl hs hung looks x0 x1 ((hs.take i).map toH) x3 = some (x0, x1, hs.map toH, x3, looks.map toL)
  | 0, i, k, h, hk => by
    obtain ⟨k, rfl⟩ : ∃ m, k = m + 1 := ⟨k - 1, by omega⟩
    have := closet_l1 (cs := cs) (cl := cl) (hs := hs) (hung := hung) (looks := looks) x0 x1 (hs.map toH) x3 h5 looks.length 0 k (by omega) (by omega)
    simp only [posserlaw04_Closet.l0]
    rw [if_neg (by omega), List.take_of_length_le (by omega)]
    exact this
  | d + 1, i, k, h, hk => by
    obtain ⟨k, rfl⟩ : ∃ m, k = m + 1 := ⟨k - 1, by omega⟩
    have ih := closet_l0 h4 h5 x0 x1 x3 d (i + 1) k (by omega) (by omega)
    have e : (hs.take (i + 1)).map toH = (hs.take i).map toH ++ [toH (rd_T68 hs i)] := by
      rw [List.take_succ_eq_append_getElem (by omega), List.map_append]
      unfold rd_T68
      rw [Int.toNat_natCast, List.getD_eq_getElem?_getD, List.getElem?_eq_getElem (by omega)]
      rfl
    rw [e] at ih
    simp only [posserlaw04_Closet.l0, posserlaw04_to.f, Option.bind_some]
    rw [if_pos (by omega), if_pos (by omega), if_pos (by simp only [List.length_map, List.length_take]; omega), show wrap64 ((i : Int) + 1) = ((i + 1 : Nat) : Int) from by unfold wrap64; omega]
    exact ih
theorem closet_f (h4 : hs.length ≤ 1000) (h3 : hung.length ≤ 1000) (h5 : looks.length ≤ 1000) (k : Nat) (hk : 3000 ≤ k) : posserlaw04_Closet.f k cs cl hs hung looks = some (cs, cl, hs.map toH, hung, looks.map toL) := by
  unfold posserlaw04_Closet.f
  rw [list_f _ h3]
  simp only [Option.bind_some]
  exact closet_l0 h4 h5 cs cl hung hs.length 0 k (by omega) (by omega)
theorem thin_f : posserlaw04_Thin.f cs cl hs hung looks = some (decide (hs.length ≤ 30 ∧ hung.length ≤ 30 ∧ looks.length ≤ 30)) := by
  unfold posserlaw04_Thin.f
  by_cases h1 : (hs.length : Int) > 30
  · rw [if_pos h1, decide_eq_false (by omega)]
  · rw [if_neg h1]
    by_cases h2 : (hung.length : Int) > 30
    · rw [if_pos h2, decide_eq_false (by omega)]
    · rw [if_neg h2]
      by_cases h3 : (looks.length : Int) > 30
      · rw [if_pos h3, decide_eq_false (by omega)]
      · rw [if_neg h3, decide_eq_true (by omega)]
end
end Go.Proofs.Ytokhmghgghjmhaa.Q
namespace Go.Proofs.Ytokhmghgghjmhaa.Q
open Go.RowKit Go.Proofs.YtokhmghgghjmhaaW.PrintWords Go.Proofs.YtokhmghgghjmhaaW.PrintLast Go.Proofs.YtokhmghgghjmhaaW.PrintMore
set_option linter.unusedVariables false
open Classical in
theorem nodup_len {α : Type} : ∀ (l m : List α), l.Nodup → (∀ x ∈ l, x ∈ m) → l.length ≤ m.length
  | [], m, _, _ => Nat.zero_le _
  | a :: r, m, hn, hs => by
    rw [List.nodup_cons] at hn
    have ha := hs a List.mem_cons_self
    have h := nodup_len r (m.erase a) hn.2 (fun x hx => (List.mem_erase_of_ne (fun e : x = a => hn.1 (by rw [← e]; exact hx))).2 (hs x (List.mem_cons_of_mem _ hx)))
    rw [List.length_erase_of_mem ha] at h
    have := List.length_pos_of_mem ha
    simp only [List.length_cons]
    omega
end Go.Proofs.Ytokhmghgghjmhaa.Q
