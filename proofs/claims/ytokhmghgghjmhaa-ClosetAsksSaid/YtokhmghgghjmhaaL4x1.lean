/- Part L4x1 of the proof (QD, P1, P2, P3, P4, P5, P6): contracts of functions, and plain lemmas about what they compute. -/
import Derived.Test.YtokhmghgghjmhaaA0
import Derived.Test.YtokhmghgghjmhaaA1
import Derived.Test.YtokhmghgghjmhaaA2
import Derived.Test.YtokhmghgghjmhaaA3
import Derived.Test.YtokhmghgghjmhaaA4
import Derived.Test.YtokhmghgghjmhaaB0
import Derived.Test.YtokhmghgghjmhaaB1
import Derived.Test.YtokhmghgghjmhaaB2
import Derived.Test.YtokhmghgghjmhaaB3
import Derived.Test.YtokhmghgghjmhaaB4
import Derived.Test.YtokhmghgghjmhaaB5
import Derived.Test.YtokhmghgghjmhaaB6
import Derived.Test.YtokhmghgghjmhaaL4x0
namespace Go.Proofs.Ytokhmghgghjmhaa.Q
open Go.RowKit Go.Proofs.YtokhmghgghjmhaaW.PrintWords Go.Proofs.YtokhmghgghjmhaaW.PrintLast Go.Proofs.YtokhmghgghjmhaaW.PrintMore
attribute [local go_sem] max2_int min2_int max_two min_two max_three min_three max_four min_four   -- for this text's walks alone
set_option linter.unusedVariables false
set_option linter.unusedSimpArgs false
def posserref04_Right.l0 : Nat → List Int → Int → Int → Int → Int → List (S68) → List Int → List (S84) → Option (Int)
  | 0, _, _, _, _, _, _, _, _ => none
  | k + 1, x1, x5, x6, x179000, x179001, x179002, x179003, x179004 => if x6 < (x179004.length : Int) then (if 0 ≤ x6 then ((posserref04_Minute.f k x179000 x179001 x179002 x179003 x179004 x179003 x1 ((rd_T84 x179004 x6).f0)).bind fun t181 => (if ((decide (t181 ≤ ((rd_T84 x179004 x6).f1))) == ((rd_T84 x179004 x6).f2)) = true then (if 0 ≤ (IntKind.u64.wrap (x6)) then (posserref04_Right.l0 k x1 (Go.bits .or .i64 x5 (shl .i64 1 (IntKind.u64.wrap (x6)))) (wrap64 (x6 + 1)) x179000 x179001 x179002 x179003 x179004) else (none)) else (posserref04_Right.l0 k x1 x5 (wrap64 (x6 + 1)) x179000 x179001 x179002 x179003 x179004))) else (none)) else (some x5)
def posserref04_Right.f (k : Nat) (a0_0 : Int) (a0_1 : Int) (l0_2 : List (S68)) (l0_3 : List Int) (l0_4 : List (S84)) (l1 : List Int) : Option (Int) := posserref04_Right.l0 k l1 0 0 a0_0 a0_1 l0_2 l0_3 l0_4
def posserref04_Right.T6 : Bool × List (List Nat × List Nat) := (true, [([], []), ([], []), ([1], [1]), ([], []), ([], []), ([4], [4]), ([0, 2, 3, 5], [0, 2, 3, 5]), ([], []), ([7], [7]), ([6, 8], [6, 8]), ([], []), ([10], [10]), ([9, 11], [9, 11])])
def posserref04_Right.B6 : List Nat := [0, 0, 2, 0, 0, 16, 63, 0, 128, 511, 0, 1024, 4095]
theorem posserref04_Right.tab6 : rtab .any (opsOf Try.f94 6) = posserref04_Right.T6 := by kernel_rfl
theorem posserref04_Right.bits6 : waitsOk posserref04_Right.T6.2 posserref04_Right.B6 = true := by kernel_rfl
set_option maxHeartbeats 8000000 in
set_option maxRecDepth 100000 in
theorem posserref04_Right.calls (k : Nat) (a0_0 : Int) (a0_1 : Int) (A0_2 : Option Addr) (c0_2 : Nat) (l0_2 : List (S68)) (A0_3 : Option Addr) (c0_3 : Nat) (l0_3 : List Int) (A0_4 : Option Addr) (c0_4 : Nat) (l0_4 : List (S84)) (A1 : Option Addr) (c1 : Nat) (l1 : List Int) (r : Int) (w : World) (hr0_2 : Kd.C k68 w A0_2 l0_2.length l0_2) (hc0_2 : l0_2.length ≤ c0_2) (hr0_3 : Kd.C (Kd.int .i64) w A0_3 l0_3.length l0_3) (hc0_3 : l0_3.length ≤ c0_3) (hr0_4 : Kd.C k84 w A0_4 l0_4.length l0_4) (hc0_4 : l0_4.length ≤ c0_4) (hr1 : Kd.C (Kd.int .i64) w A1 l1.length l1) (hc1 : l1.length ≤ c1) (h : posserref04_Right.f k a0_0 a0_1 l0_2 l0_3 l0_4 l1 = some r) :
    Calls Try.prog 94 #[.agg #[.int .i64 a0_0, .int .i64 a0_1, .slice A0_2 l0_2.length c0_2, .slice A0_3 l0_3.length c0_3, .slice A0_4 l0_4.length c0_4], .slice A1 l1.length c1] w fun e w' => e = .returned (.int .i64 r) ∧ Below w.heap.size w w' := by
  have hu26 := Try.underlying26
  have hu84 := Try.underlying84
  have HR0_2 := Aside0.mk hr0_2
  have HC0_2 := Aside0.mk hc0_2
  clear hr0_2 hc0_2
  have HR0_3 := Aside0.mk hr0_3
  have HC0_3 := Aside0.mk hc0_3
  clear hr0_3 hc0_3
  have HR0_4 := Aside0.mk hr0_4
  have HC0_4 := Aside0.mk hc0_4
  clear hr0_4 hc0_4
  have HR1 := Aside0.mk hr1
  have HC1 := Aside0.mk hc1
  clear hr1 hc1
  have HB := Aside0.mk (Below.refl w.heap.size w)
  have H : (posserref04_Right.l0 k l1 0 0 a0_0 a0_1 l0_2 l0_3 l0_4) = some r := h
  clear h
  have H' := Aside0.mk H
  clear H
  go_enter Try.func94, Try.ntmps94
  go_wp2_with (first | ((with_reducible refine gate_dst (N := 2) rfl ?_); refine box_event ?hg (N := 2) ?hd (cs := #[.int .i64 a0_0, .int .i64 a0_1, .slice A0_2 l0_2.length c0_2, .slice A0_3 l0_3.length c0_3, .slice A0_4 l0_4.length c0_4]) (t := 26) ?hr ?_; (case hd => rfl); (case hg => rfl); (case hr => first | (go_simp; done) | (go_simp; rfl)); intro gb178 hg w3 hbox hb; have n0_ := Aside0.mk (below_step (by repeat (first | (with_reducible first | exact HB.out | apply below_alloc | apply pw_below_drewN | apply below_drew1) | exact HB.out)) hb); have n1_ := Aside0.mk (hbox); have n2_ := Aside0.mk ((by rw [hg]; exact (below_size (by repeat (first | (with_reducible first | exact HB.out | apply below_alloc | apply pw_below_drewN | apply below_drew1) | exact HB.out))) : w.heap.size ≤ gb178)); have n3_ := Aside0.mk ((by rw [hg]; exact (below_size (by repeat (first | (with_reducible first | exact HB.out | apply below_alloc | apply pw_below_drewN | apply below_drew1) | exact HB.out))) : w.heap.size ≤ gb178)); clear HB; have HB := n0_; have BK178 := n1_; have GW178 := n2_; have GE178 := n3_; clear n0_ n1_ n2_ n3_; clear hb hbox hg))
  go_loopg [5, 6] k (fun kq v5 v6 w' => ∃ (x5_1 : Int) (x6_1 : Int), v5 = .int .i64 x5_1 ∧ v6 = .int .i64 x6_1 ∧ Aside0 (posserref04_Right.l0 kq l1 x5_1 x6_1 a0_0 a0_1 l0_2 l0_3 l0_4 = some r) ∧ Aside0 (kq ≤ k) ∧ Aside0 (w'.heap[gb178]? = some (.cells #[.int .i64 a0_0, .int .i64 a0_1, (.slice A0_2 l0_2.length c0_2), (.slice A0_3 l0_3.length c0_3), (.slice A0_4 l0_4.length c0_4)] 26 (0, 0))) ∧ Aside0 (Below w.heap.size w w'))
  case atStart => exact ⟨(0), (0), (by first | rfl | (simp; done) | (simp [*]; done)), (by first | rfl | (simp; done) | (simp [*]; done)), H', ⟨Nat.le_refl _⟩, ⟨by (with_reducible repeat (first | refine blk_drewN ?_ _ | refine blk_drew ?_ | refine blk_alloc ?_ _)); exact BK178.out⟩, ⟨by repeat (first | (with_reducible first | exact HB.out | apply below_alloc | apply pw_below_drewN | apply below_drew1 | refine below_set ?_ GE178.out) | exact HB.out)⟩⟩
  case round =>
    clear H'
    try clear c1
    try clear p2
    obtain ⟨x5_1, x6_1, rfl, rfl, HA, HK1, BK178, HB⟩ := hrel
    cases gk with
    | zero => exact absurd HA.out (by simp [posserref04_Right.l0])
    | succ k1 =>
      have H := HA.out
      clear HA
      simp only [posserref04_Right.l0] at H
      by_cases c4 : x6_1 < (l0_4.length : Int)
      · rw [if_pos c4] at H
        have c4b0 : decide (x6_1 < (l0_4.length : Int)) = true := decide_eq_true c4
        clear c4
        by_cases c5 : 0 ≤ x6_1
        · rw [if_pos c5] at H
          have c5b0 : decide (0 ≤ x6_1) = true := decide_eq_true c5
          clear c5
          replace H := Option.bind_eq_some_iff.mp H
          obtain ⟨t181, A60, H⟩ := H
          replace H : (if ((decide (t181 ≤ ((rd_T84 l0_4 x6_1).f1))) == ((rd_T84 l0_4 x6_1).f2)) = true then (if 0 ≤ (IntKind.u64.wrap (x6_1)) then (posserref04_Right.l0 k1 l1 (Go.bits .or .i64 x5_1 (shl .i64 1 (IntKind.u64.wrap (x6_1)))) (wrap64 (x6_1 + 1)) a0_0 a0_1 l0_2 l0_3 l0_4) else (none)) else (posserref04_Right.l0 k1 l1 x5_1 (wrap64 (x6_1 + 1)) a0_0 a0_1 l0_2 l0_3 l0_4)) = some r := H
          have A6 := Aside0.mk A60
          clear A60
          by_cases c7 : ((decide (t181 ≤ ((rd_T84 l0_4 x6_1).f1))) == ((rd_T84 l0_4 x6_1).f2)) = true
          · rw [if_pos c7] at H
            have c7b0 : ((decide (t181 ≤ ((rd_T84 l0_4 x6_1).f1))) == ((rd_T84 l0_4 x6_1).f2)) = true := c7
            (try (have c7b1 : decide ((decide (t181 ≤ ((rd_T84 l0_4 x6_1).f1))) = ((rd_T84 l0_4 x6_1).f2)) = true := by simpa using c7))
            (try (have c7b2 : ((decide (t181 ≤ ((rd_T84 l0_4 x6_1).f1))) == ((rd_T84 l0_4 x6_1).f2)) = true := by simpa using c7))
            clear c7
            obtain ⟨ji8, hji8⟩ : ∃ j_ : Int, (IntKind.u64.wrap (x6_1)) = j_ := ⟨_, rfl⟩
            replace H : (if 0 ≤ (ji8) then (posserref04_Right.l0 k1 l1 (Go.bits .or .i64 x5_1 (shl .i64 1 (ji8))) (wrap64 (x6_1 + 1)) a0_0 a0_1 l0_2 l0_3 l0_4) else (none)) = some r := by first | (rw [hji8] at H; exact H) | (simp only [hji8] at H ⊢; exact H)
            (try rw [hji8] at A6)
            by_cases c9 : 0 ≤ (ji8)
            · rw [if_pos c9] at H
              have c9b0 := eq_true c9
              have c9b1 : decide (0 ≤ (ji8)) = true := decide_eq_true c9
              clear c9
              obtain ⟨ji10, hji10⟩ : ∃ j_ : Int, (shl .i64 1 (ji8)) = j_ := ⟨_, rfl⟩
              replace H : (posserref04_Right.l0 k1 l1 (Go.bits .or .i64 x5_1 (ji10)) (wrap64 (x6_1 + 1)) a0_0 a0_1 l0_2 l0_3 l0_4) = some r := by first | (rw [hji10] at H; exact H) | (simp only [hji10] at H ⊢; exact H)
              (try rw [hji10] at A6)
              have hji10_ : (IntKind.i64.wrap (1 * 2 ^ min (ji8).toNat 64)) = ji10 := hji10
              have hji10z : (ji8) ≤ 64 → (IntKind.i64.wrap (1 * 2 ^ (ji8).toNat)) = ji10 := shl_small hji10
              have hji10u : (IntKind.i64.wrap (2 ^ min (ji8).toNat 64)) = ji10 := by have h_ := hji10_; rw [Int.one_mul] at h_; exact h_
              have hji10v : (ji8) ≤ 64 → (IntKind.i64.wrap (2 ^ (ji8).toNat)) = ji10 := fun hle_ => by have h_ := hji10z hle_; rw [Int.one_mul] at h_; exact h_
              have hji10y : (wrap64 (1 * 2 ^ min (ji8).toNat 64)) = ji10 := (i64_w _).symm.trans hji10_
              have hji10x : (ji8) ≤ 64 → (wrap64 (1 * 2 ^ (ji8).toNat)) = ji10 := fun h_ => (i64_w _).symm.trans (hji10z h_)
              have H' := Aside0.mk H
              clear H
              have hcz11_0 : wr.cell? ⟨gb178, 0, none⟩ = some (.int .i64 a0_0) := (blk_cell BK178.out 0).trans rfl
              have hcz11_1 : wr.cell? ⟨gb178, 1, none⟩ = some (.int .i64 a0_1) := (blk_cell BK178.out 1).trans rfl
              have hcz11_2 : wr.cell? ⟨gb178, 2, none⟩ = some (.slice A0_2 l0_2.length c0_2) := (blk_cell BK178.out 2).trans rfl
              have hcz11_3 : wr.cell? ⟨gb178, 3, none⟩ = some (.slice A0_3 l0_3.length c0_3) := (blk_cell BK178.out 3).trans rfl
              have hcz11_4 : wr.cell? ⟨gb178, 4, none⟩ = some (.slice A0_4 l0_4.length c0_4) := (blk_cell BK178.out 4).trans rfl
              have hfz11_0 := blk_frozen BK178.out 0
              have hfz11_1 := blk_frozen BK178.out 1
              have hfz11_2 := blk_frozen BK178.out 2
              have hfz11_3 := blk_frozen BK178.out 3
              have hfz11_4 := blk_frozen BK178.out 4
              have p179 : 0 ≤ (x6_1 : Int) := of_decide_eq_true (by first | (with_reducible assumption) | assumption)
              have q179 : x6_1 < (l0_4.length : Int) := of_decide_eq_true (by first | (with_reducible assumption) | assumption)
              obtain ⟨ad179, e179, hx179_0, hx179_1, hx179_2⟩ := at_T84 HR0_4.out x6_1 p179 q179
              cases e179
              replace hx179_0 := (HB.out.cell (World.block_lt_of_cell? w _ hx179_0)).trans hx179_0
              replace hx179_1 := (HB.out.cell (World.block_lt_of_cell? w _ hx179_1)).trans hx179_1
              replace hx179_2 := (HB.out.cell (World.block_lt_of_cell? w _ hx179_2)).trans hx179_2
              replace p179 := eq_true p179
              replace q179 := eq_true q179
              try go_wp2_with (first | ((with_reducible refine gate_dst (N := 7) rfl ?_); refine box_event ?hg (N := 7) ?hd (cs := #[.int .i64 0, .int .i64 0, .bool false]) (t := 84) ?hr ?_; (case hd => rfl); (case hg => rfl); (case hr => first | (go_simp; done) | (go_simp; rfl)); intro gb180 hg w12 hbox hb; have n0_ := Aside0.mk (blk_below (g := gb178) (o := .cells #[.int .i64 a0_0, .int .i64 a0_1, .slice A0_2 l0_2.length c0_2, .slice A0_3 l0_3.length c0_3, .slice (some ad179) l0_4.length c0_4] 26 (0, 0)) (by (with_reducible repeat (first | refine blk_drewN ?_ _ | refine blk_drew ?_ | refine blk_alloc ?_ _)); exact BK178.out) hb); have n1_ := Aside0.mk (below_step (by repeat (first | (with_reducible first | exact HB.out | apply below_alloc | apply pw_below_drewN | apply below_drew1 | refine below_set ?_ GE178.out) | exact HB.out)) hb); have n2_ := Aside0.mk (hbox); have n3_ := Aside0.mk ((by rw [hg]; exact (below_size (by repeat (first | (with_reducible first | exact HB.out | apply below_alloc | apply pw_below_drewN | apply below_drew1 | refine below_set ?_ GE178.out) | exact HB.out))) : w.heap.size ≤ gb180)); have n4_ := Aside0.mk ((by rw [hg]; exact (below_size (by repeat (first | (with_reducible first | exact HB.out | apply below_alloc | apply pw_below_drewN | apply below_drew1 | refine below_set ?_ GE178.out) | exact HB.out))) : w.heap.size ≤ gb180)); have n5_ := Aside0.mk ((by rw [hg]; exact Nat.ne_of_lt (blk_lt (g := gb178) (o := .cells #[.int .i64 a0_0, .int .i64 a0_1, .slice A0_2 l0_2.length c0_2, .slice A0_3 l0_3.length c0_3, .slice (some ad179) l0_4.length c0_4] 26 (0, 0)) (by (with_reducible repeat (first | refine blk_drewN ?_ _ | refine blk_drew ?_ | refine blk_alloc ?_ _)); exact BK178.out)) : gb178 ≠ gb180)); have n6_ := Aside0.mk ((by rw [hg]; exact Nat.ne_of_gt (blk_lt (g := gb178) (o := .cells #[.int .i64 a0_0, .int .i64 a0_1, .slice A0_2 l0_2.length c0_2, .slice A0_3 l0_3.length c0_3, .slice (some ad179) l0_4.length c0_4] 26 (0, 0)) (by (with_reducible repeat (first | refine blk_drewN ?_ _ | refine blk_drew ?_ | refine blk_alloc ?_ _)); exact BK178.out)) : gb180 ≠ gb178)); clear BK178; clear HB; have BK178 := n0_; have HB := n1_; have BK180 := n2_; have GW180 := n3_; have GE180 := n4_; have NB178_180 := n5_; have NB180_178 := n6_; clear n0_ n1_ n2_ n3_ n4_ n5_ n6_; clear hb hbox hg; have hnb13 := NB180_178.out; have hnc13 := NB178_180.out; have hcz14_0 : w12.cell? ⟨gb180, 0, none⟩ = some (.int .i64 0) := (blk_cell BK180.out 0).trans rfl; have hcz14_1 : w12.cell? ⟨gb180, 1, none⟩ = some (.int .i64 0) := (blk_cell BK180.out 1).trans rfl; have hcz14_2 : w12.cell? ⟨gb180, 2, none⟩ = some (.bool false) := (blk_cell BK180.out 2).trans rfl; have hfz14_0 := blk_frozen BK180.out 0; have hfz14_1 := blk_frozen BK180.out 1; have hfz14_2 := blk_frozen BK180.out 2))
              have n0_ : Aside0 ((((w12.setCell ⟨gb180, 0, none⟩ (.int .i64 ((rd_T84 l0_4 x6_1).f0))).setCell ⟨gb180, 1, none⟩ (.int .i64 ((rd_T84 l0_4 x6_1).f1))).setCell ⟨gb180, 2, none⟩ (.bool ((rd_T84 l0_4 x6_1).f2))).heap[gb178]? = some (.cells #[.int .i64 a0_0, .int .i64 a0_1, .slice A0_2 l0_2.length c0_2, .slice A0_3 l0_3.length c0_3, .slice (some ad179) l0_4.length c0_4] 26 (0, 0))) := ⟨by (with_reducible repeat (first | refine blk_drewN ?_ _ | refine blk_drew ?_ | refine blk_alloc ?_ _)); refine blk_far ?_ NB178_180.out _; (with_reducible repeat (first | refine blk_drewN ?_ _ | refine blk_drew ?_ | refine blk_alloc ?_ _)); refine blk_far ?_ NB178_180.out _; (with_reducible repeat (first | refine blk_drewN ?_ _ | refine blk_drew ?_ | refine blk_alloc ?_ _)); refine blk_far ?_ NB178_180.out _; (with_reducible repeat (first | refine blk_drewN ?_ _ | refine blk_drew ?_ | refine blk_alloc ?_ _)); exact BK178.out⟩
              have n1_ : Aside0 ((((w12.setCell ⟨gb180, 0, none⟩ (.int .i64 ((rd_T84 l0_4 x6_1).f0))).setCell ⟨gb180, 1, none⟩ (.int .i64 ((rd_T84 l0_4 x6_1).f1))).setCell ⟨gb180, 2, none⟩ (.bool ((rd_T84 l0_4 x6_1).f2))).heap[gb180]? = some (.cells #[.int .i64 ((rd_T84 l0_4 x6_1).f0), .int .i64 ((rd_T84 l0_4 x6_1).f1), .bool ((rd_T84 l0_4 x6_1).f2)] 84 (0, 0))) := ⟨by (with_reducible repeat (first | refine blk_drewN ?_ _ | refine blk_drew ?_ | refine blk_alloc ?_ _)); refine blk_put (cs := #[.int .i64 ((rd_T84 l0_4 x6_1).f0), .int .i64 ((rd_T84 l0_4 x6_1).f1), .bool false]) ?_ 2 _ rfl; (with_reducible repeat (first | refine blk_drewN ?_ _ | refine blk_drew ?_ | refine blk_alloc ?_ _)); refine blk_put (cs := #[.int .i64 ((rd_T84 l0_4 x6_1).f0), .int .i64 0, .bool false]) ?_ 1 _ rfl; (with_reducible repeat (first | refine blk_drewN ?_ _ | refine blk_drew ?_ | refine blk_alloc ?_ _)); refine blk_put (cs := #[.int .i64 0, .int .i64 0, .bool false]) ?_ 0 _ rfl; (with_reducible repeat (first | refine blk_drewN ?_ _ | refine blk_drew ?_ | refine blk_alloc ?_ _)); exact BK180.out⟩
              have n2_ : Aside0 (Below w.heap.size w (((w12.setCell ⟨gb180, 0, none⟩ (.int .i64 ((rd_T84 l0_4 x6_1).f0))).setCell ⟨gb180, 1, none⟩ (.int .i64 ((rd_T84 l0_4 x6_1).f1))).setCell ⟨gb180, 2, none⟩ (.bool ((rd_T84 l0_4 x6_1).f2)))) := ⟨by repeat (first | (with_reducible first | exact HB.out | apply below_alloc | apply pw_below_drewN | apply below_drew1 | refine below_set ?_ GE178.out | refine below_set ?_ GE180.out) | exact HB.out)⟩
              (try clear BK178)
              (try clear BK180)
              (try clear HB)
              generalize (((w12.setCell ⟨gb180, 0, none⟩ (.int .i64 ((rd_T84 l0_4 x6_1).f0))).setCell ⟨gb180, 1, none⟩ (.int .i64 ((rd_T84 l0_4 x6_1).f1))).setCell ⟨gb180, 2, none⟩ (.bool ((rd_T84 l0_4 x6_1).f2))) = w15 at n0_ n1_ n2_ ⊢
              have BK178 := n0_
              have BK180 := n1_
              have HB := n2_
              clear n0_ n1_ n2_
              have n0_ := Aside0.mk (blk_drew BK178.out)
              have n1_ := Aside0.mk (blk_drew BK180.out)
              have n2_ := Aside0.mk (below_drew1 HB.out)
              clear BK178
              clear BK180
              clear HB
              have BK178 := n0_
              have BK180 := n1_
              have HB := n2_
              clear n0_ n1_ n2_
              refine start_ (n := 13) (S := fun w' => w'.cell? ⟨gb178, 0, none⟩ = some (.int .i64 a0_0) ∧ w'.cell? ⟨gb178, 1, none⟩ = some (.int .i64 a0_1) ∧ w'.cell? ⟨gb178, 2, none⟩ = some (.slice A0_2 l0_2.length c0_2) ∧ w'.cell? ⟨gb178, 3, none⟩ = some (.slice A0_3 l0_3.length c0_3) ∧ w'.cell? ⟨gb178, 4, none⟩ = some (.slice (some ad179) l0_4.length c0_4) ∧ w'.cell? ⟨gb180, 0, none⟩ = some (.int .i64 ((rd_T84 l0_4 x6_1).f0)) ∧ w'.cell? ⟨gb180, 1, none⟩ = some (.int .i64 ((rd_T84 l0_4 x6_1).f1)) ∧ w'.cell? ⟨gb180, 2, none⟩ = some (.bool ((rd_T84 l0_4 x6_1).f2))) (ds := []) #[false, false, false, false, false, false, false, false, false, false, false, false, false] (by kernel_rfl) rfl rfl ⟨(blk_cell BK178.out 0).trans rfl, (blk_cell BK178.out 1).trans rfl, (blk_cell BK178.out 2).trans rfl, (blk_cell BK178.out 3).trans rfl, (blk_cell BK178.out 4).trans rfl, (blk_cell BK180.out 0).trans rfl, (blk_cell BK180.out 1).trans rfl, (blk_cell BK180.out 2).trans rfl⟩ (fun hHeld => ?_); refine with_tabW posserref04_Right.tab6 posserref04_Right.bits6 (fun HT_ HW_ => ?_)
              generalize w15.drew = w16 at BK178 BK180 HB hHeld ⊢
              refine pure_ (i := 1) (N := some 21) (v := ?_) (a' := ?_) #[false, true, false, false, false, false, false, false, false, false, false, false, false] rfl rfl (any_of HT_.out (by kernel_rfl)) (fun _ _ _ h => h) (Or.inl ⟨by rfl, ?_⟩) ?_ ?_
              rotate_left
              · intro w'
                go_simp
                with_reducible rfl
              rotate_left
              · simp only [Act.put, List.setIfInBounds_toArray, List.set_cons_zero, List.set_cons_succ, i64_w, i32_w]
                rfl
              refine pure_ (i := 3) (N := some 23) (v := ?_) (a' := ?_) #[false, true, false, true, false, false, false, false, false, false, false, false, false] rfl rfl (any_of HT_.out (by kernel_rfl)) (fun _ _ _ h => h) (Or.inl ⟨by rfl, ?_⟩) ?_ ?_
              rotate_left
              · intro w'
                go_simp
                with_reducible rfl
              rotate_left
              · simp only [Act.put, List.setIfInBounds_toArray, List.set_cons_zero, List.set_cons_succ, i64_w, i32_w]
                rfl
              refine pure_ (i := 4) (N := some 24) (v := ?_) (a' := ?_) #[false, true, false, true, true, false, false, false, false, false, false, false, false] rfl rfl (any_of HT_.out (by kernel_rfl)) (fun _ _ _ h => h) (Or.inl ⟨by rfl, ?_⟩) ?_ ?_
              rotate_left
              · intro w'
                go_simp
                with_reducible rfl
              rotate_left
              · simp only [Act.put, List.setIfInBounds_toArray, List.set_cons_zero, List.set_cons_succ, i64_w, i32_w]
                rfl
              refine pure_ (i := 7) (N := some 27) (v := ?_) (a' := ?_) #[false, true, false, true, true, false, false, true, false, false, false, false, false] rfl rfl (any_of HT_.out (by kernel_rfl)) (fun _ _ _ h => h) (Or.inl ⟨by rfl, ?_⟩) ?_ ?_
              rotate_left
              · intro w'
                go_simp
                with_reducible rfl
              rotate_left
              · simp only [Act.put, List.setIfInBounds_toArray, List.set_cons_zero, List.set_cons_succ, i64_w, i32_w]
                rfl
              refine pure_ (i := 10) (N := some 30) (v := ?_) (a' := ?_) #[false, true, false, true, true, false, false, true, false, false, true, false, false] rfl rfl (any_of HT_.out (by kernel_rfl)) (fun _ _ _ h => h) (Or.inl ⟨by rfl, ?_⟩) ?_ ?_
              rotate_left
              · intro w'
                go_simp
                with_reducible rfl
              rotate_left
              · simp only [Act.put, List.setIfInBounds_toArray, List.set_cons_zero, List.set_cons_succ, i64_w, i32_w]
                rfl
              refine take_ (i := 0) (N := some 20) (v := ?_) (a' := ?_) #[true, true, false, true, true, false, false, true, false, false, true, false, false] rfl rfl (take_ofW HT_.out HW_.out (by kernel_rfl)) (fun _ _ _ h => h) (Or.inl ⟨by rfl, ?_⟩) hHeld ?_ ?_
              rotate_left
              · rintro w' ⟨s0, s1, s2, s3, s4, s5, s6, s7⟩
                go_simp
                with_reducible rfl
              rotate_left
              · simp only [Act.put, List.setIfInBounds_toArray, List.set_cons_zero, List.set_cons_succ, i64_w, i32_w]
                rfl
              refine take_ (i := 2) (N := some 22) (v := ?_) (a' := ?_) #[true, true, true, true, true, false, false, true, false, false, true, false, false] rfl rfl (take_ofW HT_.out HW_.out (by kernel_rfl)) (fun _ _ _ h => h) (Or.inl ⟨by rfl, ?_⟩) hHeld ?_ ?_
              rotate_left
              · rintro w' ⟨s0, s1, s2, s3, s4, s5, s6, s7⟩
                go_simp
                with_reducible rfl
              rotate_left
              · simp only [Act.put, List.setIfInBounds_toArray, List.set_cons_zero, List.set_cons_succ, i64_w, i32_w]
                rfl
              refine take_ (i := 5) (N := some 25) (v := ?_) (a' := ?_) #[true, true, true, true, true, true, false, true, false, false, true, false, false] rfl rfl (take_ofW HT_.out HW_.out (by kernel_rfl)) (fun _ _ _ h => h) (Or.inl ⟨by rfl, ?_⟩) hHeld ?_ ?_
              rotate_left
              · rintro w' ⟨s0, s1, s2, s3, s4, s5, s6, s7⟩
                go_simp
                with_reducible rfl
              rotate_left
              · simp only [Act.put, List.setIfInBounds_toArray, List.set_cons_zero, List.set_cons_succ, i64_w, i32_w]
                rfl
              refine take_ (i := 8) (N := some 28) (v := ?_) (a' := ?_) #[true, true, true, true, true, true, false, true, true, false, true, false, false] rfl rfl (take_ofW HT_.out HW_.out (by kernel_rfl)) (fun _ _ _ h => h) (Or.inl ⟨by rfl, ?_⟩) hHeld ?_ ?_
              rotate_left
              · rintro w' ⟨s0, s1, s2, s3, s4, s5, s6, s7⟩
                go_simp
                with_reducible rfl
              rotate_left
              · simp only [Act.put, List.setIfInBounds_toArray, List.set_cons_zero, List.set_cons_succ, i64_w, i32_w]
                rfl
              refine take_ (i := 11) (N := some 31) (v := ?_) (a' := ?_) #[true, true, true, true, true, true, false, true, true, false, true, true, false] rfl rfl (take_ofW HT_.out HW_.out (by kernel_rfl)) (fun _ _ _ h => h) (Or.inl ⟨by rfl, ?_⟩) hHeld ?_ ?_
              rotate_left
              · rintro w' ⟨s0, s1, s2, s3, s4, s5, s6, s7⟩
                go_simp
                with_reducible rfl
              rotate_left
              · simp only [Act.put, List.setIfInBounds_toArray, List.set_cons_zero, List.set_cons_succ, i64_w, i32_w]
                rfl
              refine one_ (i := 6) (N := some 26) #[true, true, true, true, true, true, true, true, true, false, true, true, false] rfl rfl (one_of HT_.out (by kernel_rfl)) (by decide) (fun K hK => ?_)
              refine goes_ Try.func55 (by kernel_rfl) rfl #[.agg #[.int .i64 a0_0, .int .i64 a0_1, .slice A0_2 l0_2.length c0_2, .slice A0_3 l0_3.length c0_3, .slice (some ad179) l0_4.length c0_4], .slice A0_3 l0_3.length c0_3, .slice A1 l1.length c1, .int .i64 ((rd_T84 l0_4 x6_1).f0)] (by rfl) rfl rfl (by (try simp only [List.map_toArray, List.map_cons, List.map_nil]); first | done | rfl | (simp only [List.length_drop, List.length_take]; rfl)) ?_
              with_reducible refine (posserref04_Minute.calls k1 a0_0 a0_1 _ _ l0_2 _ _ l0_3 _ _ l0_4 _ _ l0_3 _ _ l1 ((rd_T84 l0_4 x6_1).f0) t181 _ ?side1 ?side2 ?side3 ?side4 ?side5 ?side6 ?side7 ?side8 ?side9 ?side10 A6.out).mono ?_
              (case side1 => repeat (first | exact (Kd.C_below HR0_2.out HB.out) | (with_reducible refine Kd.C_alloc ?_ _) | (with_reducible refine Kd.C_drewN ?_ _) | (with_reducible refine Kd.C_drew ?_)))
              (case side2 => exact HC0_2.out)
              (case side3 => repeat (first | exact (Kd.C_below HR0_3.out HB.out) | (with_reducible refine Kd.C_alloc ?_ _) | (with_reducible refine Kd.C_drewN ?_ _) | (with_reducible refine Kd.C_drew ?_)))
              (case side4 => exact HC0_3.out)
              (case side5 => repeat (first | exact (Kd.C_below HR0_4.out HB.out) | (with_reducible refine Kd.C_alloc ?_ _) | (with_reducible refine Kd.C_drewN ?_ _) | (with_reducible refine Kd.C_drew ?_)))
              (case side6 => exact HC0_4.out)
              (case side7 => repeat (first | exact (Kd.C_below HR0_3.out HB.out) | (with_reducible refine Kd.C_alloc ?_ _) | (with_reducible refine Kd.C_drewN ?_ _) | (with_reducible refine Kd.C_drew ?_)))
              (case side8 => exact HC0_3.out)
              (case side9 => repeat (first | exact (Kd.C_below HR1.out HB.out) | (with_reducible refine Kd.C_alloc ?_ _) | (with_reducible refine Kd.C_drewN ?_ _) | (with_reducible refine Kd.C_drew ?_)))
              (case side10 => exact HC1.out)
              rintro e w17 ⟨rfl, hb⟩
              refine ⟨_, rfl, ?_⟩
              have n0_ := Aside0.mk (blk_below (g := gb178) (o := .cells #[.int .i64 a0_0, .int .i64 a0_1, .slice A0_2 l0_2.length c0_2, .slice A0_3 l0_3.length c0_3, .slice (some ad179) l0_4.length c0_4] 26 (0, 0)) (by (with_reducible repeat (first | refine blk_drewN ?_ _ | refine blk_drew ?_ | refine blk_alloc ?_ _)); exact BK178.out) hb)
              have n1_ := Aside0.mk (blk_below (g := gb180) (o := .cells #[.int .i64 ((rd_T84 l0_4 x6_1).f0), .int .i64 ((rd_T84 l0_4 x6_1).f1), .bool ((rd_T84 l0_4 x6_1).f2)] 84 (0, 0)) (by (with_reducible repeat (first | refine blk_drewN ?_ _ | refine blk_drew ?_ | refine blk_alloc ?_ _)); exact BK180.out) hb)
              have n2_ := Aside0.mk (below_step (by repeat (first | (with_reducible first | exact HB.out | apply below_alloc | apply pw_below_drewN | apply below_drew1 | refine below_set ?_ GE178.out | refine below_set ?_ GE180.out) | exact HB.out)) hb)
              clear BK178
              clear BK180
              clear HB
              have BK178 := n0_
              have BK180 := n1_
              have HB := n2_
              clear n0_ n1_ n2_
              (try clear hb)
              (try clear hb2)
              (try clear hk)
              (try clear hi)
              refine hK.out _ _ ⟨(blk_cell BK178.out 0).trans rfl, (blk_cell BK178.out 1).trans rfl, (blk_cell BK178.out 2).trans rfl, (blk_cell BK178.out 3).trans rfl, (blk_cell BK178.out 4).trans rfl, (blk_cell BK180.out 0).trans rfl, (blk_cell BK180.out 1).trans rfl, (blk_cell BK180.out 2).trans rfl⟩ (fun hHeld => ?_)
              clear hK K
              refine norm_ (a' := ?_) ?_ ?_
              rotate_left
              · show Act.put _ (some 26) _ = _
                simp only [Act.put, List.setIfInBounds_toArray, List.set_cons_zero, List.set_cons_succ, i64_w, i32_w]
                rfl
              refine pure_ (i := 9) (N := some 29) (v := ?_) (a' := ?_) #[true, true, true, true, true, true, true, true, true, true, true, true, false] rfl rfl (any_of HT_.out (by kernel_rfl)) (fun _ _ _ h => h) (Or.inl ⟨by rfl, ?_⟩) ?_ ?_
              rotate_left
              · intro w'
                go_simp
                with_reducible rfl
              rotate_left
              · simp only [Act.put, List.setIfInBounds_toArray, List.set_cons_zero, List.set_cons_succ, i64_w, i32_w]
                rfl
              refine pure_ (i := 12) (N := some 32) (v := ?_) (a' := ?_) #[true, true, true, true, true, true, true, true, true, true, true, true, true] rfl rfl (any_of HT_.out (by kernel_rfl)) (fun _ _ _ h => h) (Or.inl ⟨by rfl, ?_⟩) ?_ ?_
              rotate_left
              · intro w'
                go_simp
                with_reducible rfl
              rotate_left
              · simp only [Act.put, List.setIfInBounds_toArray, List.set_cons_zero, List.set_cons_succ, i64_w, i32_w]
                rfl
              refine done_ (done_of HT_.out (by kernel_rfl)) ?_
              try go_wp2
              go_roundg k1
              case measure => have := HK1.out; omega
              case rel => exact ⟨(Go.bits .or .i64 x5_1 (ji10)), (wrap64 (x6_1 + 1)), (by first | rfl | (simp; done) | (simp only [← hji10] <;> (first | rfl | simp)) | (simp [*]; done)), (by first | rfl | (simp; done) | (simp [*]; done)), H', ⟨by have := HK1.out; omega⟩, ⟨by (with_reducible repeat (first | refine blk_drewN ?_ _ | refine blk_drew ?_ | refine blk_alloc ?_ _)); exact BK178.out⟩, ⟨by repeat (first | (with_reducible first | exact HB.out | apply below_alloc | apply pw_below_drewN | apply below_drew1 | refine below_set ?_ GE178.out | refine below_set ?_ GE180.out) | exact HB.out)⟩⟩
            · rw [if_neg c9] at H
              exact absurd H (by simp)
          · rw [if_neg c7] at H
            have c7b0 : ((decide (t181 ≤ ((rd_T84 l0_4 x6_1).f1))) == ((rd_T84 l0_4 x6_1).f2)) = false := by simpa using c7
            (try (have c7b1 : decide ((decide (t181 ≤ ((rd_T84 l0_4 x6_1).f1))) = ((rd_T84 l0_4 x6_1).f2)) = false := by simpa using c7))
            (try (have c7b2 : ((decide (t181 ≤ ((rd_T84 l0_4 x6_1).f1))) == ((rd_T84 l0_4 x6_1).f2)) = false := by simpa using c7))
            (try (have c7b3 : ¬ ((decide (t181 ≤ ((rd_T84 l0_4 x6_1).f1))) = ((rd_T84 l0_4 x6_1).f2)) := by simpa using c7))
            clear c7
            have H' := Aside0.mk H
            clear H
            have hcz18_0 : wr.cell? ⟨gb178, 0, none⟩ = some (.int .i64 a0_0) := (blk_cell BK178.out 0).trans rfl
            have hcz18_1 : wr.cell? ⟨gb178, 1, none⟩ = some (.int .i64 a0_1) := (blk_cell BK178.out 1).trans rfl
            have hcz18_2 : wr.cell? ⟨gb178, 2, none⟩ = some (.slice A0_2 l0_2.length c0_2) := (blk_cell BK178.out 2).trans rfl
            have hcz18_3 : wr.cell? ⟨gb178, 3, none⟩ = some (.slice A0_3 l0_3.length c0_3) := (blk_cell BK178.out 3).trans rfl
            have hcz18_4 : wr.cell? ⟨gb178, 4, none⟩ = some (.slice A0_4 l0_4.length c0_4) := (blk_cell BK178.out 4).trans rfl
            have hfz18_0 := blk_frozen BK178.out 0
            have hfz18_1 := blk_frozen BK178.out 1
            have hfz18_2 := blk_frozen BK178.out 2
            have hfz18_3 := blk_frozen BK178.out 3
            have hfz18_4 := blk_frozen BK178.out 4
            have p179 : 0 ≤ (x6_1 : Int) := of_decide_eq_true (by first | (with_reducible assumption) | assumption)
            have q179 : x6_1 < (l0_4.length : Int) := of_decide_eq_true (by first | (with_reducible assumption) | assumption)
            obtain ⟨ad179, e179, hx179_0, hx179_1, hx179_2⟩ := at_T84 HR0_4.out x6_1 p179 q179
            cases e179
            replace hx179_0 := (HB.out.cell (World.block_lt_of_cell? w _ hx179_0)).trans hx179_0
            replace hx179_1 := (HB.out.cell (World.block_lt_of_cell? w _ hx179_1)).trans hx179_1
            replace hx179_2 := (HB.out.cell (World.block_lt_of_cell? w _ hx179_2)).trans hx179_2
            replace p179 := eq_true p179
            replace q179 := eq_true q179
            try go_wp2_with (first | ((with_reducible refine gate_dst (N := 7) rfl ?_); refine box_event ?hg (N := 7) ?hd (cs := #[.int .i64 0, .int .i64 0, .bool false]) (t := 84) ?hr ?_; (case hd => rfl); (case hg => rfl); (case hr => first | (go_simp; done) | (go_simp; rfl)); intro gb180 hg w19 hbox hb; have n0_ := Aside0.mk (blk_below (g := gb178) (o := .cells #[.int .i64 a0_0, .int .i64 a0_1, .slice A0_2 l0_2.length c0_2, .slice A0_3 l0_3.length c0_3, .slice (some ad179) l0_4.length c0_4] 26 (0, 0)) (by (with_reducible repeat (first | refine blk_drewN ?_ _ | refine blk_drew ?_ | refine blk_alloc ?_ _)); exact BK178.out) hb); have n1_ := Aside0.mk (below_step (by repeat (first | (with_reducible first | exact HB.out | apply below_alloc | apply pw_below_drewN | apply below_drew1 | refine below_set ?_ GE178.out) | exact HB.out)) hb); have n2_ := Aside0.mk (hbox); have n3_ := Aside0.mk ((by rw [hg]; exact (below_size (by repeat (first | (with_reducible first | exact HB.out | apply below_alloc | apply pw_below_drewN | apply below_drew1 | refine below_set ?_ GE178.out) | exact HB.out))) : w.heap.size ≤ gb180)); have n4_ := Aside0.mk ((by rw [hg]; exact (below_size (by repeat (first | (with_reducible first | exact HB.out | apply below_alloc | apply pw_below_drewN | apply below_drew1 | refine below_set ?_ GE178.out) | exact HB.out))) : w.heap.size ≤ gb180)); have n5_ := Aside0.mk ((by rw [hg]; exact Nat.ne_of_lt (blk_lt (g := gb178) (o := .cells #[.int .i64 a0_0, .int .i64 a0_1, .slice A0_2 l0_2.length c0_2, .slice A0_3 l0_3.length c0_3, .slice (some ad179) l0_4.length c0_4] 26 (0, 0)) (by (with_reducible repeat (first | refine blk_drewN ?_ _ | refine blk_drew ?_ | refine blk_alloc ?_ _)); exact BK178.out)) : gb178 ≠ gb180)); have n6_ := Aside0.mk ((by rw [hg]; exact Nat.ne_of_gt (blk_lt (g := gb178) (o := .cells #[.int .i64 a0_0, .int .i64 a0_1, .slice A0_2 l0_2.length c0_2, .slice A0_3 l0_3.length c0_3, .slice (some ad179) l0_4.length c0_4] 26 (0, 0)) (by (with_reducible repeat (first | refine blk_drewN ?_ _ | refine blk_drew ?_ | refine blk_alloc ?_ _)); exact BK178.out)) : gb180 ≠ gb178)); clear BK178; clear HB; have BK178 := n0_; have HB := n1_; have BK180 := n2_; have GW180 := n3_; have GE180 := n4_; have NB178_180 := n5_; have NB180_178 := n6_; clear n0_ n1_ n2_ n3_ n4_ n5_ n6_; clear hb hbox hg; have hnb20 := NB180_178.out; have hnc20 := NB178_180.out; have hcz21_0 : w19.cell? ⟨gb180, 0, none⟩ = some (.int .i64 0) := (blk_cell BK180.out 0).trans rfl; have hcz21_1 : w19.cell? ⟨gb180, 1, none⟩ = some (.int .i64 0) := (blk_cell BK180.out 1).trans rfl; have hcz21_2 : w19.cell? ⟨gb180, 2, none⟩ = some (.bool false) := (blk_cell BK180.out 2).trans rfl; have hfz21_0 := blk_frozen BK180.out 0; have hfz21_1 := blk_frozen BK180.out 1; have hfz21_2 := blk_frozen BK180.out 2))
            have n0_ : Aside0 ((((w19.setCell ⟨gb180, 0, none⟩ (.int .i64 ((rd_T84 l0_4 x6_1).f0))).setCell ⟨gb180, 1, none⟩ (.int .i64 ((rd_T84 l0_4 x6_1).f1))).setCell ⟨gb180, 2, none⟩ (.bool ((rd_T84 l0_4 x6_1).f2))).heap[gb178]? = some (.cells #[.int .i64 a0_0, .int .i64 a0_1, .slice A0_2 l0_2.length c0_2, .slice A0_3 l0_3.length c0_3, .slice (some ad179) l0_4.length c0_4] 26 (0, 0))) := ⟨by (with_reducible repeat (first | refine blk_drewN ?_ _ | refine blk_drew ?_ | refine blk_alloc ?_ _)); refine blk_far ?_ NB178_180.out _; (with_reducible repeat (first | refine blk_drewN ?_ _ | refine blk_drew ?_ | refine blk_alloc ?_ _)); refine blk_far ?_ NB178_180.out _; (with_reducible repeat (first | refine blk_drewN ?_ _ | refine blk_drew ?_ | refine blk_alloc ?_ _)); refine blk_far ?_ NB178_180.out _; (with_reducible repeat (first | refine blk_drewN ?_ _ | refine blk_drew ?_ | refine blk_alloc ?_ _)); exact BK178.out⟩
            have n1_ : Aside0 ((((w19.setCell ⟨gb180, 0, none⟩ (.int .i64 ((rd_T84 l0_4 x6_1).f0))).setCell ⟨gb180, 1, none⟩ (.int .i64 ((rd_T84 l0_4 x6_1).f1))).setCell ⟨gb180, 2, none⟩ (.bool ((rd_T84 l0_4 x6_1).f2))).heap[gb180]? = some (.cells #[.int .i64 ((rd_T84 l0_4 x6_1).f0), .int .i64 ((rd_T84 l0_4 x6_1).f1), .bool ((rd_T84 l0_4 x6_1).f2)] 84 (0, 0))) := ⟨by (with_reducible repeat (first | refine blk_drewN ?_ _ | refine blk_drew ?_ | refine blk_alloc ?_ _)); refine blk_put (cs := #[.int .i64 ((rd_T84 l0_4 x6_1).f0), .int .i64 ((rd_T84 l0_4 x6_1).f1), .bool false]) ?_ 2 _ rfl; (with_reducible repeat (first | refine blk_drewN ?_ _ | refine blk_drew ?_ | refine blk_alloc ?_ _)); refine blk_put (cs := #[.int .i64 ((rd_T84 l0_4 x6_1).f0), .int .i64 0, .bool false]) ?_ 1 _ rfl; (with_reducible repeat (first | refine blk_drewN ?_ _ | refine blk_drew ?_ | refine blk_alloc ?_ _)); refine blk_put (cs := #[.int .i64 0, .int .i64 0, .bool false]) ?_ 0 _ rfl; (with_reducible repeat (first | refine blk_drewN ?_ _ | refine blk_drew ?_ | refine blk_alloc ?_ _)); exact BK180.out⟩
            have n2_ : Aside0 (Below w.heap.size w (((w19.setCell ⟨gb180, 0, none⟩ (.int .i64 ((rd_T84 l0_4 x6_1).f0))).setCell ⟨gb180, 1, none⟩ (.int .i64 ((rd_T84 l0_4 x6_1).f1))).setCell ⟨gb180, 2, none⟩ (.bool ((rd_T84 l0_4 x6_1).f2)))) := ⟨by repeat (first | (with_reducible first | exact HB.out | apply below_alloc | apply pw_below_drewN | apply below_drew1 | refine below_set ?_ GE178.out | refine below_set ?_ GE180.out) | exact HB.out)⟩
            (try clear BK178)
            (try clear BK180)
            (try clear HB)
            generalize (((w19.setCell ⟨gb180, 0, none⟩ (.int .i64 ((rd_T84 l0_4 x6_1).f0))).setCell ⟨gb180, 1, none⟩ (.int .i64 ((rd_T84 l0_4 x6_1).f1))).setCell ⟨gb180, 2, none⟩ (.bool ((rd_T84 l0_4 x6_1).f2))) = w22 at n0_ n1_ n2_ ⊢
            have BK178 := n0_
            have BK180 := n1_
            have HB := n2_
            clear n0_ n1_ n2_
            have n0_ := Aside0.mk (blk_drew BK178.out)
            have n1_ := Aside0.mk (blk_drew BK180.out)
            have n2_ := Aside0.mk (below_drew1 HB.out)
            clear BK178
            clear BK180
            clear HB
            have BK178 := n0_
            have BK180 := n1_
            have HB := n2_
            clear n0_ n1_ n2_
            refine start_ (n := 13) (S := fun w' => w'.cell? ⟨gb178, 0, none⟩ = some (.int .i64 a0_0) ∧ w'.cell? ⟨gb178, 1, none⟩ = some (.int .i64 a0_1) ∧ w'.cell? ⟨gb178, 2, none⟩ = some (.slice A0_2 l0_2.length c0_2) ∧ w'.cell? ⟨gb178, 3, none⟩ = some (.slice A0_3 l0_3.length c0_3) ∧ w'.cell? ⟨gb178, 4, none⟩ = some (.slice (some ad179) l0_4.length c0_4) ∧ w'.cell? ⟨gb180, 0, none⟩ = some (.int .i64 ((rd_T84 l0_4 x6_1).f0)) ∧ w'.cell? ⟨gb180, 1, none⟩ = some (.int .i64 ((rd_T84 l0_4 x6_1).f1)) ∧ w'.cell? ⟨gb180, 2, none⟩ = some (.bool ((rd_T84 l0_4 x6_1).f2))) (ds := []) #[false, false, false, false, false, false, false, false, false, false, false, false, false] (by kernel_rfl) rfl rfl ⟨(blk_cell BK178.out 0).trans rfl, (blk_cell BK178.out 1).trans rfl, (blk_cell BK178.out 2).trans rfl, (blk_cell BK178.out 3).trans rfl, (blk_cell BK178.out 4).trans rfl, (blk_cell BK180.out 0).trans rfl, (blk_cell BK180.out 1).trans rfl, (blk_cell BK180.out 2).trans rfl⟩ (fun hHeld => ?_); refine with_tabW posserref04_Right.tab6 posserref04_Right.bits6 (fun HT_ HW_ => ?_)
            generalize w22.drew = w23 at BK178 BK180 HB hHeld ⊢
            refine pure_ (i := 1) (N := some 21) (v := ?_) (a' := ?_) #[false, true, false, false, false, false, false, false, false, false, false, false, false] rfl rfl (any_of HT_.out (by kernel_rfl)) (fun _ _ _ h => h) (Or.inl ⟨by rfl, ?_⟩) ?_ ?_
            rotate_left
            · intro w'
              go_simp
              with_reducible rfl
            rotate_left
            · simp only [Act.put, List.setIfInBounds_toArray, List.set_cons_zero, List.set_cons_succ, i64_w, i32_w]
              rfl
            refine pure_ (i := 3) (N := some 23) (v := ?_) (a' := ?_) #[false, true, false, true, false, false, false, false, false, false, false, false, false] rfl rfl (any_of HT_.out (by kernel_rfl)) (fun _ _ _ h => h) (Or.inl ⟨by rfl, ?_⟩) ?_ ?_
            rotate_left
            · intro w'
              go_simp
              with_reducible rfl
            rotate_left
            · simp only [Act.put, List.setIfInBounds_toArray, List.set_cons_zero, List.set_cons_succ, i64_w, i32_w]
              rfl
            refine pure_ (i := 4) (N := some 24) (v := ?_) (a' := ?_) #[false, true, false, true, true, false, false, false, false, false, false, false, false] rfl rfl (any_of HT_.out (by kernel_rfl)) (fun _ _ _ h => h) (Or.inl ⟨by rfl, ?_⟩) ?_ ?_
            rotate_left
            · intro w'
              go_simp
              with_reducible rfl
            rotate_left
            · simp only [Act.put, List.setIfInBounds_toArray, List.set_cons_zero, List.set_cons_succ, i64_w, i32_w]
              rfl
            refine pure_ (i := 7) (N := some 27) (v := ?_) (a' := ?_) #[false, true, false, true, true, false, false, true, false, false, false, false, false] rfl rfl (any_of HT_.out (by kernel_rfl)) (fun _ _ _ h => h) (Or.inl ⟨by rfl, ?_⟩) ?_ ?_
            rotate_left
            · intro w'
              go_simp
              with_reducible rfl
            rotate_left
            · simp only [Act.put, List.setIfInBounds_toArray, List.set_cons_zero, List.set_cons_succ, i64_w, i32_w]
              rfl
            refine pure_ (i := 10) (N := some 30) (v := ?_) (a' := ?_) #[false, true, false, true, true, false, false, true, false, false, true, false, false] rfl rfl (any_of HT_.out (by kernel_rfl)) (fun _ _ _ h => h) (Or.inl ⟨by rfl, ?_⟩) ?_ ?_
            rotate_left
            · intro w'
              go_simp
              with_reducible rfl
            rotate_left
            · simp only [Act.put, List.setIfInBounds_toArray, List.set_cons_zero, List.set_cons_succ, i64_w, i32_w]
              rfl
            refine take_ (i := 0) (N := some 20) (v := ?_) (a' := ?_) #[true, true, false, true, true, false, false, true, false, false, true, false, false] rfl rfl (take_ofW HT_.out HW_.out (by kernel_rfl)) (fun _ _ _ h => h) (Or.inl ⟨by rfl, ?_⟩) hHeld ?_ ?_
            rotate_left
            · rintro w' ⟨s0, s1, s2, s3, s4, s5, s6, s7⟩
              go_simp
              with_reducible rfl
            rotate_left
            · simp only [Act.put, List.setIfInBounds_toArray, List.set_cons_zero, List.set_cons_succ, i64_w, i32_w]
              rfl
            refine take_ (i := 2) (N := some 22) (v := ?_) (a' := ?_) #[true, true, true, true, true, false, false, true, false, false, true, false, false] rfl rfl (take_ofW HT_.out HW_.out (by kernel_rfl)) (fun _ _ _ h => h) (Or.inl ⟨by rfl, ?_⟩) hHeld ?_ ?_
            rotate_left
            · rintro w' ⟨s0, s1, s2, s3, s4, s5, s6, s7⟩
              go_simp
              with_reducible rfl
            rotate_left
            · simp only [Act.put, List.setIfInBounds_toArray, List.set_cons_zero, List.set_cons_succ, i64_w, i32_w]
              rfl
            refine take_ (i := 5) (N := some 25) (v := ?_) (a' := ?_) #[true, true, true, true, true, true, false, true, false, false, true, false, false] rfl rfl (take_ofW HT_.out HW_.out (by kernel_rfl)) (fun _ _ _ h => h) (Or.inl ⟨by rfl, ?_⟩) hHeld ?_ ?_
            rotate_left
            · rintro w' ⟨s0, s1, s2, s3, s4, s5, s6, s7⟩
              go_simp
              with_reducible rfl
            rotate_left
            · simp only [Act.put, List.setIfInBounds_toArray, List.set_cons_zero, List.set_cons_succ, i64_w, i32_w]
              rfl
            refine take_ (i := 8) (N := some 28) (v := ?_) (a' := ?_) #[true, true, true, true, true, true, false, true, true, false, true, false, false] rfl rfl (take_ofW HT_.out HW_.out (by kernel_rfl)) (fun _ _ _ h => h) (Or.inl ⟨by rfl, ?_⟩) hHeld ?_ ?_
            rotate_left
            · rintro w' ⟨s0, s1, s2, s3, s4, s5, s6, s7⟩
              go_simp
              with_reducible rfl
            rotate_left
            · simp only [Act.put, List.setIfInBounds_toArray, List.set_cons_zero, List.set_cons_succ, i64_w, i32_w]
              rfl
            refine take_ (i := 11) (N := some 31) (v := ?_) (a' := ?_) #[true, true, true, true, true, true, false, true, true, false, true, true, false] rfl rfl (take_ofW HT_.out HW_.out (by kernel_rfl)) (fun _ _ _ h => h) (Or.inl ⟨by rfl, ?_⟩) hHeld ?_ ?_
            rotate_left
            · rintro w' ⟨s0, s1, s2, s3, s4, s5, s6, s7⟩
              go_simp
              with_reducible rfl
            rotate_left
            · simp only [Act.put, List.setIfInBounds_toArray, List.set_cons_zero, List.set_cons_succ, i64_w, i32_w]
              rfl
            refine one_ (i := 6) (N := some 26) #[true, true, true, true, true, true, true, true, true, false, true, true, false] rfl rfl (one_of HT_.out (by kernel_rfl)) (by decide) (fun K hK => ?_)
            refine goes_ Try.func55 (by kernel_rfl) rfl #[.agg #[.int .i64 a0_0, .int .i64 a0_1, .slice A0_2 l0_2.length c0_2, .slice A0_3 l0_3.length c0_3, .slice (some ad179) l0_4.length c0_4], .slice A0_3 l0_3.length c0_3, .slice A1 l1.length c1, .int .i64 ((rd_T84 l0_4 x6_1).f0)] (by rfl) rfl rfl (by (try simp only [List.map_toArray, List.map_cons, List.map_nil]); first | done | rfl | (simp only [List.length_drop, List.length_take]; rfl)) ?_
            with_reducible refine (posserref04_Minute.calls k1 a0_0 a0_1 _ _ l0_2 _ _ l0_3 _ _ l0_4 _ _ l0_3 _ _ l1 ((rd_T84 l0_4 x6_1).f0) t181 _ ?side1 ?side2 ?side3 ?side4 ?side5 ?side6 ?side7 ?side8 ?side9 ?side10 A6.out).mono ?_
            (case side1 => repeat (first | exact (Kd.C_below HR0_2.out HB.out) | (with_reducible refine Kd.C_alloc ?_ _) | (with_reducible refine Kd.C_drewN ?_ _) | (with_reducible refine Kd.C_drew ?_)))
            (case side2 => exact HC0_2.out)
            (case side3 => repeat (first | exact (Kd.C_below HR0_3.out HB.out) | (with_reducible refine Kd.C_alloc ?_ _) | (with_reducible refine Kd.C_drewN ?_ _) | (with_reducible refine Kd.C_drew ?_)))
            (case side4 => exact HC0_3.out)
            (case side5 => repeat (first | exact (Kd.C_below HR0_4.out HB.out) | (with_reducible refine Kd.C_alloc ?_ _) | (with_reducible refine Kd.C_drewN ?_ _) | (with_reducible refine Kd.C_drew ?_)))
            (case side6 => exact HC0_4.out)
            (case side7 => repeat (first | exact (Kd.C_below HR0_3.out HB.out) | (with_reducible refine Kd.C_alloc ?_ _) | (with_reducible refine Kd.C_drewN ?_ _) | (with_reducible refine Kd.C_drew ?_)))
            (case side8 => exact HC0_3.out)
            (case side9 => repeat (first | exact (Kd.C_below HR1.out HB.out) | (with_reducible refine Kd.C_alloc ?_ _) | (with_reducible refine Kd.C_drewN ?_ _) | (with_reducible refine Kd.C_drew ?_)))
            (case side10 => exact HC1.out)
            rintro e w24 ⟨rfl, hb⟩
            refine ⟨_, rfl, ?_⟩
            have n0_ := Aside0.mk (blk_below (g := gb178) (o := .cells #[.int .i64 a0_0, .int .i64 a0_1, .slice A0_2 l0_2.length c0_2, .slice A0_3 l0_3.length c0_3, .slice (some ad179) l0_4.length c0_4] 26 (0, 0)) (by (with_reducible repeat (first | refine blk_drewN ?_ _ | refine blk_drew ?_ | refine blk_alloc ?_ _)); exact BK178.out) hb)
            have n1_ := Aside0.mk (blk_below (g := gb180) (o := .cells #[.int .i64 ((rd_T84 l0_4 x6_1).f0), .int .i64 ((rd_T84 l0_4 x6_1).f1), .bool ((rd_T84 l0_4 x6_1).f2)] 84 (0, 0)) (by (with_reducible repeat (first | refine blk_drewN ?_ _ | refine blk_drew ?_ | refine blk_alloc ?_ _)); exact BK180.out) hb)
            have n2_ := Aside0.mk (below_step (by repeat (first | (with_reducible first | exact HB.out | apply below_alloc | apply pw_below_drewN | apply below_drew1 | refine below_set ?_ GE178.out | refine below_set ?_ GE180.out) | exact HB.out)) hb)
            clear BK178
            clear BK180
            clear HB
            have BK178 := n0_
            have BK180 := n1_
            have HB := n2_
            clear n0_ n1_ n2_
            (try clear hb)
            (try clear hb2)
            (try clear hk)
            (try clear hi)
            refine hK.out _ _ ⟨(blk_cell BK178.out 0).trans rfl, (blk_cell BK178.out 1).trans rfl, (blk_cell BK178.out 2).trans rfl, (blk_cell BK178.out 3).trans rfl, (blk_cell BK178.out 4).trans rfl, (blk_cell BK180.out 0).trans rfl, (blk_cell BK180.out 1).trans rfl, (blk_cell BK180.out 2).trans rfl⟩ (fun hHeld => ?_)
            clear hK K
            refine norm_ (a' := ?_) ?_ ?_
            rotate_left
            · show Act.put _ (some 26) _ = _
              simp only [Act.put, List.setIfInBounds_toArray, List.set_cons_zero, List.set_cons_succ, i64_w, i32_w]
              rfl
            refine pure_ (i := 9) (N := some 29) (v := ?_) (a' := ?_) #[true, true, true, true, true, true, true, true, true, true, true, true, false] rfl rfl (any_of HT_.out (by kernel_rfl)) (fun _ _ _ h => h) (Or.inl ⟨by rfl, ?_⟩) ?_ ?_
            rotate_left
            · intro w'
              go_simp
              with_reducible rfl
            rotate_left
            · simp only [Act.put, List.setIfInBounds_toArray, List.set_cons_zero, List.set_cons_succ, i64_w, i32_w]
              rfl
            refine pure_ (i := 12) (N := some 32) (v := ?_) (a' := ?_) #[true, true, true, true, true, true, true, true, true, true, true, true, true] rfl rfl (any_of HT_.out (by kernel_rfl)) (fun _ _ _ h => h) (Or.inl ⟨by rfl, ?_⟩) ?_ ?_
            rotate_left
            · intro w'
              go_simp
              with_reducible rfl
            rotate_left
            · simp only [Act.put, List.setIfInBounds_toArray, List.set_cons_zero, List.set_cons_succ, i64_w, i32_w]
              rfl
            refine done_ (done_of HT_.out (by kernel_rfl)) ?_
            try go_wp2
            go_roundg k1
            case measure => have := HK1.out; omega
            case rel => exact ⟨(x5_1), (wrap64 (x6_1 + 1)), (by first | rfl | (simp; done) | (simp [*]; done)), (by first | rfl | (simp; done) | (simp [*]; done)), H', ⟨by have := HK1.out; omega⟩, ⟨by (with_reducible repeat (first | refine blk_drewN ?_ _ | refine blk_drew ?_ | refine blk_alloc ?_ _)); exact BK178.out⟩, ⟨by repeat (first | (with_reducible first | exact HB.out | apply below_alloc | apply pw_below_drewN | apply below_drew1 | refine below_set ?_ GE178.out | refine below_set ?_ GE180.out) | exact HB.out)⟩⟩
        · rw [if_neg c5] at H
          exact absurd H (by simp)
      · rw [if_neg c4] at H
        have c4b0 : decide (x6_1 < (l0_4.length : Int)) = false := decide_eq_false c4
        clear c4
        obtain rfl := Option.some.inj H
        have hcz25_0 : wr.cell? ⟨gb178, 0, none⟩ = some (.int .i64 a0_0) := (blk_cell BK178.out 0).trans rfl
        have hcz25_1 : wr.cell? ⟨gb178, 1, none⟩ = some (.int .i64 a0_1) := (blk_cell BK178.out 1).trans rfl
        have hcz25_2 : wr.cell? ⟨gb178, 2, none⟩ = some (.slice A0_2 l0_2.length c0_2) := (blk_cell BK178.out 2).trans rfl
        have hcz25_3 : wr.cell? ⟨gb178, 3, none⟩ = some (.slice A0_3 l0_3.length c0_3) := (blk_cell BK178.out 3).trans rfl
        have hcz25_4 : wr.cell? ⟨gb178, 4, none⟩ = some (.slice A0_4 l0_4.length c0_4) := (blk_cell BK178.out 4).trans rfl
        have hfz25_0 := blk_frozen BK178.out 0
        have hfz25_1 := blk_frozen BK178.out 1
        have hfz25_2 := blk_frozen BK178.out 2
        have hfz25_3 := blk_frozen BK178.out 3
        have hfz25_4 := blk_frozen BK178.out 4
        go_wp2
        go_ret
        exact ⟨by first | rfl | (simp [errW_none, errW_some] <;> rfl) | (simp [*, errW_none, errW_some] <;> rfl), by repeat (first | (with_reducible first | exact HB.out | apply below_alloc | apply pw_below_drewN | apply below_drew1 | refine below_set ?_ GE178.out) | exact HB.out)⟩
def posserref04_Truths.l0 : Nat → List (List Int) → Int → Int → Int → List (S68) → List Int → List (S84) → Option ((List (List Int)))
  | 0, _, _, _, _, _, _, _ => none
  | k + 1, x3, x4, x183000, x183001, x183002, x183003, x183004 => (posserref04_Many.f k x183000 x183001 x183002 x183003 x183004).bind fun t183 => (if x4 < t183 then ((posserref04_Nth.f k x183000 x183001 x183002 x183003 x183004 x4).bind fun t184 => ((posserref04_Right.f k x183000 x183001 x183002 x183003 x183004 t184).bind fun t187 => ((posserref04_Full.f x183000 x183001 x183002 x183003 x183004).bind fun t188 => (if t187 = t188 then (if x3.length < 5864062014805 then (posserref04_Truths.l0 k (x3 ++ [t184]) (wrap64 (x4 + 1)) x183000 x183001 x183002 x183003 x183004) else (none)) else (posserref04_Truths.l0 k x3 (wrap64 (x4 + 1)) x183000 x183001 x183002 x183003 x183004))))) else (some x3))
def posserref04_Truths.f (k : Nat) (a0_0 : Int) (a0_1 : Int) (l0_2 : List (S68)) (l0_3 : List Int) (l0_4 : List (S84)) : Option ((List (List Int))) := posserref04_Truths.l0 k ([] : List (List Int)) 0 a0_0 a0_1 l0_2 l0_3 l0_4
set_option maxHeartbeats 8000000 in
set_option maxRecDepth 100000 in
theorem posserref04_Truths.calls (k : Nat) (a0_0 : Int) (a0_1 : Int) (A0_2 : Option Addr) (c0_2 : Nat) (l0_2 : List (S68)) (A0_3 : Option Addr) (c0_3 : Nat) (l0_3 : List Int) (A0_4 : Option Addr) (c0_4 : Nat) (l0_4 : List (S84)) (r : List (List Int)) (w : World) (hr0_2 : Kd.C k68 w A0_2 l0_2.length l0_2) (hc0_2 : l0_2.length ≤ c0_2) (hr0_3 : Kd.C (Kd.int .i64) w A0_3 l0_3.length l0_3) (hc0_3 : l0_3.length ≤ c0_3) (hr0_4 : Kd.C k84 w A0_4 l0_4.length l0_4) (hc0_4 : l0_4.length ≤ c0_4) (h : posserref04_Truths.f k a0_0 a0_1 l0_2 l0_3 l0_4 = some r) :
    Calls Try.prog 43 #[.agg #[.int .i64 a0_0, .int .i64 a0_1, .slice A0_2 l0_2.length c0_2, .slice A0_3 l0_3.length c0_3, .slice A0_4 l0_4.length c0_4]] w fun e w' => ∃ v0_ : Value, e = .returned (v0_) ∧ Kd.S (Kd.slice 3 (Kd.int .i64)) 23 w' w.heap.size (fun _ => True) v0_ r ∧ Below w.heap.size w w' := by
  have hu26 := Try.underlying26
  have HR0_2 := Aside0.mk hr0_2
  have HC0_2 := Aside0.mk hc0_2
  clear hr0_2 hc0_2
  have HR0_3 := Aside0.mk hr0_3
  have HC0_3 := Aside0.mk hc0_3
  clear hr0_3 hc0_3
  have HR0_4 := Aside0.mk hr0_4
  have HC0_4 := Aside0.mk hc0_4
  clear hr0_4 hc0_4
  have HB := Aside0.mk (Below.refl w.heap.size w)
  have H : (posserref04_Truths.l0 k ([] : List (List Int)) 0 a0_0 a0_1 l0_2 l0_3 l0_4) = some r := h
  clear h
  have H' := Aside0.mk H
  clear H
  go_enter Try.func43, Try.ntmps43
  go_wp2_with (first | ((with_reducible refine gate_dst (N := 1) rfl ?_); refine box_event ?hg (N := 1) ?hd (cs := #[.int .i64 a0_0, .int .i64 a0_1, .slice A0_2 l0_2.length c0_2, .slice A0_3 l0_3.length c0_3, .slice A0_4 l0_4.length c0_4]) (t := 26) ?hr ?_; (case hd => rfl); (case hg => rfl); (case hr => first | (go_simp; done) | (go_simp; rfl)); intro gb182 hg w2 hbox hb; have n0_ := Aside0.mk (below_step (by repeat (first | (with_reducible first | exact HB.out | apply below_alloc | apply pw_below_drewN | apply below_drew1) | exact HB.out)) hb); have n1_ := Aside0.mk (hbox); have n2_ := Aside0.mk ((by rw [hg]; exact (below_size (by repeat (first | (with_reducible first | exact HB.out | apply below_alloc | apply pw_below_drewN | apply below_drew1) | exact HB.out))) : w.heap.size ≤ gb182)); have n3_ := Aside0.mk ((by rw [hg]; exact (below_size (by repeat (first | (with_reducible first | exact HB.out | apply below_alloc | apply pw_below_drewN | apply below_drew1) | exact HB.out))) : w.heap.size ≤ gb182)); clear HB; have HB := n0_; have BK182 := n1_; have GW182 := n2_; have GE182 := n3_; clear n0_ n1_ n2_ n3_; clear hb hbox hg))
  go_loopg [3, 4] k (fun kq v3 v4 w' => ∃ (x3_1 : List (List Int)) (x4_1 : Int), v4 = .int .i64 x4_1 ∧ Aside0 (posserref04_Truths.l0 kq x3_1 x4_1 a0_0 a0_1 l0_2 l0_3 l0_4 = some r) ∧ Aside0 (kq ≤ k) ∧ Aside0 (Kd.S (Kd.slice 3 (Kd.int .i64)) 23 w' w.heap.size (fun _ => True) v3 x3_1) ∧ Aside0 (w'.heap[gb182]? = some (.cells #[.int .i64 a0_0, .int .i64 a0_1, (.slice A0_2 l0_2.length c0_2), (.slice A0_3 l0_3.length c0_3), (.slice A0_4 l0_4.length c0_4)] 26 (0, 0))) ∧ Aside0 (Below w.heap.size w w'))
  case atStart => exact ⟨(([] : List (List Int))), (0), (by first | rfl | (simp; done) | (simp [*]; done)), H', ⟨Nat.le_refl _⟩, ⟨by first | exact Kd.S_nil _ _ _ _ _ | exact Kd.N_nil _ _ _ _ _ | exact Kd.V_nil _ _ _ _ _ | exact Kd.Q_nil _ _ _ _ _ | exact Kd.R_nil _ _ _ _ _⟩, ⟨by (with_reducible repeat (first | refine blk_drewN ?_ _ | refine blk_drew ?_ | refine blk_alloc ?_ _)); exact BK182.out⟩, ⟨by repeat (first | (with_reducible first | exact HB.out | apply below_alloc | apply pw_below_drewN | apply below_drew1 | refine below_set ?_ GE182.out) | exact HB.out)⟩⟩
  case round =>
    clear H'
    try clear p2
    obtain ⟨x3_1, x4_1, rfl, HA, HK1, HO_3, BK182, HB⟩ := hrel
    cases gk with
    | zero => exact absurd HA.out (by simp [posserref04_Truths.l0])
    | succ k1 =>
      have H := HA.out
      clear HA
      simp only [posserref04_Truths.l0] at H
      replace H := Option.bind_eq_some_iff.mp H
      obtain ⟨t183, A30, H⟩ := H
      replace H : (if x4_1 < t183 then ((posserref04_Nth.f k1 a0_0 a0_1 l0_2 l0_3 l0_4 x4_1).bind fun t184 => ((posserref04_Right.f k1 a0_0 a0_1 l0_2 l0_3 l0_4 t184).bind fun t187 => ((posserref04_Full.f a0_0 a0_1 l0_2 l0_3 l0_4).bind fun t188 => (if t187 = t188 then (if x3_1.length < 5864062014805 then (posserref04_Truths.l0 k1 (x3_1 ++ [t184]) (wrap64 (x4_1 + 1)) a0_0 a0_1 l0_2 l0_3 l0_4) else (none)) else (posserref04_Truths.l0 k1 x3_1 (wrap64 (x4_1 + 1)) a0_0 a0_1 l0_2 l0_3 l0_4))))) else (some x3_1)) = some r := H
      have A3 := Aside0.mk A30
      clear A30
      by_cases c4 : x4_1 < t183
      · rw [if_pos c4] at H
        have c4b0 : decide (x4_1 < t183) = true := decide_eq_true c4
        clear c4
        replace H := Option.bind_eq_some_iff.mp H
        obtain ⟨t184, A50, H⟩ := H
        replace H : ((posserref04_Right.f k1 a0_0 a0_1 l0_2 l0_3 l0_4 t184).bind fun t187 => ((posserref04_Full.f a0_0 a0_1 l0_2 l0_3 l0_4).bind fun t188 => (if t187 = t188 then (if x3_1.length < 5864062014805 then (posserref04_Truths.l0 k1 (x3_1 ++ [t184]) (wrap64 (x4_1 + 1)) a0_0 a0_1 l0_2 l0_3 l0_4) else (none)) else (posserref04_Truths.l0 k1 x3_1 (wrap64 (x4_1 + 1)) a0_0 a0_1 l0_2 l0_3 l0_4)))) = some r := H
        have A5 := Aside0.mk A50
        clear A50
        replace H := Option.bind_eq_some_iff.mp H
        obtain ⟨t187, A60, H⟩ := H
        replace H : ((posserref04_Full.f a0_0 a0_1 l0_2 l0_3 l0_4).bind fun t188 => (if t187 = t188 then (if x3_1.length < 5864062014805 then (posserref04_Truths.l0 k1 (x3_1 ++ [t184]) (wrap64 (x4_1 + 1)) a0_0 a0_1 l0_2 l0_3 l0_4) else (none)) else (posserref04_Truths.l0 k1 x3_1 (wrap64 (x4_1 + 1)) a0_0 a0_1 l0_2 l0_3 l0_4))) = some r := H
        have A6 := Aside0.mk A60
        clear A60
        replace H := Option.bind_eq_some_iff.mp H
        obtain ⟨t188, A70, H⟩ := H
        replace H : (if t187 = t188 then (if x3_1.length < 5864062014805 then (posserref04_Truths.l0 k1 (x3_1 ++ [t184]) (wrap64 (x4_1 + 1)) a0_0 a0_1 l0_2 l0_3 l0_4) else (none)) else (posserref04_Truths.l0 k1 x3_1 (wrap64 (x4_1 + 1)) a0_0 a0_1 l0_2 l0_3 l0_4)) = some r := H
        have A7 := Aside0.mk A70
        clear A70
        by_cases c8 : t187 = t188
        · rw [if_pos c8] at H
          have c8b0 : (t187 == t188) = true := beq_iff_eq.mpr c8
          have c8b1 : (t187 != t188) = false := bne_eq_false_iff_eq.mpr c8
          clear c8
          by_cases c9 : x3_1.length < 5864062014805
          · rw [if_pos c9] at H
            have LMc9 := Aside0.mk c9
            clear c9
            obtain ⟨y189, hy189⟩ : ∃ y_ : List (List Int), y_ = (x3_1 ++ [t184]) := ⟨_, rfl⟩
            replace H : (posserref04_Truths.l0 k1 y189 (wrap64 (x4_1 + 1)) a0_0 a0_1 l0_2 l0_3 l0_4) = some r := by first | (rw [hy189]; with_reducible exact H) | (have H2_ := (Option.bind_some _ _).symm.trans H; rw [hy189]; with_reducible exact H2_) | (have H2_ := (Option.bind_some _ _).symm.trans H; with_reducible exact H2_) | with_reducible exact H | (rw [hy189]; exact H) | exact H
            have Ny189 := Aside0.mk hy189
            clear hy189
            have H' := Aside0.mk H
            clear H
            have hcz10_0 : wr.cell? ⟨gb182, 0, none⟩ = some (.int .i64 a0_0) := (blk_cell BK182.out 0).trans rfl
            have hcz10_1 : wr.cell? ⟨gb182, 1, none⟩ = some (.int .i64 a0_1) := (blk_cell BK182.out 1).trans rfl
            have hcz10_2 : wr.cell? ⟨gb182, 2, none⟩ = some (.slice A0_2 l0_2.length c0_2) := (blk_cell BK182.out 2).trans rfl
            have hcz10_3 : wr.cell? ⟨gb182, 3, none⟩ = some (.slice A0_3 l0_3.length c0_3) := (blk_cell BK182.out 3).trans rfl
            have hcz10_4 : wr.cell? ⟨gb182, 4, none⟩ = some (.slice A0_4 l0_4.length c0_4) := (blk_cell BK182.out 4).trans rfl
            have hfz10_0 := blk_frozen BK182.out 0
            have hfz10_1 := blk_frozen BK182.out 1
            have hfz10_2 := blk_frozen BK182.out 2
            have hfz10_3 := blk_frozen BK182.out 3
            have hfz10_4 := blk_frozen BK182.out 4
            try go_wp2_with (first | ((with_reducible refine gate_callee (f := 47) rfl ?_); refine goesL_ (some 8) rfl rfl Try.func47 (by kernel_rfl) rfl #[.agg #[.int .i64 a0_0, .int .i64 a0_1, .slice A0_2 l0_2.length c0_2, .slice A0_3 l0_3.length c0_3, .slice A0_4 l0_4.length c0_4]] rfl (by (try simp only [List.map_toArray, List.map_cons, List.map_nil]); first | done | rfl | (simp only [List.length_drop, List.length_take]; rfl)) ?_; (with_reducible refine (posserref04_Many.calls k1 a0_0 a0_1 _ _ l0_2 _ _ l0_3 _ _ l0_4 t183 _ ?side1 ?side2 ?side3 ?side4 ?side5 ?side6 A3.out).mono ?_); (case side1 => repeat (first | exact (Kd.C_below HR0_2.out HB.out) | (with_reducible refine Kd.C_alloc ?_ _) | (with_reducible refine Kd.C_drewN ?_ _) | (with_reducible refine Kd.C_drew ?_))); (case side2 => exact HC0_2.out); (case side3 => repeat (first | exact (Kd.C_below HR0_3.out HB.out) | (with_reducible refine Kd.C_alloc ?_ _) | (with_reducible refine Kd.C_drewN ?_ _) | (with_reducible refine Kd.C_drew ?_))); (case side4 => exact HC0_3.out); (case side5 => repeat (first | exact (Kd.C_below HR0_4.out HB.out) | (with_reducible refine Kd.C_alloc ?_ _) | (with_reducible refine Kd.C_drewN ?_ _) | (with_reducible refine Kd.C_drew ?_))); (case side6 => exact HC0_4.out); rintro e w11 ⟨rfl, hb⟩; refine ⟨_, rfl, ?_⟩; have n0_ := Aside0.mk (Kd.S_below (by (with_reducible repeat (first | apply Kd.S_alloc | apply Kd.S_drewN | apply Kd.S_drew)); exact HO_3.out) hb); have n1_ := Aside0.mk (blk_below (g := gb182) (o := .cells #[.int .i64 a0_0, .int .i64 a0_1, .slice A0_2 l0_2.length c0_2, .slice A0_3 l0_3.length c0_3, .slice A0_4 l0_4.length c0_4] 26 (0, 0)) (by (with_reducible repeat (first | refine blk_drewN ?_ _ | refine blk_drew ?_ | refine blk_alloc ?_ _)); exact BK182.out) hb); have n2_ := Aside0.mk (below_step (by repeat (first | (with_reducible first | exact HB.out | apply below_alloc | apply pw_below_drewN | apply below_drew1 | refine below_set ?_ GE182.out) | exact HB.out)) hb); clear HO_3; clear BK182; clear HB; have HO_3 := n0_; have BK182 := n1_; have HB := n2_; clear n0_ n1_ n2_; (try clear hb); (try clear hb2); (try clear hk); (try clear hi); have hcz12_0 : w11.cell? ⟨gb182, 0, none⟩ = some (.int .i64 a0_0) := (blk_cell BK182.out 0).trans rfl; have hcz12_1 : w11.cell? ⟨gb182, 1, none⟩ = some (.int .i64 a0_1) := (blk_cell BK182.out 1).trans rfl; have hcz12_2 : w11.cell? ⟨gb182, 2, none⟩ = some (.slice A0_2 l0_2.length c0_2) := (blk_cell BK182.out 2).trans rfl; have hcz12_3 : w11.cell? ⟨gb182, 3, none⟩ = some (.slice A0_3 l0_3.length c0_3) := (blk_cell BK182.out 3).trans rfl; have hcz12_4 : w11.cell? ⟨gb182, 4, none⟩ = some (.slice A0_4 l0_4.length c0_4) := (blk_cell BK182.out 4).trans rfl; have hfz12_0 := blk_frozen BK182.out 0; have hfz12_1 := blk_frozen BK182.out 1; have hfz12_2 := blk_frozen BK182.out 2; have hfz12_3 := blk_frozen BK182.out 3; have hfz12_4 := blk_frozen BK182.out 4) | ((with_reducible refine gate_callee (f := 46) rfl ?_); refine goesL_ (some 14) rfl rfl Try.func46 (by kernel_rfl) rfl #[.agg #[.int .i64 a0_0, .int .i64 a0_1, .slice A0_2 l0_2.length c0_2, .slice A0_3 l0_3.length c0_3, .slice A0_4 l0_4.length c0_4], .int .i64 x4_1] rfl (by (try simp only [List.map_toArray, List.map_cons, List.map_nil]); first | done | rfl | (simp only [List.length_drop, List.length_take]; rfl)) ?_; (with_reducible refine (posserref04_Nth.calls k1 a0_0 a0_1 _ _ l0_2 _ _ l0_3 _ _ l0_4 x4_1 t184 _ ?side1 ?side2 ?side3 ?side4 ?side5 ?side6 A5.out).mono ?_); (case side1 => repeat (first | exact (Kd.C_below HR0_2.out HB.out) | (with_reducible refine Kd.C_alloc ?_ _) | (with_reducible refine Kd.C_drewN ?_ _) | (with_reducible refine Kd.C_drew ?_))); (case side2 => exact HC0_2.out); (case side3 => repeat (first | exact (Kd.C_below HR0_3.out HB.out) | (with_reducible refine Kd.C_alloc ?_ _) | (with_reducible refine Kd.C_drewN ?_ _) | (with_reducible refine Kd.C_drew ?_))); (case side4 => exact HC0_3.out); (case side5 => repeat (first | exact (Kd.C_below HR0_4.out HB.out) | (with_reducible refine Kd.C_alloc ?_ _) | (with_reducible refine Kd.C_drewN ?_ _) | (with_reducible refine Kd.C_drew ?_))); (case side6 => exact HC0_4.out); rintro e w13 ⟨v185, rfl, ho0, hb⟩; refine ⟨_, rfl, ?_⟩; have n0_ := Aside0.mk (Kd.S_elder' (by (with_reducible repeat (first | apply Kd.S_alloc | apply Kd.S_drewN | apply Kd.S_drew)); exact HO_3.out) (Kd.R_base ho0) hb); have n1_ := Aside0.mk (Kd.R_lower ho0 (below_size (by repeat (first | (with_reducible first | exact HB.out | apply below_alloc | apply pw_below_drewN | apply below_drew1 | refine below_set ?_ GE182.out) | exact HB.out)))); have n2_ := Aside0.mk (blk_below (g := gb182) (o := .cells #[.int .i64 a0_0, .int .i64 a0_1, .slice A0_2 l0_2.length c0_2, .slice A0_3 l0_3.length c0_3, .slice A0_4 l0_4.length c0_4] 26 (0, 0)) (by (with_reducible repeat (first | refine blk_drewN ?_ _ | refine blk_drew ?_ | refine blk_alloc ?_ _)); exact BK182.out) hb); have n3_ := Aside0.mk (below_step (by repeat (first | (with_reducible first | exact HB.out | apply below_alloc | apply pw_below_drewN | apply below_drew1 | refine below_set ?_ GE182.out) | exact HB.out)) hb); clear HO_3; clear BK182; clear HB; have HO_3 := n0_; have HO186 := n1_; have BK182 := n2_; have HB := n3_; clear n0_ n1_ n2_ n3_; (try clear hb); (try clear hb2); (try clear hk); (try clear hi); (try clear ho0)))
            have n0_ := Aside0.mk (Kd.S_drew HO_3.out)
            have n1_ := Aside0.mk (Kd.R_drew HO186.out)
            have n2_ := Aside0.mk (blk_drew BK182.out)
            have n3_ := Aside0.mk (below_drew1 HB.out)
            clear HO_3
            clear HO186
            clear BK182
            clear HB
            have HO_3 := n0_
            have HO186 := n1_
            have BK182 := n2_
            have HB := n3_
            clear n0_ n1_ n2_ n3_
            obtain ⟨Ao15, co15, eo15⟩ := Kd.R_slice HO186.out
            (first | subst eo15 | (injection eo15 with f1_ f2_ f3_; have f4_ := f1_.symm; have f5_ := f3_.symm; clear f1_ f2_ f3_; subst f4_; subst f5_))
            refine start_ (n := 6) (S := fun w' => w'.cell? ⟨gb182, 0, none⟩ = some (.int .i64 a0_0) ∧ w'.cell? ⟨gb182, 1, none⟩ = some (.int .i64 a0_1) ∧ w'.cell? ⟨gb182, 2, none⟩ = some (.slice A0_2 l0_2.length c0_2) ∧ w'.cell? ⟨gb182, 3, none⟩ = some (.slice A0_3 l0_3.length c0_3) ∧ w'.cell? ⟨gb182, 4, none⟩ = some (.slice A0_4 l0_4.length c0_4)) (ds := []) #[false, false, false, false, false, false] (by kernel_rfl) rfl rfl ⟨(blk_cell BK182.out 0).trans rfl, (blk_cell BK182.out 1).trans rfl, (blk_cell BK182.out 2).trans rfl, (blk_cell BK182.out 3).trans rfl, (blk_cell BK182.out 4).trans rfl⟩ (fun hHeld => ?_)
            generalize w13.drew = w14 at HO_3 HO186 BK182 HB hHeld ⊢
            refine pure_ (i := 1) (N := some 16) (v := ?_) (a' := ?_) #[false, true, false, false, false, false] rfl rfl (by kernel_rfl) (fun _ _ _ h => h) (Or.inl ⟨by rfl, ?_⟩) ?_ ?_
            rotate_left
            · intro w'
              go_simp
              with_reducible rfl
            rotate_left
            · simp only [Act.put, List.setIfInBounds_toArray, List.set_cons_zero, List.set_cons_succ, i64_w, i32_w]
              rfl
            refine take_ (i := 0) (N := some 15) (v := ?_) (a' := ?_) #[true, true, false, false, false, false] rfl rfl (by kernel_rfl) (fun _ _ _ h => h) (Or.inl ⟨by rfl, ?_⟩) hHeld ?_ ?_
            rotate_left
            · rintro w' ⟨s0, s1, s2, s3, s4⟩
              go_simp
              with_reducible rfl
            rotate_left
            · simp only [Act.put, List.setIfInBounds_toArray, List.set_cons_zero, List.set_cons_succ, i64_w, i32_w]
              rfl
            refine take_ (i := 3) (N := some 18) (v := ?_) (a' := ?_) #[true, true, false, true, false, false] rfl rfl (by kernel_rfl) (fun _ _ _ h => h) (Or.inl ⟨by rfl, ?_⟩) hHeld ?_ ?_
            rotate_left
            · rintro w' ⟨s0, s1, s2, s3, s4⟩
              go_simp
              with_reducible rfl
            rotate_left
            · simp only [Act.put, List.setIfInBounds_toArray, List.set_cons_zero, List.set_cons_succ, i64_w, i32_w]
              rfl
            refine one_ (i := 2) (N := some 17) #[true, true, true, true, false, false] rfl rfl (by kernel_rfl) (by decide) (fun K hK => ?_)
            refine goes_ Try.func94 (by kernel_rfl) rfl #[.agg #[.int .i64 a0_0, .int .i64 a0_1, .slice A0_2 l0_2.length c0_2, .slice A0_3 l0_3.length c0_3, .slice A0_4 l0_4.length c0_4], .slice Ao15 t184.length co15] (by rfl) rfl rfl (by (try simp only [List.map_toArray, List.map_cons, List.map_nil]); first | done | rfl | (simp only [List.length_drop, List.length_take]; rfl)) ?_
            with_reducible refine (posserref04_Right.calls k1 a0_0 a0_1 _ _ l0_2 _ _ l0_3 _ _ l0_4 _ _ t184 t187 _ ?side1 ?side2 ?side3 ?side4 ?side5 ?side6 ?side7 ?side8 A6.out).mono ?_
            (case side1 => repeat (first | exact (Kd.C_below HR0_2.out HB.out) | (with_reducible refine Kd.C_alloc ?_ _) | (with_reducible refine Kd.C_drewN ?_ _) | (with_reducible refine Kd.C_drew ?_)))
            (case side2 => exact HC0_2.out)
            (case side3 => repeat (first | exact (Kd.C_below HR0_3.out HB.out) | (with_reducible refine Kd.C_alloc ?_ _) | (with_reducible refine Kd.C_drewN ?_ _) | (with_reducible refine Kd.C_drew ?_)))
            (case side4 => exact HC0_3.out)
            (case side5 => repeat (first | exact (Kd.C_below HR0_4.out HB.out) | (with_reducible refine Kd.C_alloc ?_ _) | (with_reducible refine Kd.C_drewN ?_ _) | (with_reducible refine Kd.C_drew ?_)))
            (case side6 => exact HC0_4.out)
            (case side7 => repeat (first | exact (Kd.R_reads' HO186.out).2.2 | (with_reducible refine Kd.C_alloc ?_ _) | (with_reducible refine Kd.C_drewN ?_ _) | (with_reducible refine Kd.C_drew ?_)))
            (case side8 => exact (Kd.R_reads' HO186.out).2.1)
            rintro e w16 ⟨rfl, hb⟩
            refine ⟨_, rfl, ?_⟩
            have n0_ := Aside0.mk (Kd.S_below (by (with_reducible repeat (first | apply Kd.S_alloc | apply Kd.S_drewN | apply Kd.S_drew)); exact HO_3.out) hb)
            have n1_ := Aside0.mk (Kd.R_below (by (with_reducible repeat (first | apply Kd.R_alloc | apply Kd.R_drewN | apply Kd.R_drew)); exact HO186.out) hb)
            have n2_ := Aside0.mk (blk_below (g := gb182) (o := .cells #[.int .i64 a0_0, .int .i64 a0_1, .slice A0_2 l0_2.length c0_2, .slice A0_3 l0_3.length c0_3, .slice A0_4 l0_4.length c0_4] 26 (0, 0)) (by (with_reducible repeat (first | refine blk_drewN ?_ _ | refine blk_drew ?_ | refine blk_alloc ?_ _)); exact BK182.out) hb)
            have n3_ := Aside0.mk (below_step (by repeat (first | (with_reducible first | exact HB.out | apply below_alloc | apply pw_below_drewN | apply below_drew1 | refine below_set ?_ GE182.out) | exact HB.out)) hb)
            clear HO_3
            clear HO186
            clear BK182
            clear HB
            have HO_3 := n0_
            have HO186 := n1_
            have BK182 := n2_
            have HB := n3_
            clear n0_ n1_ n2_ n3_
            (try clear hb)
            (try clear hb2)
            (try clear hk)
            (try clear hi)
            refine hK.out _ _ ⟨(blk_cell BK182.out 0).trans rfl, (blk_cell BK182.out 1).trans rfl, (blk_cell BK182.out 2).trans rfl, (blk_cell BK182.out 3).trans rfl, (blk_cell BK182.out 4).trans rfl⟩ (fun hHeld => ?_)
            clear hK K
            refine norm_ (a' := ?_) ?_ ?_
            rotate_left
            · show Act.put _ (some 17) _ = _
              simp only [Act.put, List.setIfInBounds_toArray, List.set_cons_zero, List.set_cons_succ, i64_w, i32_w]
              rfl
            refine one_ (i := 4) (N := some 19) #[true, true, true, true, true, false] rfl rfl (by kernel_rfl) (by decide) (fun K hK => ?_)
            refine goes_ Try.func78 (by kernel_rfl) rfl #[.agg #[.int .i64 a0_0, .int .i64 a0_1, .slice A0_2 l0_2.length c0_2, .slice A0_3 l0_3.length c0_3, .slice A0_4 l0_4.length c0_4]] (by rfl) rfl rfl (by (try simp only [List.map_toArray, List.map_cons, List.map_nil]); first | done | rfl | (simp only [List.length_drop, List.length_take]; rfl)) ?_
            with_reducible refine (posserref04_Full.calls a0_0 a0_1 _ _ l0_2 _ _ l0_3 _ _ l0_4 t188 _ ?side1 ?side2 ?side3 ?side4 ?side5 ?side6 A7.out).mono ?_
            (case side1 => repeat (first | exact (Kd.C_below HR0_2.out HB.out) | (with_reducible refine Kd.C_alloc ?_ _) | (with_reducible refine Kd.C_drewN ?_ _) | (with_reducible refine Kd.C_drew ?_)))
            (case side2 => exact HC0_2.out)
            (case side3 => repeat (first | exact (Kd.C_below HR0_3.out HB.out) | (with_reducible refine Kd.C_alloc ?_ _) | (with_reducible refine Kd.C_drewN ?_ _) | (with_reducible refine Kd.C_drew ?_)))
            (case side4 => exact HC0_3.out)
            (case side5 => repeat (first | exact (Kd.C_below HR0_4.out HB.out) | (with_reducible refine Kd.C_alloc ?_ _) | (with_reducible refine Kd.C_drewN ?_ _) | (with_reducible refine Kd.C_drew ?_)))
            (case side6 => exact HC0_4.out)
            rintro e w17 ⟨rfl, hb⟩
            refine ⟨_, rfl, ?_⟩
            have n0_ := Aside0.mk (Kd.S_below (by (with_reducible repeat (first | apply Kd.S_alloc | apply Kd.S_drewN | apply Kd.S_drew)); exact HO_3.out) hb)
            have n1_ := Aside0.mk (Kd.R_below (by (with_reducible repeat (first | apply Kd.R_alloc | apply Kd.R_drewN | apply Kd.R_drew)); exact HO186.out) hb)
            have n2_ := Aside0.mk (blk_below (g := gb182) (o := .cells #[.int .i64 a0_0, .int .i64 a0_1, .slice A0_2 l0_2.length c0_2, .slice A0_3 l0_3.length c0_3, .slice A0_4 l0_4.length c0_4] 26 (0, 0)) (by (with_reducible repeat (first | refine blk_drewN ?_ _ | refine blk_drew ?_ | refine blk_alloc ?_ _)); exact BK182.out) hb)
            have n3_ := Aside0.mk (below_step (by repeat (first | (with_reducible first | exact HB.out | apply below_alloc | apply pw_below_drewN | apply below_drew1 | refine below_set ?_ GE182.out) | exact HB.out)) hb)
            clear HO_3
            clear HO186
            clear BK182
            clear HB
            have HO_3 := n0_
            have HO186 := n1_
            have BK182 := n2_
            have HB := n3_
            clear n0_ n1_ n2_ n3_
            (try clear hb)
            (try clear hb2)
            (try clear hk)
            (try clear hi)
            refine hK.out _ _ ⟨(blk_cell BK182.out 0).trans rfl, (blk_cell BK182.out 1).trans rfl, (blk_cell BK182.out 2).trans rfl, (blk_cell BK182.out 3).trans rfl, (blk_cell BK182.out 4).trans rfl⟩ (fun hHeld => ?_)
            clear hK K
            refine norm_ (a' := ?_) ?_ ?_
            rotate_left
            · show Act.put _ (some 19) _ = _
              simp only [Act.put, List.setIfInBounds_toArray, List.set_cons_zero, List.set_cons_succ, i64_w, i32_w]
              rfl
            refine pure_ (i := 5) (N := some 20) (v := ?_) (a' := ?_) #[true, true, true, true, true, true] rfl rfl (by kernel_rfl) (fun _ _ _ h => h) (Or.inl ⟨by rfl, ?_⟩) ?_ ?_
            rotate_left
            · intro w'
              go_simp
              with_reducible rfl
            rotate_left
            · simp only [Act.put, List.setIfInBounds_toArray, List.set_cons_zero, List.set_cons_succ, i64_w, i32_w]
              rfl
            refine done_ (by kernel_rfl) ?_
            try go_wp2_with (first | ((with_reducible refine gate_builtin (b := .append) (xs := #[.tmp 21, .tmp 23]) rfl ?_); at_builtin; refine Kd.S_append (Kd.slice 3 (Kd.int .i64)) (w0 := w) w.heap.size rfl (.tmp 21) (.tmp 23) 38 23 (.slice none 0 0) 24 rfl Try.underlying38 info23 rfl (by decide) (by omega) u3 x3_1 t184 [.slice Ao15 t184.length co15] (fun _ => True) (fun k_ => some k_ = (.slice Ao15 t184.length co15 : Value).ownBlock) rfl rfl ?aP (fun k_ hk_ => ((Kd.R_mono (ok' := fun k_ => ((fun _ => True)) k_ ∧ some k_ ≠ (u3 : Value).ownBlock) (Kd.R_apart' (HO186.out) (Kd.S_typed HO_3.out) (by decide)) (fun k_ hk => ⟨trivial, hk.2⟩))).1 k_ hk_.symm) ?aF ?aO ?aB ?aS ?aL ?_; (case aP => exact Kd.M_row (Kd.R_mono (Kd.R_tight rfl (Kd.R_mono (ok' := fun k_ => ((fun _ => True)) k_ ∧ some k_ ≠ (u3 : Value).ownBlock) (Kd.R_apart' (HO186.out) (Kd.S_typed HO_3.out) (by decide)) (fun k_ hk => ⟨trivial, hk.2⟩))) (fun _ h_ => h_))); (case aB => exact (by repeat (first | (with_reducible first | exact HB.out | apply below_alloc | apply pw_below_drewN | apply below_drew1 | refine below_set ?_ GE182.out) | exact HB.out))); (case aF => exact (fun _ _ => trivial)); (case aO => exact (by (with_reducible repeat (first | apply Kd.S_alloc | apply Kd.S_drewN | apply Kd.S_drew)); exact Kd.S_mono HO_3.out (fun k_ hk => ⟨trivial, fun e_ => hk.2 e_⟩))); (case aS => exact (below_size (by repeat (first | (with_reducible first | exact HB.out | apply below_alloc | apply pw_below_drewN | apply below_drew1 | refine below_set ?_ GE182.out) | exact HB.out)))); (case aL => have := LMc9.out; omega); intro v190 w18 ho hb hg hat; rw [← Ny189.out] at ho; have n0_ := Aside0.mk (blk_grown (g := gb182) (o := .cells #[.int .i64 a0_0, .int .i64 a0_1, .slice A0_2 l0_2.length c0_2, .slice A0_3 l0_3.length c0_3, .slice A0_4 l0_4.length c0_4] 26 (0, 0)) (by (with_reducible repeat (first | refine blk_drewN ?_ _ | refine blk_drew ?_ | refine blk_alloc ?_ _)); exact BK182.out) hg (Kd.S_ne HO_3.out BK182.out (by decide))); have n1_ := Aside0.mk (hb); have n2_ := Aside0.mk (ho); clear BK182; clear HB; clear HO_3; clear HO186; have BK182 := n0_; have HB := n1_; have HO191 := n2_; clear n0_ n1_ n2_; clear ho hb hg hat))
            go_roundg k1
            case measure => have := HK1.out; omega
            case rel => exact ⟨(y189), (wrap64 (x4_1 + 1)), (by first | rfl | (simp; done) | (simp [*]; done)), H', ⟨by have := HK1.out; omega⟩, ⟨by (with_reducible repeat (first | apply Kd.S_alloc | apply Kd.S_drewN | apply Kd.S_drew)); exact HO191.out⟩, ⟨by (with_reducible repeat (first | refine blk_drewN ?_ _ | refine blk_drew ?_ | refine blk_alloc ?_ _)); exact BK182.out⟩, ⟨by repeat (first | (with_reducible first | exact HB.out | apply below_alloc | apply pw_below_drewN | apply below_drew1 | refine below_set ?_ GE182.out) | exact HB.out)⟩⟩
          · rw [if_neg c9] at H
            exact absurd H (by simp)
        · rw [if_neg c8] at H
          have c8b0 : (t187 == t188) = false := beq_eq_false_iff_ne.mpr c8
          have c8b1 : (t187 != t188) = true := bne_iff_ne.mpr c8
          have H' := Aside0.mk H
          clear H
          have hcz19_0 : wr.cell? ⟨gb182, 0, none⟩ = some (.int .i64 a0_0) := (blk_cell BK182.out 0).trans rfl
          have hcz19_1 : wr.cell? ⟨gb182, 1, none⟩ = some (.int .i64 a0_1) := (blk_cell BK182.out 1).trans rfl
          have hcz19_2 : wr.cell? ⟨gb182, 2, none⟩ = some (.slice A0_2 l0_2.length c0_2) := (blk_cell BK182.out 2).trans rfl
          have hcz19_3 : wr.cell? ⟨gb182, 3, none⟩ = some (.slice A0_3 l0_3.length c0_3) := (blk_cell BK182.out 3).trans rfl
          have hcz19_4 : wr.cell? ⟨gb182, 4, none⟩ = some (.slice A0_4 l0_4.length c0_4) := (blk_cell BK182.out 4).trans rfl
          have hfz19_0 := blk_frozen BK182.out 0
          have hfz19_1 := blk_frozen BK182.out 1
          have hfz19_2 := blk_frozen BK182.out 2
          have hfz19_3 := blk_frozen BK182.out 3
          have hfz19_4 := blk_frozen BK182.out 4
          try go_wp2_with (first | ((with_reducible refine gate_callee (f := 47) rfl ?_); refine goesL_ (some 8) rfl rfl Try.func47 (by kernel_rfl) rfl #[.agg #[.int .i64 a0_0, .int .i64 a0_1, .slice A0_2 l0_2.length c0_2, .slice A0_3 l0_3.length c0_3, .slice A0_4 l0_4.length c0_4]] rfl (by (try simp only [List.map_toArray, List.map_cons, List.map_nil]); first | done | rfl | (simp only [List.length_drop, List.length_take]; rfl)) ?_; (with_reducible refine (posserref04_Many.calls k1 a0_0 a0_1 _ _ l0_2 _ _ l0_3 _ _ l0_4 t183 _ ?side1 ?side2 ?side3 ?side4 ?side5 ?side6 A3.out).mono ?_); (case side1 => repeat (first | exact (Kd.C_below HR0_2.out HB.out) | (with_reducible refine Kd.C_alloc ?_ _) | (with_reducible refine Kd.C_drewN ?_ _) | (with_reducible refine Kd.C_drew ?_))); (case side2 => exact HC0_2.out); (case side3 => repeat (first | exact (Kd.C_below HR0_3.out HB.out) | (with_reducible refine Kd.C_alloc ?_ _) | (with_reducible refine Kd.C_drewN ?_ _) | (with_reducible refine Kd.C_drew ?_))); (case side4 => exact HC0_3.out); (case side5 => repeat (first | exact (Kd.C_below HR0_4.out HB.out) | (with_reducible refine Kd.C_alloc ?_ _) | (with_reducible refine Kd.C_drewN ?_ _) | (with_reducible refine Kd.C_drew ?_))); (case side6 => exact HC0_4.out); rintro e w20 ⟨rfl, hb⟩; refine ⟨_, rfl, ?_⟩; have n0_ := Aside0.mk (Kd.S_below (by (with_reducible repeat (first | apply Kd.S_alloc | apply Kd.S_drewN | apply Kd.S_drew)); exact HO_3.out) hb); have n1_ := Aside0.mk (blk_below (g := gb182) (o := .cells #[.int .i64 a0_0, .int .i64 a0_1, .slice A0_2 l0_2.length c0_2, .slice A0_3 l0_3.length c0_3, .slice A0_4 l0_4.length c0_4] 26 (0, 0)) (by (with_reducible repeat (first | refine blk_drewN ?_ _ | refine blk_drew ?_ | refine blk_alloc ?_ _)); exact BK182.out) hb); have n2_ := Aside0.mk (below_step (by repeat (first | (with_reducible first | exact HB.out | apply below_alloc | apply pw_below_drewN | apply below_drew1 | refine below_set ?_ GE182.out) | exact HB.out)) hb); clear HO_3; clear BK182; clear HB; have HO_3 := n0_; have BK182 := n1_; have HB := n2_; clear n0_ n1_ n2_; (try clear hb); (try clear hb2); (try clear hk); (try clear hi); have hcz21_0 : w20.cell? ⟨gb182, 0, none⟩ = some (.int .i64 a0_0) := (blk_cell BK182.out 0).trans rfl; have hcz21_1 : w20.cell? ⟨gb182, 1, none⟩ = some (.int .i64 a0_1) := (blk_cell BK182.out 1).trans rfl; have hcz21_2 : w20.cell? ⟨gb182, 2, none⟩ = some (.slice A0_2 l0_2.length c0_2) := (blk_cell BK182.out 2).trans rfl; have hcz21_3 : w20.cell? ⟨gb182, 3, none⟩ = some (.slice A0_3 l0_3.length c0_3) := (blk_cell BK182.out 3).trans rfl; have hcz21_4 : w20.cell? ⟨gb182, 4, none⟩ = some (.slice A0_4 l0_4.length c0_4) := (blk_cell BK182.out 4).trans rfl; have hfz21_0 := blk_frozen BK182.out 0; have hfz21_1 := blk_frozen BK182.out 1; have hfz21_2 := blk_frozen BK182.out 2; have hfz21_3 := blk_frozen BK182.out 3; have hfz21_4 := blk_frozen BK182.out 4) | ((with_reducible refine gate_callee (f := 46) rfl ?_); refine goesL_ (some 14) rfl rfl Try.func46 (by kernel_rfl) rfl #[.agg #[.int .i64 a0_0, .int .i64 a0_1, .slice A0_2 l0_2.length c0_2, .slice A0_3 l0_3.length c0_3, .slice A0_4 l0_4.length c0_4], .int .i64 x4_1] rfl (by (try simp only [List.map_toArray, List.map_cons, List.map_nil]); first | done | rfl | (simp only [List.length_drop, List.length_take]; rfl)) ?_; (with_reducible refine (posserref04_Nth.calls k1 a0_0 a0_1 _ _ l0_2 _ _ l0_3 _ _ l0_4 x4_1 t184 _ ?side1 ?side2 ?side3 ?side4 ?side5 ?side6 A5.out).mono ?_); (case side1 => repeat (first | exact (Kd.C_below HR0_2.out HB.out) | (with_reducible refine Kd.C_alloc ?_ _) | (with_reducible refine Kd.C_drewN ?_ _) | (with_reducible refine Kd.C_drew ?_))); (case side2 => exact HC0_2.out); (case side3 => repeat (first | exact (Kd.C_below HR0_3.out HB.out) | (with_reducible refine Kd.C_alloc ?_ _) | (with_reducible refine Kd.C_drewN ?_ _) | (with_reducible refine Kd.C_drew ?_))); (case side4 => exact HC0_3.out); (case side5 => repeat (first | exact (Kd.C_below HR0_4.out HB.out) | (with_reducible refine Kd.C_alloc ?_ _) | (with_reducible refine Kd.C_drewN ?_ _) | (with_reducible refine Kd.C_drew ?_))); (case side6 => exact HC0_4.out); rintro e w22 ⟨v185, rfl, ho0, hb⟩; refine ⟨_, rfl, ?_⟩; have n0_ := Aside0.mk (Kd.S_elder' (by (with_reducible repeat (first | apply Kd.S_alloc | apply Kd.S_drewN | apply Kd.S_drew)); exact HO_3.out) (Kd.R_base ho0) hb); have n1_ := Aside0.mk (Kd.R_lower ho0 (below_size (by repeat (first | (with_reducible first | exact HB.out | apply below_alloc | apply pw_below_drewN | apply below_drew1 | refine below_set ?_ GE182.out) | exact HB.out)))); have n2_ := Aside0.mk (blk_below (g := gb182) (o := .cells #[.int .i64 a0_0, .int .i64 a0_1, .slice A0_2 l0_2.length c0_2, .slice A0_3 l0_3.length c0_3, .slice A0_4 l0_4.length c0_4] 26 (0, 0)) (by (with_reducible repeat (first | refine blk_drewN ?_ _ | refine blk_drew ?_ | refine blk_alloc ?_ _)); exact BK182.out) hb); have n3_ := Aside0.mk (below_step (by repeat (first | (with_reducible first | exact HB.out | apply below_alloc | apply pw_below_drewN | apply below_drew1 | refine below_set ?_ GE182.out) | exact HB.out)) hb); clear HO_3; clear BK182; clear HB; have HO_3 := n0_; have HO186 := n1_; have BK182 := n2_; have HB := n3_; clear n0_ n1_ n2_ n3_; (try clear hb); (try clear hb2); (try clear hk); (try clear hi); (try clear ho0)))
          have n0_ := Aside0.mk (Kd.S_drew HO_3.out)
          have n1_ := Aside0.mk (Kd.R_drew HO186.out)
          have n2_ := Aside0.mk (blk_drew BK182.out)
          have n3_ := Aside0.mk (below_drew1 HB.out)
          clear HO_3
          clear HO186
          clear BK182
          clear HB
          have HO_3 := n0_
          have HO186 := n1_
          have BK182 := n2_
          have HB := n3_
          clear n0_ n1_ n2_ n3_
          obtain ⟨Ao24, co24, eo24⟩ := Kd.R_slice HO186.out
          (first | subst eo24 | (injection eo24 with f1_ f2_ f3_; have f4_ := f1_.symm; have f5_ := f3_.symm; clear f1_ f2_ f3_; subst f4_; subst f5_))
          refine start_ (n := 6) (S := fun w' => w'.cell? ⟨gb182, 0, none⟩ = some (.int .i64 a0_0) ∧ w'.cell? ⟨gb182, 1, none⟩ = some (.int .i64 a0_1) ∧ w'.cell? ⟨gb182, 2, none⟩ = some (.slice A0_2 l0_2.length c0_2) ∧ w'.cell? ⟨gb182, 3, none⟩ = some (.slice A0_3 l0_3.length c0_3) ∧ w'.cell? ⟨gb182, 4, none⟩ = some (.slice A0_4 l0_4.length c0_4)) (ds := []) #[false, false, false, false, false, false] (by kernel_rfl) rfl rfl ⟨(blk_cell BK182.out 0).trans rfl, (blk_cell BK182.out 1).trans rfl, (blk_cell BK182.out 2).trans rfl, (blk_cell BK182.out 3).trans rfl, (blk_cell BK182.out 4).trans rfl⟩ (fun hHeld => ?_)
          generalize w22.drew = w23 at HO_3 HO186 BK182 HB hHeld ⊢
          refine pure_ (i := 1) (N := some 16) (v := ?_) (a' := ?_) #[false, true, false, false, false, false] rfl rfl (by kernel_rfl) (fun _ _ _ h => h) (Or.inl ⟨by rfl, ?_⟩) ?_ ?_
          rotate_left
          · intro w'
            go_simp
            with_reducible rfl
          rotate_left
          · simp only [Act.put, List.setIfInBounds_toArray, List.set_cons_zero, List.set_cons_succ, i64_w, i32_w]
            rfl
          refine take_ (i := 0) (N := some 15) (v := ?_) (a' := ?_) #[true, true, false, false, false, false] rfl rfl (by kernel_rfl) (fun _ _ _ h => h) (Or.inl ⟨by rfl, ?_⟩) hHeld ?_ ?_
          rotate_left
          · rintro w' ⟨s0, s1, s2, s3, s4⟩
            go_simp
            with_reducible rfl
          rotate_left
          · simp only [Act.put, List.setIfInBounds_toArray, List.set_cons_zero, List.set_cons_succ, i64_w, i32_w]
            rfl
          refine take_ (i := 3) (N := some 18) (v := ?_) (a' := ?_) #[true, true, false, true, false, false] rfl rfl (by kernel_rfl) (fun _ _ _ h => h) (Or.inl ⟨by rfl, ?_⟩) hHeld ?_ ?_
          rotate_left
          · rintro w' ⟨s0, s1, s2, s3, s4⟩
            go_simp
            with_reducible rfl
          rotate_left
          · simp only [Act.put, List.setIfInBounds_toArray, List.set_cons_zero, List.set_cons_succ, i64_w, i32_w]
            rfl
          refine one_ (i := 2) (N := some 17) #[true, true, true, true, false, false] rfl rfl (by kernel_rfl) (by decide) (fun K hK => ?_)
          refine goes_ Try.func94 (by kernel_rfl) rfl #[.agg #[.int .i64 a0_0, .int .i64 a0_1, .slice A0_2 l0_2.length c0_2, .slice A0_3 l0_3.length c0_3, .slice A0_4 l0_4.length c0_4], .slice Ao24 t184.length co24] (by rfl) rfl rfl (by (try simp only [List.map_toArray, List.map_cons, List.map_nil]); first | done | rfl | (simp only [List.length_drop, List.length_take]; rfl)) ?_
          with_reducible refine (posserref04_Right.calls k1 a0_0 a0_1 _ _ l0_2 _ _ l0_3 _ _ l0_4 _ _ t184 t187 _ ?side1 ?side2 ?side3 ?side4 ?side5 ?side6 ?side7 ?side8 A6.out).mono ?_
          (case side1 => repeat (first | exact (Kd.C_below HR0_2.out HB.out) | (with_reducible refine Kd.C_alloc ?_ _) | (with_reducible refine Kd.C_drewN ?_ _) | (with_reducible refine Kd.C_drew ?_)))
          (case side2 => exact HC0_2.out)
          (case side3 => repeat (first | exact (Kd.C_below HR0_3.out HB.out) | (with_reducible refine Kd.C_alloc ?_ _) | (with_reducible refine Kd.C_drewN ?_ _) | (with_reducible refine Kd.C_drew ?_)))
          (case side4 => exact HC0_3.out)
          (case side5 => repeat (first | exact (Kd.C_below HR0_4.out HB.out) | (with_reducible refine Kd.C_alloc ?_ _) | (with_reducible refine Kd.C_drewN ?_ _) | (with_reducible refine Kd.C_drew ?_)))
          (case side6 => exact HC0_4.out)
          (case side7 => repeat (first | exact (Kd.R_reads' HO186.out).2.2 | (with_reducible refine Kd.C_alloc ?_ _) | (with_reducible refine Kd.C_drewN ?_ _) | (with_reducible refine Kd.C_drew ?_)))
          (case side8 => exact (Kd.R_reads' HO186.out).2.1)
          rintro e w25 ⟨rfl, hb⟩
          refine ⟨_, rfl, ?_⟩
          have n0_ := Aside0.mk (Kd.S_below (by (with_reducible repeat (first | apply Kd.S_alloc | apply Kd.S_drewN | apply Kd.S_drew)); exact HO_3.out) hb)
          have n1_ := Aside0.mk (Kd.R_below (by (with_reducible repeat (first | apply Kd.R_alloc | apply Kd.R_drewN | apply Kd.R_drew)); exact HO186.out) hb)
          have n2_ := Aside0.mk (blk_below (g := gb182) (o := .cells #[.int .i64 a0_0, .int .i64 a0_1, .slice A0_2 l0_2.length c0_2, .slice A0_3 l0_3.length c0_3, .slice A0_4 l0_4.length c0_4] 26 (0, 0)) (by (with_reducible repeat (first | refine blk_drewN ?_ _ | refine blk_drew ?_ | refine blk_alloc ?_ _)); exact BK182.out) hb)
          have n3_ := Aside0.mk (below_step (by repeat (first | (with_reducible first | exact HB.out | apply below_alloc | apply pw_below_drewN | apply below_drew1 | refine below_set ?_ GE182.out) | exact HB.out)) hb)
          clear HO_3
          clear HO186
          clear BK182
          clear HB
          have HO_3 := n0_
          have HO186 := n1_
          have BK182 := n2_
          have HB := n3_
          clear n0_ n1_ n2_ n3_
          (try clear hb)
          (try clear hb2)
          (try clear hk)
          (try clear hi)
          refine hK.out _ _ ⟨(blk_cell BK182.out 0).trans rfl, (blk_cell BK182.out 1).trans rfl, (blk_cell BK182.out 2).trans rfl, (blk_cell BK182.out 3).trans rfl, (blk_cell BK182.out 4).trans rfl⟩ (fun hHeld => ?_)
          clear hK K
          refine norm_ (a' := ?_) ?_ ?_
          rotate_left
          · show Act.put _ (some 17) _ = _
            simp only [Act.put, List.setIfInBounds_toArray, List.set_cons_zero, List.set_cons_succ, i64_w, i32_w]
            rfl
          refine one_ (i := 4) (N := some 19) #[true, true, true, true, true, false] rfl rfl (by kernel_rfl) (by decide) (fun K hK => ?_)
          refine goes_ Try.func78 (by kernel_rfl) rfl #[.agg #[.int .i64 a0_0, .int .i64 a0_1, .slice A0_2 l0_2.length c0_2, .slice A0_3 l0_3.length c0_3, .slice A0_4 l0_4.length c0_4]] (by rfl) rfl rfl (by (try simp only [List.map_toArray, List.map_cons, List.map_nil]); first | done | rfl | (simp only [List.length_drop, List.length_take]; rfl)) ?_
          with_reducible refine (posserref04_Full.calls a0_0 a0_1 _ _ l0_2 _ _ l0_3 _ _ l0_4 t188 _ ?side1 ?side2 ?side3 ?side4 ?side5 ?side6 A7.out).mono ?_
          (case side1 => repeat (first | exact (Kd.C_below HR0_2.out HB.out) | (with_reducible refine Kd.C_alloc ?_ _) | (with_reducible refine Kd.C_drewN ?_ _) | (with_reducible refine Kd.C_drew ?_)))
          (case side2 => exact HC0_2.out)
          (case side3 => repeat (first | exact (Kd.C_below HR0_3.out HB.out) | (with_reducible refine Kd.C_alloc ?_ _) | (with_reducible refine Kd.C_drewN ?_ _) | (with_reducible refine Kd.C_drew ?_)))
          (case side4 => exact HC0_3.out)
          (case side5 => repeat (first | exact (Kd.C_below HR0_4.out HB.out) | (with_reducible refine Kd.C_alloc ?_ _) | (with_reducible refine Kd.C_drewN ?_ _) | (with_reducible refine Kd.C_drew ?_)))
          (case side6 => exact HC0_4.out)
          rintro e w26 ⟨rfl, hb⟩
          refine ⟨_, rfl, ?_⟩
          have n0_ := Aside0.mk (Kd.S_below (by (with_reducible repeat (first | apply Kd.S_alloc | apply Kd.S_drewN | apply Kd.S_drew)); exact HO_3.out) hb)
          have n1_ := Aside0.mk (Kd.R_below (by (with_reducible repeat (first | apply Kd.R_alloc | apply Kd.R_drewN | apply Kd.R_drew)); exact HO186.out) hb)
          have n2_ := Aside0.mk (blk_below (g := gb182) (o := .cells #[.int .i64 a0_0, .int .i64 a0_1, .slice A0_2 l0_2.length c0_2, .slice A0_3 l0_3.length c0_3, .slice A0_4 l0_4.length c0_4] 26 (0, 0)) (by (with_reducible repeat (first | refine blk_drewN ?_ _ | refine blk_drew ?_ | refine blk_alloc ?_ _)); exact BK182.out) hb)
          have n3_ := Aside0.mk (below_step (by repeat (first | (with_reducible first | exact HB.out | apply below_alloc | apply pw_below_drewN | apply below_drew1 | refine below_set ?_ GE182.out) | exact HB.out)) hb)
          clear HO_3
          clear HO186
          clear BK182
          clear HB
          have HO_3 := n0_
          have HO186 := n1_
          have BK182 := n2_
          have HB := n3_
          clear n0_ n1_ n2_ n3_
          (try clear hb)
          (try clear hb2)
          (try clear hk)
          (try clear hi)
          refine hK.out _ _ ⟨(blk_cell BK182.out 0).trans rfl, (blk_cell BK182.out 1).trans rfl, (blk_cell BK182.out 2).trans rfl, (blk_cell BK182.out 3).trans rfl, (blk_cell BK182.out 4).trans rfl⟩ (fun hHeld => ?_)
          clear hK K
          refine norm_ (a' := ?_) ?_ ?_
          rotate_left
          · show Act.put _ (some 19) _ = _
            simp only [Act.put, List.setIfInBounds_toArray, List.set_cons_zero, List.set_cons_succ, i64_w, i32_w]
            rfl
          refine pure_ (i := 5) (N := some 20) (v := ?_) (a' := ?_) #[true, true, true, true, true, true] rfl rfl (by kernel_rfl) (fun _ _ _ h => h) (Or.inl ⟨by rfl, ?_⟩) ?_ ?_
          rotate_left
          · intro w'
            go_simp
            with_reducible rfl
          rotate_left
          · simp only [Act.put, List.setIfInBounds_toArray, List.set_cons_zero, List.set_cons_succ, i64_w, i32_w]
            rfl
          refine done_ (by kernel_rfl) ?_
          try go_wp2
          go_roundg k1
          case measure => have := HK1.out; omega
          case rel => exact ⟨(x3_1), (wrap64 (x4_1 + 1)), (by first | rfl | (simp; done) | (simp [*]; done)), H', ⟨by have := HK1.out; omega⟩, ⟨by (with_reducible repeat (first | apply Kd.S_alloc | apply Kd.S_drewN | apply Kd.S_drew)); exact Kd.S_mono HO_3.out (fun _ hk => trivial)⟩, ⟨by (with_reducible repeat (first | refine blk_drewN ?_ _ | refine blk_drew ?_ | refine blk_alloc ?_ _)); exact BK182.out⟩, ⟨by repeat (first | (with_reducible first | exact HB.out | apply below_alloc | apply pw_below_drewN | apply below_drew1 | refine below_set ?_ GE182.out) | exact HB.out)⟩⟩
      · rw [if_neg c4] at H
        have c4b0 : decide (x4_1 < t183) = false := decide_eq_false c4
        clear c4
        obtain rfl := Option.some.inj H
        have hcz27_0 : wr.cell? ⟨gb182, 0, none⟩ = some (.int .i64 a0_0) := (blk_cell BK182.out 0).trans rfl
        have hcz27_1 : wr.cell? ⟨gb182, 1, none⟩ = some (.int .i64 a0_1) := (blk_cell BK182.out 1).trans rfl
        have hcz27_2 : wr.cell? ⟨gb182, 2, none⟩ = some (.slice A0_2 l0_2.length c0_2) := (blk_cell BK182.out 2).trans rfl
        have hcz27_3 : wr.cell? ⟨gb182, 3, none⟩ = some (.slice A0_3 l0_3.length c0_3) := (blk_cell BK182.out 3).trans rfl
        have hcz27_4 : wr.cell? ⟨gb182, 4, none⟩ = some (.slice A0_4 l0_4.length c0_4) := (blk_cell BK182.out 4).trans rfl
        have hfz27_0 := blk_frozen BK182.out 0
        have hfz27_1 := blk_frozen BK182.out 1
        have hfz27_2 := blk_frozen BK182.out 2
        have hfz27_3 := blk_frozen BK182.out 3
        have hfz27_4 := blk_frozen BK182.out 4
        go_wp2_with (first | ((with_reducible refine gate_callee (f := 47) rfl ?_); refine goesL_ (some 8) rfl rfl Try.func47 (by kernel_rfl) rfl #[.agg #[.int .i64 a0_0, .int .i64 a0_1, .slice A0_2 l0_2.length c0_2, .slice A0_3 l0_3.length c0_3, .slice A0_4 l0_4.length c0_4]] rfl (by (try simp only [List.map_toArray, List.map_cons, List.map_nil]); first | done | rfl | (simp only [List.length_drop, List.length_take]; rfl)) ?_; (with_reducible refine (posserref04_Many.calls k1 a0_0 a0_1 _ _ l0_2 _ _ l0_3 _ _ l0_4 t183 _ ?side1 ?side2 ?side3 ?side4 ?side5 ?side6 A3.out).mono ?_); (case side1 => repeat (first | exact (Kd.C_below HR0_2.out HB.out) | (with_reducible refine Kd.C_alloc ?_ _) | (with_reducible refine Kd.C_drewN ?_ _) | (with_reducible refine Kd.C_drew ?_))); (case side2 => exact HC0_2.out); (case side3 => repeat (first | exact (Kd.C_below HR0_3.out HB.out) | (with_reducible refine Kd.C_alloc ?_ _) | (with_reducible refine Kd.C_drewN ?_ _) | (with_reducible refine Kd.C_drew ?_))); (case side4 => exact HC0_3.out); (case side5 => repeat (first | exact (Kd.C_below HR0_4.out HB.out) | (with_reducible refine Kd.C_alloc ?_ _) | (with_reducible refine Kd.C_drewN ?_ _) | (with_reducible refine Kd.C_drew ?_))); (case side6 => exact HC0_4.out); rintro e w28 ⟨rfl, hb⟩; refine ⟨_, rfl, ?_⟩; have n0_ := Aside0.mk (Kd.S_below (by (with_reducible repeat (first | apply Kd.S_alloc | apply Kd.S_drewN | apply Kd.S_drew)); exact HO_3.out) hb); have n1_ := Aside0.mk (blk_below (g := gb182) (o := .cells #[.int .i64 a0_0, .int .i64 a0_1, .slice A0_2 l0_2.length c0_2, .slice A0_3 l0_3.length c0_3, .slice A0_4 l0_4.length c0_4] 26 (0, 0)) (by (with_reducible repeat (first | refine blk_drewN ?_ _ | refine blk_drew ?_ | refine blk_alloc ?_ _)); exact BK182.out) hb); have n2_ := Aside0.mk (below_step (by repeat (first | (with_reducible first | exact HB.out | apply below_alloc | apply pw_below_drewN | apply below_drew1 | refine below_set ?_ GE182.out) | exact HB.out)) hb); clear HO_3; clear BK182; clear HB; have HO_3 := n0_; have BK182 := n1_; have HB := n2_; clear n0_ n1_ n2_; (try clear hb); (try clear hb2); (try clear hk); (try clear hi)))
        go_ret
        exact ⟨_, by first | rfl | (simp [errW_none, errW_some] <;> rfl) | (simp [*, errW_none, errW_some] <;> rfl), by (with_reducible repeat (first | apply Kd.S_alloc | apply Kd.S_drewN | apply Kd.S_drew)); exact HO_3.out, by repeat (first | (with_reducible first | exact HB.out | apply below_alloc | apply pw_below_drewN | apply below_drew1 | refine below_set ?_ GE182.out) | exact HB.out)⟩
def posserlaw04_placed.f (k : Nat) (a0_0 : Int) (a0_1 : Int) (l0_2 : List (S68)) (l0_3 : List Int) (l0_4 : List (S84)) (a1 : Bool) : Option ((List (List Int)) × Int) := (posserlaw04_fault.f a0_0 a0_1 l0_2 l0_3 l0_4).bind fun t193 => (if t193 = 0 then (if a1 = true then ((posserref04_Truths.f k a0_0 a0_1 l0_2 l0_3 l0_4).bind fun t194 => (if (t194.length : Int) = 0 then (some (([] : List (List Int)), 11)) else (some (t194, 0)))) else (some (([] : List (List Int)), 2))) else (some (([] : List (List Int)), t193)))
set_option maxHeartbeats 8000000 in
set_option maxRecDepth 100000 in
theorem posserlaw04_placed.calls (k : Nat) (a0_0 : Int) (a0_1 : Int) (A0_2 : Option Addr) (c0_2 : Nat) (l0_2 : List (S68)) (A0_3 : Option Addr) (c0_3 : Nat) (l0_3 : List Int) (A0_4 : Option Addr) (c0_4 : Nat) (l0_4 : List (S84)) (a1 : Bool) (r1 : List (List Int)) (r2 : Int) (w : World) (hr0_2 : Kd.C k68 w A0_2 l0_2.length l0_2) (hc0_2 : l0_2.length ≤ c0_2) (hr0_3 : Kd.C (Kd.int .i64) w A0_3 l0_3.length l0_3) (hc0_3 : l0_3.length ≤ c0_3) (hr0_4 : Kd.C k84 w A0_4 l0_4.length l0_4) (hc0_4 : l0_4.length ≤ c0_4) (h : posserlaw04_placed.f k a0_0 a0_1 l0_2 l0_3 l0_4 a1 = some (r1, r2)) :
    Calls Try.prog 28 #[.agg #[.int .i64 a0_0, .int .i64 a0_1, .slice A0_2 l0_2.length c0_2, .slice A0_3 l0_3.length c0_3, .slice A0_4 l0_4.length c0_4], .bool a1] w fun e w' => ∃ v0_ : Value, e = .returned (.tuple #[v0_, .int .i64 r2]) ∧ Kd.S (Kd.slice 3 (Kd.int .i64)) 23 w' w.heap.size (fun _ => True) v0_ r1 ∧ Below w.heap.size w w' := by
  have hu26 := Try.underlying26
  have HR0_2 := Aside0.mk hr0_2
  have HC0_2 := Aside0.mk hc0_2
  clear hr0_2 hc0_2
  have HR0_3 := Aside0.mk hr0_3
  have HC0_3 := Aside0.mk hc0_3
  clear hr0_3 hc0_3
  have HR0_4 := Aside0.mk hr0_4
  have HC0_4 := Aside0.mk hc0_4
  clear hr0_4 hc0_4
  have HB := Aside0.mk (Below.refl w.heap.size w)
  have H : ((posserlaw04_fault.f a0_0 a0_1 l0_2 l0_3 l0_4).bind fun t193 => (if t193 = 0 then (if a1 = true then ((posserref04_Truths.f k a0_0 a0_1 l0_2 l0_3 l0_4).bind fun t194 => (if (t194.length : Int) = 0 then (some (([] : List (List Int)), 11)) else (some (t194, 0)))) else (some (([] : List (List Int)), 2))) else (some (([] : List (List Int)), t193)))) = some (r1, r2) := h
  clear h
  replace H := Option.bind_eq_some_iff.mp H
  obtain ⟨t193, A30, H⟩ := H
  replace H : (if t193 = 0 then (if a1 = true then ((posserref04_Truths.f k a0_0 a0_1 l0_2 l0_3 l0_4).bind fun t194 => (if (t194.length : Int) = 0 then (some (([] : List (List Int)), 11)) else (some (t194, 0)))) else (some (([] : List (List Int)), 2))) else (some (([] : List (List Int)), t193))) = some (r1, r2) := H
  have A3 := Aside0.mk A30
  clear A30
  by_cases c4 : t193 = 0
  · rw [if_pos c4] at H
    have c4b0 : (t193 == 0) = true := beq_iff_eq.mpr c4
    have c4b1 : (t193 != 0) = false := bne_eq_false_iff_eq.mpr c4
    clear c4
    by_cases c5 : a1 = true
    · subst c5
      have H1 : ((posserref04_Truths.f k a0_0 a0_1 l0_2 l0_3 l0_4).bind fun t194 => (if (t194.length : Int) = 0 then (some (([] : List (List Int)), 11)) else (some (t194, 0)))) = some (r1, r2) := by rw [if_pos rfl] at H; exact H
      clear H
      have H := H1
      clear H1
      replace H := Option.bind_eq_some_iff.mp H
      obtain ⟨t194, A60, H⟩ := H
      replace H : (if (t194.length : Int) = 0 then (some (([] : List (List Int)), 11)) else (some (t194, 0))) = some (r1, r2) := H
      have A6 := Aside0.mk A60
      clear A60
      by_cases c7 : (t194.length : Int) = 0
      · rw [if_pos c7] at H
        have c7b0 : ((t194.length : Int) == 0) = true := beq_iff_eq.mpr c7
        have c7b1 : ((t194.length : Int) != 0) = false := bne_eq_false_iff_eq.mpr c7
        clear c7
        simp only [Option.some.injEq, Prod.mk.injEq] at H
        obtain ⟨rfl, rfl⟩ := H
        go_enter Try.func28, Try.ntmps28
        go_wp2_with (first | ((with_reducible refine gate_dst (N := 2) rfl ?_); refine box_event ?hg (N := 2) ?hd (cs := #[.int .i64 a0_0, .int .i64 a0_1, .slice A0_2 l0_2.length c0_2, .slice A0_3 l0_3.length c0_3, .slice A0_4 l0_4.length c0_4]) (t := 26) ?hr ?_; (case hd => rfl); (case hg => rfl); (case hr => first | (go_simp; done) | (go_simp; rfl)); intro gb192 hg w8 hbox hb; have n0_ := Aside0.mk (below_step (by repeat (first | (with_reducible first | exact HB.out | apply below_alloc | apply pw_below_drewN | apply below_drew1) | exact HB.out)) hb); have n1_ := Aside0.mk (hbox); have n2_ := Aside0.mk ((by rw [hg]; exact (below_size (by repeat (first | (with_reducible first | exact HB.out | apply below_alloc | apply pw_below_drewN | apply below_drew1) | exact HB.out))) : w.heap.size ≤ gb192)); have n3_ := Aside0.mk ((by rw [hg]; exact (below_size (by repeat (first | (with_reducible first | exact HB.out | apply below_alloc | apply pw_below_drewN | apply below_drew1) | exact HB.out))) : w.heap.size ≤ gb192)); clear HB; have HB := n0_; have BK192 := n1_; have GW192 := n2_; have GE192 := n3_; clear n0_ n1_ n2_ n3_; clear hb hbox hg; have hcz9_0 : w8.cell? ⟨gb192, 0, none⟩ = some (.int .i64 a0_0) := (blk_cell BK192.out 0).trans rfl; have hcz9_1 : w8.cell? ⟨gb192, 1, none⟩ = some (.int .i64 a0_1) := (blk_cell BK192.out 1).trans rfl; have hcz9_2 : w8.cell? ⟨gb192, 2, none⟩ = some (.slice A0_2 l0_2.length c0_2) := (blk_cell BK192.out 2).trans rfl; have hcz9_3 : w8.cell? ⟨gb192, 3, none⟩ = some (.slice A0_3 l0_3.length c0_3) := (blk_cell BK192.out 3).trans rfl; have hcz9_4 : w8.cell? ⟨gb192, 4, none⟩ = some (.slice A0_4 l0_4.length c0_4) := (blk_cell BK192.out 4).trans rfl; have hfz9_0 := blk_frozen BK192.out 0; have hfz9_1 := blk_frozen BK192.out 1; have hfz9_2 := blk_frozen BK192.out 2; have hfz9_3 := blk_frozen BK192.out 3; have hfz9_4 := blk_frozen BK192.out 4) | ((with_reducible refine gate_callee (f := 36) rfl ?_); refine goesL_ (some 9) rfl rfl Try.func36 (by kernel_rfl) rfl #[.agg #[.int .i64 a0_0, .int .i64 a0_1, .slice A0_2 l0_2.length c0_2, .slice A0_3 l0_3.length c0_3, .slice A0_4 l0_4.length c0_4]] rfl (by (try simp only [List.map_toArray, List.map_cons, List.map_nil]); first | done | rfl | (simp only [List.length_drop, List.length_take]; rfl)) ?_; (with_reducible refine (posserlaw04_fault.calls a0_0 a0_1 _ _ l0_2 _ _ l0_3 _ _ l0_4 t193 _ ?side1 ?side2 ?side3 ?side4 ?side5 ?side6 A3.out).mono ?_); (case side1 => repeat (first | exact (Kd.C_below HR0_2.out HB.out) | (with_reducible refine Kd.C_alloc ?_ _) | (with_reducible refine Kd.C_drewN ?_ _) | (with_reducible refine Kd.C_drew ?_))); (case side2 => exact HC0_2.out); (case side3 => repeat (first | exact (Kd.C_below HR0_3.out HB.out) | (with_reducible refine Kd.C_alloc ?_ _) | (with_reducible refine Kd.C_drewN ?_ _) | (with_reducible refine Kd.C_drew ?_))); (case side4 => exact HC0_3.out); (case side5 => repeat (first | exact (Kd.C_below HR0_4.out HB.out) | (with_reducible refine Kd.C_alloc ?_ _) | (with_reducible refine Kd.C_drewN ?_ _) | (with_reducible refine Kd.C_drew ?_))); (case side6 => exact HC0_4.out); rintro e w10 ⟨rfl, hb⟩; refine ⟨_, rfl, ?_⟩; have n0_ := Aside0.mk (blk_below (g := gb192) (o := .cells #[.int .i64 a0_0, .int .i64 a0_1, .slice A0_2 l0_2.length c0_2, .slice A0_3 l0_3.length c0_3, .slice A0_4 l0_4.length c0_4] 26 (0, 0)) (by (with_reducible repeat (first | refine blk_drewN ?_ _ | refine blk_drew ?_ | refine blk_alloc ?_ _)); exact BK192.out) hb); have n1_ := Aside0.mk (below_step (by repeat (first | (with_reducible first | exact HB.out | apply below_alloc | apply pw_below_drewN | apply below_drew1 | refine below_set ?_ GE192.out) | exact HB.out)) hb); clear BK192; clear HB; have BK192 := n0_; have HB := n1_; clear n0_ n1_; (try clear hb); (try clear hb2); (try clear hk); (try clear hi); have hcz11_0 : w10.cell? ⟨gb192, 0, none⟩ = some (.int .i64 a0_0) := (blk_cell BK192.out 0).trans rfl; have hcz11_1 : w10.cell? ⟨gb192, 1, none⟩ = some (.int .i64 a0_1) := (blk_cell BK192.out 1).trans rfl; have hcz11_2 : w10.cell? ⟨gb192, 2, none⟩ = some (.slice A0_2 l0_2.length c0_2) := (blk_cell BK192.out 2).trans rfl; have hcz11_3 : w10.cell? ⟨gb192, 3, none⟩ = some (.slice A0_3 l0_3.length c0_3) := (blk_cell BK192.out 3).trans rfl; have hcz11_4 : w10.cell? ⟨gb192, 4, none⟩ = some (.slice A0_4 l0_4.length c0_4) := (blk_cell BK192.out 4).trans rfl; have hfz11_0 := blk_frozen BK192.out 0; have hfz11_1 := blk_frozen BK192.out 1; have hfz11_2 := blk_frozen BK192.out 2; have hfz11_3 := blk_frozen BK192.out 3; have hfz11_4 := blk_frozen BK192.out 4) | ((with_reducible refine gate_callee (f := 43) rfl ?_); refine goesL_ (some 16) rfl rfl Try.func43 (by kernel_rfl) rfl #[.agg #[.int .i64 a0_0, .int .i64 a0_1, .slice A0_2 l0_2.length c0_2, .slice A0_3 l0_3.length c0_3, .slice A0_4 l0_4.length c0_4]] rfl (by (try simp only [List.map_toArray, List.map_cons, List.map_nil]); first | done | rfl | (simp only [List.length_drop, List.length_take]; rfl)) ?_; (with_reducible refine (posserref04_Truths.calls k a0_0 a0_1 _ _ l0_2 _ _ l0_3 _ _ l0_4 t194 _ ?side1 ?side2 ?side3 ?side4 ?side5 ?side6 A6.out).mono ?_); (case side1 => repeat (first | exact (Kd.C_below HR0_2.out HB.out) | (with_reducible refine Kd.C_alloc ?_ _) | (with_reducible refine Kd.C_drewN ?_ _) | (with_reducible refine Kd.C_drew ?_))); (case side2 => exact HC0_2.out); (case side3 => repeat (first | exact (Kd.C_below HR0_3.out HB.out) | (with_reducible refine Kd.C_alloc ?_ _) | (with_reducible refine Kd.C_drewN ?_ _) | (with_reducible refine Kd.C_drew ?_))); (case side4 => exact HC0_3.out); (case side5 => repeat (first | exact (Kd.C_below HR0_4.out HB.out) | (with_reducible refine Kd.C_alloc ?_ _) | (with_reducible refine Kd.C_drewN ?_ _) | (with_reducible refine Kd.C_drew ?_))); (case side6 => exact HC0_4.out); rintro e w12 ⟨v195, rfl, ho0, hb⟩; refine ⟨_, rfl, ?_⟩; have n0_ := Aside0.mk (Kd.S_lower ho0 (below_size (by repeat (first | (with_reducible first | exact HB.out | apply below_alloc | apply pw_below_drewN | apply below_drew1 | refine below_set ?_ GE192.out) | exact HB.out)))); have n1_ := Aside0.mk (blk_below (g := gb192) (o := .cells #[.int .i64 a0_0, .int .i64 a0_1, .slice A0_2 l0_2.length c0_2, .slice A0_3 l0_3.length c0_3, .slice A0_4 l0_4.length c0_4] 26 (0, 0)) (by (with_reducible repeat (first | refine blk_drewN ?_ _ | refine blk_drew ?_ | refine blk_alloc ?_ _)); exact BK192.out) hb); have n2_ := Aside0.mk (below_step (by repeat (first | (with_reducible first | exact HB.out | apply below_alloc | apply pw_below_drewN | apply below_drew1 | refine below_set ?_ GE192.out) | exact HB.out)) hb); clear BK192; clear HB; have HO196 := n0_; have BK192 := n1_; have HB := n2_; clear n0_ n1_ n2_; (try clear hb); (try clear hb2); (try clear hk); (try clear hi); (try clear ho0); obtain ⟨Ao13, co13, eo13⟩ := Kd.S_slice HO196.out; subst eo13))
        go_ret2
        exact ⟨_, by first | rfl | (simp [errW_none, errW_some] <;> rfl) | (simp [*, errW_none, errW_some] <;> rfl), by first | exact Kd.S_nil _ _ _ _ _ | exact Kd.N_nil _ _ _ _ _ | exact Kd.V_nil _ _ _ _ _ | exact Kd.Q_nil _ _ _ _ _ | exact Kd.R_nil _ _ _ _ _, by repeat (first | (with_reducible first | exact HB.out | apply below_alloc | apply pw_below_drewN | apply below_drew1 | refine below_set ?_ GE192.out) | exact HB.out)⟩
      · rw [if_neg c7] at H
        have c7b0 : ((t194.length : Int) == 0) = false := beq_eq_false_iff_ne.mpr c7
        have c7b1 : ((t194.length : Int) != 0) = true := bne_iff_ne.mpr c7
        have c7b2 : ¬ (t194 = []) := fun h_ => c7 (by rw [h_]; rfl)
        simp only [Option.some.injEq, Prod.mk.injEq] at H
        obtain ⟨rfl, rfl⟩ := H
        go_enter Try.func28, Try.ntmps28
        go_wp2_with (first | ((with_reducible refine gate_dst (N := 2) rfl ?_); refine box_event ?hg (N := 2) ?hd (cs := #[.int .i64 a0_0, .int .i64 a0_1, .slice A0_2 l0_2.length c0_2, .slice A0_3 l0_3.length c0_3, .slice A0_4 l0_4.length c0_4]) (t := 26) ?hr ?_; (case hd => rfl); (case hg => rfl); (case hr => first | (go_simp; done) | (go_simp; rfl)); intro gb192 hg w14 hbox hb; have n0_ := Aside0.mk (below_step (by repeat (first | (with_reducible first | exact HB.out | apply below_alloc | apply pw_below_drewN | apply below_drew1) | exact HB.out)) hb); have n1_ := Aside0.mk (hbox); have n2_ := Aside0.mk ((by rw [hg]; exact (below_size (by repeat (first | (with_reducible first | exact HB.out | apply below_alloc | apply pw_below_drewN | apply below_drew1) | exact HB.out))) : w.heap.size ≤ gb192)); have n3_ := Aside0.mk ((by rw [hg]; exact (below_size (by repeat (first | (with_reducible first | exact HB.out | apply below_alloc | apply pw_below_drewN | apply below_drew1) | exact HB.out))) : w.heap.size ≤ gb192)); clear HB; have HB := n0_; have BK192 := n1_; have GW192 := n2_; have GE192 := n3_; clear n0_ n1_ n2_ n3_; clear hb hbox hg; have hcz15_0 : w14.cell? ⟨gb192, 0, none⟩ = some (.int .i64 a0_0) := (blk_cell BK192.out 0).trans rfl; have hcz15_1 : w14.cell? ⟨gb192, 1, none⟩ = some (.int .i64 a0_1) := (blk_cell BK192.out 1).trans rfl; have hcz15_2 : w14.cell? ⟨gb192, 2, none⟩ = some (.slice A0_2 l0_2.length c0_2) := (blk_cell BK192.out 2).trans rfl; have hcz15_3 : w14.cell? ⟨gb192, 3, none⟩ = some (.slice A0_3 l0_3.length c0_3) := (blk_cell BK192.out 3).trans rfl; have hcz15_4 : w14.cell? ⟨gb192, 4, none⟩ = some (.slice A0_4 l0_4.length c0_4) := (blk_cell BK192.out 4).trans rfl; have hfz15_0 := blk_frozen BK192.out 0; have hfz15_1 := blk_frozen BK192.out 1; have hfz15_2 := blk_frozen BK192.out 2; have hfz15_3 := blk_frozen BK192.out 3; have hfz15_4 := blk_frozen BK192.out 4) | ((with_reducible refine gate_callee (f := 36) rfl ?_); refine goesL_ (some 9) rfl rfl Try.func36 (by kernel_rfl) rfl #[.agg #[.int .i64 a0_0, .int .i64 a0_1, .slice A0_2 l0_2.length c0_2, .slice A0_3 l0_3.length c0_3, .slice A0_4 l0_4.length c0_4]] rfl (by (try simp only [List.map_toArray, List.map_cons, List.map_nil]); first | done | rfl | (simp only [List.length_drop, List.length_take]; rfl)) ?_; (with_reducible refine (posserlaw04_fault.calls a0_0 a0_1 _ _ l0_2 _ _ l0_3 _ _ l0_4 t193 _ ?side1 ?side2 ?side3 ?side4 ?side5 ?side6 A3.out).mono ?_); (case side1 => repeat (first | exact (Kd.C_below HR0_2.out HB.out) | (with_reducible refine Kd.C_alloc ?_ _) | (with_reducible refine Kd.C_drewN ?_ _) | (with_reducible refine Kd.C_drew ?_))); (case side2 => exact HC0_2.out); (case side3 => repeat (first | exact (Kd.C_below HR0_3.out HB.out) | (with_reducible refine Kd.C_alloc ?_ _) | (with_reducible refine Kd.C_drewN ?_ _) | (with_reducible refine Kd.C_drew ?_))); (case side4 => exact HC0_3.out); (case side5 => repeat (first | exact (Kd.C_below HR0_4.out HB.out) | (with_reducible refine Kd.C_alloc ?_ _) | (with_reducible refine Kd.C_drewN ?_ _) | (with_reducible refine Kd.C_drew ?_))); (case side6 => exact HC0_4.out); rintro e w16 ⟨rfl, hb⟩; refine ⟨_, rfl, ?_⟩; have n0_ := Aside0.mk (blk_below (g := gb192) (o := .cells #[.int .i64 a0_0, .int .i64 a0_1, .slice A0_2 l0_2.length c0_2, .slice A0_3 l0_3.length c0_3, .slice A0_4 l0_4.length c0_4] 26 (0, 0)) (by (with_reducible repeat (first | refine blk_drewN ?_ _ | refine blk_drew ?_ | refine blk_alloc ?_ _)); exact BK192.out) hb); have n1_ := Aside0.mk (below_step (by repeat (first | (with_reducible first | exact HB.out | apply below_alloc | apply pw_below_drewN | apply below_drew1 | refine below_set ?_ GE192.out) | exact HB.out)) hb); clear BK192; clear HB; have BK192 := n0_; have HB := n1_; clear n0_ n1_; (try clear hb); (try clear hb2); (try clear hk); (try clear hi); have hcz17_0 : w16.cell? ⟨gb192, 0, none⟩ = some (.int .i64 a0_0) := (blk_cell BK192.out 0).trans rfl; have hcz17_1 : w16.cell? ⟨gb192, 1, none⟩ = some (.int .i64 a0_1) := (blk_cell BK192.out 1).trans rfl; have hcz17_2 : w16.cell? ⟨gb192, 2, none⟩ = some (.slice A0_2 l0_2.length c0_2) := (blk_cell BK192.out 2).trans rfl; have hcz17_3 : w16.cell? ⟨gb192, 3, none⟩ = some (.slice A0_3 l0_3.length c0_3) := (blk_cell BK192.out 3).trans rfl; have hcz17_4 : w16.cell? ⟨gb192, 4, none⟩ = some (.slice A0_4 l0_4.length c0_4) := (blk_cell BK192.out 4).trans rfl; have hfz17_0 := blk_frozen BK192.out 0; have hfz17_1 := blk_frozen BK192.out 1; have hfz17_2 := blk_frozen BK192.out 2; have hfz17_3 := blk_frozen BK192.out 3; have hfz17_4 := blk_frozen BK192.out 4) | ((with_reducible refine gate_callee (f := 43) rfl ?_); refine goesL_ (some 16) rfl rfl Try.func43 (by kernel_rfl) rfl #[.agg #[.int .i64 a0_0, .int .i64 a0_1, .slice A0_2 l0_2.length c0_2, .slice A0_3 l0_3.length c0_3, .slice A0_4 l0_4.length c0_4]] rfl (by (try simp only [List.map_toArray, List.map_cons, List.map_nil]); first | done | rfl | (simp only [List.length_drop, List.length_take]; rfl)) ?_; (with_reducible refine (posserref04_Truths.calls k a0_0 a0_1 _ _ l0_2 _ _ l0_3 _ _ l0_4 t194 _ ?side1 ?side2 ?side3 ?side4 ?side5 ?side6 A6.out).mono ?_); (case side1 => repeat (first | exact (Kd.C_below HR0_2.out HB.out) | (with_reducible refine Kd.C_alloc ?_ _) | (with_reducible refine Kd.C_drewN ?_ _) | (with_reducible refine Kd.C_drew ?_))); (case side2 => exact HC0_2.out); (case side3 => repeat (first | exact (Kd.C_below HR0_3.out HB.out) | (with_reducible refine Kd.C_alloc ?_ _) | (with_reducible refine Kd.C_drewN ?_ _) | (with_reducible refine Kd.C_drew ?_))); (case side4 => exact HC0_3.out); (case side5 => repeat (first | exact (Kd.C_below HR0_4.out HB.out) | (with_reducible refine Kd.C_alloc ?_ _) | (with_reducible refine Kd.C_drewN ?_ _) | (with_reducible refine Kd.C_drew ?_))); (case side6 => exact HC0_4.out); rintro e w18 ⟨v195, rfl, ho0, hb⟩; refine ⟨_, rfl, ?_⟩; have n0_ := Aside0.mk (Kd.S_lower ho0 (below_size (by repeat (first | (with_reducible first | exact HB.out | apply below_alloc | apply pw_below_drewN | apply below_drew1 | refine below_set ?_ GE192.out) | exact HB.out)))); have n1_ := Aside0.mk (blk_below (g := gb192) (o := .cells #[.int .i64 a0_0, .int .i64 a0_1, .slice A0_2 l0_2.length c0_2, .slice A0_3 l0_3.length c0_3, .slice A0_4 l0_4.length c0_4] 26 (0, 0)) (by (with_reducible repeat (first | refine blk_drewN ?_ _ | refine blk_drew ?_ | refine blk_alloc ?_ _)); exact BK192.out) hb); have n2_ := Aside0.mk (below_step (by repeat (first | (with_reducible first | exact HB.out | apply below_alloc | apply pw_below_drewN | apply below_drew1 | refine below_set ?_ GE192.out) | exact HB.out)) hb); clear BK192; clear HB; have HO196 := n0_; have BK192 := n1_; have HB := n2_; clear n0_ n1_ n2_; (try clear hb); (try clear hb2); (try clear hk); (try clear hi); (try clear ho0); obtain ⟨Ao19, co19, eo19⟩ := Kd.S_slice HO196.out; subst eo19))
        go_ret2
        exact ⟨_, by first | rfl | (simp [errW_none, errW_some] <;> rfl) | (simp [*, errW_none, errW_some] <;> rfl), by (with_reducible repeat (first | apply Kd.S_alloc | apply Kd.S_drewN | apply Kd.S_drew)); exact HO196.out, by repeat (first | (with_reducible first | exact HB.out | apply below_alloc | apply pw_below_drewN | apply below_drew1 | refine below_set ?_ GE192.out) | exact HB.out)⟩
    · replace c5 := Bool.eq_false_iff.mpr c5
      subst c5
      have H1 : (some (([] : List (List Int)), 2)) = some (r1, r2) := by rw [if_neg (show ¬ (false = true) by decide)] at H; exact H
      clear H
      have H := H1
      clear H1
      simp only [Option.some.injEq, Prod.mk.injEq] at H
      obtain ⟨rfl, rfl⟩ := H
      go_enter Try.func28, Try.ntmps28
      go_wp2_with (first | ((with_reducible refine gate_dst (N := 2) rfl ?_); refine box_event ?hg (N := 2) ?hd (cs := #[.int .i64 a0_0, .int .i64 a0_1, .slice A0_2 l0_2.length c0_2, .slice A0_3 l0_3.length c0_3, .slice A0_4 l0_4.length c0_4]) (t := 26) ?hr ?_; (case hd => rfl); (case hg => rfl); (case hr => first | (go_simp; done) | (go_simp; rfl)); intro gb192 hg w20 hbox hb; have n0_ := Aside0.mk (below_step (by repeat (first | (with_reducible first | exact HB.out | apply below_alloc | apply pw_below_drewN | apply below_drew1) | exact HB.out)) hb); have n1_ := Aside0.mk (hbox); have n2_ := Aside0.mk ((by rw [hg]; exact (below_size (by repeat (first | (with_reducible first | exact HB.out | apply below_alloc | apply pw_below_drewN | apply below_drew1) | exact HB.out))) : w.heap.size ≤ gb192)); have n3_ := Aside0.mk ((by rw [hg]; exact (below_size (by repeat (first | (with_reducible first | exact HB.out | apply below_alloc | apply pw_below_drewN | apply below_drew1) | exact HB.out))) : w.heap.size ≤ gb192)); clear HB; have HB := n0_; have BK192 := n1_; have GW192 := n2_; have GE192 := n3_; clear n0_ n1_ n2_ n3_; clear hb hbox hg; have hcz21_0 : w20.cell? ⟨gb192, 0, none⟩ = some (.int .i64 a0_0) := (blk_cell BK192.out 0).trans rfl; have hcz21_1 : w20.cell? ⟨gb192, 1, none⟩ = some (.int .i64 a0_1) := (blk_cell BK192.out 1).trans rfl; have hcz21_2 : w20.cell? ⟨gb192, 2, none⟩ = some (.slice A0_2 l0_2.length c0_2) := (blk_cell BK192.out 2).trans rfl; have hcz21_3 : w20.cell? ⟨gb192, 3, none⟩ = some (.slice A0_3 l0_3.length c0_3) := (blk_cell BK192.out 3).trans rfl; have hcz21_4 : w20.cell? ⟨gb192, 4, none⟩ = some (.slice A0_4 l0_4.length c0_4) := (blk_cell BK192.out 4).trans rfl; have hfz21_0 := blk_frozen BK192.out 0; have hfz21_1 := blk_frozen BK192.out 1; have hfz21_2 := blk_frozen BK192.out 2; have hfz21_3 := blk_frozen BK192.out 3; have hfz21_4 := blk_frozen BK192.out 4) | ((with_reducible refine gate_callee (f := 36) rfl ?_); refine goesL_ (some 9) rfl rfl Try.func36 (by kernel_rfl) rfl #[.agg #[.int .i64 a0_0, .int .i64 a0_1, .slice A0_2 l0_2.length c0_2, .slice A0_3 l0_3.length c0_3, .slice A0_4 l0_4.length c0_4]] rfl (by (try simp only [List.map_toArray, List.map_cons, List.map_nil]); first | done | rfl | (simp only [List.length_drop, List.length_take]; rfl)) ?_; (with_reducible refine (posserlaw04_fault.calls a0_0 a0_1 _ _ l0_2 _ _ l0_3 _ _ l0_4 t193 _ ?side1 ?side2 ?side3 ?side4 ?side5 ?side6 A3.out).mono ?_); (case side1 => repeat (first | exact (Kd.C_below HR0_2.out HB.out) | (with_reducible refine Kd.C_alloc ?_ _) | (with_reducible refine Kd.C_drewN ?_ _) | (with_reducible refine Kd.C_drew ?_))); (case side2 => exact HC0_2.out); (case side3 => repeat (first | exact (Kd.C_below HR0_3.out HB.out) | (with_reducible refine Kd.C_alloc ?_ _) | (with_reducible refine Kd.C_drewN ?_ _) | (with_reducible refine Kd.C_drew ?_))); (case side4 => exact HC0_3.out); (case side5 => repeat (first | exact (Kd.C_below HR0_4.out HB.out) | (with_reducible refine Kd.C_alloc ?_ _) | (with_reducible refine Kd.C_drewN ?_ _) | (with_reducible refine Kd.C_drew ?_))); (case side6 => exact HC0_4.out); rintro e w22 ⟨rfl, hb⟩; refine ⟨_, rfl, ?_⟩; have n0_ := Aside0.mk (blk_below (g := gb192) (o := .cells #[.int .i64 a0_0, .int .i64 a0_1, .slice A0_2 l0_2.length c0_2, .slice A0_3 l0_3.length c0_3, .slice A0_4 l0_4.length c0_4] 26 (0, 0)) (by (with_reducible repeat (first | refine blk_drewN ?_ _ | refine blk_drew ?_ | refine blk_alloc ?_ _)); exact BK192.out) hb); have n1_ := Aside0.mk (below_step (by repeat (first | (with_reducible first | exact HB.out | apply below_alloc | apply pw_below_drewN | apply below_drew1 | refine below_set ?_ GE192.out) | exact HB.out)) hb); clear BK192; clear HB; have BK192 := n0_; have HB := n1_; clear n0_ n1_; (try clear hb); (try clear hb2); (try clear hk); (try clear hi)))
      go_ret2
      exact ⟨_, by first | rfl | (simp [errW_none, errW_some] <;> rfl) | (simp [*, errW_none, errW_some] <;> rfl), by first | exact Kd.S_nil _ _ _ _ _ | exact Kd.N_nil _ _ _ _ _ | exact Kd.V_nil _ _ _ _ _ | exact Kd.Q_nil _ _ _ _ _ | exact Kd.R_nil _ _ _ _ _, by repeat (first | (with_reducible first | exact HB.out | apply below_alloc | apply pw_below_drewN | apply below_drew1 | refine below_set ?_ GE192.out) | exact HB.out)⟩
  · rw [if_neg c4] at H
    have c4b0 : (t193 == 0) = false := beq_eq_false_iff_ne.mpr c4
    have c4b1 : (t193 != 0) = true := bne_iff_ne.mpr c4
    simp only [Option.some.injEq, Prod.mk.injEq] at H
    obtain ⟨rfl, rfl⟩ := H
    go_enter Try.func28, Try.ntmps28
    go_wp2_with (first | ((with_reducible refine gate_dst (N := 2) rfl ?_); refine box_event ?hg (N := 2) ?hd (cs := #[.int .i64 a0_0, .int .i64 a0_1, .slice A0_2 l0_2.length c0_2, .slice A0_3 l0_3.length c0_3, .slice A0_4 l0_4.length c0_4]) (t := 26) ?hr ?_; (case hd => rfl); (case hg => rfl); (case hr => first | (go_simp; done) | (go_simp; rfl)); intro gb192 hg w23 hbox hb; have n0_ := Aside0.mk (below_step (by repeat (first | (with_reducible first | exact HB.out | apply below_alloc | apply pw_below_drewN | apply below_drew1) | exact HB.out)) hb); have n1_ := Aside0.mk (hbox); have n2_ := Aside0.mk ((by rw [hg]; exact (below_size (by repeat (first | (with_reducible first | exact HB.out | apply below_alloc | apply pw_below_drewN | apply below_drew1) | exact HB.out))) : w.heap.size ≤ gb192)); have n3_ := Aside0.mk ((by rw [hg]; exact (below_size (by repeat (first | (with_reducible first | exact HB.out | apply below_alloc | apply pw_below_drewN | apply below_drew1) | exact HB.out))) : w.heap.size ≤ gb192)); clear HB; have HB := n0_; have BK192 := n1_; have GW192 := n2_; have GE192 := n3_; clear n0_ n1_ n2_ n3_; clear hb hbox hg; have hcz24_0 : w23.cell? ⟨gb192, 0, none⟩ = some (.int .i64 a0_0) := (blk_cell BK192.out 0).trans rfl; have hcz24_1 : w23.cell? ⟨gb192, 1, none⟩ = some (.int .i64 a0_1) := (blk_cell BK192.out 1).trans rfl; have hcz24_2 : w23.cell? ⟨gb192, 2, none⟩ = some (.slice A0_2 l0_2.length c0_2) := (blk_cell BK192.out 2).trans rfl; have hcz24_3 : w23.cell? ⟨gb192, 3, none⟩ = some (.slice A0_3 l0_3.length c0_3) := (blk_cell BK192.out 3).trans rfl; have hcz24_4 : w23.cell? ⟨gb192, 4, none⟩ = some (.slice A0_4 l0_4.length c0_4) := (blk_cell BK192.out 4).trans rfl; have hfz24_0 := blk_frozen BK192.out 0; have hfz24_1 := blk_frozen BK192.out 1; have hfz24_2 := blk_frozen BK192.out 2; have hfz24_3 := blk_frozen BK192.out 3; have hfz24_4 := blk_frozen BK192.out 4) | ((with_reducible refine gate_callee (f := 36) rfl ?_); refine goesL_ (some 9) rfl rfl Try.func36 (by kernel_rfl) rfl #[.agg #[.int .i64 a0_0, .int .i64 a0_1, .slice A0_2 l0_2.length c0_2, .slice A0_3 l0_3.length c0_3, .slice A0_4 l0_4.length c0_4]] rfl (by (try simp only [List.map_toArray, List.map_cons, List.map_nil]); first | done | rfl | (simp only [List.length_drop, List.length_take]; rfl)) ?_; (with_reducible refine (posserlaw04_fault.calls a0_0 a0_1 _ _ l0_2 _ _ l0_3 _ _ l0_4 t193 _ ?side1 ?side2 ?side3 ?side4 ?side5 ?side6 A3.out).mono ?_); (case side1 => repeat (first | exact (Kd.C_below HR0_2.out HB.out) | (with_reducible refine Kd.C_alloc ?_ _) | (with_reducible refine Kd.C_drewN ?_ _) | (with_reducible refine Kd.C_drew ?_))); (case side2 => exact HC0_2.out); (case side3 => repeat (first | exact (Kd.C_below HR0_3.out HB.out) | (with_reducible refine Kd.C_alloc ?_ _) | (with_reducible refine Kd.C_drewN ?_ _) | (with_reducible refine Kd.C_drew ?_))); (case side4 => exact HC0_3.out); (case side5 => repeat (first | exact (Kd.C_below HR0_4.out HB.out) | (with_reducible refine Kd.C_alloc ?_ _) | (with_reducible refine Kd.C_drewN ?_ _) | (with_reducible refine Kd.C_drew ?_))); (case side6 => exact HC0_4.out); rintro e w25 ⟨rfl, hb⟩; refine ⟨_, rfl, ?_⟩; have n0_ := Aside0.mk (blk_below (g := gb192) (o := .cells #[.int .i64 a0_0, .int .i64 a0_1, .slice A0_2 l0_2.length c0_2, .slice A0_3 l0_3.length c0_3, .slice A0_4 l0_4.length c0_4] 26 (0, 0)) (by (with_reducible repeat (first | refine blk_drewN ?_ _ | refine blk_drew ?_ | refine blk_alloc ?_ _)); exact BK192.out) hb); have n1_ := Aside0.mk (below_step (by repeat (first | (with_reducible first | exact HB.out | apply below_alloc | apply pw_below_drewN | apply below_drew1 | refine below_set ?_ GE192.out) | exact HB.out)) hb); clear BK192; clear HB; have BK192 := n0_; have HB := n1_; clear n0_ n1_; (try clear hb); (try clear hb2); (try clear hk); (try clear hi)))
    go_ret2
    exact ⟨_, by first | rfl | (simp [errW_none, errW_some] <;> rfl) | (simp [*, errW_none, errW_some] <;> rfl), by first | exact Kd.S_nil _ _ _ _ _ | exact Kd.N_nil _ _ _ _ _ | exact Kd.V_nil _ _ _ _ _ | exact Kd.Q_nil _ _ _ _ _ | exact Kd.R_nil _ _ _ _ _, by repeat (first | (with_reducible first | exact HB.out | apply below_alloc | apply pw_below_drewN | apply below_drew1 | refine below_set ?_ GE192.out) | exact HB.out)⟩
def posserlaw04_sure.f (k : Nat) (a0_0 : Int) (a0_1 : Int) (l0_2 : List (S68)) (l0_3 : List Int) (l0_4 : List (S84)) : Option ((List (List Int)) × Int) := (posserlaw04_placed.f k a0_0 a0_1 l0_2 l0_3 l0_4 true).bind fun bt246 => (some (bt246.1, bt246.2))
set_option maxHeartbeats 8000000 in
set_option maxRecDepth 100000 in
theorem posserlaw04_sure.calls (k : Nat) (a0_0 : Int) (a0_1 : Int) (A0_2 : Option Addr) (c0_2 : Nat) (l0_2 : List (S68)) (A0_3 : Option Addr) (c0_3 : Nat) (l0_3 : List Int) (A0_4 : Option Addr) (c0_4 : Nat) (l0_4 : List (S84)) (r1 : List (List Int)) (r2 : Int) (w : World) (hr0_2 : Kd.C k68 w A0_2 l0_2.length l0_2) (hc0_2 : l0_2.length ≤ c0_2) (hr0_3 : Kd.C (Kd.int .i64) w A0_3 l0_3.length l0_3) (hc0_3 : l0_3.length ≤ c0_3) (hr0_4 : Kd.C k84 w A0_4 l0_4.length l0_4) (hc0_4 : l0_4.length ≤ c0_4) (h : posserlaw04_sure.f k a0_0 a0_1 l0_2 l0_3 l0_4 = some (r1, r2)) :
    Calls Try.prog 32 #[.agg #[.int .i64 a0_0, .int .i64 a0_1, .slice A0_2 l0_2.length c0_2, .slice A0_3 l0_3.length c0_3, .slice A0_4 l0_4.length c0_4]] w fun e w' => ∃ v0_ : Value, e = .returned (.tuple #[v0_, .int .i64 r2]) ∧ Kd.S (Kd.slice 3 (Kd.int .i64)) 23 w' w.heap.size (fun _ => True) v0_ r1 ∧ Below w.heap.size w w' := by
  have hu26 := Try.underlying26
  have HR0_2 := Aside0.mk hr0_2
  have HC0_2 := Aside0.mk hc0_2
  clear hr0_2 hc0_2
  have HR0_3 := Aside0.mk hr0_3
  have HC0_3 := Aside0.mk hc0_3
  clear hr0_3 hc0_3
  have HR0_4 := Aside0.mk hr0_4
  have HC0_4 := Aside0.mk hc0_4
  clear hr0_4 hc0_4
  have HB := Aside0.mk (Below.refl w.heap.size w)
  have H : ((posserlaw04_placed.f k a0_0 a0_1 l0_2 l0_3 l0_4 true).bind fun bt246 => (some (bt246.1, bt246.2))) = some (r1, r2) := h
  clear h
  replace H := Option.bind_eq_some_iff.mp H
  obtain ⟨⟨t246, t249⟩, A20, H⟩ := H
  replace H : (some (t246, t249)) = some (r1, r2) := H
  have A2 := Aside0.mk A20
  clear A20
  simp only [Option.some.injEq, Prod.mk.injEq] at H
  obtain ⟨rfl, rfl⟩ := H
  go_enter Try.func32, Try.ntmps32
  go_wp2_with (first | ((with_reducible refine gate_dst (N := 1) rfl ?_); refine box_event ?hg (N := 1) ?hd (cs := #[.int .i64 a0_0, .int .i64 a0_1, .slice A0_2 l0_2.length c0_2, .slice A0_3 l0_3.length c0_3, .slice A0_4 l0_4.length c0_4]) (t := 26) ?hr ?_; (case hd => rfl); (case hg => rfl); (case hr => first | (go_simp; done) | (go_simp; rfl)); intro gb245 hg w3 hbox hb; have n0_ := Aside0.mk (below_step (by repeat (first | (with_reducible first | exact HB.out | apply below_alloc | apply pw_below_drewN | apply below_drew1) | exact HB.out)) hb); have n1_ := Aside0.mk (hbox); have n2_ := Aside0.mk ((by rw [hg]; exact (below_size (by repeat (first | (with_reducible first | exact HB.out | apply below_alloc | apply pw_below_drewN | apply below_drew1) | exact HB.out))) : w.heap.size ≤ gb245)); have n3_ := Aside0.mk ((by rw [hg]; exact (below_size (by repeat (first | (with_reducible first | exact HB.out | apply below_alloc | apply pw_below_drewN | apply below_drew1) | exact HB.out))) : w.heap.size ≤ gb245)); clear HB; have HB := n0_; have BK245 := n1_; have GW245 := n2_; have GE245 := n3_; clear n0_ n1_ n2_ n3_; clear hb hbox hg; have hcz4_0 : w3.cell? ⟨gb245, 0, none⟩ = some (.int .i64 a0_0) := (blk_cell BK245.out 0).trans rfl; have hcz4_1 : w3.cell? ⟨gb245, 1, none⟩ = some (.int .i64 a0_1) := (blk_cell BK245.out 1).trans rfl; have hcz4_2 : w3.cell? ⟨gb245, 2, none⟩ = some (.slice A0_2 l0_2.length c0_2) := (blk_cell BK245.out 2).trans rfl; have hcz4_3 : w3.cell? ⟨gb245, 3, none⟩ = some (.slice A0_3 l0_3.length c0_3) := (blk_cell BK245.out 3).trans rfl; have hcz4_4 : w3.cell? ⟨gb245, 4, none⟩ = some (.slice A0_4 l0_4.length c0_4) := (blk_cell BK245.out 4).trans rfl; have hfz4_0 := blk_frozen BK245.out 0; have hfz4_1 := blk_frozen BK245.out 1; have hfz4_2 := blk_frozen BK245.out 2; have hfz4_3 := blk_frozen BK245.out 3; have hfz4_4 := blk_frozen BK245.out 4) | ((with_reducible refine gate_callee (f := 28) rfl ?_); refine goesL_ (some 5) rfl rfl Try.func28 (by kernel_rfl) rfl #[.agg #[.int .i64 a0_0, .int .i64 a0_1, .slice A0_2 l0_2.length c0_2, .slice A0_3 l0_3.length c0_3, .slice A0_4 l0_4.length c0_4], .bool true] rfl (by (try simp only [List.map_toArray, List.map_cons, List.map_nil]); first | done | rfl | (simp only [List.length_drop, List.length_take]; rfl)) ?_; (with_reducible refine (posserlaw04_placed.calls k a0_0 a0_1 _ _ l0_2 _ _ l0_3 _ _ l0_4 true t246 t249 _ ?side1 ?side2 ?side3 ?side4 ?side5 ?side6 A2.out).mono ?_); (case side1 => repeat (first | exact (Kd.C_below HR0_2.out HB.out) | (with_reducible refine Kd.C_alloc ?_ _) | (with_reducible refine Kd.C_drewN ?_ _) | (with_reducible refine Kd.C_drew ?_))); (case side2 => exact HC0_2.out); (case side3 => repeat (first | exact (Kd.C_below HR0_3.out HB.out) | (with_reducible refine Kd.C_alloc ?_ _) | (with_reducible refine Kd.C_drewN ?_ _) | (with_reducible refine Kd.C_drew ?_))); (case side4 => exact HC0_3.out); (case side5 => repeat (first | exact (Kd.C_below HR0_4.out HB.out) | (with_reducible refine Kd.C_alloc ?_ _) | (with_reducible refine Kd.C_drewN ?_ _) | (with_reducible refine Kd.C_drew ?_))); (case side6 => exact HC0_4.out); rintro e w5 ⟨v247, rfl, ho0, hb⟩; refine ⟨_, rfl, ?_⟩; have n0_ := Aside0.mk (Kd.S_lower ho0 (below_size (by repeat (first | (with_reducible first | exact HB.out | apply below_alloc | apply pw_below_drewN | apply below_drew1 | refine below_set ?_ GE245.out) | exact HB.out)))); have n1_ := Aside0.mk (blk_below (g := gb245) (o := .cells #[.int .i64 a0_0, .int .i64 a0_1, .slice A0_2 l0_2.length c0_2, .slice A0_3 l0_3.length c0_3, .slice A0_4 l0_4.length c0_4] 26 (0, 0)) (by (with_reducible repeat (first | refine blk_drewN ?_ _ | refine blk_drew ?_ | refine blk_alloc ?_ _)); exact BK245.out) hb); have n2_ := Aside0.mk (below_step (by repeat (first | (with_reducible first | exact HB.out | apply below_alloc | apply pw_below_drewN | apply below_drew1 | refine below_set ?_ GE245.out) | exact HB.out)) hb); clear BK245; clear HB; have HO248 := n0_; have BK245 := n1_; have HB := n2_; clear n0_ n1_ n2_; (try clear hb); (try clear hb2); (try clear hk); (try clear hi); (try clear ho0)))
  go_ret2
  exact ⟨_, by first | rfl | (simp [errW_none, errW_some] <;> rfl) | (simp [*, errW_none, errW_some] <;> rfl), by (with_reducible repeat (first | apply Kd.S_alloc | apply Kd.S_drewN | apply Kd.S_drew)); exact HO248.out, by repeat (first | (with_reducible first | exact HB.out | apply below_alloc | apply pw_below_drewN | apply below_drew1 | refine below_set ?_ GE245.out) | exact HB.out)⟩
end Go.Proofs.Ytokhmghgghjmhaa.Q
namespace Go.Proofs.Ytokhmghgghjmhaa.Q
open Go.RowKit Go.Proofs.YtokhmghgghjmhaaW.PrintWords Go.Proofs.YtokhmghgghjmhaaW.PrintLast Go.Proofs.YtokhmghgghjmhaaW.PrintMore
set_option linter.unusedVariables false
def atF (p : List Int) (x : Int) : Nat → Nat → Int
  | 0, _ => -1
  | d + 1, i => if rd p i = x then (i : Int) else atF p x d (i + 1)
theorem at_l0 (p : List Int) (x : Int) (hl : p.length ≤ 1000) : ∀ (d i k : Nat), i + d = p.length → d < k → posserref04_at.l0 k p x i = some (atF p x d i)
  | 0, i, k, h, hk => by
    obtain ⟨k, rfl⟩ : ∃ m, k = m + 1 := ⟨k - 1, by omega⟩
    simp only [posserref04_at.l0, atF]
    rw [if_neg (by omega)]
  | d + 1, i, k, h, hk => by
    obtain ⟨k, rfl⟩ : ∃ m, k = m + 1 := ⟨k - 1, by omega⟩
    have ih := at_l0 p x hl d (i + 1) k (by omega) (by omega)
    simp only [posserref04_at.l0, atF]
    rw [if_pos (by omega), if_pos (by omega), show wrap64 ((i : Int) + 1) = ((i + 1 : Nat) : Int) from by unfold wrap64; omega, ih]
    split <;> rfl
theorem at_f (p : List Int) (x : Int) (hl : p.length ≤ 1000) (k : Nat) (hk : 1000 < k) : posserref04_at.f k p x = some (atF p x p.length 0) := by
  unfold posserref04_at.f
  exact at_l0 p x hl p.length 0 k (by omega) (by omega)
theorem atF_tells (p : List Int) (x : Int) : ∀ (d i : Nat), i + d = p.length → (∃ j : Nat, i ≤ j ∧ j < p.length ∧ rd p j = x ∧ atF p x d i = j) ∨ ((∀ j : Nat, i ≤ j → j < p.length → rd p j ≠ x) ∧ atF p x d i = -1)
  | 0, i, h => .inr ⟨fun j h1 h2 => by omega, rfl⟩
  | d + 1, i, h => by
    simp only [atF]
    by_cases e : rd p i = x
    · exact .inl ⟨i, Nat.le_refl _, by omega, e, by rw [if_pos e]⟩
    · rw [if_neg e]
      rcases atF_tells p x d (i + 1) (by omega) with ⟨j, h1, h2, h3, h4⟩ | ⟨h1, h2⟩
      · exact .inl ⟨j, by omega, h2, h3, h4⟩
      · refine .inr ⟨fun j h3 h4 => ?_, h2⟩
        by_cases hj : j = i
        · subst hj; exact e
        · exact h1 j (by omega) h4
/-- What the horses in one closet add. -/
def sW (hs : List S139) (p : List Int) (x : Int) : Nat → Int
  | 0 => 0
  | k + 1 => sW hs p x k + (if rd p k = x then (rd_T139 hs k).f1 else 0)
theorem adds_sW (hs : List S139) (p : List Int) (i : Nat) : ∀ n, adds hs p i n = sW hs p (rd p i - 1) n + sW hs p (rd p i + 1) n
  | 0 => rfl
  | n + 1 => by
    simp only [adds, sW, adds_sW hs p i n, wet]
    by_cases h1 : rd p n = rd p i - 1
    · rw [if_pos (.inl (by omega)), if_pos h1, if_neg (by omega)]; omega
    · by_cases h2 : rd p n = rd p i + 1
      · rw [if_pos (.inr (by omega)), if_neg h1, if_pos h2]; omega
      · rw [if_neg (by omega), if_neg h1, if_neg h2]; omega
theorem sW_none (hs : List S139) (p : List Int) (x : Int) : ∀ n, (∀ j : Nat, j < n → rd p j ≠ x) → sW hs p x n = 0
  | 0, _ => rfl
  | n + 1, h => by
    simp only [sW]
    rw [sW_none hs p x n (fun j hj => h j (by omega)), if_neg (h n (by omega))]
    rfl
theorem sW_one (hs : List S139) (p : List Int) (x : Int) (j : Nat) (hx : rd p j = x) : ∀ n, j < n → (∀ m : Nat, m < n → m ≠ j → rd p m ≠ x) → sW hs p x n = (rd_T139 hs j).f1
  | 0, h, _ => by omega
  | n + 1, h, hm => by
    simp only [sW]
    by_cases e : j = n
    · subst e
      rw [sW_none hs p x j (fun m h1 => hm m (by omega) (by omega)), if_pos hx]
      omega
    · rw [sW_one hs p x j hx n (by omega) (fun m h1 h2 => hm m (by omega) h2), if_neg (hm n (by omega) (by omega))]
      omega
theorem at_sW {cs : Int} {n : Nat} {p : List Int} (P : Pl cs n p) (hs : List S139) (x : Int) : (atF p x p.length 0 = -1 ∧ sW hs p x p.length = 0) ∨ ∃ j : Nat, j < p.length ∧ atF p x p.length 0 = j ∧ sW hs p x p.length = (rd_T139 hs j).f1 := by
  rcases atF_tells p x p.length 0 (by omega) with ⟨j, _, h2, h3, h4⟩ | ⟨h1, h2⟩
  · exact .inr ⟨j, h2, h4, sW_one hs p x j h3 _ h2 (fun m h5 h6 e => P.apart m j h5 h2 h6 (e.trans h3.symm))⟩
  · exact .inl ⟨h2, sW_none hs p x _ (fun j hj => h1 j (Nat.zero_le _) hj)⟩
theorem minute_f {cs cl : Int} {hs : List S68} {hung : List Int} {looks : List S84} {p d : List Int} (P : Pl cs hs.length p) (hcs : cs ≤ 1000) (h4 : hs.length ≤ 4) (hw : Wets (hs.map toH)) (hd : d.length = hs.length) (hdb : ∀ i : Nat, 0 ≤ rd d i ∧ rd d i ≤ 60)
    (i : Nat) (hi : i < hs.length) (k : Nat) (hk : 1000 < k) : posserref04_Minute.f k cs cl hs hung looks p d i = some (mins (hs.map toH) p (fun j => rd d j) i) := by
  have hpl := P.len
  have hin := P.inside i (by omega)
  have hdi := hdb i
  have hA := adds_sW (hs.map toH) p i p.length
  have hm : mins (hs.map toH) p (fun j => rd d j) i = rd d i + (sW (hs.map toH) p (rd p i - 1) p.length + sW (hs.map toH) p (rd p i + 1) p.length) := by
    unfold mins
    rw [if_pos (by omega), hA]
  have hwb : ∀ j : Nat, j < hs.length → (rd_T139 (hs.map toH) j).f1 = (rd_T68 hs j).f1 ∧ 0 ≤ (rd_T68 hs j).f1 ∧ (rd_T68 hs j).f1 ≤ 9 := by
    intro j hj
    have h1 := hw j (by simpa using hj)
    have h2 := rd_toH hs j
    rw [h2] at h1 ⊢
    exact ⟨rfl, h1⟩
  unfold posserref04_Minute.f
  have e1 : wrap64 (rd p (i : Int) - 1) = rd p i - 1 := by unfold wrap64; omega
  have e2 : wrap64 (rd p (i : Int) + 1) = rd p i + 1 := by unfold wrap64; omega
  rw [if_pos (by omega), if_pos (by omega), if_pos (by omega), e1, e2, at_f p _ (by omega) k hk, at_f p _ (by omega) k hk, hm]
  simp only [Option.bind_some]
  rcases at_sW P (hs.map toH) (rd p i - 1) with ⟨a1, b1⟩ | ⟨j1, c1, a1, b1⟩
  · rw [a1, b1, if_neg (by omega)]
    rcases at_sW P (hs.map toH) (rd p i + 1) with ⟨a2, b2⟩ | ⟨j2, c2, a2, b2⟩
    · rw [a2, b2, if_neg (by omega)]
      simp
    · obtain ⟨g1, g2, g3⟩ := hwb j2 (by omega)
      rw [a2, b2, if_pos (by omega), if_pos (by omega), if_pos (by omega), g1]
      congr 1
      unfold wrap64
      omega
  · obtain ⟨f1, f2, f3⟩ := hwb j1 (by omega)
    rw [a1, b1, if_pos (by omega), if_pos (by omega), if_pos (by omega), f1]
    rcases at_sW P (hs.map toH) (rd p i + 1) with ⟨a2, b2⟩ | ⟨j2, c2, a2, b2⟩
    · rw [a2, b2, if_neg (by omega)]
      congr 1
      unfold wrap64
      omega
    · obtain ⟨g1, g2, g3⟩ := hwb j2 (by omega)
      rw [a2, b2, if_pos (by omega), if_pos (by omega), if_pos (by omega), g1]
      congr 1
      unfold wrap64
      omega
end Go.Proofs.Ytokhmghgghjmhaa.Q
namespace Go.Proofs.Ytokhmghgghjmhaa.Q
open Go.RowKit Go.Proofs.YtokhmghgghjmhaaW.PrintWords Go.Proofs.YtokhmghgghjmhaaW.PrintLast Go.Proofs.YtokhmghgghjmhaaW.PrintMore
set_option linter.unusedVariables false
def nthF (hs : List S139) : Nat → Nat → Nat → List Int
  | 0, _, _ => []
  | d + 1, i, n => ((rd_T139 hs i).f0.f0 + ((n % szN hs i : Nat) : Int)) :: nthF hs d (i + 1) (n / szN hs i)
/-- Each horse's dry numbers are some, and few. -/
def Dries (hs : List S139) : Prop := ∀ i : Nat, i < hs.length → 1 ≤ (rd_T139 hs i).f0.f0 ∧ (rd_T139 hs i).f0.f0 ≤ (rd_T139 hs i).f0.f1 ∧ (rd_T139 hs i).f0.f1 ≤ 60
theorem sz_ok {hs : List S139} (D : Dries hs) (i : Nat) (hi : i < hs.length) : (szN hs i : Int) = (rd_T139 hs i).f0.f1 + 1 - (rd_T139 hs i).f0.f0 ∧ 1 ≤ szN hs i ∧ szN hs i ≤ 60 := by
  have := D i hi
  unfold szN
  omega
theorem nthF_len (hs : List S139) : ∀ (d i n : Nat), (nthF hs d i n).length = d
  | 0, _, _ => rfl
  | d + 1, i, n => by simp only [nthF, List.length_cons, nthF_len hs d (i + 1)]
theorem rd_cons0 (a : Int) (l : List Int) : rd (a :: l) ((0 : Nat) : Int) = a := by rw [rd_nn]; rfl
theorem rd_cons (a : Int) (l : List Int) (j : Nat) : rd (a :: l) ((j + 1 : Nat) : Int) = rd l j := by rw [rd_nn, rd_nn]; rfl
theorem rd_out (l : List Int) (j : Nat) (h : l.length ≤ j) : rd l j = 0 := by
  rw [rd_nn, List.getD_eq_getElem?_getD, List.getElem?_eq_none h]; rfl
theorem nthF_box {hs : List S139} (D : Dries hs) : ∀ (d i n j : Nat), i + d = hs.length → j < d → (rd_T139 hs (i + j : Nat)).f0.f0 ≤ rd (nthF hs d i n) j ∧ rd (nthF hs d i n) j ≤ (rd_T139 hs (i + j : Nat)).f0.f1
  | 0, i, n, j, _, hj => by omega
  | d + 1, i, n, 0, h, hj => by
    have h1 := sz_ok D i (by omega)
    have h2 := Nat.mod_lt n h1.2.1
    simp only [nthF, Nat.add_zero]
    rw [rd_cons0]
    omega
  | d + 1, i, n, j + 1, h, hj => by
    have ih := nthF_box D d (i + 1) (n / szN hs i) j (by omega) (by omega)
    simp only [nthF]
    rw [rd_cons, show i + (j + 1) = i + 1 + j from by omega]
    exact ih
/-- Each row of dry numbers has a number. -/
theorem nthF_surj {hs : List S139} (D : Dries hs) : ∀ (d i : Nat) (y : Nat → Int), i + d = hs.length → (∀ j : Nat, j < d → (rd_T139 hs (i + j : Nat)).f0.f0 ≤ y j ∧ y j ≤ (rd_T139 hs (i + j : Nat)).f0.f1) →
    ∃ n, n < prN hs d i ∧ ∀ j : Nat, j < d → rd (nthF hs d i n) j = y j
  | 0, i, y, _, _ => ⟨0, by simp [prN], fun j hj => by omega⟩
  | d + 1, i, y, h, hy => by
    have h1 := sz_ok D i (by omega)
    have h0 := hy 0 (by omega)
    obtain ⟨m, hm, hmj⟩ := nthF_surj D d (i + 1) (fun j => y (j + 1)) (by omega) (fun j hj => by rw [show i + 1 + j = i + (j + 1) from by omega]; exact hy (j + 1) (by omega))
    simp only [Nat.add_zero] at h0
    obtain ⟨r, hr⟩ : ∃ r : Nat, (r : Int) = y 0 - (rd_T139 hs i).f0.f0 := ⟨(y 0 - (rd_T139 hs i).f0.f0).toNat, by omega⟩
    have hrs : r < szN hs i := by omega
    refine ⟨m * szN hs i + r, ?_, fun j hj => ?_⟩
    · simp only [prN]
      have : (m + 1) * szN hs i ≤ prN hs d (i + 1) * szN hs i := Nat.mul_le_mul_right _ hm
      rw [Nat.mul_comm (szN hs i)]
      rw [Nat.add_mul, Nat.one_mul] at this
      omega
    · have e1 : (m * szN hs i + r) % szN hs i = r := by rw [Nat.mul_comm, Nat.mul_add_mod, Nat.mod_eq_of_lt hrs]
      have e2 : (m * szN hs i + r) / szN hs i = m := by rw [Nat.mul_comm, Nat.mul_add_div (by omega), Nat.div_eq_of_lt hrs]; omega
      simp only [nthF]
      rw [e1, e2]
      cases j with
      | zero => rw [rd_cons0]; omega
      | succ j => rw [rd_cons]; exact hmj j (by omega)
/-- Each row in the ranges is among all. -/
theorem allN_of (hs : List S139) : ∀ (d h : Nat) (x y : Nat → Int), (∀ i, i < h ∨ h + d ≤ i → y i = x i) → (∀ i : Nat, h ≤ i → i < h + d → (rd_T139 hs i).f0.f0 ≤ y i ∧ y i ≤ (rd_T139 hs i).f0.f1) → y ∈ allN hs d h x
  | 0, h, x, y, h1, _ => by
    simp only [allN, List.mem_singleton]
    exact funext fun i => h1 i (by omega)
  | d + 1, h, x, y, h1, h2 => by
    have hh := h2 h (Nat.le_refl _) (by omega)
    simp only [allN, List.mem_flatMap]
    refine ⟨y h, ?_, ?_⟩
    · simp only [vals, List.mem_map, List.mem_range]
      exact ⟨(y h - (rd_T139 hs h).f0.f0).toNat, by omega, by omega⟩
    · refine allN_of hs d (h + 1) (upd x h (y h)) y (fun i hi => ?_) (fun i hi1 hi2 => h2 i (by omega) (by omega))
      unfold upd
      split
      · rename_i e; rw [e]
      · exact h1 i (by omega)
theorem dries_iff {hs : List S139} (y : Nat → Int) : y ∈ dries hs ↔ (∀ i, hs.length ≤ i → y i = 0) ∧ ∀ i : Nat, i < hs.length → (rd_T139 hs i).f0.f0 ≤ y i ∧ y i ≤ (rd_T139 hs i).f0.f1 := by
  constructor
  · intro h
    obtain ⟨h1, h2⟩ := allN_mem hs hs.length 0 _ y (by omega) h
    exact ⟨fun i hi => h1 i (.inr hi), fun i hi => h2 i (Nat.zero_le _) hi⟩
  · rintro ⟨h1, h2⟩
    exact allN_of hs hs.length 0 (fun _ => 0) y (fun i hi => h1 i (by omega)) (fun i _ hi => h2 i (by omega))
/-- The dry numbers with the numbers are all dry numbers. -/
theorem nth_dries {hs : List S139} (D : Dries hs) (n : Nat) : nums (nthF hs hs.length 0 n) ∈ dries hs := by
  refine (dries_iff _).2 ⟨fun i hi => rd_out _ _ (by rw [nthF_len]; exact hi), fun i hi => ?_⟩
  have := nthF_box D hs.length 0 n i (by omega) hi
  rwa [Nat.zero_add] at this
theorem dries_nth {hs : List S139} (D : Dries hs) {y : Nat → Int} (h : y ∈ dries hs) : ∃ n, n < prN hs hs.length 0 ∧ nums (nthF hs hs.length 0 n) = y := by
  obtain ⟨h1, h2⟩ := (dries_iff y).1 h
  obtain ⟨n, hn, hj⟩ := nthF_surj D hs.length 0 y (by omega) (fun j hj => by rw [Nat.zero_add]; exact h2 j hj)
  refine ⟨n, hn, funext fun i => ?_⟩
  by_cases hi : i < hs.length
  · exact hj i hi
  · rw [h1 i (by omega)]; exact rd_out _ _ (by rw [nthF_len]; omega)
theorem keep1_sub {hs : List S139} {hung : List Int} {looks : List S140} {ts : List (Nat → Int)} {d t : Nat → Int} (h : t ∈ ts) : t ∈ keep1 hs hung looks ts d := by
  unfold keep1
  split
  · exact List.mem_append_left _ h
  · exact h
theorem keep_sub {hs : List S139} {hung : List Int} {looks : List S140} : ∀ (pre ts : List (Nat → Int)) (t : Nat → Int), t ∈ ts → t ∈ pre.foldl (keep1 hs hung looks) ts
  | [], ts, t, h => h
  | d :: r, ts, t, h => keep_sub r _ t (keep1_sub h)
theorem keep_all {hs : List S139} {hung : List Int} {looks : List S140} (h4 : hs.length ≤ 4) : ∀ (pre ts : List (Nat → Int)), (∀ t ∈ ts, ∀ i, hs.length ≤ i → t i = 0) → (∀ t ∈ pre, ∀ i, hs.length ≤ i → t i = 0) →
    ∀ d ∈ pre, rightB hs hung looks d [] = true → d ∈ pre.foldl (keep1 hs hung looks) ts
  | [], ts, _, _, d, h, _ => by cases h
  | a :: r, ts, h0, h1, d, h, hr => by
    have hk : ∀ t ∈ keep1 hs hung looks ts a, ∀ i, hs.length ≤ i → t i = 0 := by
      intro t ht
      unfold keep1 at ht
      split at ht
      · rcases List.mem_append.1 ht with h | h
        · exact h0 t h
        · rw [List.mem_singleton] at h; subst h; exact h1 _ (List.mem_cons_self)
      · exact h0 t ht
    rcases List.mem_cons.1 h with rfl | h
    · refine keep_sub r _ d ?_
      unfold keep1
      by_cases hc : rightB hs hung looks d [] = true ∧ (ts = [] ∨ ne4 (rdN ts (ts.length - 1)) d = true)
      · rw [if_pos hc]; exact List.mem_append_right _ (List.mem_singleton.2 rfl)
      · rw [if_neg hc]
        have hne : ts ≠ [] := fun e => hc ⟨hr, .inl e⟩
        have heq : ne4 (rdN ts (ts.length - 1)) d = false := by
          cases e : ne4 (rdN ts (ts.length - 1)) d
          · rfl
          · exact absurd ⟨hr, .inr e⟩ hc
        have hlt : ts.length - 1 < ts.length := by have := List.length_pos_iff.2 hne; omega
        have hmem : rdN ts (ts.length - 1) ∈ ts := by
          unfold rdN
          rw [List.getD_eq_getElem?_getD, List.getElem?_eq_getElem hlt]
          exact List.getElem_mem hlt
        have : rdN ts (ts.length - 1) = d := by
          simp only [ne4, Bool.not_eq_false', Bool.and_eq_true, decide_eq_true_eq] at heq
          funext i
          by_cases hi : i < 4
          · rcases i with _ | _ | _ | _ | i
            · exact heq.1.1.1
            · exact heq.1.1.2
            · exact heq.1.2
            · exact heq.2
            · omega
          · rw [h0 _ hmem i (by omega), h1 d List.mem_cons_self i (by omega)]
        rw [← this]
        exact hmem
    · exact keep_all h4 r _ hk (fun t ht => h1 t (List.mem_cons_of_mem _ ht)) d h hr
theorem truths_iff {hs : List S139} {hung : List Int} {looks : List S140} (h4 : hs.length ≤ 4) (d : Nat → Int) : d ∈ truthsT hs hung looks ↔ d ∈ dries hs ∧ rightB hs hung looks d [] = true :=
  ⟨truths_mem, fun h => keep_all h4 (dries hs) [] (fun t ht => by cases ht) (fun t ht => ((dries_iff t).1 ht).1) d h.1 h.2⟩
end Go.Proofs.Ytokhmghgghjmhaa.Q
namespace Go.Proofs.Ytokhmghgghjmhaa.Q
open Go.RowKit Go.Proofs.YtokhmghgghjmhaaW.PrintWords Go.Proofs.YtokhmghgghjmhaaW.PrintLast Go.Proofs.YtokhmghgghjmhaaW.PrintMore
set_option linter.unusedVariables false
def bitF : List Bool → Nat → Int → Int
  | [], _, x => x
  | b :: l, i, x => bitF l (i + 1) (if b = true then Go.bits .or .i64 x (shl .i64 1 (IntKind.u64.wrap (i : Int))) else x)
theorem bit_full : ∀ l : List Bool, l.length ≤ 5 → (bitF l 0 0 = wrap64 ((shl .i64 1 (IntKind.u64.wrap (l.length : Int))) - 1) ↔ l.all id = true)
  | [], _ => by decide +kernel
  | [a], _ => by cases a <;> decide +kernel
  | [a, b], _ => by cases a <;> cases b <;> decide +kernel
  | [a, b, c], _ => by cases a <;> cases b <;> cases c <;> decide +kernel
  | [a, b, c, d], _ => by cases a <;> cases b <;> cases c <;> cases d <;> decide +kernel
  | [a, b, c, d, e], _ => by cases a <;> cases b <;> cases c <;> cases d <;> cases e <;> decide +kernel
  | _ :: _ :: _ :: _ :: _ :: _ :: _, h => by simp only [List.length_cons] at h; omega
def okF (hs : List S139) (hung : List Int) (looks : List S140) (d : Nat → Int) : Nat → Nat → List Bool
  | 0, _ => []
  | m + 1, i => lookOk hs hung d (rd_T140 looks i) :: okF hs hung looks d m (i + 1)
theorem okF_len (hs : List S139) (hung : List Int) (looks : List S140) (d : Nat → Int) : ∀ m i, (okF hs hung looks d m i).length = m
  | 0, _ => rfl
  | m + 1, i => by simp only [okF, List.length_cons, okF_len hs hung looks d m]
theorem okF_all (hs : List S139) (hung : List Int) (looks : List S140) (d : Nat → Int) : ∀ m i, (okF hs hung looks d m i).all id = true ↔ ∀ j : Nat, i ≤ j → j < i + m → lookOk hs hung d (rd_T140 looks j) = true
  | 0, i => by simp only [okF, List.all_nil, true_iff]; intro j h1 h2; omega
  | m + 1, i => by
    simp only [okF, List.all_cons, Bool.and_eq_true, okF_all hs hung looks d m (i + 1), id]
    constructor
    · rintro ⟨h1, h2⟩ j h3 h4
      by_cases e : j = i
      · subst e; exact h1
      · exact h2 j (by omega) (by omega)
    · exact fun h => ⟨h i (Nat.le_refl _) (by omega), fun j h1 h2 => h j (by omega) (by omega)⟩
theorem okF_right (hs : List S139) (hung : List Int) (looks : List S140) (d : Nat → Int) : (okF hs hung looks d looks.length 0).all id = rightB hs hung looks d [] := by
  rw [Bool.eq_iff_iff, okF_all]
  unfold rightB
  rw [decide_eq_true_eq]
  constructor
  · exact fun h i hi => .inr (h i (Nat.zero_le _) (by omega))
  · intro h j _ hj
    rcases h j (by omega) with h | h
    · simp at h
    · exact h
theorem u64_ok : ∀ i : Nat, i ≤ 5 → (0 : Int) ≤ IntKind.u64.wrap (i : Int)
  | 0, _ => by decide
  | 1, _ => by decide
  | 2, _ => by decide
  | 3, _ => by decide
  | 4, _ => by decide
  | 5, _ => by decide
  | _ + 6, h => by omega
section
variable {cs cl : Int} {hs : List S68} {hung : List Int} {looks : List S84}
theorem nth_l0 (D : Dries (hs.map toH)) (h4 : hs.length ≤ 4) : ∀ (d i n k : Nat) (acc : List Int), i + d = hs.length → d < k → n ≤ 12960000 → acc.length ≤ i →
    posserref04_Nth.l0 k n acc i cs cl hs hung looks = some (acc ++ nthF (hs.map toH) d i n)
  | 0, i, n, k, acc, h, hk, hn, ha => by
    obtain ⟨k, rfl⟩ : ∃ m, k = m + 1 := ⟨k - 1, by omega⟩
    simp only [posserref04_Nth.l0, nthF, List.append_nil]
    rw [if_neg (by omega)]
  | d + 1, i, n, k, acc, h, hk, hn, ha => by
    obtain ⟨k, rfl⟩ : ∃ m, k = m + 1 := ⟨k - 1, by omega⟩
    have hs1 := sz_ok D i (by simpa using (by omega : i < hs.length))
    have hD := D i (by simpa using (by omega : i < hs.length))
    have e1 := rd_toH hs i
    rw [e1] at hs1 hD
    simp only [toH] at hs1 hD
    have hw : wrap64 (wrap64 ((rd_T68 hs i).f0.f1 - (rd_T68 hs i).f0.f0) + 1) = (szN (hs.map toH) i : Int) := by unfold wrap64; omega
    have hdiv : n / szN (hs.map toH) i ≤ n := Nat.div_le_self _ _
    have hmod := Nat.mod_lt n hs1.2.1
    have ih := nth_l0 D h4 d (i + 1) (n / szN (hs.map toH) i) k (acc ++ [(rd_T68 hs i).f0.f0 + ((n % szN (hs.map toH) i : Nat) : Int)]) (by omega) (by omega) (by omega) (by simp only [List.length_append, List.length_singleton]; omega)
    simp only [posserref04_Nth.l0, posserref04_Size.f, Option.bind_some]
    rw [if_pos (by omega), if_pos (by omega), hw, if_neg (by omega), if_pos (by omega), if_neg (by omega)]
    rw [show Int.tdiv (n : Int) (szN (hs.map toH) i : Int) = ((n / szN (hs.map toH) i : Nat) : Int) from rfl, show Int.tmod (n : Int) (szN (hs.map toH) i : Int) = ((n % szN (hs.map toH) i : Nat) : Int) from rfl]
    rw [wrap_small (Nat.le_trans hdiv hn), show wrap64 ((rd_T68 hs i).f0.f0 + ((n % szN (hs.map toH) i : Nat) : Int)) = (rd_T68 hs i).f0.f0 + ((n % szN (hs.map toH) i : Nat) : Int) from by unfold wrap64; omega,
      show wrap64 ((i : Int) + 1) = ((i + 1 : Nat) : Int) from by unfold wrap64; omega, ih]
    simp only [nthF, e1, toH, List.append_assoc, List.singleton_append]
theorem nth_f (D : Dries (hs.map toH)) (h4 : hs.length ≤ 4) (n k : Nat) (hk : 1000 < k) (hn : n ≤ 12960000) : posserref04_Nth.f k cs cl hs hung looks n = some (nthF (hs.map toH) hs.length 0 n) := by
  unfold posserref04_Nth.f
  have := nth_l0 (cs := cs) (cl := cl) (hung := hung) (looks := looks) D h4 hs.length 0 n k [] (by omega) (by omega) hn (Nat.le_refl _)
  rw [List.nil_append] at this
  exact this
theorem right_l0 (V : Valid cs cl (hs.map toH) hung (looks.map toL)) (d : List Int) (hd : d.length = hs.length) (hdb : ∀ i : Nat, 0 ≤ rd d i ∧ rd d i ≤ 60) : ∀ (m i k : Nat) (x : Int), i + m = looks.length → m + 1001 < k →
    posserref04_Right.l0 k d x i cs cl hs hung looks = some (bitF (okF (hs.map toH) hung (looks.map toL) (nums d) m i) i x)
  | 0, i, k, x, h, hk => by
    obtain ⟨k, rfl⟩ : ∃ m, k = m + 1 := ⟨k - 1, by omega⟩
    simp only [posserref04_Right.l0, okF, bitF]
    rw [if_neg (by omega)]
  | m + 1, i, k, x, h, hk => by
    obtain ⟨k, rfl⟩ : ∃ m, k = m + 1 := ⟨k - 1, by omega⟩
    have hL := V.n5
    have hH := V.n4
    have hc4 := V.c4
    simp only [List.length_map] at hL hH
    have hlk := V.look i (by simpa using (by omega : i < looks.length))
    have e1 := rd_toL looks i
    rw [e1] at hlk
    simp only [toL, List.length_map] at hlk
    obtain ⟨j, hj⟩ : ∃ j : Nat, (j : Int) = (rd_T84 looks i).f0 := ⟨(rd_T84 looks i).f0.toNat, by omega⟩
    have P : Pl cs hs.length hung := ⟨by have := V.place; simpa using this, V.inside, fun a b ha hb hne e => by
      rcases Nat.lt_or_ge a b with h | h
      · exact V.apart b a hb h e.symm
      · exact V.apart a b ha (by omega) e⟩
    have hmin := minute_f (cl := cl) (hung := hung) (looks := looks) P (by omega) hH V.wet hd hdb j (by omega) k (by omega)
    have hlo : lookOk (hs.map toH) hung (nums d) (rd_T140 (looks.map toL) i) = ((rd_T84 looks i).f2 == decide (mins (hs.map toH) hung (nums d) j ≤ (rd_T84 looks i).f1)) := by
      have ht : (toL (rd_T84 looks i)).f0.toNat = j := by simp only [toL]; omega
      unfold lookOk
      rw [e1]
      simp only [ht]
      rfl
    have hu := u64_ok i (by omega)
    simp only [posserref04_Right.l0, okF, bitF]
    rw [if_pos (by omega), if_pos (by omega), ← hj, hmin]
    simp only [Option.bind_some]
    rw [hlo, show wrap64 ((i : Int) + 1) = ((i + 1 : Nat) : Int) from by unfold wrap64; omega]
    change (if (decide (mins (hs.map toH) hung (nums d) j ≤ (rd_T84 looks i).f1) == (rd_T84 looks i).f2) = true then _ else _) = _
    by_cases hb : (decide (mins (hs.map toH) hung (nums d) j ≤ (rd_T84 looks i).f1) == (rd_T84 looks i).f2) = true
    · have hb2 : ((rd_T84 looks i).f2 == decide (mins (hs.map toH) hung (nums d) j ≤ (rd_T84 looks i).f1)) = true := by rw [beq_iff_eq] at hb ⊢; exact hb.symm
      rw [if_pos hb, if_pos hu, if_pos hb2]
      exact right_l0 V d hd hdb m (i + 1) k _ (by omega) (by omega)
    · have hb2 : ¬ ((rd_T84 looks i).f2 == decide (mins (hs.map toH) hung (nums d) j ≤ (rd_T84 looks i).f1)) = true := by rw [beq_iff_eq] at hb ⊢; exact fun e => hb e.symm
      rw [if_neg hb, if_neg hb2]
      exact right_l0 V d hd hdb m (i + 1) k _ (by omega) (by omega)
theorem right_f (V : Valid cs cl (hs.map toH) hung (looks.map toL)) (d : List Int) (hd : d.length = hs.length) (hdb : ∀ i : Nat, 0 ≤ rd d i ∧ rd d i ≤ 60) (k : Nat) (hk : 2000 ≤ k) :
    posserref04_Right.f k cs cl hs hung looks d = some (bitF (okF (hs.map toH) hung (looks.map toL) (nums d) looks.length 0) 0 0) := by
  have h5 := V.n5
  simp only [List.length_map] at h5
  unfold posserref04_Right.f
  exact right_l0 V d hd hdb looks.length 0 k 0 (by omega) (by omega)
theorem full_f (h5 : looks.length ≤ 5) : posserref04_Full.f cs cl hs hung looks = some (wrap64 ((shl .i64 1 (IntKind.u64.wrap (looks.length : Int))) - 1)) := by
  unfold posserref04_Full.f
  have hu := u64_ok looks.length h5
  rw [if_pos hu]
/-- The reference's truths. -/
def truF (hs : List S139) (hung : List Int) (looks : List S140) : Nat → Nat → List (List Int)
  | 0, _ => []
  | m + 1, n => if rightB hs hung looks (nums (nthF hs hs.length 0 n)) [] = true then nthF hs hs.length 0 n :: truF hs hung looks m (n + 1) else truF hs hung looks m (n + 1)
theorem many_ok (hc : checkB cs cl (hs.map toH) hung (looks.map toL) = 0) : manyN hs hs.length = (prN (hs.map toH) hs.length 0 : Nat) ∧ prN (hs.map toH) hs.length 0 ≤ 2000 := by
  have V := valid_of hc
  have h4 := V.n4
  simp only [List.length_map] at h4
  have hall : allH (hs.map toH) = true := by
    unfold checkB at hc
    split at hc
    · omega
    split at hc
    · omega
    rename_i h1 h2
    cases e : allH (hs.map toH)
    · exact absurd (.inr (.inr (.inl e))) h2
    · rfl
  obtain ⟨h1, h2, _⟩ := many_prod hs h4 hall hs.length (Nat.le_refl _)
  have h3 : ¬ prodH (hs.map toH) (hs.map toH).length > 2000 := by
    unfold checkB at hc
    split at hc
    · omega
    split at hc
    · omega
    split at hc
    · omega
    · assumption
  rw [List.length_map, h2] at h3
  have h5 := pl_pr (hs.map toH) hs.length 0
  simp only [plN, Nat.one_mul, Nat.zero_add] at h5
  rw [h1, h5]
  unfold mn
  split <;> omega
theorem truths_l0 (hc : checkB cs cl (hs.map toH) hung (looks.map toL) = 0) : ∀ (m n k : Nat) (acc : List (List Int)), n + m = prN (hs.map toH) hs.length 0 → m + 3000 ≤ k → acc.length ≤ n →
    posserref04_Truths.l0 k acc n cs cl hs hung looks = some (acc ++ truF (hs.map toH) hung (looks.map toL) m n)
  | 0, n, k, acc, h, hk, ha => by
    obtain ⟨k, rfl⟩ : ∃ m, k = m + 1 := ⟨k - 1, by omega⟩
    have hM := many_ok hc
    have V := valid_of hc
    have h4 := V.n4
    simp only [List.length_map] at h4
    simp only [posserref04_Truths.l0, truF, List.append_nil]
    rw [many_f cs cl hs hung looks (by omega) k (by omega)]
    simp only [Option.bind_some]
    rw [if_neg (by omega)]
  | m + 1, n, k, acc, h, hk, ha => by
    obtain ⟨k, rfl⟩ : ∃ m, k = m + 1 := ⟨k - 1, by omega⟩
    have hM := many_ok hc
    have V := valid_of hc
    have h4 := V.n4
    have h5 := V.n5
    simp only [List.length_map] at h4 h5
    have D : Dries (hs.map toH) := V.dry
    have hlen := nthF_len (hs.map toH) hs.length 0 n
    have hlm : (hs.map toH).length = hs.length := List.length_map ..
    have hbd : ∀ i : Nat, 0 ≤ rd (nthF (hs.map toH) hs.length 0 n) i ∧ rd (nthF (hs.map toH) hs.length 0 n) i ≤ 60 := fun i => by
      have := dries_bd V (nth_dries D n) i
      rw [hlm] at this
      exact this
    have ih1 := truths_l0 hc m (n + 1) k
    simp only [posserref04_Truths.l0]
    rw [many_f cs cl hs hung looks (by omega) k (by omega)]
    simp only [Option.bind_some]
    rw [if_pos (by omega), nth_f D h4 n k (by omega) (by omega)]
    simp only [Option.bind_some]
    rw [right_f V _ hlen hbd k (by omega)]
    simp only [Option.bind_some]
    rw [full_f h5]
    simp only [Option.bind_some]
    have hbf := bit_full (okF (hs.map toH) hung (looks.map toL) (nums (nthF (hs.map toH) hs.length 0 n)) looks.length 0) (by rw [okF_len]; exact h5)
    rw [okF_len] at hbf
    have hokr := okF_right (hs.map toH) hung (looks.map toL) (nums (nthF (hs.map toH) hs.length 0 n))
    rw [List.length_map] at hokr
    rw [hokr] at hbf
    rw [show wrap64 ((n : Int) + 1) = ((n + 1 : Nat) : Int) from by unfold wrap64; omega]
    simp only [truF, hlm]
    by_cases hr : rightB (hs.map toH) hung (looks.map toL) (nums (nthF (hs.map toH) hs.length 0 n)) [] = true
    · rw [if_pos (hbf.2 hr), if_pos (by omega), if_pos hr, ih1 _ (by omega) (by omega) (by simp only [List.length_append, List.length_singleton]; omega)]
      simp only [List.append_assoc, List.singleton_append]
    · rw [if_neg (fun e => hr (hbf.1 e)), if_neg hr, ih1 _ (by omega) (by omega) (by omega)]
/-- All truths, as1 the reference tells them. -/
def truL (hs : List S139) (hung : List Int) (looks : List S140) : List (List Int) := truF hs hung looks (prN hs hs.length 0) 0
theorem truths_f (hc : checkB cs cl (hs.map toH) hung (looks.map toL) = 0) (k : Nat) (hk : 6000 ≤ k) : posserref04_Truths.f k cs cl hs hung looks = some (truL (hs.map toH) hung (looks.map toL)) := by
  have hM := many_ok hc
  unfold posserref04_Truths.f truL
  have := truths_l0 hc (prN (hs.map toH) hs.length 0) 0 k [] (by omega) (by omega) (Nat.le_refl _)
  rw [List.nil_append] at this
  rw [List.length_map]
  exact this
end
theorem mem_truF (hs : List S139) (hung : List Int) (looks : List S140) (l : List Int) : ∀ (m n : Nat), l ∈ truF hs hung looks m n ↔ ∃ j, n ≤ j ∧ j < n + m ∧ l = nthF hs hs.length 0 j ∧ rightB hs hung looks (nums (nthF hs hs.length 0 j)) [] = true
  | 0, n => by
    simp only [truF, List.not_mem_nil, false_iff]
    rintro ⟨j, h1, h2, _⟩
    omega
  | m + 1, n => by
    simp only [truF]
    by_cases hr : rightB hs hung looks (nums (nthF hs hs.length 0 n)) [] = true
    · rw [if_pos hr, List.mem_cons, mem_truF hs hung looks l m (n + 1)]
      constructor
      · rintro (h | ⟨j, h1, h2, h3⟩)
        · exact ⟨n, Nat.le_refl _, by omega, h, hr⟩
        · exact ⟨j, by omega, by omega, h3⟩
      · rintro ⟨j, h1, h2, h3, h4⟩
        by_cases e : j = n
        · subst e; exact .inl h3
        · exact .inr ⟨j, by omega, by omega, h3, h4⟩
    · rw [if_neg hr, mem_truF hs hung looks l m (n + 1)]
      constructor
      · rintro ⟨j, h1, h2, h3⟩
        exact ⟨j, by omega, by omega, h3⟩
      · rintro ⟨j, h1, h2, h3, h4⟩
        by_cases e : j = n
        · subst e; exact absurd h4 hr
        · exact ⟨j, by omega, by omega, h3, h4⟩
/-- The reference's truths are the program's. -/
theorem truL_iff {hs : List S139} {hung : List Int} {looks : List S140} (D : Dries hs) (h4 : hs.length ≤ 4) (t : Nat → Int) : t ∈ truthsT hs hung looks ↔ ∃ l ∈ truL hs hung looks, nums l = t := by
  rw [truths_iff h4]
  constructor
  · rintro ⟨h1, h2⟩
    obtain ⟨n, hn, rfl⟩ := dries_nth D h1
    exact ⟨_, (mem_truF hs hung looks _ _ 0).2 ⟨n, Nat.zero_le _, by omega, rfl, h2⟩, rfl⟩
  · rintro ⟨l, hl, rfl⟩
    obtain ⟨j, _, h2, rfl, h4'⟩ := (mem_truF hs hung looks l _ 0).1 hl
    exact ⟨nth_dries D j, h4'⟩
theorem truL_len {hs : List S139} {hung : List Int} {looks : List S140} {l : List Int} (h : l ∈ truL hs hung looks) : l.length = hs.length := by
  obtain ⟨j, _, _, rfl, _⟩ := (mem_truF hs hung looks l _ 0).1 h
  exact nthF_len _ _ _ _
theorem truL_nil {hs : List S139} {hung : List Int} {looks : List S140} (D : Dries hs) (h4 : hs.length ≤ 4) : truL hs hung looks = [] ↔ truthsT hs hung looks = [] := by
  constructor
  · intro h
    refine List.eq_nil_iff_forall_not_mem.2 (fun t ht => ?_)
    obtain ⟨l, hl, _⟩ := (truL_iff D h4 t).1 ht
    rw [h] at hl
    cases hl
  · intro h
    refine List.eq_nil_iff_forall_not_mem.2 (fun l hl => ?_)
    have := (truL_iff D h4 (nums l)).2 ⟨l, hl, rfl⟩
    rw [h] at this
    cases this
/-- What the law asks ahead of all else: the truths, or the error. -/
theorem placed_f {cs cl : Int} {hs : List S68} {hung : List Int} {looks : List S84} (b : Bool) (k : Nat) (hk : 6000 ≤ k) : posserlaw04_placed.f k cs cl hs hung looks b =
    some (if askCode cs cl (hs.map toH) hung (looks.map toL) b = 0 then truL (hs.map toH) hung (looks.map toL) else [], askCode cs cl (hs.map toH) hung (looks.map toL) b) := by
  unfold posserlaw04_placed.f posserlaw04_fault.f posserref04_Fault.f
  simp only [Option.bind_some]
  unfold askCode faultB
  by_cases hc : checkB cs cl (hs.map toH) hung (looks.map toL) = 0
  · have V := valid_of hc
    have h4 := V.n4
    have hnil := truL_nil (hung := hung) (looks := looks.map toL) V.dry h4
    rw [if_pos hc]
    simp only [hc, ne_eq, not_true_eq_false, if_false]
    cases b with
    | false => simp
    | true =>
      simp only [if_true]
      rw [truths_f hc k hk]
      simp only [Option.bind_some]
      by_cases hn : truL (hs.map toH) hung (looks.map toL) = []
      · have hn2 := hnil.1 hn
        simp [hn, hn2]
      · have hn2 : ¬ truthsT (hs.map toH) hung (looks.map toL) = [] := fun e => hn (hnil.2 e)
        have hn3 : ¬ ((truL (hs.map toH) hung (looks.map toL)).length : Int) = 0 := by
          have := List.length_pos_iff.2 hn
          omega
        rw [if_neg hn3]
        simp [hn2]
  · rw [if_neg hc]
    simp [hc]
end Go.Proofs.Ytokhmghgghjmhaa.Q
namespace Go.Proofs.Ytokhmghgghjmhaa.Q
open Go.RowKit Go.Proofs.YtokhmghgghjmhaaW.PrintWords Go.Proofs.YtokhmghgghjmhaaW.PrintLast Go.Proofs.YtokhmghgghjmhaaW.PrintMore
set_option linter.unusedVariables false
section
variable {cs cl : Int} {hs : List S68} {hung : List Int} {looks : List S84} {p : List Int}
/-- Truths as1 the reference lists them. -/
def Trs (hs : List S68) (L : List (List Int)) : Prop := L.length ≤ 100000 ∧ ∀ j : Nat, j < L.length → (rd_L9 L j).length = hs.length ∧ ∀ i : Nat, 0 ≤ rd (rd_L9 L j) i ∧ rd (rd_L9 L j) i ≤ 60
end
end Go.Proofs.Ytokhmghgghjmhaa.Q
namespace Go.Proofs.Ytokhmghgghjmhaa.Q
open Go.RowKit Go.Proofs.YtokhmghgghjmhaaW.PrintWords Go.Proofs.YtokhmghgghjmhaaW.PrintLast Go.Proofs.YtokhmghgghjmhaaW.PrintMore
set_option linter.unusedVariables false
section
variable {cs cl : Int} {hs : List S68} {hung : List Int} {looks : List S84} {p : List Int}
theorem truF_len (hs : List S139) (hung : List Int) (looks : List S140) : ∀ m n, (truF hs hung looks m n).length ≤ m
  | 0, n => Nat.le_refl _
  | m + 1, n => by
    have := truF_len hs hung looks m (n + 1)
    simp only [truF]
    split
    · simp only [List.length_cons]; omega
    · omega
theorem L9_mem (L : List (List Int)) (j : Nat) (hj : j < L.length) : rd_L9 L j ∈ L := by
  unfold rd_L9
  rw [Int.toNat_natCast, List.getD_eq_getElem?_getD, List.getElem?_eq_getElem hj]
  exact List.getElem_mem hj
theorem truL_trs (hc : checkB cs cl (hs.map toH) hung (looks.map toL) = 0) : Trs hs (truL (hs.map toH) hung (looks.map toL)) ∧ (truL (hs.map toH) hung (looks.map toL)).length ≤ 2000 := by
  have V := valid_of hc
  have hlen := truF_len (hs.map toH) hung (looks.map toL) (prN (hs.map toH) (hs.map toH).length 0) 0
  have hM := (many_ok hc).2
  have hl2 : (truL (hs.map toH) hung (looks.map toL)).length ≤ 2000 := by
    unfold truL
    rw [List.length_map] at hlen ⊢
    omega
  refine ⟨⟨by omega, fun j hj => ?_⟩, hl2⟩
  have hm := L9_mem _ j hj
  refine ⟨by have := truL_len hm; rwa [List.length_map] at this, fun i => ?_⟩
  have ht := (truL_iff (hung := hung) (looks := looks.map toL) V.dry V.n4 (nums (rd_L9 (truL (hs.map toH) hung (looks.map toL)) j))).2 ⟨_, hm, rfl⟩
  exact dries_bd V (truths_mem ht).1 i
end
end Go.Proofs.Ytokhmghgghjmhaa.Q
namespace Go.Proofs.Ytokhmghgghjmhaa.Q
open Go.RowKit Go.Proofs.YtokhmghgghjmhaaW.PrintWords Go.Proofs.YtokhmghgghjmhaaW.PrintLast Go.Proofs.YtokhmghgghjmhaaW.PrintMore
set_option linter.unusedVariables false
theorem nodup_filter {α : Type} {l m : List α} (hl : l.Nodup) (hm : m.Nodup) (h : ∀ x, x ∈ l ↔ x ∈ m) (q : α → Bool) : (l.filter q).length = (m.filter q).length := by
  refine Nat.le_antisymm (nodup_len _ _ (hl.filter q) (fun x hx => ?_)) (nodup_len _ _ (hm.filter q) (fun x hx => ?_))
  · rw [List.mem_filter] at hx ⊢; exact ⟨(h x).1 hx.1, hx.2⟩
  · rw [List.mem_filter] at hx ⊢; exact ⟨(h x).2 hx.1, hx.2⟩
theorem vals_nodup (lo : Int) : ∀ N, (vals lo N).Nodup
  | 0 => by simp [vals]
  | N + 1 => by
    rw [vals_succ, List.nodup_append]
    refine ⟨vals_nodup lo N, by simp, fun a ha b hb e => ?_⟩
    rw [List.mem_singleton] at hb
    simp only [vals, List.mem_map, List.mem_range] at ha
    obtain ⟨i, hi, rfl⟩ := ha
    omega
theorem allN_at (hs : List S139) (d h : Nat) (x y : Nat → Int) (v : Int) (hy : y ∈ allN hs d (h + 1) (upd x h v)) (hd : h + 1 + d = hs.length) : y h = v := by
  rw [(allN_mem hs d (h + 1) _ y hd hy).1 h (.inl (by omega))]
  simp [upd]
theorem allN_nodup (hs : List S139) : ∀ (d h : Nat) (x : Nat → Int), h + d = hs.length → (allN hs d h x).Nodup
  | 0, h, x, _ => by simp [allN]
  | d + 1, h, x, e => by
    simp only [allN]
    unfold List.Nodup
    rw [List.pairwise_flatMap]
    refine ⟨fun v _ => allN_nodup hs d (h + 1) _ (by omega), ?_⟩
    refine List.Pairwise.imp ?_ (vals_nodup _ _)
    intro v1 v2 hne y1 h1 y2 h2 ey
    subst ey
    exact hne ((allN_at hs d h x y1 v1 h1 (by omega)).symm.trans (allN_at hs d h x y1 v2 h2 (by omega)))
theorem dries_nodup (hs : List S139) : (dries hs).Nodup := allN_nodup hs hs.length 0 _ (by omega)
theorem keep_nodup {hs : List S139} {hung : List Int} {looks : List S140} (h4 : hs.length ≤ 4) : ∀ (pre ts : List (Nat → Int)), (ts ++ pre).Nodup → (∀ t ∈ ts ++ pre, ∀ i, hs.length ≤ i → t i = 0) → (pre.foldl (keep1 hs hung looks) ts).Nodup
  | [], ts, h, _ => by simpa using h
  | a :: r, ts, h, h0 => by
    refine keep_nodup h4 r _ ?_ ?_
    · unfold keep1
      split
      · rw [List.append_assoc]; exact h
      · rw [List.nodup_append] at h ⊢
        rw [List.nodup_cons] at h
        exact ⟨h.1, h.2.1.2, fun x hx y hy => h.2.2 x hx y (List.mem_cons_of_mem _ hy)⟩
    · intro t ht
      unfold keep1 at ht
      split at ht
      · rw [List.append_assoc] at ht; exact h0 t ht
      · rcases List.mem_append.1 ht with h | h
        · exact h0 t (List.mem_append_left _ h)
        · exact h0 t (List.mem_append_right _ (List.mem_cons_of_mem _ h))
theorem truths_nodup {hs : List S139} {hung : List Int} {looks : List S140} (h4 : hs.length ≤ 4) : (truthsT hs hung looks).Nodup :=
  keep_nodup h4 (dries hs) [] (dries_nodup hs) (fun t ht => ((dries_iff t).1 ht).1)
theorem nthF_inj {hs : List S139} (D : Dries hs) : ∀ (d i n m : Nat), i + d = hs.length → n < prN hs d i → m < prN hs d i → nthF hs d i n = nthF hs d i m → n = m
  | 0, i, n, m, _, hn, hm, _ => by simp only [prN] at hn hm; omega
  | d + 1, i, n, m, h, hn, hm, e => by
    have hs1 := sz_ok D i (by omega)
    simp only [prN] at hn hm
    simp only [nthF, List.cons.injEq] at e
    have h1 := nthF_inj D d (i + 1) _ _ (by omega) (Nat.div_lt_of_lt_mul hn) (Nat.div_lt_of_lt_mul hm) e.2
    have h2 := Nat.div_add_mod n (szN hs i)
    have h3 := Nat.div_add_mod m (szN hs i)
    rw [h1] at h2
    omega
theorem nums_inj {l m : List Int} (hl : l.length = m.length) (h : nums l = nums m) : l = m := by
  refine List.ext_getElem hl (fun i h1 h2 => ?_)
  have := congrFun h i
  simp only [nums, rd_nn, List.getD_eq_getElem?_getD] at this
  rw [List.getElem?_eq_getElem h1, List.getElem?_eq_getElem h2] at this
  exact this
theorem truF_nodup {hs : List S139} {hung : List Int} {looks : List S140} (D : Dries hs) : ∀ m n, n + m ≤ prN hs hs.length 0 → ((truF hs hung looks m n).map nums).Nodup
  | 0, n, _ => by simp [truF]
  | m + 1, n, h => by
    have ih := truF_nodup (hung := hung) (looks := looks) D m (n + 1) (by omega)
    simp only [truF]
    split
    · rw [List.map_cons, List.nodup_cons]
      refine ⟨fun hx => ?_, ih⟩
      obtain ⟨l, hl, e⟩ := List.mem_map.1 hx
      obtain ⟨j, h1, h2, rfl, _⟩ := (mem_truF hs hung looks l m (n + 1)).1 hl
      have := nthF_inj D hs.length 0 j n (by omega) (by omega) (by omega) (nums_inj (by rw [nthF_len, nthF_len]) e)
      omega
    · exact ih
/-- So many truths are of a kind. -/
theorem truL_count {hs : List S139} {hung : List Int} {looks : List S140} (D : Dries hs) (h4 : hs.length ≤ 4) (q : (Nat → Int) → Bool) : ((truL hs hung looks).filter (fun l => q (nums l))).length = ((truthsT hs hung looks).filter q).length := by
  have h := nodup_filter (truF_nodup (hung := hung) (looks := looks) D (prN hs hs.length 0) 0 (by omega)) (truths_nodup (hung := hung) (looks := looks) h4) (fun t => by rw [truL_iff D h4 t, List.mem_map]; rfl) q
  rw [← h, List.filter_map, List.length_map]
  rfl
end Go.Proofs.Ytokhmghgghjmhaa.Q
