/- Part B2 of the proof (GW, YL, R0, R1): contracts of functions, and plain lemmas about what they compute. -/
import Derived.Deep.Slices
import Derived.ChangeArms
import Derived.Test.YtokhmghgghjmhaaA0
import Derived.Test.YtokhmghgghjmhaaA1
import Derived.Test.YtokhmghgghjmhaaA2
import Derived.Test.YtokhmghgghjmhaaA3
import Derived.Test.YtokhmghgghjmhaaA4
import Derived.Test.YtokhmghgghjmhaaB0
import Derived.Test.YtokhmghgghjmhaaB1
namespace Go.Proofs.Ytokhmghgghjmhaa.Q
open Go.RowKit Go.Proofs.YtokhmghgghjmhaaW.PrintWords Go.Proofs.YtokhmghgghjmhaaW.PrintLast Go.Proofs.YtokhmghgghjmhaaW.PrintMore
set_option linter.unusedVariables false
set_option linter.unusedSimpArgs false
set_option maxHeartbeats 4000000 in
set_option maxRecDepth 100000 in
/-- The law's 'good'. -/
theorem good_w {cs cl : Int} {A2 A3 A4 A : Option Addr} {c2 c3 c4 c : Nat} {hs : List S68} {hung : List Int} {looks : List S84} {p : List Int} {h : Int} {w : World} {s : Int × Int × Bool} (M : Ref w A2 A3 A4 c2 c3 c4 hs hung looks) (hC : Kd.C (Kd.int .i64) w A p.length p ∧ p.length ≤ c)
    (hT : hs.length ≤ 30 ∧ hung.length ≤ 30 ∧ looks.length ≤ 30) (hp : p.length ≤ 1000) (hs' : goodL cs cl (hs.map toH) hung (looks.map toL) p h = s) :
    Calls Try.prog 45 #[.agg #[.int .i64 cs, .int .i64 cl, .slice A2 hs.length c2, .slice A3 hung.length c3, .slice A4 looks.length c4], .slice A p.length c, .int .i64 h] w
      fun e w' => e = .returned (.tuple #[.agg #[.int .i64 s.1, .int .i64 s.2.1], .bool s.2.2]) ∧ Below w.heap.size w w' := by
  have HM := Aside0.mk M
  have HC := Aside0.mk hC
  have HT := Aside0.mk hT
  have HP := Aside0.mk hp
  obtain ⟨g, hg⟩ : ∃ g, goodR cs cl (hs.map toH) hung (looks.map toL) p h = g := ⟨_, rfl⟩
  have HG := Aside0.mk hg
  have HS : Aside0 ((if g.2.2 = 10 then (1, 0, true) else (g.1, g.2.1, decide (g.2.2 = 0 ∧ g.1 ≤ g.2.1 ∧ 0 ≤ g.1 ∧ g.2.1 ≤ cl))) = s) := ⟨by rw [← hs', ← hg]; rfl⟩
  clear M hC hT hp hg hs'
  obtain ⟨g1, g2, g3⟩ := g
  obtain ⟨W0, hW0⟩ : ∃ W0, (w.alloc (.cells #[.int .i64 cs, .int .i64 cl, .slice A2 hs.length c2, .slice A3 hung.length c3, .slice A4 looks.length c4] 26)).alloc (.cells #[.int .i64 0, .int .i64 0] 61) = W0 := ⟨_, rfl⟩
  have HB0 := Aside0.mk (show Below w.heap.size w W0 from by rw [← hW0]; repeat (first | exact Below.refl _ _ | apply below_alloc))
  have HBK := Aside0.mk (show W0.heap[w.heap.size]? = some (.cells #[.int .i64 cs, .int .i64 cl, .slice A2 hs.length c2, .slice A3 hung.length c3, .slice A4 looks.length c4] 26 (0, 0)) from by rw [← hW0]; repeat (first | (refine blk_new_ ?_; simp; done) | refine blk_alloc ?_ _))
  have HRB := Aside0.mk (show W0.heap[w.heap.size + 1]? = some (.cells #[.int .i64 0, .int .i64 0] 61 (0, 0)) from by rw [← hW0]; refine blk_new_ ?_; simp)
  have b0 : W0.cell? ⟨w.heap.size, 0, none⟩ = some (.int .i64 cs) := (blk_cell HBK.out 0).trans rfl
  have b1 : W0.cell? ⟨w.heap.size, 1, none⟩ = some (.int .i64 cl) := (blk_cell HBK.out 1).trans rfl
  have b2 : W0.cell? ⟨w.heap.size, 2, none⟩ = some (.slice A2 hs.length c2) := (blk_cell HBK.out 2).trans rfl
  have b3 : W0.cell? ⟨w.heap.size, 3, none⟩ = some (.slice A3 hung.length c3) := (blk_cell HBK.out 3).trans rfl
  have b4 : W0.cell? ⟨w.heap.size, 4, none⟩ = some (.slice A4 looks.length c4) := (blk_cell HBK.out 4).trans rfl
  go_enter Try.func45, Try.ntmps45
  go_wp2_with fail
  try rw [hW0]
  clear hW0
  refine (refcl_q (HM.out.later HB0.out) (by have := HT.out; omega) (by have := HT.out; omega) (by have := HT.out; omega)).mono ?_
  rintro e w1 ⟨B2, B3, B4, d2, d3, d4, n2, n3, n4, rfl, hcl, hb⟩
  have HB1 := Aside0.mk (below_step HB0.out hb)
  have HK1 := Aside0.mk (blk_below HBK.out hb)
  have HR1 := Aside0.mk (blk_below HRB.out hb)
  have HCL := Aside0.mk hcl
  clear hb hcl b0 b1 b2 b3 b4
  go_wp2_with fail
  refine (list_q (Kd.C_below HC.out.1 HB1.out) HC.out.2 (by have := HP.out; omega)).mono ?_
  rintro e w2 ⟨B, d, rfl, hli, hb⟩
  have HB2 := Aside0.mk (below_step HB1.out hb)
  have HK2 := Aside0.mk (blk_below HK1.out hb)
  have HR2 := Aside0.mk (blk_below HR1.out hb)
  have HCL2 := Aside0.mk (HCL.out.later hb)
  have HLI := Aside0.mk hli
  clear hb hli
  go_wp2_with fail
  refine (good_q HCL2.out HLI.out (by have := HT.out; omega) HG.out).mono ?_
  rintro e w3 ⟨rfl, hb⟩
  have HB3 := Aside0.mk (below_step HB2.out hb)
  have HK3 := Aside0.mk (blk_below HK2.out hb)
  have HR3 := Aside0.mk (blk_below HR2.out hb)
  clear hb
  have rz3 := blk_lt HR3.out
  obtain ⟨W4, hW4⟩ : ∃ W4, w3.alloc (.cells #[.int .i64 g1, .int .i64 g2] 61) = W4 := ⟨_, rfl⟩
  have HB4 := Aside0.mk (show Below w3.heap.size w3 W4 from by rw [← hW4]; exact below_alloc (Below.refl _ _) _)
  have HQ4 := Aside0.mk (show W4.heap[w3.heap.size]? = some (.cells #[.int .i64 g1, .int .i64 g2] 61 (0, 0)) from by rw [← hW4]; exact blk_new _ _)
  have HK4 := Aside0.mk (blk_below HK3.out HB4.out)
  have HR4 := Aside0.mk (blk_below HR3.out HB4.out)
  by_cases h10 : g3 = 10
  · subst h10
    have HS2 : Aside0 ((1, 0, true) = s) := ⟨HS.out⟩
    obtain rfl := HS2.out
    go_wp2_with fail
    try rw [hW4]
    clear hW4
    refine (posserlaw04_between.calls 1 0 _ _ _ rfl).mono ?_
    rintro e w5 ⟨rfl, hb⟩
    have HR5 := Aside0.mk (blk_below HR4.out hb)
    have HB5 := Aside0.mk (below_step (below_step HB3.out HB4.out) hb)
    clear hb
    have r0 : w5.cell? ⟨w.heap.size + 1, 0, none⟩ = some (.int .i64 0) := (blk_cell HR5.out 0).trans rfl
    have r1 : w5.cell? ⟨w.heap.size + 1, 1, none⟩ = some (.int .i64 0) := (blk_cell HR5.out 1).trans rfl
    have rf0 := blk_frozen HR5.out 0
    have rf1 := blk_frozen HR5.out 1
    go_wp2_with fail
    refine bodyPost_ret (results_list (rs := [.cell 6 61, .tmp 7]) rfl (by simp) (.cell (w.heap.size + 1) 61 #[.int .i64 1, .int .i64 0] (0, 0) _ rfl (blk_put (blk_put HR5.out 0 _ rfl) 1 _ rfl) Try.underlying61 rfl (by kernel_rfl) (.tmp .nil))) rfl ⟨rfl, (HB5.out.setCell (by simp) _).setCell (by simp) _⟩
  have h10b : (g3 == 10) = false := beq_eq_false_iff_ne.2 h10
  have HS2 : Aside0 ((g1, g2, decide (g3 = 0 ∧ g1 ≤ g2 ∧ 0 ≤ g1 ∧ g2 ≤ cl)) = s) := ⟨by have := HS.out; rwa [if_neg h10] at this⟩
  clear h10
  have HBW := Aside0.mk (below_step HB3.out HB4.out)
  have q0 : W4.drew.cell? ⟨w3.heap.size, 0, none⟩ = some (.int .i64 g1) := (blk_cell (blk_drew HQ4.out) 0).trans rfl
  have q1 : W4.drew.cell? ⟨w3.heap.size, 1, none⟩ = some (.int .i64 g2) := (blk_cell (blk_drew HQ4.out) 1).trans rfl
  have q2 : W4.drew.cell? ⟨w.heap.size, 1, none⟩ = some (.int .i64 cl) := (blk_cell (blk_drew HK4.out) 1).trans rfl
  have r0 : W4.cell? ⟨w.heap.size + 1, 0, none⟩ = some (.int .i64 0) := (blk_cell HR4.out 0).trans rfl
  have r1 : W4.cell? ⟨w.heap.size + 1, 1, none⟩ = some (.int .i64 0) := (blk_cell HR4.out 1).trans rfl
  have q3 : W4.cell? ⟨w.heap.size, 1, none⟩ = some (.int .i64 cl) := (blk_cell HK4.out 1).trans rfl
  have hne : w3.heap.size ≠ w.heap.size + 1 := by omega
  have hne2 : w.heap.size ≠ w.heap.size + 1 := by omega
  have rf0 := blk_frozen HR4.out 0
  have rf1 := blk_frozen HR4.out 1
  go_wp2_with fail
  try rw [hW4]
  clear hW4
  have HF : Aside0 (∃ b1 b2 b3 b4 : Bool, (g3 == 0) = b1 ∧ decide (g1 ≤ g2) = b2 ∧ decide (g1 ≥ 0) = b3 ∧ decide (g2 ≤ cl) = b4 ∧ (b1 = false ∨ b1 = true ∧ b2 = false ∨ b1 = true ∧ b2 = true ∧ b3 = false ∨ b1 = true ∧ b2 = true ∧ b3 = true ∧ b4 = false ∨ b1 = true ∧ b2 = true ∧ b3 = true ∧ b4 = true)) := ⟨_, _, _, _, rfl, rfl, rfl, rfl, by cases (g3 == 0) <;> cases decide (g1 ≤ g2) <;> cases decide (g1 ≥ 0) <;> cases decide (g2 ≤ cl) <;> simp⟩
  obtain ⟨b1, b2, b3, b4, e1, e2, e3, e4, hb⟩ := HF.out
  have HS3 : Aside0 ((g1, g2, b1 && b2 && b3 && b4) = s) := ⟨by rw [← HS2.out, ← e1, ← e2, ← e3, ← e4]; by_cases x1 : g3 = 0 <;> by_cases x2 : g1 ≤ g2 <;> by_cases x3 : 0 ≤ g1 <;> by_cases x4 : g2 ≤ cl <;> simp [x1, x2, x3, x4]⟩
  obtain rfl := HS3.out
  rcases hb with rfl | ⟨rfl, rfl⟩ | ⟨rfl, rfl, rfl⟩ | ⟨rfl, rfl, rfl, rfl⟩ | ⟨rfl, rfl, rfl, rfl⟩
  all_goals
    refine wp_region_held_drew (S := fun W' => Below w.heap.size w W' ∧ W'.cell? ⟨w3.heap.size, 0, none⟩ = some (.int .i64 g1) ∧ W'.cell? ⟨w3.heap.size, 1, none⟩ = some (.int .i64 g2) ∧ W'.cell? ⟨w.heap.size, 1, none⟩ = some (.int .i64 cl)) (by kernel_rfl) ?hS (fun hHeld => ?_)
    case hS => exact ⟨below_drew HBW.out, q0, q1, q2⟩
    refine tkT 0 (some 22) (v := ?_) rfl rfl (.inl ⟨by rfl, ?_⟩) ?_
    rotate_left
    · (intro w hSw; (try dsimp only at hSw); go_simp; with_reducible rfl)
    try simp only [pS]
    refine tkT 1 (some 23) (v := ?_) rfl rfl (.inl ⟨by rfl, ?_⟩) ?_
    rotate_left
    · (intro w hSw; (try dsimp only at hSw); go_simp; with_reducible rfl)
    try simp only [pS]
    refine tkT 2 (some 24) (v := ?_) rfl rfl (.inl ⟨by rfl, ?_⟩) ?_
    rotate_left
    · (intro w hSw; (try dsimp only at hSw); go_simp; with_reducible rfl)
    try simp only [pS]
    refine tkT 3 (some 25) (v := ?_) rfl rfl (.inl ⟨by rfl, ?_⟩) ?_
    rotate_left
    · (intro w hSw; (try dsimp only at hSw); go_simp; with_reducible rfl)
    try simp only [pS]
    first | (refine tkT 4 (some 26) (v := undef) rfl rfl (.inr ⟨by rfl, rfl⟩) ?_) | (refine tkT 4 (some 26) (v := ?_) rfl rfl (.inl ⟨by rfl, ?_⟩) ?_; rotate_left; · (intro w hSw; (try dsimp only at hSw); go_simp; with_reducible rfl))
    try simp only [pS]
    first | (refine tkT 5 (some 27) (v := undef) rfl rfl (.inr ⟨by rfl, rfl⟩) ?_) | (refine tkT 5 (some 27) (v := ?_) rfl rfl (.inl ⟨by rfl, ?_⟩) ?_; rotate_left; · (intro w hSw; (try dsimp only at hSw); go_simp; with_reducible rfl))
    try simp only [pS]
    first | (refine tkT 6 (some 28) (v := undef) rfl rfl (.inr ⟨by rfl, rfl⟩) ?_) | (refine tkT 6 (some 28) (v := ?_) rfl rfl (.inl ⟨by rfl, ?_⟩) ?_; rotate_left; · (intro w hSw; (try dsimp only at hSw); go_simp; with_reducible rfl))
    try simp only [pS]
    first | (refine tkT 7 (some 29) (v := undef) rfl rfl (.inr ⟨by rfl, rfl⟩) ?_) | (refine tkT 7 (some 29) (v := ?_) rfl rfl (.inl ⟨by rfl, ?_⟩) ?_; rotate_left; · (intro w hSw; (try dsimp only at hSw); go_simp; with_reducible rfl))
    try simp only [pS]
    first | (refine tkT 8 (some 30) (v := undef) rfl rfl (.inr ⟨by rfl, rfl⟩) ?_) | (refine tkT 8 (some 30) (v := ?_) rfl rfl (.inl ⟨by rfl, ?_⟩) ?_; rotate_left; · (intro w hSw; (try dsimp only at hSw); go_simp; with_reducible rfl))
    try simp only [pS]
    refine tkT 9 (some 31) (v := ?_) rfl rfl (.inl ⟨by rfl, ?_⟩) ?_
    rotate_left
    · (intro w hSw; (try dsimp only at hSw); go_simp; with_reducible rfl)
    try simp only [pS]
    refine tkT 10 (some 32) (v := ?_) rfl rfl (.inl ⟨by rfl, ?_⟩) ?_
    rotate_left
    · (intro w hSw; (try dsimp only at hSw); go_simp; with_reducible rfl)
    try simp only [pS]
    first | (refine tkT 11 (some 33) (v := undef) rfl rfl (.inr ⟨by rfl, rfl⟩) ?_) | (refine tkT 11 (some 33) (v := ?_) rfl rfl (.inl ⟨by rfl, ?_⟩) ?_; rotate_left; · (intro w hSw; (try dsimp only at hSw); go_simp; with_reducible rfl))
    try simp only [pS]
    first | (refine tkT 12 (some 34) (v := undef) rfl rfl (.inr ⟨by rfl, rfl⟩) ?_) | (refine tkT 12 (some 34) (v := ?_) rfl rfl (.inl ⟨by rfl, ?_⟩) ?_; rotate_left; · (intro w hSw; (try dsimp only at hSw); go_simp; with_reducible rfl))
    try simp only [pS]
    first | (refine tkT 13 (some 35) (v := undef) rfl rfl (.inr ⟨by rfl, rfl⟩) ?_) | (refine tkT 13 (some 35) (v := ?_) rfl rfl (.inl ⟨by rfl, ?_⟩) ?_; rotate_left; · (intro w hSw; (try dsimp only at hSw); go_simp; with_reducible rfl))
    try simp only [pS]
    refine tkT 14 (some 36) (v := ?_) rfl rfl (.inl ⟨by rfl, ?_⟩) ?_
    rotate_left
    · (intro w hSw; (try dsimp only at hSw); go_simp; with_reducible rfl)
    try simp only [pS]
    refine tkT 15 (some 37) (v := ?_) rfl rfl (.inl ⟨by rfl, ?_⟩) ?_
    rotate_left
    · (intro w hSw; (try dsimp only at hSw); go_simp; with_reducible rfl)
    try simp only [pS]
    first | (refine tkT 16 (some 38) (v := undef) rfl rfl (.inr ⟨by rfl, rfl⟩) ?_) | (refine tkT 16 (some 38) (v := ?_) rfl rfl (.inl ⟨by rfl, ?_⟩) ?_; rotate_left; · (intro w hSw; (try dsimp only at hSw); go_simp; with_reducible rfl))
    try simp only [pS]
    first | (refine tkT 17 (some 39) (v := undef) rfl rfl (.inr ⟨by rfl, rfl⟩) ?_) | (refine tkT 17 (some 39) (v := ?_) rfl rfl (.inl ⟨by rfl, ?_⟩) ?_; rotate_left; · (intro w hSw; (try dsimp only at hSw); go_simp; with_reducible rfl))
    try simp only [pS]
    first | (refine tkT 18 (some 40) (v := undef) rfl rfl (.inr ⟨by rfl, rfl⟩) ?_) | (refine tkT 18 (some 40) (v := ?_) rfl rfl (.inl ⟨by rfl, ?_⟩) ?_; rotate_left; · (intro w hSw; (try dsimp only at hSw); go_simp; with_reducible rfl))
    try simp only [pS]
    first | (refine tkT 19 (some 41) (v := undef) rfl rfl (.inr ⟨by rfl, rfl⟩) ?_) | (refine tkT 19 (some 41) (v := ?_) rfl rfl (.inl ⟨by rfl, ?_⟩) ?_; rotate_left; · (intro w hSw; (try dsimp only at hSw); go_simp; with_reducible rfl))
    try simp only [pS]
    first | (refine tkT 20 (some 42) (v := undef) rfl rfl (.inr ⟨by rfl, rfl⟩) ?_) | (refine tkT 20 (some 42) (v := ?_) rfl rfl (.inl ⟨by rfl, ?_⟩) ?_; rotate_left; · (intro w hSw; (try dsimp only at hSw); go_simp; with_reducible rfl))
    try simp only [pS]
    refine tkT 21 (some 43) (v := ?_) rfl rfl (.inl ⟨by rfl, ?_⟩) ?_
    rotate_left
    · (intro w hSw; (try dsimp only at hSw); go_simp; with_reducible rfl)
    try simp only [pS]
    refine wpAnyH_ready (rs := [22]) (by kernel_rfl) (by simp) ?_
    refine AllReadyH.cons (o := { dst := none, op := Op.store 61 (Operand.tmp 6) (Operand.tmp 22), type := 0, pos := "outright.go:149", after := #[{ on := 0, ground := Ground.data }, { on := 15, ground := Ground.chain }, { on := 0, ground := Ground.phase }, { on := 1, ground := Ground.textOnly Departure.lateStores }, { on := 2, ground := Ground.textOnly Departure.lateStores }, { on := 3, ground := Ground.textOnly Departure.lateStores }, { on := 4, ground := Ground.textOnly Departure.lateStores }, { on := 5, ground := Ground.textOnly Departure.lateStores }, { on := 6, ground := Ground.textOnly Departure.lateStores }, { on := 7, ground := Ground.textOnly Departure.lateStores }, { on := 8, ground := Ground.textOnly Departure.lateStores }, { on := 9, ground := Ground.textOnly Departure.lateStores }, { on := 10, ground := Ground.textOnly Departure.lateStores }, { on := 11, ground := Ground.textOnly Departure.lateStores }, { on := 12, ground := Ground.textOnly Departure.lateStores }, { on := 13, ground := Ground.textOnly Departure.lateStores }, { on := 14, ground := Ground.textOnly Departure.lateStores }, { on := 15, ground := Ground.textOnly Departure.lateStores }, { on := 16, ground := Ground.textOnly Departure.lateStores }, { on := 17, ground := Ground.textOnly Departure.lateStores }, { on := 18, ground := Ground.textOnly Departure.lateStores }, { on := 19, ground := Ground.textOnly Departure.lateStores }, { on := 20, ground := Ground.textOnly Departure.lateStores }, { on := 21, ground := Ground.textOnly Departure.lateStores }], guard := none }) rfl (fun K hK => ?_) ?_
    go_simp
    refine hK.out _ _ ?_ ?_
    · ((try dsimp only); exact ⟨below_drew ((HBW.out.setCell (by simp) _).setCell (by simp) _), (blk_cell (blk_far (blk_far HQ4.out hne _) hne _) 0).trans rfl, (blk_cell (blk_far (blk_far HQ4.out hne _) hne _) 1).trans rfl, (blk_cell (blk_far (blk_far HK4.out hne2 _) hne2 _) 1).trans rfl⟩)
    try clear hHeld
    intro hHeld
    clear hK K
    try simp only [pS]
    refine tkT 23 (some 7) (v := ?_) rfl rfl (.inl ⟨by rfl, ?_⟩) ?_
    rotate_left
    · (intro w hSw; (try dsimp only at hSw); go_simp; with_reducible rfl)
    try simp only [pS]
    refine wpAnyH_done (by kernel_rfl) ?_ _
    rotate_left
    exact AllReadyH.nil
    go_wp2_with fail
    refine bodyPost_ret (results_list (rs := [.cell 6 61, .tmp 7]) rfl (by simp) (.cell (w.heap.size + 1) 61 #[.int .i64 g1, .int .i64 g2] (0, 0) _ rfl (blk_drew (blk_put (blk_put HR4.out 0 _ rfl) 1 _ rfl)) Try.underlying61 rfl (by kernel_rfl) (.tmp .nil))) rfl ⟨rfl, hHeld.1⟩
end Go.Proofs.Ytokhmghgghjmhaa.Q
namespace Go.Proofs.Ytokhmghgghjmhaa.Q
open Go.RowKit Go.Proofs.YtokhmghgghjmhaaW.PrintWords Go.Proofs.YtokhmghgghjmhaaW.PrintLast Go.Proofs.YtokhmghgghjmhaaW.PrintMore
set_option linter.unusedVariables false
def Box (w : World) (g : Nat) (cs cl : Int) (A2 A3 A4 : Option Addr) (n2 n3 n4 c2 c3 c4 : Nat) : Prop := w.heap[g]? = some (.cells #[.int .i64 cs, .int .i64 cl, .slice A2 n2 c2, .slice A3 n3 c3, .slice A4 n4 c4] 26 (0, 0))
section
variable {w w' : World} {g : Nat} {cs cl : Int} {A2 A3 A4 : Option Addr} {n2 n3 n4 c2 c3 c4 : Nat}
theorem Box.later (h : Box w g cs cl A2 A3 A4 n2 n3 n4 c2 c3 c4) (hb : Below w.heap.size w w') : Box w' g cs cl A2 A3 A4 n2 n3 n4 c2 c3 c4 := blk_below h hb
theorem Box.at0 (h : Box w g cs cl A2 A3 A4 n2 n3 n4 c2 c3 c4) : w.cell? ⟨g, 0, none⟩ = some (.int .i64 cs) := (blk_cell h 0).trans rfl
theorem Box.at1 (h : Box w g cs cl A2 A3 A4 n2 n3 n4 c2 c3 c4) : w.cell? ⟨g, 1, none⟩ = some (.int .i64 cl) := (blk_cell h 1).trans rfl
theorem Box.at2 (h : Box w g cs cl A2 A3 A4 n2 n3 n4 c2 c3 c4) : w.cell? ⟨g, 2, none⟩ = some (.slice A2 n2 c2) := (blk_cell h 2).trans rfl
theorem Box.at3 (h : Box w g cs cl A2 A3 A4 n2 n3 n4 c2 c3 c4) : w.cell? ⟨g, 3, none⟩ = some (.slice A3 n3 c3) := (blk_cell h 3).trans rfl
theorem Box.at4 (h : Box w g cs cl A2 A3 A4 n2 n3 n4 c2 c3 c4) : w.cell? ⟨g, 4, none⟩ = some (.slice A4 n4 c4) := (blk_cell h 4).trans rfl
theorem Box.new {W0 : World} (h : w.alloc (.cells #[.int .i64 cs, .int .i64 cl, .slice A2 n2 c2, .slice A3 n3 c3, .slice A4 n4 c4] 26) = W0) : Box W0 w.heap.size cs cl A2 A3 A4 n2 n3 n4 c2 c3 c4 ∧ Below w.heap.size w W0 := by
  subst h; exact ⟨blk_new _ _, below_alloc (Below.refl _ _) _⟩
end
/-- A list of numbers that lies in memory. -/
def Ls (k : IntKind) (w : World) (A : Option Addr) (c : Nat) (l : List Int) : Prop := Kd.C (Kd.int k) w A l.length l ∧ l.length ≤ c
theorem Ls.later {k : IntKind} {w w' : World} {A : Option Addr} {c : Nat} {l : List Int} (h : Ls k w A c l) (hb : Below w.heap.size w w') : Ls k w' A c l := ⟨Kd.C_below h.1 hb, h.2⟩
section
variable {cs cl : Int} {A2 A3 A4 A : Option Addr} {c2 c3 c4 c : Nat} {hs : List S68} {hung : List Int} {looks : List S84} {words : List Int} {w : World}
theorem ready_q (M : Ref w A2 A3 A4 c2 c3 c4 hs hung looks) {r : Bool} (hr : decide ((hs.length ≤ 30 ∧ hung.length ≤ 30 ∧ looks.length ≤ 30) ∧ checkB cs cl (hs.map toH) hung (looks.map toL) = 0) = r) :
    Calls Try.prog 41 #[.agg #[.int .i64 cs, .int .i64 cl, .slice A2 hs.length c2, .slice A3 hung.length c3, .slice A4 looks.length c4]] w fun e w' => e = .returned (.bool r) ∧ Below w.heap.size w w' :=
  posserlaw04_ready.calls cs cl A2 c2 hs A3 c3 hung A4 c4 looks r w M.h2 M.l2 M.h3 M.l3 M.h4 M.l4 (by rw [ready_f, hr])
theorem placedw_q (M : Ref w A2 A3 A4 c2 c3 c4 hs hung looks) (hW : Ls .u16 w A c words) {p : List Int} (hp : posserlaw04_Placed.f 3000 cs cl hs hung looks words = some p) :
    Calls Try.prog 42 #[.agg #[.int .i64 cs, .int .i64 cl, .slice A2 hs.length c2, .slice A3 hung.length c3, .slice A4 looks.length c4], .slice A words.length c] w
      fun e w' => ∃ B d, e = .returned (.slice B p.length d) ∧ Ls .i64 w' B d p ∧ Below w.heap.size w w' := by
  refine (posserlaw04_Placed.calls 3000 cs cl A2 c2 hs A3 c3 hung A4 c4 looks A c words p w M.h2 M.l2 M.h3 M.l3 M.h4 M.l4 hW.1 hW.2 hp).mono ?_
  rintro e w' ⟨v, rfl, hR, hb⟩
  obtain ⟨B, d, rfl, h1, h2⟩ := R_C hR
  exact ⟨B, d, rfl, ⟨h1, h2⟩, hb⟩
theorem list_qq {l : List Int} (hC : Ls .i64 w A c l) (h : l.length ≤ 1000) :
    Calls Try.prog 27 #[.slice A l.length c] w fun e w' => ∃ B d, e = .returned (.slice B l.length d) ∧ Ls .i64 w' B d l ∧ Below w.heap.size w w' := list_q hC.1 hC.2 h
end
end Go.Proofs.Ytokhmghgghjmhaa.Q
namespace Go.Proofs.Ytokhmghgghjmhaa.Q
open Go.RowKit Go.ChangeShapes Go.WideShapes Go.Deep Go.Proofs.YtokhmghgghjmhaaW.PrintWords Go.Proofs.YtokhmghgghjmhaaW.PrintLast Go.Proofs.YtokhmghgghjmhaaW.PrintMore
set_option linter.unusedVariables false
set_option maxRecDepth 100000
section
variable {H : Type} {enc : TypeId × Value → H} {w : World} {base : Nat} {sp : Nat → Bool} {held : Bool}
/-- A slice that is read, as1 a row: each element by its own reading; with what is told of each. -/
theorem open_rowQ {α : Type} {Q : α → Prop} (d : Kd α) {t e : TypeId} {fuel : Nat} {cs : List Value} {x : DataW H × List MemPlace} (ht : Try.prog.underlying t = some (.slice e)) (hc : Try.prog.cellsOf e = d.sz) (hsz : 0 < d.sz)
    (hel : ∀ (fuel : Nat) (cs : List Value) (x : DataW H × List MemPlace), DataW.trod enc Try.prog w base sp held fuel e cs = some x → ∃ p, d.K w p cs ∧ Q p)
    (h : DataW.trod enc Try.prog w base sp held fuel t cs = some x) : ∃ (A : Option Addr) (xs : List α) (c : Nat), cs = [.slice A xs.length c] ∧ d.C w A xs.length xs ∧ xs.length ≤ c ∧ ∀ p ∈ xs, Q p := by
  rcases open_slice ht h with ⟨rfl, _⟩ | ⟨a, len, cap, m, n, D, Pl, rfl, _, hl, hm, hmm, _, hx⟩
  · exact ⟨none, [], 0, rfl, ⟨rfl, by simp, fun h => absurd h (by simp)⟩, Nat.le_refl 0, fun p hp => by cases hp⟩
  have hlm : len ≤ m := by rw [hmm]; split <;> omega
  have each : ∀ i : Fin len, ∃ (p : α) (cs' : List Value), d.K w p cs' ∧ cs'.length = d.sz ∧ (∀ j, j < d.sz → w.cell? (a.add (i.1 * d.sz + j)) = cs'[j]?) ∧ Q p := by
    intro i
    obtain ⟨cs', h1, h2⟩ := hx i.1 (by have := i.2; omega)
    obtain ⟨p, hp, hq⟩ := hel _ _ _ h2
    rw [hc] at h1
    obtain ⟨_, hlen, hcell⟩ := World.cells?_some h1
    exact ⟨p, cs', hp, hlen, fun j hj => by rw [← Go.Deep.add_add]; exact hcell j hj, hq⟩
  refine ⟨some a, (List.finRange len).map fun i => (each i).choose, cap, by simp, ⟨by simp, ?_, fun _ => ⟨a, rfl, fun j p hj => ?_⟩⟩, by simpa using hl, fun p hp => ?_⟩
  · have : maxLen ≤ 9223372036854775807 := by decide
    simp only [List.length_map, List.length_finRange]
    omega
  · rw [List.getElem?_map] at hj
    have hjl : j < len := by
      rcases Nat.lt_or_ge j len with h | h
      · exact h
      · rw [List.getElem?_eq_none (by simpa using h)] at hj
        cases hj
    rw [List.getElem?_eq_getElem (by simpa using hjl), Option.map_some, Option.some.injEq] at hj
    obtain ⟨cs', hK, hlen, hcell, _⟩ := (each ((List.finRange len)[j]'(by simpa using hjl))).choose_spec
    rw [hj] at hK
    refine ⟨cs', hlen, hK, fun i u hu => ?_⟩
    have hi : i < d.sz := by rw [← hlen]; exact (List.getElem?_eq_some_iff.1 hu).1
    have := hcell i hi
    rw [hu] at this
    simpa using this
  · obtain ⟨i, _, rfl⟩ := List.mem_map.1 hp
    obtain ⟨_, _, _, _, hq⟩ := (each i).choose_spec
    exact hq
theorem open_rowC {α : Type} (d : Kd α) {t e : TypeId} {fuel : Nat} {cs : List Value} {x : DataW H × List MemPlace} (ht : Try.prog.underlying t = some (.slice e)) (hc : Try.prog.cellsOf e = d.sz) (hsz : 0 < d.sz)
    (hel : ∀ (fuel : Nat) (cs : List Value) (x : DataW H × List MemPlace), DataW.trod enc Try.prog w base sp held fuel e cs = some x → ∃ p, d.K w p cs)
    (h : DataW.trod enc Try.prog w base sp held fuel t cs = some x) : ∃ (A : Option Addr) (xs : List α) (c : Nat), cs = [.slice A xs.length c] ∧ d.C w A xs.length xs ∧ xs.length ≤ c := by
  obtain ⟨A, xs, c, h1, h2, h3, _⟩ := open_rowQ (Q := fun _ => True) d ht hc hsz (fun f cs x h => by obtain ⟨p, hp⟩ := hel f cs x h; exact ⟨p, hp, trivial⟩) h
  exact ⟨A, xs, c, h1, h2, h3⟩
theorem trod_int3 {fuel : Nat} {cs : List Value} {x : DataW H × List MemPlace} (h : DataW.trod enc Try.prog w base sp held fuel 3 cs = some x) : ∃ n : Int, cs = [.int .i64 n] := by
  obtain ⟨n, rfl, _⟩ := DataW.trod_int Try.underlying3 h
  exact ⟨n, rfl⟩
theorem trod_66 {fuel : Nat} {cs : List Value} {x : DataW H × List MemPlace} (h : DataW.trod enc Try.prog w base sp held fuel 66 cs = some x) : ∃ p : S66, cs = [.int .i64 p.f0, .int .i64 p.f1] := by
  obtain ⟨xs, n, _, _, hl, hlen, hf⟩ := DataW.trod_struct Try.underlying66 h
  have hl2 : cs.length = 2 := hl.trans (by kernel_rfl)
  match cs, hl2, xs, hlen with
  | [c0, c1], _, [y0, y1], _ =>
    obtain ⟨a, ha⟩ := trod_int3 (hf 0 _ rfl)
    obtain ⟨b, hb⟩ := trod_int3 (hf 1 _ rfl)
    have hc3 : Try.prog.cellsOf 3 = 1 := by kernel_rfl
    simp [hc3] at ha hb
    exact ⟨⟨a, b⟩, by rw [ha, hb]⟩
theorem trod_68 {fuel : Nat} {cs : List Value} {x : DataW H × List MemPlace} (h : DataW.trod enc Try.prog w base sp held fuel 68 cs = some x) : ∃ p : S68, k68.K w p cs := by
  obtain ⟨xs, n, _, _, hl, hlen, hf⟩ := DataW.trod_struct Try.underlying68 h
  have hl2 : cs.length = 4 := hl.trans (by kernel_rfl)
  match cs, hl2, xs, hlen with
  | [c0, c1, c2, c3], _, [y0, y1, y2], _ =>
    obtain ⟨r, hr⟩ := trod_66 (hf 0 _ rfl)
    obtain ⟨a, ha⟩ := trod_int3 (hf 1 _ rfl)
    obtain ⟨b, hb⟩ := trod_int3 (hf 2 _ rfl)
    have hc3 : Try.prog.cellsOf 3 = 1 := by kernel_rfl
    have hc66 : Try.prog.cellsOf 66 = 2 := by kernel_rfl
    simp [hc3, hc66] at hr ha hb
    obtain ⟨h0, h1⟩ := hr
    subst h0 h1 ha hb
    exact ⟨⟨r, a, b⟩, k68_mk w ⟨r, a, b⟩⟩
theorem trod_84 {fuel : Nat} {cs : List Value} {x : DataW H × List MemPlace} (h : DataW.trod enc Try.prog w base sp held fuel 84 cs = some x) : ∃ p : S84, k84.K w p cs := by
  obtain ⟨xs, n, _, _, hl, hlen, hf⟩ := DataW.trod_struct Try.underlying84 h
  have hl2 : cs.length = 3 := hl.trans (by kernel_rfl)
  match cs, hl2, xs, hlen with
  | [c0, c1, c2], _, [y0, y1, y2], _ =>
    obtain ⟨r, hr⟩ := trod_int3 (hf 0 _ rfl)
    obtain ⟨a, ha⟩ := trod_int3 (hf 1 _ rfl)
    obtain ⟨b, hb, _⟩ := DataW.trod_bool Try.underlying4 (hf 2 _ rfl)
    have hc3 : Try.prog.cellsOf 3 = 1 := by kernel_rfl
    have hc4 : Try.prog.cellsOf 4 = 1 := by kernel_rfl
    simp [hc3, hc4] at hr ha hb
    subst hr ha hb
    exact ⟨⟨r, a, b⟩, k84_mk w ⟨r, a, b⟩⟩
theorem trod_ints {fuel : Nat} {cs : List Value} {x : DataW H × List MemPlace} (h : DataW.trod enc Try.prog w base sp held fuel 23 cs = some x) : ∃ (A : Option Addr) (xs : List Int) (c : Nat), cs = [.slice A xs.length c] ∧ (Kd.int .i64).C w A xs.length xs ∧ xs.length ≤ c :=
  open_rowC (Kd.int .i64) Try.underlying23 (by kernel_rfl) (by decide) (fun fuel cs x h => by obtain ⟨n, rfl⟩ := trod_int3 h; exact ⟨n, rfl⟩) h
/-- Closets that are read, opened. -/
theorem open_closet {b0 : Nat} {v : Value} {d : DataW H} {p : List MemPlace} (hv : Value.okWide Try.prog w .any b0 26 v) (h : DataW.Trod enc Try.prog w base sp held 26 v d p) :
    ∃ (cs cl : Int) (A2 : Option Addr) (hs : List S68) (c2 : Nat) (A3 : Option Addr) (hung : List Int) (c3 : Nat) (A4 : Option Addr) (looks : List S84) (c4 : Nat),
      v = .agg #[.int .i64 cs, .int .i64 cl, .slice A2 hs.length c2, .slice A3 hung.length c3, .slice A4 looks.length c4] ∧ (k68.C w A2 hs.length hs ∧ hs.length ≤ c2) ∧ ((Kd.int .i64).C w A3 hung.length hung ∧ hung.length ≤ c3) ∧ (k84.C w A4 looks.length looks ∧ looks.length ≤ c4) := by
  obtain ⟨cs, rfl, hsz⟩ := okWide_struct Try.underlying26 hv
  obtain ⟨fuel, hf0⟩ := h
  obtain ⟨xs, n, _, _, hl, hlen, hf⟩ := DataW.trod_struct Try.underlying26 hf0
  have hl2 : cs.toList.length = 5 := hl.trans (by kernel_rfl)
  obtain ⟨l⟩ := cs
  match l, hl2, xs, hlen with
  | [v0, v1, v2, v3, v4], _, [y0, y1, y2, y3, y4], _ =>
    obtain ⟨a, ha⟩ := trod_int3 (hf 0 _ rfl)
    obtain ⟨b, hb⟩ := trod_int3 (hf 1 _ rfl)
    obtain ⟨A2, hs, c2, e2, C2, l2⟩ := open_rowC k68 Try.underlying22 (by kernel_rfl) (by decide) (fun fuel cs x h => trod_68 h) (hf 2 _ rfl)
    obtain ⟨A3, hung, c3, e3, C3, l3⟩ := trod_ints (hf 3 _ rfl)
    obtain ⟨A4, looks, c4, e4, C4, l4⟩ := open_rowC k84 Try.underlying24 (by kernel_rfl) (by decide) (fun fuel cs x h => trod_84 h) (hf 4 _ rfl)
    have hc3 : Try.prog.cellsOf 3 = 1 := by kernel_rfl
    have hc22 : Try.prog.cellsOf 22 = 1 := by kernel_rfl
    have hc23 : Try.prog.cellsOf 23 = 1 := by kernel_rfl
    have hc24 : Try.prog.cellsOf 24 = 1 := by kernel_rfl
    simp [Value.cells, hc3, hc22, hc23, hc24] at ha hb e2 e3 e4
    subst ha hb e2 e3 e4
    exact ⟨a, b, A2, hs, c2, A3, hung, c3, A4, looks, c4, rfl, ⟨C2, l2⟩, ⟨C3, l3⟩, ⟨C4, l4⟩⟩
/-- A list of numbers that is read, opened. -/
theorem open_list {b0 : Nat} {v : Value} {d : DataW H} {p : List MemPlace} (hv : Value.okWide Try.prog w .any b0 23 v) (h : DataW.Trod enc Try.prog w base sp held 23 v d p) :
    ∃ (A : Option Addr) (l : List Int) (c : Nat), v = .slice A l.length c ∧ (Kd.int .i64).C w A l.length l ∧ l.length ≤ c := by
  obtain ⟨a, len, cap, rfl⟩ := okWide_slice Try.underlying23 hv
  obtain ⟨f, hf⟩ := h
  obtain ⟨A, xs, c, e, hC, hl⟩ := trod_ints hf
  simp only [Value.cells, List.cons.injEq, and_true] at e
  exact ⟨A, xs, c, e, hC, hl⟩
end
end Go.Proofs.Ytokhmghgghjmhaa.Q
namespace Go.Proofs.Ytokhmghgghjmhaa.Q
open Go.RowKit Go.ChangeShapes Go.WideShapes Go.Deep Go.Proofs.YtokhmghgghjmhaaW.PrintWords Go.Proofs.YtokhmghgghjmhaaW.PrintLast Go.Proofs.YtokhmghgghjmhaaW.PrintMore
set_option linter.unusedVariables false
section
variable {H : Type} {enc : TypeId × Value → H} {w : World} {base : Nat} {sp : Nat → Bool} {held : Bool}
theorem u16_range {n : Int} (h : (Lit.int .u16 n).wf = true) : 0 ≤ n ∧ n ≤ 65535 := by
  simp only [Lit.wf, Bool.and_eq_true, decide_eq_true_eq] at h
  obtain ⟨h1, h2⟩ := h
  have e1 : IntKind.u16.min = 0 := by decide
  have e2 : IntKind.u16.max = 65535 := by decide
  omega
theorem u8_range {n : Int} (h : (Lit.int .u8 n).wf = true) : 0 ≤ n ∧ n ≤ 255 := by
  simp only [Lit.wf, Bool.and_eq_true, decide_eq_true_eq] at h
  obtain ⟨h1, h2⟩ := h
  have e1 : IntKind.u8.min = 0 := by decide
  have e2 : IntKind.u8.max = 255 := by decide
  omega
set_option maxRecDepth 100000 in
/-- A list of words that is read, opened. -/
theorem open_words {b0 : Nat} {v : Value} {d : DataW H} {p : List MemPlace} (hv : Value.okWide Try.prog w .any b0 56 v) (h : DataW.Trod enc Try.prog w base sp held 56 v d p) :
    ∃ (A : Option Addr) (l : List Int) (c : Nat), v = .slice A l.length c ∧ Ls .u16 w A c l ∧ Words l := by
  obtain ⟨a, len, cap, rfl⟩ := okWide_slice Try.underlying56 hv
  obtain ⟨f, hf⟩ := h
  obtain ⟨A, xs, c, e, hC, hl, hq⟩ := open_rowQ (Q := fun n : Int => 0 ≤ n ∧ n ≤ 65535) (Kd.int .u16) Try.underlying56 (by kernel_rfl) (by decide) (fun fuel cs x h => by
    obtain ⟨n, rfl, _, hw⟩ := DataW.trod_int Try.underlying65 h
    exact ⟨n, rfl, u16_range hw⟩) hf
  simp only [Value.cells, List.cons.injEq, and_true] at e
  refine ⟨A, xs, c, e, ⟨hC, hl⟩, fun i => ?_⟩
  by_cases hi : i < xs.length
  · rw [rd_get xs i hi]; exact hq _ (List.getElem_mem hi)
  · rw [rd_nn, List.getD_eq_getElem?_getD, List.getElem?_eq_none (by omega)]; exact ⟨by decide, by decide⟩
end
end Go.Proofs.Ytokhmghgghjmhaa.Q
