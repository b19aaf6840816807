/- Part A2 of the proof (C15, C16, C17, C18, C19): contracts of functions, and plain lemmas about what they compute. -/
import Derived.Test.YtokhmghgghjmhaaA0
import Derived.Test.YtokhmghgghjmhaaA1
namespace Go.Proofs.Ytokhmghgghjmhaa.Q
open Go.RowKit Go.Shelf Go.Proofs.YtokhmghgghjmhaaW.PrintWords Go.Proofs.YtokhmghgghjmhaaW.PrintLast Go.Proofs.YtokhmghgghjmhaaW.PrintMore
attribute [local go_sem] Oper.semAt_some
set_option linter.unusedVariables false
set_option linter.unusedSimpArgs false
/-- What one has who asks of closets without fault. -/
structure Asked (w : World) (cs cl : Int) (A2 A3 A4 : Option Addr) (c2 c3 c4 : Nat) (hs : List S139) (hung : List Int) (looks : List S140) (g m : Nat) (AT : Option Addr) (cT : Nat) (W : World) : Prop where
  below : Below w.heap.size w W
  g0 : w.heap.size ≤ g
  m0 : w.heap.size ≤ m
  at0 : ∀ k, (Value.slice AT (truthsT hs hung looks).length cT).ownBlock = some k → w.heap.size ≤ k
  k : W.heap[m]? = some (.map #[] 0)
  work : Work W g (some m) cs cl A2 A3 A4 AT c2 c3 c4 cT hs hung looks (truthsT hs hung looks)
set_option maxHeartbeats 4000000 in
set_option maxRecDepth 100000 in
theorem asked_ok (cs cl : Int) {A2 A3 A4 : Option Addr} {c2 c3 c4 : Nat} {hs : List S139} {hung : List Int} {looks : List S140} {w : World} (M : Mem w A2 A3 A4 c2 c3 c4 hs hung looks) (h0 : checkB cs cl hs hung looks = 0) :
    Calls Try.prog 87 #[.agg #[.int .i64 cs, .int .i64 cl, .slice A2 hs.length c2, .slice A3 hung.length c3, .slice A4 looks.length c4], .bool true] w
      fun e w' => (truthsT hs hung looks = [] ∧ e = .returned (.tuple #[.pointer none, .int .i64 11]) ∧ Below w.heap.size w w') ∨
        (truthsT hs hung looks ≠ [] ∧ ∃ g m AT cT, e = .returned (.tuple #[.pointer (some ⟨g, 0, none⟩), .int .i64 0]) ∧ Asked w cs cl A2 A3 A4 c2 c3 c4 hs hung looks g m AT cT w') := by
  have HM := Aside0.mk M
  have HV := Aside0.mk (valid_of h0)
  have H0 := Aside0.mk h0
  have hmm := @run_makeMap Try.prog
  clear M h0
  have HB0 := Aside0.mk (below_alloc (Below.refl w.heap.size w) (.cells #[.int .i64 cs, .int .i64 cl, .slice A2 hs.length c2, .slice A3 hung.length c3, .slice A4 looks.length c4] 35))
  refine (callsIn_wide (n := 3)).1 ?_
  refine callsIn_of_wp_marks Try.func87 rfl trivial ?_ rfl
  simp only [Try.ntmps87, List.size_toArray, List.length_cons, List.length_nil, Nat.reduceAdd, Nat.reduceSub, Array.replicate_succ, Array.replicate_zero, List.push_toArray, List.append_toArray, List.nil_append, List.cons_append]
  gi_wp2_with fail
  refine ⟨trivial, ?_⟩
  refine callsIn_wide.2 ((check_calls cs cl (HM.out.later HB0.out)).mono ?_)
  rintro e w1 ⟨rfl, hb⟩
  rw [H0.out]
  have HB1 := Aside0.mk (below_step HB0.out hb)
  have BK1 := Aside0.mk (blk_below (blk_new w (.cells #[.int .i64 cs, .int .i64 cl, .slice A2 hs.length c2, .slice A3 hung.length c3, .slice A4 looks.length c4] 35)) hb)
  have z1 := blk_lt BK1.out
  clear hb
  have b0 : w1.cell? ⟨w.heap.size, 0, none⟩ = some (.int .i64 cs) := (blk_cell BK1.out 0).trans rfl
  have b1 : w1.cell? ⟨w.heap.size, 1, none⟩ = some (.int .i64 cl) := (blk_cell BK1.out 1).trans rfl
  have b2 : w1.cell? ⟨w.heap.size, 2, none⟩ = some (.slice A2 hs.length c2) := (blk_cell BK1.out 2).trans rfl
  have b3 : w1.cell? ⟨w.heap.size, 3, none⟩ = some (.slice A3 hung.length c3) := (blk_cell BK1.out 3).trans rfl
  have b4 : w1.cell? ⟨w.heap.size, 4, none⟩ = some (.slice A4 looks.length c4) := (blk_cell BK1.out 4).trans rfl
  obtain ⟨W1, hW1⟩ : ∃ W1, ((w1.alloc (.map #[] 0)).alloc (.cells #[.int .i64 cs, .int .i64 cl, .slice A2 hs.length c2, .slice A3 hung.length c3, .slice A4 looks.length c4, .slice none 0 0, .map (some w1.heap.size)] 144)).alloc (.cells #[.pointer (some ⟨w1.heap.size + 1, 0, none⟩)] 132) = W1 := ⟨_, rfl⟩
  have HB2 : Below w1.heap.size w1 W1 := by rw [← hW1]; repeat (first | exact Below.refl _ _ | apply below_alloc)
  have hz : W1.heap.size = w1.heap.size + 3 := by rw [← hW1]; simp
  have d0 := later HB2 b0
  have d1 := later HB2 b1
  have d2 := later HB2 b2
  have d3 := later HB2 b3
  have d4 := later HB2 b4
  gi_wp2_with (rw [hW1])
  refine ⟨trivial, ?_⟩
  refine (callsIn_wide.2 (truths_calls _ _ _ _ _ _)).mono ?_
  rintro e w2 ⟨rfl, rfl⟩
  gi_wp2_with fail
  obtain ⟨W0, hW0⟩ : ∃ W0, W1.alloc (.cells #[.int .i64 cs, .int .i64 cl, .slice A2 hs.length c2, .slice A3 hung.length c3, .slice A4 looks.length c4] 35) = W0 := ⟨_, rfl⟩
  have HB3 : Below w.heap.size w W0 := by rw [← hW0]; exact below_alloc (below_step HB1.out HB2) _
  have hP0 : AI w w.heap.size w1.heap.size (w1.heap.size + 1) (w1.heap.size + 1 + 1) cs cl A2 A3 A4 hs.length hung.length looks.length c2 c3 c4 (w1.heap.size + 4) [] W0 := by
    refine ⟨HB3, ?_, ?_, ?_, .slice none 0 0, ?_, Kd.R_nil _ _ _ _ _⟩
    · rw [← hW0]; exact blk_alloc (blk_below BK1.out HB2) _
    · rw [← hW0, ← hW1]
      exact (Below.heap_alloc _ _ _ (by simp; omega)).trans ((Below.heap_alloc _ _ _ (by simp; omega)).trans ((Below.heap_alloc _ _ _ (by simp)).trans (World.alloc_heap_new _ _)))
    · rw [← hW0, ← hW1]; repeat (first | (refine blk_new_ ?_; simp; done) | refine blk_alloc ?_ _)
    · rw [← hW0, ← hW1]; repeat (first | (refine blk_new_ ?_; simp; done) | refine blk_alloc ?_ _)
  have HP0 := Aside0.mk hP0
  have hbox : W0.heap[w1.heap.size + 3]? = some (.cells #[.int .i64 cs, .int .i64 cl, .slice A2 hs.length c2, .slice A3 hung.length c3, .slice A4 looks.length c4] 35 (0, 0)) := by
    rw [← hW0]; refine blk_new_ ?_; omega
  have hsz : W0.heap.size = w1.heap.size + 4 := by rw [← hW0]; simp; omega
  have hzw : w.heap.size < w1.heap.size := z1
  rw [hW0]
  clear hW0 hW1 hz d0 d1 d2 d3 d4 HB2 HB3 b0 b1 b2 b3 b4 hP0 BK1 hmm
  refine range_truths (wB := w) (n := 3) (w1.heap.size + 3) rfl cs cl A2 A3 A4 hung.length looks.length c2 c3 c4 hs HM.out.h2 hbox HP0.out.below HV.out.n4 HV.out.dry
    (fun pre W => AI w w.heap.size w1.heap.size (w1.heap.size + 1) (w1.heap.size + 1 + 1) cs cl A2 A3 A4 hs.length hung.length looks.length c2 c3 c4 (w1.heap.size + 4) (keepT hs hung looks pre) W)
    (fun W => False)
    (fun x a' W => ∃ Bx : Nat, W.heap[Bx]? = some (.cells #[.int .i64 (x 0), .int .i64 (x 1), .int .i64 (x 2), .int .i64 (x 3)] 152 (0, 0)) ∧ w1.heap.size + 9 ≤ Bx ∧ (∀ v, W.heap[w1.heap.size + 1]? = some (.cells #[.int .i64 cs, .int .i64 cl, .slice A2 hs.length c2, .slice A3 hung.length c3, .slice A4 looks.length c4, v, .map (some w1.heap.size)] 144 (0, 0)) → some Bx ≠ v.ownBlock) ∧
      a' = { tmps := #[.agg #[.int .i64 cs, .int .i64 cl, .slice A2 hs.length c2, .slice A3 hung.length c3, .slice A4 looks.length c4], .bool true, .pointer (some ⟨w.heap.size, 0, none⟩), undef, .pointer none, .int .i64 0, .int .i64 0, .pointer (some ⟨w1.heap.size + 1 + 1, 0, none⟩), .pointer (some ⟨Bx, 0, none⟩), .agg #[.int .i64 cs, .int .i64 cl, .slice A2 hs.length c2, .slice A3 hung.length c3, .slice A4 looks.length c4], .int .i64 0, .int .i64 0, .bool false, undef, .bool true, .bool false, .agg #[.int .i64 cs, .int .i64 cl, .slice A2 hs.length c2, .slice A3 hung.length c3, .slice A4 looks.length c4], .map (some w1.heap.size), .agg #[.int .i64 cs, .int .i64 cl, .slice A2 hs.length c2, .slice A3 hung.length c3, .slice A4 looks.length c4, .slice none 0 0, .map (some w1.heap.size)], .pointer (some ⟨w1.heap.size + 1, 0, none⟩), .agg #[.int .i64 cs, .int .i64 cl, .slice A2 hs.length c2, .slice A3 hung.length c3, .slice A4 looks.length c4], .func (.func 144) #[] #[.pointer (some ⟨w1.heap.size + 3, 0, none⟩)], .agg #[.int .i64 (x 0), .int .i64 (x 1), .int .i64 (x 2), .int .i64 (x 3)], undef, undef, undef, undef, undef, undef, undef, undef, undef, undef, undef, undef, undef, undef, undef, undef, undef, undef, undef, undef, undef, undef, undef, undef, undef, undef, undef, undef, undef, undef, undef, undef, undef, undef, undef, undef, undef, undef, undef, undef, undef, undef, undef, undef], defers := [] })
    ?sI ?sp ?sa ?sx ?sA HP0.out ?assign ?body ?done ?stop
  case sI => intro s A C h st; exact h.same st.below (by omega) (by omega) (by omega) (by omega) (by omega) (fun k h1 h2 => st.above k (by omega) h2)
  case sp => intro pre A k o h1 h2 h; exact h.same (below_putObj A k o h1) (by omega) (by omega) (by omega) (by omega) (by omega) (fun k' h3 h4 => World.putObj_heap_other (by omega))
  case sa => intro pre A o h; exact h.same ((Below.refl A.heap.size A).alloc (Nat.le_refl _) o) (by have := blk_lt h.q; omega) (by have := blk_lt h.q; omega) (by have := blk_lt h.q; omega) (by have := blk_lt h.q; omega) (by have := blk_lt h.q; omega) (fun k' h3 h4 => Below.heap_alloc A o _ h4)
  case sx => intro A k o h1 h2 h; exact h
  case sA => intro x a' A k o h1 h2 ⟨Bx, hB, hs9, hv, e⟩; exact ⟨Bx, (World.putObj_heap_other (by omega)).trans hB, hs9, (fun v h => hv v ((World.putObj_heap_other (by omega)).symm.trans h)), e⟩
  case assign =>
    intro l pre x W K hsz5 hgz h1 hK
    gi_wp2_with fail
    exact hK _ _ (Rk.alloc W _ hgz (by omega) (by omega)) (by simp; omega) (h1.same ((Below.refl W.heap.size W).alloc (Nat.le_refl _) _) (by omega) (by omega) (by omega) (by omega) (by omega) (fun k' h3 h4 => Below.heap_alloc W _ _ h4)) ⟨W.heap.size, blk_new _ _, by omega, (fun v hv e => by
      obtain ⟨v', hg', hR'⟩ := h1.t
      rw [Below.heap_alloc W _ _ (blk_lt hg'), hg'] at hv
      have := Kd.R_lt hR' W.heap.size (by injection hv with hv; injection hv with hv; simp at hv; rw [hv]; exact e.symm)
      omega), rfl⟩
  case body =>
    rintro l pre x a' W hsz5 hgz hxm h1 ⟨Bx, hB, hs9, hbv, rfl⟩
    have H1 := Aside0.mk h1
    have HB := Aside0.mk hB
    have HX : Aside0 (x ∈ dries hs) := ⟨by obtain ⟨s, e⟩ := hxm; unfold dries; rw [e]; simp⟩
    have HLN : Aside0 ((keepT hs hung looks pre).length + 1 ≤ 12960000) := ⟨by
      obtain ⟨s, e⟩ := hxm
      have h1 := keepT_len hs hung looks pre
      have h2 := dries_len HV.out
      unfold dries at h2
      rw [e] at h2
      simp at h2
      omega⟩
    obtain ⟨v, hg, hR⟩ := h1.t
    have hbv := hbv v hg
    have HG := Aside0.mk hg
    have HR := Aside0.mk hR
    obtain ⟨AT, cT, ev, hcT, hC⟩ := Kd.R_reads hR
    obtain ⟨ts, hts⟩ : ∃ ts, keepT hs hung looks pre = ts := ⟨_, rfl⟩
    rw [hts] at H1 HR ev hcT hC HLN
    have HTS := Aside0.mk hts
    have k0 : W.cell? ⟨w.heap.size, 0, none⟩ = some (.int .i64 cs) := (blk_cell h1.c 0).trans rfl
    have k1 : W.cell? ⟨w.heap.size, 1, none⟩ = some (.int .i64 cl) := (blk_cell h1.c 1).trans rfl
    have k2 : W.cell? ⟨w.heap.size, 2, none⟩ = some (.slice A2 hs.length c2) := (blk_cell h1.c 2).trans rfl
    have k3 : W.cell? ⟨w.heap.size, 3, none⟩ = some (.slice A3 hung.length c3) := (blk_cell h1.c 3).trans rfl
    have k4 : W.cell? ⟨w.heap.size, 4, none⟩ = some (.slice A4 looks.length c4) := (blk_cell h1.c 4).trans rfl
    have x0 : W.cell? ⟨Bx, 0, none⟩ = some (.int .i64 (x 0)) := (blk_cell hB 0).trans rfl
    have x1 : W.cell? ⟨Bx, 1, none⟩ = some (.int .i64 (x 1)) := (blk_cell hB 1).trans rfl
    have x2 : W.cell? ⟨Bx, 2, none⟩ = some (.int .i64 (x 2)) := (blk_cell hB 2).trans rfl
    have x3 : W.cell? ⟨Bx, 3, none⟩ = some (.int .i64 (x 3)) := (blk_cell hB 3).trans rfl
    have p0 : W.cell? ⟨w1.heap.size + 1 + 1, 0, none⟩ = some (.pointer (some ⟨w1.heap.size + 1, 0, none⟩)) := (blk_cell h1.q 0).trans rfl
    have g5 : W.cell? ⟨w1.heap.size + 1, 5, none⟩ = some v := (blk_cell hg 5).trans rfl
    subst ev
    have HBV := Aside0.mk hbv
    clear hbv
    clear h1 hB hxm hbox HP0 hg hR hts
    cases hrb : rightB hs hung looks x [] with
    | false =>
      have HK1 : Aside0 (keepT hs hung looks (pre ++ [x]) = ts) := ⟨by rw [keepT_snoc, HTS.out]; unfold keep1; rw [hrb]; simp⟩
      have HRB := Aside0.mk hrb
      clear hrb
      gi_wp2_with fail
      refine wpIn_round_held (S := fun W' => Below W.heap.size W W' ∧ W'.cell? ⟨w.heap.size, 0, none⟩ = some (.int .i64 cs) ∧ W'.cell? ⟨w.heap.size, 1, none⟩ = some (.int .i64 cl) ∧ W'.cell? ⟨w.heap.size, 2, none⟩ = some (.slice A2 hs.length c2) ∧ W'.cell? ⟨w.heap.size, 3, none⟩ = some (.slice A3 hung.length c3) ∧ W'.cell? ⟨w.heap.size, 4, none⟩ = some (.slice A4 looks.length c4) ∧
              W'.cell? ⟨Bx, 0, none⟩ = some (.int .i64 (x 0)) ∧ W'.cell? ⟨Bx, 1, none⟩ = some (.int .i64 (x 1)) ∧ W'.cell? ⟨Bx, 2, none⟩ = some (.int .i64 (x 2)) ∧ W'.cell? ⟨Bx, 3, none⟩ = some (.int .i64 (x 3))) (by kernel_rfl) (by kernel_rfl) (fun ⟨_, _, h⟩ => h) ?hS (fun hHeld => ?_)
      case hS => exact ⟨below_drew (Below.refl _ _), k0, k1, k2, k3, k4, x0, x1, x2, x3⟩
      focus
        refine tkT 0 (some 23) (v := ?_) rfl rfl (.inl ⟨by rfl, ?_⟩) ?_
        rotate_left
        · (intro w hSw; (try dsimp only at hSw); go_simp; with_reducible rfl)
        try simp only [pS]
        refine tkT 1 (some 24) (v := ?_) rfl rfl (.inl ⟨by rfl, ?_⟩) ?_
        rotate_left
        · (intro w hSw; (try dsimp only at hSw); go_simp; with_reducible rfl)
        try simp only [pS]
        refine wpAnyH_ready (rs := [2]) (by kernel_rfl) (by simp) ?_
        refine AllReadyH.cons (o := { dst := some 25, op := Op.call { callee := Callee.value (Operand.func 109), args := #[Operand.tmp 23, Operand.tmp 24, Operand.const (Value.slice none 0 0)], argTypes := #[35, 152, 23] }, type := 4, pos := "ask.go:29", after := #[{ on := 0, ground := Ground.data }, { on := 1, ground := Ground.data }], guard := none }) rfl (fun K hK => ?_) ?_
        go_simp
        ((go_at_call 109; refine (right_calls cs cl A2 A3 A4 none c2 c3 c4 0 hs hung looks x [] _ HV.out (HM.out.later (below_step H1.out.below hHeld.1)) (Kd.C_nil _ _) (Nat.le_refl _) (Nat.zero_le _) (dries_bd HV.out HX.out)).mono ?_; rintro e W2 ⟨rfl, hb2⟩; rw [HRB.out]; have HB2 := Aside0.mk hb2; clear hb2))
        go_wp2_with fail
        refine hK.out _ _ ?_ ?_
        · ((try dsimp only); (first | go_keep | (go_split_ands; refine ⟨below_step (by assumption) HB2.out, later HB2.out (by assumption), later HB2.out (by assumption), later HB2.out (by assumption), later HB2.out (by assumption), later HB2.out (by assumption), later HB2.out (by assumption), later HB2.out (by assumption), later HB2.out (by assumption), later HB2.out (by assumption)⟩)))
        try clear hHeld
        intro hHeld
        clear hK K
        try simp only [pS]
        refine tkT 3 (some 26) (v := ?_) rfl rfl (.inl ⟨by rfl, ?_⟩) ?_
        rotate_left
        · (intro w hSw; (try dsimp only at hSw); go_simp; with_reducible rfl)
        try simp only [pS]
        refine tkT 4 (some 27) (v := undef) rfl rfl (.inr ⟨by rfl, rfl⟩) ?_
        try simp only [pS]
        refine tkT 5 (some 28) (v := undef) rfl rfl (.inr ⟨by rfl, rfl⟩) ?_
        try simp only [pS]
        refine tkT 6 (some 29) (v := undef) rfl rfl (.inr ⟨by rfl, rfl⟩) ?_
        try simp only [pS]
        refine tkT 7 (some 30) (v := undef) rfl rfl (.inr ⟨by rfl, rfl⟩) ?_
        try simp only [pS]
        refine tkT 8 (some 31) (v := undef) rfl rfl (.inr ⟨by rfl, rfl⟩) ?_
        try simp only [pS]
        refine tkT 9 (some 32) (v := undef) rfl rfl (.inr ⟨by rfl, rfl⟩) ?_
        try simp only [pS]
        refine tkT 10 (some 33) (v := undef) rfl rfl (.inr ⟨by rfl, rfl⟩) ?_
        try simp only [pS]
        refine tkT 11 (some 34) (v := undef) rfl rfl (.inr ⟨by rfl, rfl⟩) ?_
        try simp only [pS]
        refine tkT 12 (some 35) (v := undef) rfl rfl (.inr ⟨by rfl, rfl⟩) ?_
        try simp only [pS]
        refine tkT 13 (some 36) (v := undef) rfl rfl (.inr ⟨by rfl, rfl⟩) ?_
        try simp only [pS]
        refine tkT 14 (some 37) (v := undef) rfl rfl (.inr ⟨by rfl, rfl⟩) ?_
        try simp only [pS]
        refine tkT 15 (some 38) (v := undef) rfl rfl (.inr ⟨by rfl, rfl⟩) ?_
        try simp only [pS]
        refine tkT 16 (some 39) (v := undef) rfl rfl (.inr ⟨by rfl, rfl⟩) ?_
        try simp only [pS]
        refine tkT 17 (some 40) (v := undef) rfl rfl (.inr ⟨by rfl, rfl⟩) ?_
        try simp only [pS]
        refine tkT 18 (some 41) (v := undef) rfl rfl (.inr ⟨by rfl, rfl⟩) ?_
        try simp only [pS]
        refine tkT 19 (some 42) (v := undef) rfl rfl (.inr ⟨by rfl, rfl⟩) ?_
        try simp only [pS]
        refine tkT 20 (some 43) (v := undef) rfl rfl (.inr ⟨by rfl, rfl⟩) ?_
        try simp only [pS]
        refine tkT 21 (some 44) (v := undef) rfl rfl (.inr ⟨by rfl, rfl⟩) ?_
        try simp only [pS]
        refine tkT 22 (some 45) (v := undef) rfl rfl (.inr ⟨by rfl, rfl⟩) ?_
        try simp only [pS]
        refine tkT 23 (some 46) (v := undef) rfl rfl (.inr ⟨by rfl, rfl⟩) ?_
        try simp only [pS]
        refine tkT 24 (some 47) (v := undef) rfl rfl (.inr ⟨by rfl, rfl⟩) ?_
        try simp only [pS]
        refine tkT 25 (some 48) (v := undef) rfl rfl (.inr ⟨by rfl, rfl⟩) ?_
        try simp only [pS]
        refine tkT 26 (some 49) (v := ?_) rfl rfl (.inl ⟨by rfl, ?_⟩) ?_
        rotate_left
        · (intro w hSw; (try dsimp only at hSw); go_simp; with_reducible rfl)
        try simp only [pS]
        refine wpAnyH_done (by kernel_rfl) ?_ _
        rotate_left
        exact AllReadyH.nil
      have HBW := Aside0.mk (below_step hHeld.1 (Below.refl _ _))
      clear hHeld
      clear k0 k1 k2 k3 k4 x0 x1 x2 x3 p0 g5
      gi_wp2_with fail
      refine ⟨Rk.of_below HBW.out hgz (by omega) (by omega), ?_⟩
      dsimp only
      rw [HK1.out]
      exact H1.out.same HBW.out (by omega) (by omega) (by omega) (by omega) (by omega) (fun k' h3 h4 => HBW.out.block _ h4)
    | true =>
      have HRB := Aside0.mk hrb
      clear hrb
      by_cases hne : ts = [] ∨ ne4 (rdN ts (ts.length - 1)) x = true
      · have HK1 : Aside0 (keepT hs hung looks (pre ++ [x]) = ts ++ [x]) := ⟨by rw [keepT_snoc, HTS.out]; unfold keep1; rw [if_pos ⟨HRB.out, hne⟩]⟩
        by_cases hemp : ts = []
        · subst hemp
          clear hne
          gi_wp2_with fail
          refine wpIn_round_held (S := fun W' => Below W.heap.size W W' ∧ W'.cell? ⟨w.heap.size, 0, none⟩ = some (.int .i64 cs) ∧ W'.cell? ⟨w.heap.size, 1, none⟩ = some (.int .i64 cl) ∧ W'.cell? ⟨w.heap.size, 2, none⟩ = some (.slice A2 hs.length c2) ∧ W'.cell? ⟨w.heap.size, 3, none⟩ = some (.slice A3 hung.length c3) ∧ W'.cell? ⟨w.heap.size, 4, none⟩ = some (.slice A4 looks.length c4) ∧
                  W'.cell? ⟨Bx, 0, none⟩ = some (.int .i64 (x 0)) ∧ W'.cell? ⟨Bx, 1, none⟩ = some (.int .i64 (x 1)) ∧ W'.cell? ⟨Bx, 2, none⟩ = some (.int .i64 (x 2)) ∧ W'.cell? ⟨Bx, 3, none⟩ = some (.int .i64 (x 3)) ∧ W'.cell? ⟨w1.heap.size + 1 + 1, 0, none⟩ = some (.pointer (some ⟨w1.heap.size + 1, 0, none⟩)) ∧ W'.cell? ⟨w1.heap.size + 1, 5, none⟩ = some (.slice AT 0 cT)) (by kernel_rfl) (by kernel_rfl) (fun ⟨_, _, h⟩ => h) ?hS (fun hHeld => ?_)
          case hS => exact ⟨below_drew (Below.refl _ _), k0, k1, k2, k3, k4, x0, x1, x2, x3, p0, g5⟩
          focus
            refine tkT 0 (some 23) (v := ?_) rfl rfl (.inl ⟨by rfl, ?_⟩) ?_
            rotate_left
            · (intro w hSw; (try dsimp only at hSw); go_simp; with_reducible rfl)
            try simp only [pS]
            refine tkT 1 (some 24) (v := ?_) rfl rfl (.inl ⟨by rfl, ?_⟩) ?_
            rotate_left
            · (intro w hSw; (try dsimp only at hSw); go_simp; with_reducible rfl)
            try simp only [pS]
            refine wpAnyH_ready (rs := [2]) (by kernel_rfl) (by simp) ?_
            refine AllReadyH.cons (o := { dst := some 25, op := Op.call { callee := Callee.value (Operand.func 109), args := #[Operand.tmp 23, Operand.tmp 24, Operand.const (Value.slice none 0 0)], argTypes := #[35, 152, 23] }, type := 4, pos := "ask.go:29", after := #[{ on := 0, ground := Ground.data }, { on := 1, ground := Ground.data }], guard := none }) rfl (fun K hK => ?_) ?_
            go_simp
            ((go_at_call 109; refine (right_calls cs cl A2 A3 A4 none c2 c3 c4 0 hs hung looks x [] _ HV.out (HM.out.later (below_step H1.out.below hHeld.1)) (Kd.C_nil _ _) (Nat.le_refl _) (Nat.zero_le _) (dries_bd HV.out HX.out)).mono ?_; rintro e W2 ⟨rfl, hb2⟩; rw [HRB.out]; have HB2 := Aside0.mk hb2; clear hb2))
            go_wp2_with fail
            refine hK.out _ _ ?_ ?_
            · ((try dsimp only); (first | go_keep | (go_split_ands; refine ⟨below_step (by assumption) HB2.out, later HB2.out (by assumption), later HB2.out (by assumption), later HB2.out (by assumption), later HB2.out (by assumption), later HB2.out (by assumption), later HB2.out (by assumption), later HB2.out (by assumption), later HB2.out (by assumption), later HB2.out (by assumption), later HB2.out (by assumption), later HB2.out (by assumption)⟩)))
            try clear hHeld
            intro hHeld
            clear hK K
            try simp only [pS]
            refine tkT 3 (some 26) (v := ?_) rfl rfl (.inl ⟨by rfl, ?_⟩) ?_
            rotate_left
            · (intro w hSw; (try dsimp only at hSw); go_simp; with_reducible rfl)
            try simp only [pS]
            refine tkT 4 (some 27) (v := ?_) rfl rfl (.inl ⟨by rfl, ?_⟩) ?_
            rotate_left
            · (intro w hSw; (try dsimp only at hSw); go_simp; with_reducible rfl)
            try simp only [pS]
            refine tkT 5 (some 28) (v := ?_) rfl rfl (.inl ⟨by rfl, ?_⟩) ?_
            rotate_left
            · (intro w hSw; (try dsimp only at hSw); go_simp; with_reducible rfl)
            try simp only [pS]
            refine tkT 6 (some 29) (v := ?_) rfl rfl (.inl ⟨by rfl, ?_⟩) ?_
            rotate_left
            · (intro w hSw; (try dsimp only at hSw); go_simp; with_reducible rfl)
            try simp only [pS]
            refine tkT 7 (some 30) (v := ?_) rfl rfl (.inl ⟨by rfl, ?_⟩) ?_
            rotate_left
            · (intro w hSw; (try dsimp only at hSw); go_simp; with_reducible rfl)
            try simp only [pS]
            refine tkT 8 (some 31) (v := ?_) rfl rfl (.inl ⟨by rfl, ?_⟩) ?_
            rotate_left
            · (intro w hSw; (try dsimp only at hSw); go_simp; with_reducible rfl)
            try simp only [pS]
            refine tkT 9 (some 32) (v := ?_) rfl rfl (.inl ⟨by rfl, ?_⟩) ?_
            rotate_left
            · (intro w hSw; (try dsimp only at hSw); go_simp; with_reducible rfl)
            try simp only [pS]
            refine tkT 10 (some 33) (v := ?_) rfl rfl (.inl ⟨by rfl, ?_⟩) ?_
            rotate_left
            · (intro w hSw; (try dsimp only at hSw); go_simp; with_reducible rfl)
            try simp only [pS]
            refine tkT 11 (some 34) (v := undef) rfl rfl (.inr ⟨by rfl, rfl⟩) ?_
            try simp only [pS]
            refine tkT 12 (some 35) (v := undef) rfl rfl (.inr ⟨by rfl, rfl⟩) ?_
            try simp only [pS]
            refine tkT 13 (some 36) (v := undef) rfl rfl (.inr ⟨by rfl, rfl⟩) ?_
            try simp only [pS]
            refine tkT 14 (some 37) (v := undef) rfl rfl (.inr ⟨by rfl, rfl⟩) ?_
            try simp only [pS]
            refine tkT 15 (some 38) (v := undef) rfl rfl (.inr ⟨by rfl, rfl⟩) ?_
            try simp only [pS]
            refine tkT 16 (some 39) (v := undef) rfl rfl (.inr ⟨by rfl, rfl⟩) ?_
            try simp only [pS]
            refine tkT 17 (some 40) (v := undef) rfl rfl (.inr ⟨by rfl, rfl⟩) ?_
            try simp only [pS]
            refine tkT 18 (some 41) (v := undef) rfl rfl (.inr ⟨by rfl, rfl⟩) ?_
            try simp only [pS]
            refine tkT 19 (some 42) (v := undef) rfl rfl (.inr ⟨by rfl, rfl⟩) ?_
            try simp only [pS]
            refine tkT 20 (some 43) (v := undef) rfl rfl (.inr ⟨by rfl, rfl⟩) ?_
            try simp only [pS]
            refine tkT 21 (some 44) (v := undef) rfl rfl (.inr ⟨by rfl, rfl⟩) ?_
            try simp only [pS]
            refine tkT 22 (some 45) (v := undef) rfl rfl (.inr ⟨by rfl, rfl⟩) ?_
            try simp only [pS]
            refine tkT 23 (some 46) (v := undef) rfl rfl (.inr ⟨by rfl, rfl⟩) ?_
            try simp only [pS]
            refine tkT 24 (some 47) (v := undef) rfl rfl (.inr ⟨by rfl, rfl⟩) ?_
            try simp only [pS]
            refine tkT 25 (some 48) (v := ?_) rfl rfl (.inl ⟨by rfl, ?_⟩) ?_
            rotate_left
            · (intro w hSw; (try dsimp only at hSw); go_simp; with_reducible rfl)
            try simp only [pS]
            refine tkT 26 (some 49) (v := ?_) rfl rfl (.inl ⟨by rfl, ?_⟩) ?_
            rotate_left
            · (intro w hSw; (try dsimp only at hSw); go_simp; with_reducible rfl)
            try simp only [pS]
            refine wpAnyH_done (by kernel_rfl) ?_ _
            rotate_left
            exact AllReadyH.nil
          have HBW := Aside0.mk (below_step hHeld.1 (Below.refl _ _))
          clear hHeld
          try subst hL
          have HG2 := Aside0.mk (blk_below HG.out HBW.out)
          have HX2 := Aside0.mk (blk_below HB.out HBW.out)
          have HQ2 := Aside0.mk (blk_below H1.out.q HBW.out)
          have HR2 := Aside0.mk (Kd.R_below HR.out HBW.out)
          have HN2 := Aside0.mk (Below.size HBW.out)
          have HLO := Aside0.mk (below_step H1.out.below HBW.out)
          clear k0 k1 k2 k3 k4 x0 x1 x2 x3 p0 g5
          have hBg : w1.heap.size + 1 ≠ Bx := by omega
          have hBq : w1.heap.size + 1 + 1 ≠ Bx := by omega
          have x0 : W2.cell? ⟨Bx, 0, none⟩ = some (.int .i64 (x 0)) := (blk_cell HX2.out 0).trans rfl
          have x1 : W2.cell? ⟨Bx, 1, none⟩ = some (.int .i64 (x 1)) := (blk_cell HX2.out 1).trans rfl
          have x2 : W2.cell? ⟨Bx, 2, none⟩ = some (.int .i64 (x 2)) := (blk_cell HX2.out 2).trans rfl
          have x3 : W2.cell? ⟨Bx, 3, none⟩ = some (.int .i64 (x 3)) := (blk_cell HX2.out 3).trans rfl
          have p0 : W2.cell? ⟨w1.heap.size + 1 + 1, 0, none⟩ = some (.pointer (some ⟨w1.heap.size + 1, 0, none⟩)) := (blk_cell HQ2.out 0).trans rfl
          have g5 : W2.cell? ⟨w1.heap.size + 1, 5, none⟩ = some (.slice AT ([] : List (Nat → Int)).length cT) := (blk_cell HG2.out 5).trans rfl
          have f5 := blk_frozen HG2.out 5
          have gz := blk_lt HG2.out
          have aP := kN_mkM W2.drew w.heap.size (fun _ => False) x
          have aF : ∀ k, W2.drew.heap.size ≤ k → w1.heap.size + 4 + 5 ≤ k := by intro k hk; have := HN2.out; have : W2.heap.size ≤ k := hk; omega
          have aO := Kd.R_drew HR2.out
          have aB := below_drew HLO.out
          have aS : w.heap.size ≤ W2.drew.heap.size := Below.size aB
          have aL : (([] : List (Nat → Int)).length + 1) * 32 ≤ 140737488355328 := by have := HLN.out; first | omega | (simp only [List.length_nil] at this ⊢; omega)
          gi_wp2_with fail
          refine wpIn_round_held (S := fun W' => W'.cell? ⟨w1.heap.size + 1 + 1, 0, none⟩ = some (.pointer (some ⟨w1.heap.size + 1, 0, none⟩)) ∧
            W'.cell? ⟨Bx, 0, none⟩ = some (.int .i64 (x 0)) ∧ W'.cell? ⟨Bx, 1, none⟩ = some (.int .i64 (x 1)) ∧ W'.cell? ⟨Bx, 2, none⟩ = some (.int .i64 (x 2)) ∧ W'.cell? ⟨Bx, 3, none⟩ = some (.int .i64 (x 3))) (by kernel_rfl) (by kernel_rfl) (fun ⟨_, _, h⟩ => h) ?hS (fun hHeld => ?_)
          case hS => exact ⟨p0, x0, x1, x2, x3⟩
          focus
            refine tkT 0 (some 50) (v := ?_) rfl rfl (.inl ⟨by rfl, ?_⟩) ?_
            rotate_left
            · (intro w hSw; (try dsimp only at hSw); go_simp; with_reducible rfl)
            try simp only [pS]
            refine tkT 1 (some 51) (v := ?_) rfl rfl (.inl ⟨by rfl, ?_⟩) ?_
            rotate_left
            · (intro w hSw; (try dsimp only at hSw); go_simp; with_reducible rfl)
            try simp only [pS]
            refine tkT 2 (some 52) (v := ?_) rfl rfl (.inl ⟨by rfl, ?_⟩) ?_
            rotate_left
            · (intro w hSw; (try dsimp only at hSw); go_simp; with_reducible rfl)
            try simp only [pS]
            refine tkT 3 (some 53) (v := ?_) rfl rfl (.inl ⟨by rfl, ?_⟩) ?_
            rotate_left
            · (intro w hSw; (try dsimp only at hSw); go_simp; with_reducible rfl)
            try simp only [pS]
            refine tkT 5 (some 55) (v := ?_) rfl rfl (.inl ⟨by rfl, ?_⟩) ?_
            rotate_left
            · (intro w hSw; (try dsimp only at hSw); go_simp; with_reducible rfl)
            try simp only [pS]
            refine wpAnyH_ready (rs := [4, 6]) (by kernel_rfl) (by simp) ?_
            refine AllReadyH.cons (o := { dst := some 54, op := Op.load 141 (Operand.tmp 53), type := 141, pos := "ask.go:30", after := #[{ on := 3, ground := Ground.data }], guard := none }) rfl (fun K hK => ?_) ?_
            go_simp
            refine hK.out _ _ ?_ ?_
            · ((try dsimp only); (first | go_keep | (go_split_ands; refine ⟨later (below_alloc (Below.refl _ _) _) (by assumption), later (below_alloc (Below.refl _ _) _) (by assumption), later (below_alloc (Below.refl _ _) _) (by assumption), later (below_alloc (Below.refl _ _) _) (by assumption), later (below_alloc (Below.refl _ _) _) (by assumption)⟩)))
            try clear hHeld
            intro hHeld
            clear hK K
            try simp only [pS]
            refine wpAnyH_ready (rs := [6]) (by kernel_rfl) (by simp) ?_
            refine AllReadyH.cons (o := { dst := some 56, op := Op.buildSlice 141 1 #[(0, Operand.tmp 55)], type := 141, pos := "ask.go:30", after := #[{ on := 5, ground := Ground.data }], guard := none }) rfl (fun K hK => ?_) ?_
            go_simp
            refine hK.out _ _ ?_ ?_
            · ((try dsimp only); (first | go_keep | (go_split_ands; refine ⟨later (below_alloc (Below.refl _ _) _) (by assumption), later (below_alloc (Below.refl _ _) _) (by assumption), later (below_alloc (Below.refl _ _) _) (by assumption), later (below_alloc (Below.refl _ _) _) (by assumption), later (below_alloc (Below.refl _ _) _) (by assumption)⟩)))
            try clear hHeld
            intro hHeld
            clear hK K
            try simp only [pS]
            refine wpAnyH_ready (rs := [7]) (by kernel_rfl) (by simp) ?_
            refine AllReadyH.cons (o := { dst := some 57, op := Op.call { callee := Callee.builtin Builtin.append, args := #[Operand.tmp 54, Operand.tmp 56], argTypes := #[141, 141] }, type := 141, pos := "ask.go:30", after := #[{ on := 4, ground := Ground.data }, { on := 6, ground := Ground.data }], guard := none }) rfl (fun K hK => ?_) ?_
            ((refine Kd.R_append_step kN (w0 := w) w.heap.size (by rfl) (.tmp 54) (.tmp 56) 141 152 (.agg #[(.int .i64 0), (.int .i64 0), (.int .i64 0), (.int .i64 0)]) 32 rfl Try.underlying141 (by kernel_rfl) rfl (by decide) (by omega) (.slice AT ([] : List (Nat → Int)).length cT) ([] : List (Nat → Int)) x [.int .i64 (x 0), .int .i64 (x 1), .int .i64 (x 2), .int .i64 (x 3)] (fun k => w1.heap.size + 4 + 5 ≤ k) (fun _ => False) rfl rfl aP (fun _ hk => hk.elim) aF aO aB aS aL ?_; intro v1 w3 ho hb hg hat; obtain ⟨A1, C1, hv1⟩ := Kd.R_slice ho; obtain ⟨N1, hN1⟩ : ∃ N1, (([] : List (Nat → Int)) ++ [x]).length = N1 := ⟨_, rfl⟩; rw [hN1] at hv1; subst hv1; have HN1 := Aside0.mk hN1; clear hN1; have HO3 := Aside0.mk ho; have HB3 := Aside0.mk hb; have HGB := Aside0.mk hg; have HG3 := Aside0.mk (blk_grown (blk_drew HG2.out) hg (Kd.R_ne HR2.out HG2.out (by decide))); have HQ3 := Aside0.mk (blk_grown (blk_drew HQ2.out) hg (Kd.R_ne HR2.out HQ2.out (by decide))); have HX3 := Aside0.mk (blk_grown (blk_drew HX2.out) hg HBV.out); clear ho hb hg hat; have x30 : w3.cell? ⟨Bx, 0, none⟩ = some (.int .i64 (x 0)) := (blk_cell HX3.out 0).trans rfl; have x31 : w3.cell? ⟨Bx, 1, none⟩ = some (.int .i64 (x 1)) := (blk_cell HX3.out 1).trans rfl; have x32 : w3.cell? ⟨Bx, 2, none⟩ = some (.int .i64 (x 2)) := (blk_cell HX3.out 2).trans rfl; have x33 : w3.cell? ⟨Bx, 3, none⟩ = some (.int .i64 (x 3)) := (blk_cell HX3.out 3).trans rfl; have p30 : w3.cell? ⟨w1.heap.size + 1 + 1, 0, none⟩ = some (.pointer (some ⟨w1.heap.size + 1, 0, none⟩)) := (blk_cell HQ3.out 0).trans rfl; have g35 : w3.cell? ⟨w1.heap.size + 1, 5, none⟩ = some (.slice AT ([] : List (Nat → Int)).length cT) := (blk_cell HG3.out 5).trans rfl; have f35 := blk_frozen HG3.out 5))
            refine hK.out _ _ ?_ ?_
            · ((try dsimp only); (first | go_keep | (go_split_ands; refine ⟨later (below_alloc (Below.refl _ _) _) (by assumption), later (below_alloc (Below.refl _ _) _) (by assumption), later (below_alloc (Below.refl _ _) _) (by assumption), later (below_alloc (Below.refl _ _) _) (by assumption), later (below_alloc (Below.refl _ _) _) (by assumption)⟩)))
            try clear hHeld
            intro hHeld
            clear hK K
            try simp only [pS]
            refine tkT 8 (some 58) (v := ?_) rfl rfl (.inl ⟨by rfl, ?_⟩) ?_
            rotate_left
            · (intro w hSw; (try dsimp only at hSw); go_simp; with_reducible rfl)
            try simp only [pS]
            refine tkT 9 (some 59) (v := ?_) rfl rfl (.inl ⟨by rfl, ?_⟩) ?_
            rotate_left
            · (intro w hSw; (try dsimp only at hSw); go_simp; with_reducible rfl)
            try simp only [pS]
            refine wpAnyH_ready (rs := [10]) (by kernel_rfl) (by simp) ?_
            refine AllReadyH.cons (o := { dst := none, op := Op.store 141 (Operand.tmp 59) (Operand.tmp 57), type := 0, pos := "ask.go:30", after := #[{ on := 9, ground := Ground.data }, { on := 7, ground := Ground.data }, { on := 7, ground := Ground.chain }, { on := 0, ground := Ground.phase }, { on := 1, ground := Ground.phase }, { on := 2, ground := Ground.phase }, { on := 3, ground := Ground.phase }, { on := 4, ground := Ground.phase }, { on := 5, ground := Ground.phase }, { on := 6, ground := Ground.phase }, { on := 7, ground := Ground.phase }], guard := none }) rfl (fun K hK => ?_) ?_
            go_simp
            refine hK.out _ _ ?_ ?_
            · ((try dsimp only); (first | go_keep | (go_split_ands; refine ⟨later (below_alloc (Below.refl _ _) _) (by assumption), later (below_alloc (Below.refl _ _) _) (by assumption), later (below_alloc (Below.refl _ _) _) (by assumption), later (below_alloc (Below.refl _ _) _) (by assumption), later (below_alloc (Below.refl _ _) _) (by assumption)⟩)))
            try clear hHeld
            intro hHeld
            clear hK K
            try simp only [pS]
            refine wpAnyH_done (by kernel_rfl) ?_ _
            rotate_left
            exact AllReadyH.nil
            exact AllReadyH.nil
            exact AllReadyH.nil
            refine AllReadyH.cons (o := { dst := some 56, op := Op.buildSlice 141 1 #[(0, Operand.tmp 55)], type := 141, pos := "ask.go:30", after := #[{ on := 5, ground := Ground.data }], guard := none }) rfl (fun K hK => ?_) ?_
            go_simp
            refine hK.out _ _ ?_ ?_
            · ((try dsimp only); (first | go_keep | (go_split_ands; refine ⟨later (below_alloc (Below.refl _ _) _) (by assumption), later (below_alloc (Below.refl _ _) _) (by assumption), later (below_alloc (Below.refl _ _) _) (by assumption), later (below_alloc (Below.refl _ _) _) (by assumption), later (below_alloc (Below.refl _ _) _) (by assumption)⟩)))
            try clear hHeld
            intro hHeld
            clear hK K
            try simp only [pS]
            refine wpAnyH_ready (rs := [4]) (by kernel_rfl) (by simp) ?_
            refine AllReadyH.cons (o := { dst := some 54, op := Op.load 141 (Operand.tmp 53), type := 141, pos := "ask.go:30", after := #[{ on := 3, ground := Ground.data }], guard := none }) rfl (fun K hK => ?_) ?_
            go_simp
            refine hK.out _ _ ?_ ?_
            · ((try dsimp only); (first | go_keep | (go_split_ands; refine ⟨later (below_alloc (Below.refl _ _) _) (by assumption), later (below_alloc (Below.refl _ _) _) (by assumption), later (below_alloc (Below.refl _ _) _) (by assumption), later (below_alloc (Below.refl _ _) _) (by assumption), later (below_alloc (Below.refl _ _) _) (by assumption)⟩)))
            try clear hHeld
            intro hHeld
            clear hK K
            try simp only [pS]
            refine wpAnyH_ready (rs := [7]) (by kernel_rfl) (by simp) ?_
            refine AllReadyH.cons (o := { dst := some 57, op := Op.call { callee := Callee.builtin Builtin.append, args := #[Operand.tmp 54, Operand.tmp 56], argTypes := #[141, 141] }, type := 141, pos := "ask.go:30", after := #[{ on := 4, ground := Ground.data }, { on := 6, ground := Ground.data }], guard := none }) rfl (fun K hK => ?_) ?_
            ((refine Kd.R_append_step kN (w0 := w) w.heap.size (by rfl) (.tmp 54) (.tmp 56) 141 152 (.agg #[(.int .i64 0), (.int .i64 0), (.int .i64 0), (.int .i64 0)]) 32 rfl Try.underlying141 (by kernel_rfl) rfl (by decide) (by omega) (.slice AT ([] : List (Nat → Int)).length cT) ([] : List (Nat → Int)) x [.int .i64 (x 0), .int .i64 (x 1), .int .i64 (x 2), .int .i64 (x 3)] (fun k => w1.heap.size + 4 + 5 ≤ k) (fun _ => False) rfl rfl aP (fun _ hk => hk.elim) aF aO aB aS aL ?_; intro v1 w3 ho hb hg hat; obtain ⟨A1, C1, hv1⟩ := Kd.R_slice ho; obtain ⟨N1, hN1⟩ : ∃ N1, (([] : List (Nat → Int)) ++ [x]).length = N1 := ⟨_, rfl⟩; rw [hN1] at hv1; subst hv1; have HN1 := Aside0.mk hN1; clear hN1; have HO3 := Aside0.mk ho; have HB3 := Aside0.mk hb; have HGB := Aside0.mk hg; have HG3 := Aside0.mk (blk_grown (blk_drew HG2.out) hg (Kd.R_ne HR2.out HG2.out (by decide))); have HQ3 := Aside0.mk (blk_grown (blk_drew HQ2.out) hg (Kd.R_ne HR2.out HQ2.out (by decide))); have HX3 := Aside0.mk (blk_grown (blk_drew HX2.out) hg HBV.out); clear ho hb hg hat; have x30 : w3.cell? ⟨Bx, 0, none⟩ = some (.int .i64 (x 0)) := (blk_cell HX3.out 0).trans rfl; have x31 : w3.cell? ⟨Bx, 1, none⟩ = some (.int .i64 (x 1)) := (blk_cell HX3.out 1).trans rfl; have x32 : w3.cell? ⟨Bx, 2, none⟩ = some (.int .i64 (x 2)) := (blk_cell HX3.out 2).trans rfl; have x33 : w3.cell? ⟨Bx, 3, none⟩ = some (.int .i64 (x 3)) := (blk_cell HX3.out 3).trans rfl; have p30 : w3.cell? ⟨w1.heap.size + 1 + 1, 0, none⟩ = some (.pointer (some ⟨w1.heap.size + 1, 0, none⟩)) := (blk_cell HQ3.out 0).trans rfl; have g35 : w3.cell? ⟨w1.heap.size + 1, 5, none⟩ = some (.slice AT ([] : List (Nat → Int)).length cT) := (blk_cell HG3.out 5).trans rfl; have f35 := blk_frozen HG3.out 5))
            refine hK.out _ _ ?_ ?_
            · ((try dsimp only); (first | go_keep | (go_split_ands; refine ⟨later (below_alloc (Below.refl _ _) _) (by assumption), later (below_alloc (Below.refl _ _) _) (by assumption), later (below_alloc (Below.refl _ _) _) (by assumption), later (below_alloc (Below.refl _ _) _) (by assumption), later (below_alloc (Below.refl _ _) _) (by assumption)⟩)))
            try clear hHeld
            intro hHeld
            clear hK K
            try simp only [pS]
            refine tkT 8 (some 58) (v := ?_) rfl rfl (.inl ⟨by rfl, ?_⟩) ?_
            rotate_left
            · (intro w hSw; (try dsimp only at hSw); go_simp; with_reducible rfl)
            try simp only [pS]
            refine tkT 9 (some 59) (v := ?_) rfl rfl (.inl ⟨by rfl, ?_⟩) ?_
            rotate_left
            · (intro w hSw; (try dsimp only at hSw); go_simp; with_reducible rfl)
            try simp only [pS]
            refine wpAnyH_ready (rs := [10]) (by kernel_rfl) (by simp) ?_
            refine AllReadyH.cons (o := { dst := none, op := Op.store 141 (Operand.tmp 59) (Operand.tmp 57), type := 0, pos := "ask.go:30", after := #[{ on := 9, ground := Ground.data }, { on := 7, ground := Ground.data }, { on := 7, ground := Ground.chain }, { on := 0, ground := Ground.phase }, { on := 1, ground := Ground.phase }, { on := 2, ground := Ground.phase }, { on := 3, ground := Ground.phase }, { on := 4, ground := Ground.phase }, { on := 5, ground := Ground.phase }, { on := 6, ground := Ground.phase }, { on := 7, ground := Ground.phase }], guard := none }) rfl (fun K hK => ?_) ?_
            go_simp
            refine hK.out _ _ ?_ ?_
            · ((try dsimp only); (first | go_keep | (go_split_ands; refine ⟨later (below_alloc (Below.refl _ _) _) (by assumption), later (below_alloc (Below.refl _ _) _) (by assumption), later (below_alloc (Below.refl _ _) _) (by assumption), later (below_alloc (Below.refl _ _) _) (by assumption), later (below_alloc (Below.refl _ _) _) (by assumption)⟩)))
            try clear hHeld
            intro hHeld
            clear hK K
            try simp only [pS]
            refine wpAnyH_done (by kernel_rfl) ?_ _
            rotate_left
            exact AllReadyH.nil
            exact AllReadyH.nil
            exact AllReadyH.nil
            exact AllReadyH.nil
          all_goals
            clear x0 x1 x2 x3 p0 g5 f5 x30 x31 x32 x33 p30 g35 f35 hHeld
            gi_wp2_with fail
            have hown : ∀ k, (Value.slice AT ([] : List (Nat → Int)).length cT).ownBlock = some k → w1.heap.size + 4 + 5 ≤ k := HR2.out.1
            have hfar : ∀ k, k < w1.heap.size + 9 → k ≠ w1.heap.size + 1 → (w3.setCell ⟨w1.heap.size + 1, 5, none⟩ (.slice A1 N1 C1)).heap[k]? = W.heap[k]? := by
              intro k hk hne
              have h1 := HGB.out.block k (by have := HN2.out; have : W2.drew.heap.size = W2.heap.size := rfl; omega) (fun e => by have := hown k e.symm; omega)
              exact (Below.heap_setCell w3 ⟨w1.heap.size + 1, 5, none⟩ (.slice A1 N1 C1) k hne).trans (h1.trans (HBW.out.block k (by omega)))
            have hbl : Below w.heap.size W (w3.setCell ⟨w1.heap.size + 1, 5, none⟩ (.slice A1 N1 C1)) :=
              (((below_drew (HBW.out.mono (by omega))).grown HGB.out aS (fun k e => by have := hown k e; omega)).setCell (by simp; omega) _)
            refine ⟨⟨hbl, hfar _ (by omega) (by omega), fun k h3 h4 => hfar k (by omega) (by omega)⟩, ?_⟩
            dsimp only
            rw [HK1.out]
            exact ⟨H1.out.below.trans hbl, (hfar _ (by omega) (by omega)).trans H1.out.c, (hfar _ (by omega) (by omega)).trans H1.out.k, (hfar _ (by omega) (by omega)).trans H1.out.q, _, blk_put HG3.out 5 _ rfl, Kd.R_far HO3.out (fun k hk => by simp; omega) _⟩
        · have hne : ne4 (rdN ts (ts.length - 1)) x = true := hne.resolve_left hemp
          have hpos : 0 < ts.length := List.length_pos_iff.2 hemp
          obtain ⟨ad, eA, t0, t1, t2, t3⟩ := at_N hC (ts.length - 1) (by omega)
          subst eA
          have q0 : ((ts.length : Int) == 0) = false := beq_eq_false_iff_ne.2 (by omega)
          have q1 : IntKind.i64.wrap ((ts.length : Int) - 1) = ((ts.length - 1 : Nat) : Int) := by
            have := HLN.out
            rw [show IntKind.i64.wrap ((ts.length : Int) - 1) = (ts.length : Int) - 1 from IntWalk.i64_in _ (by omega)]
            omega
          obtain ⟨n, hn⟩ : ∃ n, ts.length - 1 = n := ⟨_, rfl⟩
          rw [hn] at t0 t1 t2 t3 q1 hne
          have hn0 : (0 : Int) ≤ n := by omega
          have hn1 : (n : Int) < ts.length := by omega
          obtain ⟨L, hL⟩ : ∃ L, ts.length = L := ⟨_, rfl⟩
          rw [hL] at q0 q1 hn1 g5 hpos
          have hEQ : ∀ W, (Op.equalIn 10000 152 (.agg #[.int .i64 (rdN ts n 0), .int .i64 (rdN ts n 1), .int .i64 (rdN ts n 2), .int .i64 (rdN ts n 3)]) (.agg #[.int .i64 (x 0), .int .i64 (x 1), .int .i64 (x 2), .int .i64 (x 3)])).run Try.prog W = .ok false W := fun W => by rw [eq4, hne]; rfl
          clear hne hn hC hemp
          gi_wp2_with fail
          refine wpIn_round_held (S := fun W' => Below W.heap.size W W' ∧ W'.cell? ⟨w.heap.size, 0, none⟩ = some (.int .i64 cs) ∧ W'.cell? ⟨w.heap.size, 1, none⟩ = some (.int .i64 cl) ∧ W'.cell? ⟨w.heap.size, 2, none⟩ = some (.slice A2 hs.length c2) ∧ W'.cell? ⟨w.heap.size, 3, none⟩ = some (.slice A3 hung.length c3) ∧ W'.cell? ⟨w.heap.size, 4, none⟩ = some (.slice A4 looks.length c4) ∧
                  W'.cell? ⟨Bx, 0, none⟩ = some (.int .i64 (x 0)) ∧ W'.cell? ⟨Bx, 1, none⟩ = some (.int .i64 (x 1)) ∧ W'.cell? ⟨Bx, 2, none⟩ = some (.int .i64 (x 2)) ∧ W'.cell? ⟨Bx, 3, none⟩ = some (.int .i64 (x 3)) ∧ W'.cell? ⟨w1.heap.size + 1 + 1, 0, none⟩ = some (.pointer (some ⟨w1.heap.size + 1, 0, none⟩)) ∧ W'.cell? ⟨w1.heap.size + 1, 5, none⟩ = some (.slice (some ad) L cT) ∧
                  W'.cell? (ad.add (n * 4)) = some (.int .i64 (rdN ts n 0)) ∧ W'.cell? ⟨(ad.add (n * 4)).block, (ad.add (n * 4)).off + 1, none⟩ = some (.int .i64 (rdN ts n 1)) ∧ W'.cell? ⟨(ad.add (n * 4)).block, (ad.add (n * 4)).off + 2, none⟩ = some (.int .i64 (rdN ts n 2)) ∧ W'.cell? ⟨(ad.add (n * 4)).block, (ad.add (n * 4)).off + 3, none⟩ = some (.int .i64 (rdN ts n 3))) (by kernel_rfl) (by kernel_rfl) (fun ⟨_, _, h⟩ => h) ?hS (fun hHeld => ?_)
          case hS => exact ⟨below_drew (Below.refl _ _), k0, k1, k2, k3, k4, x0, x1, x2, x3, p0, g5, t0, t1, t2, t3⟩
          focus
            refine tkT 0 (some 23) (v := ?_) rfl rfl (.inl ⟨by rfl, ?_⟩) ?_
            rotate_left
            · (intro w hSw; (try dsimp only at hSw); go_simp; with_reducible rfl)
            try simp only [pS]
            refine tkT 1 (some 24) (v := ?_) rfl rfl (.inl ⟨by rfl, ?_⟩) ?_
            rotate_left
            · (intro w hSw; (try dsimp only at hSw); go_simp; with_reducible rfl)
            try simp only [pS]
            refine wpAnyH_ready (rs := [2]) (by kernel_rfl) (by simp) ?_
            refine AllReadyH.cons (o := { dst := some 25, op := Op.call { callee := Callee.value (Operand.func 109), args := #[Operand.tmp 23, Operand.tmp 24, Operand.const (Value.slice none 0 0)], argTypes := #[35, 152, 23] }, type := 4, pos := "ask.go:29", after := #[{ on := 0, ground := Ground.data }, { on := 1, ground := Ground.data }], guard := none }) rfl (fun K hK => ?_) ?_
            go_simp
            ((go_at_call 109; refine (right_calls cs cl A2 A3 A4 none c2 c3 c4 0 hs hung looks x [] _ HV.out (HM.out.later (below_step H1.out.below hHeld.1)) (Kd.C_nil _ _) (Nat.le_refl _) (Nat.zero_le _) (dries_bd HV.out HX.out)).mono ?_; rintro e W2 ⟨rfl, hb2⟩; rw [HRB.out]; have HB2 := Aside0.mk hb2; clear hb2))
            go_wp2_with fail
            refine hK.out _ _ ?_ ?_
            · ((try dsimp only); (first | go_keep | (go_split_ands; refine ⟨below_step (by assumption) HB2.out, later HB2.out (by assumption), later HB2.out (by assumption), later HB2.out (by assumption), later HB2.out (by assumption), later HB2.out (by assumption), later HB2.out (by assumption), later HB2.out (by assumption), later HB2.out (by assumption), later HB2.out (by assumption), later HB2.out (by assumption), later HB2.out (by assumption), later HB2.out (by assumption), later HB2.out (by assumption), later HB2.out (by assumption), later HB2.out (by assumption)⟩)))
            try clear hHeld
            intro hHeld
            clear hK K
            try simp only [pS]
            refine tkT 3 (some 26) (v := ?_) rfl rfl (.inl ⟨by rfl, ?_⟩) ?_
            rotate_left
            · (intro w hSw; (try dsimp only at hSw); go_simp; with_reducible rfl)
            try simp only [pS]
            refine tkT 4 (some 27) (v := ?_) rfl rfl (.inl ⟨by rfl, ?_⟩) ?_
            rotate_left
            · (intro w hSw; (try dsimp only at hSw); go_simp; with_reducible rfl)
            try simp only [pS]
            refine tkT 5 (some 28) (v := ?_) rfl rfl (.inl ⟨by rfl, ?_⟩) ?_
            rotate_left
            · (intro w hSw; (try dsimp only at hSw); go_simp; with_reducible rfl)
            try simp only [pS]
            refine tkT 6 (some 29) (v := ?_) rfl rfl (.inl ⟨by rfl, ?_⟩) ?_
            rotate_left
            · (intro w hSw; (try dsimp only at hSw); go_simp; with_reducible rfl)
            try simp only [pS]
            refine tkT 7 (some 30) (v := ?_) rfl rfl (.inl ⟨by rfl, ?_⟩) ?_
            rotate_left
            · (intro w hSw; (try dsimp only at hSw); go_simp; with_reducible rfl)
            try simp only [pS]
            refine tkT 8 (some 31) (v := ?_) rfl rfl (.inl ⟨by rfl, ?_⟩) ?_
            rotate_left
            · (intro w hSw; (try dsimp only at hSw); go_simp; with_reducible rfl)
            try simp only [pS]
            refine tkT 9 (some 32) (v := ?_) rfl rfl (.inl ⟨by rfl, ?_⟩) ?_
            rotate_left
            · (intro w hSw; (try dsimp only at hSw); go_simp; with_reducible rfl)
            try simp only [pS]
            refine tkT 10 (some 33) (v := ?_) rfl rfl (.inl ⟨by rfl, ?_⟩) ?_
            rotate_left
            · (intro w hSw; (try dsimp only at hSw); go_simp; with_reducible rfl)
            try simp only [pS]
            refine tkT 11 (some 34) (v := ?_) rfl rfl (.inl ⟨by rfl, ?_⟩) ?_
            rotate_left
            · (intro w hSw; (try dsimp only at hSw); go_simp; with_reducible rfl)
            try simp only [pS]
            refine tkT 12 (some 35) (v := ?_) rfl rfl (.inl ⟨by rfl, ?_⟩) ?_
            rotate_left
            · (intro w hSw; (try dsimp only at hSw); go_simp; with_reducible rfl)
            try simp only [pS]
            refine tkT 13 (some 36) (v := ?_) rfl rfl (.inl ⟨by rfl, ?_⟩) ?_
            rotate_left
            · (intro w hSw; (try dsimp only at hSw); go_simp; with_reducible rfl)
            try simp only [pS]
            refine tkT 14 (some 37) (v := ?_) rfl rfl (.inl ⟨by rfl, ?_⟩) ?_
            rotate_left
            · (intro w hSw; (try dsimp only at hSw); go_simp; with_reducible rfl)
            try simp only [pS]
            refine tkT 15 (some 38) (v := ?_) rfl rfl (.inl ⟨by rfl, ?_⟩) ?_
            rotate_left
            · (intro w hSw; (try dsimp only at hSw); go_simp; with_reducible rfl)
            try simp only [pS]
            refine tkT 16 (some 39) (v := ?_) rfl rfl (.inl ⟨by rfl, ?_⟩) ?_
            rotate_left
            · (intro w hSw; (try dsimp only at hSw); go_simp; with_reducible rfl)
            try simp only [pS]
            refine tkT 17 (some 40) (v := ?_) rfl rfl (.inl ⟨by rfl, ?_⟩) ?_
            rotate_left
            · (intro w hSw; (try dsimp only at hSw); go_simp; with_reducible rfl)
            try simp only [pS]
            refine tkT 18 (some 41) (v := ?_) rfl rfl (.inl ⟨by rfl, ?_⟩) ?_
            rotate_left
            · (intro w hSw; (try dsimp only at hSw); go_simp; with_reducible rfl)
            try simp only [pS]
            refine tkT 19 (some 42) (v := ?_) rfl rfl (.inl ⟨by rfl, ?_⟩) ?_
            rotate_left
            · (intro w hSw; (try dsimp only at hSw); go_simp; with_reducible rfl)
            try simp only [pS]
            refine tkT 20 (some 43) (v := ?_) rfl rfl (.inl ⟨by rfl, ?_⟩) ?_
            rotate_left
            · (intro w hSw; (try dsimp only at hSw); go_simp; with_reducible rfl)
            try simp only [pS]
            refine tkT 21 (some 44) (v := ?_) rfl rfl (.inl ⟨by rfl, ?_⟩) ?_
            rotate_left
            · (intro w hSw; (try dsimp only at hSw); go_simp; with_reducible rfl)
            try simp only [pS]
            refine tkT 22 (some 45) (v := ?_) rfl rfl (.inl ⟨by rfl, ?_⟩) ?_
            rotate_left
            · (intro w hSw; (try dsimp only at hSw); go_simp; with_reducible rfl)
            try simp only [pS]
            refine tkT 23 (some 46) (v := ?_) rfl rfl (.inl ⟨by rfl, ?_⟩) ?_
            rotate_left
            · (intro w hSw; (try dsimp only at hSw); go_simp; with_reducible rfl)
            try simp only [pS]
            refine tkT 24 (some 47) (v := ?_) rfl rfl (.inl ⟨by rfl, ?_⟩) ?_
            rotate_left
            · (intro w hSw; (try dsimp only at hSw); go_simp; with_reducible rfl)
            try simp only [pS]
            refine tkT 25 (some 48) (v := ?_) rfl rfl (.inl ⟨by rfl, ?_⟩) ?_
            rotate_left
            · (intro w hSw; (try dsimp only at hSw); go_simp; with_reducible rfl)
            try simp only [pS]
            refine tkT 26 (some 49) (v := ?_) rfl rfl (.inl ⟨by rfl, ?_⟩) ?_
            rotate_left
            · (intro w hSw; (try dsimp only at hSw); go_simp; with_reducible rfl)
            try simp only [pS]
            refine wpAnyH_done (by kernel_rfl) ?_ _
            rotate_left
            exact AllReadyH.nil
          have HBW := Aside0.mk (below_step hHeld.1 (Below.refl _ _))
          clear hHeld
          try subst hL
          have HG2 := Aside0.mk (blk_below HG.out HBW.out)
          have HX2 := Aside0.mk (blk_below HB.out HBW.out)
          have HQ2 := Aside0.mk (blk_below H1.out.q HBW.out)
          have HR2 := Aside0.mk (Kd.R_below HR.out HBW.out)
          have HN2 := Aside0.mk (Below.size HBW.out)
          have HLO := Aside0.mk (below_step H1.out.below HBW.out)
          clear k0 k1 k2 k3 k4 x0 x1 x2 x3 p0 g5
          have hBg : w1.heap.size + 1 ≠ Bx := by omega
          have hBq : w1.heap.size + 1 + 1 ≠ Bx := by omega
          have x0 : W2.cell? ⟨Bx, 0, none⟩ = some (.int .i64 (x 0)) := (blk_cell HX2.out 0).trans rfl
          have x1 : W2.cell? ⟨Bx, 1, none⟩ = some (.int .i64 (x 1)) := (blk_cell HX2.out 1).trans rfl
          have x2 : W2.cell? ⟨Bx, 2, none⟩ = some (.int .i64 (x 2)) := (blk_cell HX2.out 2).trans rfl
          have x3 : W2.cell? ⟨Bx, 3, none⟩ = some (.int .i64 (x 3)) := (blk_cell HX2.out 3).trans rfl
          have p0 : W2.cell? ⟨w1.heap.size + 1 + 1, 0, none⟩ = some (.pointer (some ⟨w1.heap.size + 1, 0, none⟩)) := (blk_cell HQ2.out 0).trans rfl
          have g5 : W2.cell? ⟨w1.heap.size + 1, 5, none⟩ = some (.slice (some ad) ts.length cT) := (blk_cell HG2.out 5).trans rfl
          have f5 := blk_frozen HG2.out 5
          have gz := blk_lt HG2.out
          have aP := kN_mkM W2.drew w.heap.size (fun _ => False) x
          have aF : ∀ k, W2.drew.heap.size ≤ k → w1.heap.size + 4 + 5 ≤ k := by intro k hk; have := HN2.out; have : W2.heap.size ≤ k := hk; omega
          have aO := Kd.R_drew HR2.out
          have aB := below_drew HLO.out
          have aS : w.heap.size ≤ W2.drew.heap.size := Below.size aB
          have aL : (ts.length + 1) * 32 ≤ 140737488355328 := by have := HLN.out; first | omega | (simp only [List.length_nil] at this ⊢; omega)
          gi_wp2_with fail
          refine wpIn_round_held (S := fun W' => W'.cell? ⟨w1.heap.size + 1 + 1, 0, none⟩ = some (.pointer (some ⟨w1.heap.size + 1, 0, none⟩)) ∧
            W'.cell? ⟨Bx, 0, none⟩ = some (.int .i64 (x 0)) ∧ W'.cell? ⟨Bx, 1, none⟩ = some (.int .i64 (x 1)) ∧ W'.cell? ⟨Bx, 2, none⟩ = some (.int .i64 (x 2)) ∧ W'.cell? ⟨Bx, 3, none⟩ = some (.int .i64 (x 3))) (by kernel_rfl) (by kernel_rfl) (fun ⟨_, _, h⟩ => h) ?hS (fun hHeld => ?_)
          case hS => exact ⟨p0, x0, x1, x2, x3⟩
          focus
            refine tkT 0 (some 50) (v := ?_) rfl rfl (.inl ⟨by rfl, ?_⟩) ?_
            rotate_left
            · (intro w hSw; (try dsimp only at hSw); go_simp; with_reducible rfl)
            try simp only [pS]
            refine tkT 1 (some 51) (v := ?_) rfl rfl (.inl ⟨by rfl, ?_⟩) ?_
            rotate_left
            · (intro w hSw; (try dsimp only at hSw); go_simp; with_reducible rfl)
            try simp only [pS]
            refine tkT 2 (some 52) (v := ?_) rfl rfl (.inl ⟨by rfl, ?_⟩) ?_
            rotate_left
            · (intro w hSw; (try dsimp only at hSw); go_simp; with_reducible rfl)
            try simp only [pS]
            refine tkT 3 (some 53) (v := ?_) rfl rfl (.inl ⟨by rfl, ?_⟩) ?_
            rotate_left
            · (intro w hSw; (try dsimp only at hSw); go_simp; with_reducible rfl)
            try simp only [pS]
            refine tkT 5 (some 55) (v := ?_) rfl rfl (.inl ⟨by rfl, ?_⟩) ?_
            rotate_left
            · (intro w hSw; (try dsimp only at hSw); go_simp; with_reducible rfl)
            try simp only [pS]
            refine wpAnyH_ready (rs := [4, 6]) (by kernel_rfl) (by simp) ?_
            refine AllReadyH.cons (o := { dst := some 54, op := Op.load 141 (Operand.tmp 53), type := 141, pos := "ask.go:30", after := #[{ on := 3, ground := Ground.data }], guard := none }) rfl (fun K hK => ?_) ?_
            go_simp
            refine hK.out _ _ ?_ ?_
            · ((try dsimp only); (first | go_keep | (go_split_ands; refine ⟨later (below_alloc (Below.refl _ _) _) (by assumption), later (below_alloc (Below.refl _ _) _) (by assumption), later (below_alloc (Below.refl _ _) _) (by assumption), later (below_alloc (Below.refl _ _) _) (by assumption), later (below_alloc (Below.refl _ _) _) (by assumption)⟩)))
            try clear hHeld
            intro hHeld
            clear hK K
            try simp only [pS]
            refine wpAnyH_ready (rs := [6]) (by kernel_rfl) (by simp) ?_
            refine AllReadyH.cons (o := { dst := some 56, op := Op.buildSlice 141 1 #[(0, Operand.tmp 55)], type := 141, pos := "ask.go:30", after := #[{ on := 5, ground := Ground.data }], guard := none }) rfl (fun K hK => ?_) ?_
            go_simp
            refine hK.out _ _ ?_ ?_
            · ((try dsimp only); (first | go_keep | (go_split_ands; refine ⟨later (below_alloc (Below.refl _ _) _) (by assumption), later (below_alloc (Below.refl _ _) _) (by assumption), later (below_alloc (Below.refl _ _) _) (by assumption), later (below_alloc (Below.refl _ _) _) (by assumption), later (below_alloc (Below.refl _ _) _) (by assumption)⟩)))
            try clear hHeld
            intro hHeld
            clear hK K
            try simp only [pS]
            refine wpAnyH_ready (rs := [7]) (by kernel_rfl) (by simp) ?_
            refine AllReadyH.cons (o := { dst := some 57, op := Op.call { callee := Callee.builtin Builtin.append, args := #[Operand.tmp 54, Operand.tmp 56], argTypes := #[141, 141] }, type := 141, pos := "ask.go:30", after := #[{ on := 4, ground := Ground.data }, { on := 6, ground := Ground.data }], guard := none }) rfl (fun K hK => ?_) ?_
            ((refine Kd.R_append_step kN (w0 := w) w.heap.size (by rfl) (.tmp 54) (.tmp 56) 141 152 (.agg #[(.int .i64 0), (.int .i64 0), (.int .i64 0), (.int .i64 0)]) 32 rfl Try.underlying141 (by kernel_rfl) rfl (by decide) (by omega) (.slice (some ad) ts.length cT) ts x [.int .i64 (x 0), .int .i64 (x 1), .int .i64 (x 2), .int .i64 (x 3)] (fun k => w1.heap.size + 4 + 5 ≤ k) (fun _ => False) rfl rfl aP (fun _ hk => hk.elim) aF aO aB aS aL ?_; intro v1 w3 ho hb hg hat; obtain ⟨A1, C1, hv1⟩ := Kd.R_slice ho; obtain ⟨N1, hN1⟩ : ∃ N1, (ts ++ [x]).length = N1 := ⟨_, rfl⟩; rw [hN1] at hv1; subst hv1; have HN1 := Aside0.mk hN1; clear hN1; have HO3 := Aside0.mk ho; have HB3 := Aside0.mk hb; have HGB := Aside0.mk hg; have HG3 := Aside0.mk (blk_grown (blk_drew HG2.out) hg (Kd.R_ne HR2.out HG2.out (by decide))); have HQ3 := Aside0.mk (blk_grown (blk_drew HQ2.out) hg (Kd.R_ne HR2.out HQ2.out (by decide))); have HX3 := Aside0.mk (blk_grown (blk_drew HX2.out) hg HBV.out); clear ho hb hg hat; have x30 : w3.cell? ⟨Bx, 0, none⟩ = some (.int .i64 (x 0)) := (blk_cell HX3.out 0).trans rfl; have x31 : w3.cell? ⟨Bx, 1, none⟩ = some (.int .i64 (x 1)) := (blk_cell HX3.out 1).trans rfl; have x32 : w3.cell? ⟨Bx, 2, none⟩ = some (.int .i64 (x 2)) := (blk_cell HX3.out 2).trans rfl; have x33 : w3.cell? ⟨Bx, 3, none⟩ = some (.int .i64 (x 3)) := (blk_cell HX3.out 3).trans rfl; have p30 : w3.cell? ⟨w1.heap.size + 1 + 1, 0, none⟩ = some (.pointer (some ⟨w1.heap.size + 1, 0, none⟩)) := (blk_cell HQ3.out 0).trans rfl; have g35 : w3.cell? ⟨w1.heap.size + 1, 5, none⟩ = some (.slice (some ad) ts.length cT) := (blk_cell HG3.out 5).trans rfl; have f35 := blk_frozen HG3.out 5))
            refine hK.out _ _ ?_ ?_
            · ((try dsimp only); (first | go_keep | (go_split_ands; refine ⟨later (below_alloc (Below.refl _ _) _) (by assumption), later (below_alloc (Below.refl _ _) _) (by assumption), later (below_alloc (Below.refl _ _) _) (by assumption), later (below_alloc (Below.refl _ _) _) (by assumption), later (below_alloc (Below.refl _ _) _) (by assumption)⟩)))
            try clear hHeld
            intro hHeld
            clear hK K
            try simp only [pS]
            refine tkT 8 (some 58) (v := ?_) rfl rfl (.inl ⟨by rfl, ?_⟩) ?_
            rotate_left
            · (intro w hSw; (try dsimp only at hSw); go_simp; with_reducible rfl)
            try simp only [pS]
            refine tkT 9 (some 59) (v := ?_) rfl rfl (.inl ⟨by rfl, ?_⟩) ?_
            rotate_left
            · (intro w hSw; (try dsimp only at hSw); go_simp; with_reducible rfl)
            try simp only [pS]
            refine wpAnyH_ready (rs := [10]) (by kernel_rfl) (by simp) ?_
            refine AllReadyH.cons (o := { dst := none, op := Op.store 141 (Operand.tmp 59) (Operand.tmp 57), type := 0, pos := "ask.go:30", after := #[{ on := 9, ground := Ground.data }, { on := 7, ground := Ground.data }, { on := 7, ground := Ground.chain }, { on := 0, ground := Ground.phase }, { on := 1, ground := Ground.phase }, { on := 2, ground := Ground.phase }, { on := 3, ground := Ground.phase }, { on := 4, ground := Ground.phase }, { on := 5, ground := Ground.phase }, { on := 6, ground := Ground.phase }, { on := 7, ground := Ground.phase }], guard := none }) rfl (fun K hK => ?_) ?_
            go_simp
            refine hK.out _ _ ?_ ?_
            · ((try dsimp only); (first | go_keep | (go_split_ands; refine ⟨later (below_alloc (Below.refl _ _) _) (by assumption), later (below_alloc (Below.refl _ _) _) (by assumption), later (below_alloc (Below.refl _ _) _) (by assumption), later (below_alloc (Below.refl _ _) _) (by assumption), later (below_alloc (Below.refl _ _) _) (by assumption)⟩)))
            try clear hHeld
            intro hHeld
            clear hK K
            try simp only [pS]
            refine wpAnyH_done (by kernel_rfl) ?_ _
            rotate_left
            exact AllReadyH.nil
            exact AllReadyH.nil
            exact AllReadyH.nil
            refine AllReadyH.cons (o := { dst := some 56, op := Op.buildSlice 141 1 #[(0, Operand.tmp 55)], type := 141, pos := "ask.go:30", after := #[{ on := 5, ground := Ground.data }], guard := none }) rfl (fun K hK => ?_) ?_
            go_simp
            refine hK.out _ _ ?_ ?_
            · ((try dsimp only); (first | go_keep | (go_split_ands; refine ⟨later (below_alloc (Below.refl _ _) _) (by assumption), later (below_alloc (Below.refl _ _) _) (by assumption), later (below_alloc (Below.refl _ _) _) (by assumption), later (below_alloc (Below.refl _ _) _) (by assumption), later (below_alloc (Below.refl _ _) _) (by assumption)⟩)))
            try clear hHeld
            intro hHeld
            clear hK K
            try simp only [pS]
            refine wpAnyH_ready (rs := [4]) (by kernel_rfl) (by simp) ?_
            refine AllReadyH.cons (o := { dst := some 54, op := Op.load 141 (Operand.tmp 53), type := 141, pos := "ask.go:30", after := #[{ on := 3, ground := Ground.data }], guard := none }) rfl (fun K hK => ?_) ?_
            go_simp
            refine hK.out _ _ ?_ ?_
            · ((try dsimp only); (first | go_keep | (go_split_ands; refine ⟨later (below_alloc (Below.refl _ _) _) (by assumption), later (below_alloc (Below.refl _ _) _) (by assumption), later (below_alloc (Below.refl _ _) _) (by assumption), later (below_alloc (Below.refl _ _) _) (by assumption), later (below_alloc (Below.refl _ _) _) (by assumption)⟩)))
            try clear hHeld
            intro hHeld
            clear hK K
            try simp only [pS]
            refine wpAnyH_ready (rs := [7]) (by kernel_rfl) (by simp) ?_
            refine AllReadyH.cons (o := { dst := some 57, op := Op.call { callee := Callee.builtin Builtin.append, args := #[Operand.tmp 54, Operand.tmp 56], argTypes := #[141, 141] }, type := 141, pos := "ask.go:30", after := #[{ on := 4, ground := Ground.data }, { on := 6, ground := Ground.data }], guard := none }) rfl (fun K hK => ?_) ?_
            ((refine Kd.R_append_step kN (w0 := w) w.heap.size (by rfl) (.tmp 54) (.tmp 56) 141 152 (.agg #[(.int .i64 0), (.int .i64 0), (.int .i64 0), (.int .i64 0)]) 32 rfl Try.underlying141 (by kernel_rfl) rfl (by decide) (by omega) (.slice (some ad) ts.length cT) ts x [.int .i64 (x 0), .int .i64 (x 1), .int .i64 (x 2), .int .i64 (x 3)] (fun k => w1.heap.size + 4 + 5 ≤ k) (fun _ => False) rfl rfl aP (fun _ hk => hk.elim) aF aO aB aS aL ?_; intro v1 w3 ho hb hg hat; obtain ⟨A1, C1, hv1⟩ := Kd.R_slice ho; obtain ⟨N1, hN1⟩ : ∃ N1, (ts ++ [x]).length = N1 := ⟨_, rfl⟩; rw [hN1] at hv1; subst hv1; have HN1 := Aside0.mk hN1; clear hN1; have HO3 := Aside0.mk ho; have HB3 := Aside0.mk hb; have HGB := Aside0.mk hg; have HG3 := Aside0.mk (blk_grown (blk_drew HG2.out) hg (Kd.R_ne HR2.out HG2.out (by decide))); have HQ3 := Aside0.mk (blk_grown (blk_drew HQ2.out) hg (Kd.R_ne HR2.out HQ2.out (by decide))); have HX3 := Aside0.mk (blk_grown (blk_drew HX2.out) hg HBV.out); clear ho hb hg hat; have x30 : w3.cell? ⟨Bx, 0, none⟩ = some (.int .i64 (x 0)) := (blk_cell HX3.out 0).trans rfl; have x31 : w3.cell? ⟨Bx, 1, none⟩ = some (.int .i64 (x 1)) := (blk_cell HX3.out 1).trans rfl; have x32 : w3.cell? ⟨Bx, 2, none⟩ = some (.int .i64 (x 2)) := (blk_cell HX3.out 2).trans rfl; have x33 : w3.cell? ⟨Bx, 3, none⟩ = some (.int .i64 (x 3)) := (blk_cell HX3.out 3).trans rfl; have p30 : w3.cell? ⟨w1.heap.size + 1 + 1, 0, none⟩ = some (.pointer (some ⟨w1.heap.size + 1, 0, none⟩)) := (blk_cell HQ3.out 0).trans rfl; have g35 : w3.cell? ⟨w1.heap.size + 1, 5, none⟩ = some (.slice (some ad) ts.length cT) := (blk_cell HG3.out 5).trans rfl; have f35 := blk_frozen HG3.out 5))
            refine hK.out _ _ ?_ ?_
            · ((try dsimp only); (first | go_keep | (go_split_ands; refine ⟨later (below_alloc (Below.refl _ _) _) (by assumption), later (below_alloc (Below.refl _ _) _) (by assumption), later (below_alloc (Below.refl _ _) _) (by assumption), later (below_alloc (Below.refl _ _) _) (by assumption), later (below_alloc (Below.refl _ _) _) (by assumption)⟩)))
            try clear hHeld
            intro hHeld
            clear hK K
            try simp only [pS]
            refine tkT 8 (some 58) (v := ?_) rfl rfl (.inl ⟨by rfl, ?_⟩) ?_
            rotate_left
            · (intro w hSw; (try dsimp only at hSw); go_simp; with_reducible rfl)
            try simp only [pS]
            refine tkT 9 (some 59) (v := ?_) rfl rfl (.inl ⟨by rfl, ?_⟩) ?_
            rotate_left
            · (intro w hSw; (try dsimp only at hSw); go_simp; with_reducible rfl)
            try simp only [pS]
            refine wpAnyH_ready (rs := [10]) (by kernel_rfl) (by simp) ?_
            refine AllReadyH.cons (o := { dst := none, op := Op.store 141 (Operand.tmp 59) (Operand.tmp 57), type := 0, pos := "ask.go:30", after := #[{ on := 9, ground := Ground.data }, { on := 7, ground := Ground.data }, { on := 7, ground := Ground.chain }, { on := 0, ground := Ground.phase }, { on := 1, ground := Ground.phase }, { on := 2, ground := Ground.phase }, { on := 3, ground := Ground.phase }, { on := 4, ground := Ground.phase }, { on := 5, ground := Ground.phase }, { on := 6, ground := Ground.phase }, { on := 7, ground := Ground.phase }], guard := none }) rfl (fun K hK => ?_) ?_
            go_simp
            refine hK.out _ _ ?_ ?_
            · ((try dsimp only); (first | go_keep | (go_split_ands; refine ⟨later (below_alloc (Below.refl _ _) _) (by assumption), later (below_alloc (Below.refl _ _) _) (by assumption), later (below_alloc (Below.refl _ _) _) (by assumption), later (below_alloc (Below.refl _ _) _) (by assumption), later (below_alloc (Below.refl _ _) _) (by assumption)⟩)))
            try clear hHeld
            intro hHeld
            clear hK K
            try simp only [pS]
            refine wpAnyH_done (by kernel_rfl) ?_ _
            rotate_left
            exact AllReadyH.nil
            exact AllReadyH.nil
            exact AllReadyH.nil
            exact AllReadyH.nil
          all_goals
            clear x0 x1 x2 x3 p0 g5 f5 x30 x31 x32 x33 p30 g35 f35 hHeld
            gi_wp2_with fail
            have hown : ∀ k, (Value.slice (some ad) ts.length cT).ownBlock = some k → w1.heap.size + 4 + 5 ≤ k := HR2.out.1
            have hfar : ∀ k, k < w1.heap.size + 9 → k ≠ w1.heap.size + 1 → (w3.setCell ⟨w1.heap.size + 1, 5, none⟩ (.slice A1 N1 C1)).heap[k]? = W.heap[k]? := by
              intro k hk hne
              have h1 := HGB.out.block k (by have := HN2.out; have : W2.drew.heap.size = W2.heap.size := rfl; omega) (fun e => by have := hown k e.symm; omega)
              exact (Below.heap_setCell w3 ⟨w1.heap.size + 1, 5, none⟩ (.slice A1 N1 C1) k hne).trans (h1.trans (HBW.out.block k (by omega)))
            have hbl : Below w.heap.size W (w3.setCell ⟨w1.heap.size + 1, 5, none⟩ (.slice A1 N1 C1)) :=
              (((below_drew (HBW.out.mono (by omega))).grown HGB.out aS (fun k e => by have := hown k e; omega)).setCell (by simp; omega) _)
            refine ⟨⟨hbl, hfar _ (by omega) (by omega), fun k h3 h4 => hfar k (by omega) (by omega)⟩, ?_⟩
            dsimp only
            rw [HK1.out]
            exact ⟨H1.out.below.trans hbl, (hfar _ (by omega) (by omega)).trans H1.out.c, (hfar _ (by omega) (by omega)).trans H1.out.k, (hfar _ (by omega) (by omega)).trans H1.out.q, _, blk_put HG3.out 5 _ rfl, Kd.R_far HO3.out (fun k hk => by simp; omega) _⟩
      · have HK1 : Aside0 (keepT hs hung looks (pre ++ [x]) = ts) := ⟨by rw [keepT_snoc, HTS.out]; unfold keep1; rw [if_neg (fun h => hne h.2)]⟩
        have hpos : 0 < ts.length := by
          cases ts with
          | nil => exact absurd (.inl rfl) hne
          | cons a r => simp
        obtain ⟨ad, eA, t0, t1, t2, t3⟩ := at_N hC (ts.length - 1) (by omega)
        subst eA
        have q0 : ((ts.length : Int) == 0) = false := beq_eq_false_iff_ne.2 (by omega)
        have q1 : IntKind.i64.wrap ((ts.length : Int) - 1) = ((ts.length - 1 : Nat) : Int) := by
          have := HLN.out
          rw [show IntKind.i64.wrap ((ts.length : Int) - 1) = (ts.length : Int) - 1 from IntWalk.i64_in _ (by omega)]
          omega
        obtain ⟨n, hn⟩ : ∃ n, ts.length - 1 = n := ⟨_, rfl⟩
        rw [hn] at t0 t1 t2 t3 q1 hne
        have hn0 : (0 : Int) ≤ n := by omega
        have hn1 : (n : Int) < ts.length := by omega
        obtain ⟨L, hL⟩ : ∃ L, ts.length = L := ⟨_, rfl⟩
        rw [hL] at q0 q1 hn1 g5 hpos
        have hx0 : rdN ts n 0 = x 0 ∧ rdN ts n 1 = x 1 ∧ rdN ts n 2 = x 2 ∧ rdN ts n 3 = x 3 := by
          have h : ¬ ne4 (rdN ts n) x = true := fun h => hne (.inr h)
          simpa [ne4, and_assoc] using h
        obtain ⟨e0, e1, e2, e3⟩ := hx0
        rw [e0] at t0
        rw [e1] at t1
        rw [e2] at t2
        rw [e3] at t3
        have hEQ : ∀ W, (Op.equalIn 10000 152 (.agg #[.int .i64 (x 0), .int .i64 (x 1), .int .i64 (x 2), .int .i64 (x 3)]) (.agg #[.int .i64 (x 0), .int .i64 (x 1), .int .i64 (x 2), .int .i64 (x 3)])).run Try.prog W = .ok true W := fun W => by rw [eq4]; simp [ne4]
        clear hne hn e0 e1 e2 e3 hC
        gi_wp2_with fail
        refine wpIn_round_held (S := fun W' => Below W.heap.size W W' ∧ W'.cell? ⟨w.heap.size, 0, none⟩ = some (.int .i64 cs) ∧ W'.cell? ⟨w.heap.size, 1, none⟩ = some (.int .i64 cl) ∧ W'.cell? ⟨w.heap.size, 2, none⟩ = some (.slice A2 hs.length c2) ∧ W'.cell? ⟨w.heap.size, 3, none⟩ = some (.slice A3 hung.length c3) ∧ W'.cell? ⟨w.heap.size, 4, none⟩ = some (.slice A4 looks.length c4) ∧
                W'.cell? ⟨Bx, 0, none⟩ = some (.int .i64 (x 0)) ∧ W'.cell? ⟨Bx, 1, none⟩ = some (.int .i64 (x 1)) ∧ W'.cell? ⟨Bx, 2, none⟩ = some (.int .i64 (x 2)) ∧ W'.cell? ⟨Bx, 3, none⟩ = some (.int .i64 (x 3)) ∧ W'.cell? ⟨w1.heap.size + 1 + 1, 0, none⟩ = some (.pointer (some ⟨w1.heap.size + 1, 0, none⟩)) ∧ W'.cell? ⟨w1.heap.size + 1, 5, none⟩ = some (.slice (some ad) L cT) ∧
                W'.cell? (ad.add (n * 4)) = some (.int .i64 (x 0)) ∧ W'.cell? ⟨(ad.add (n * 4)).block, (ad.add (n * 4)).off + 1, none⟩ = some (.int .i64 (x 1)) ∧ W'.cell? ⟨(ad.add (n * 4)).block, (ad.add (n * 4)).off + 2, none⟩ = some (.int .i64 (x 2)) ∧ W'.cell? ⟨(ad.add (n * 4)).block, (ad.add (n * 4)).off + 3, none⟩ = some (.int .i64 (x 3))) (by kernel_rfl) (by kernel_rfl) (fun ⟨_, _, h⟩ => h) ?hS (fun hHeld => ?_)
        case hS => exact ⟨below_drew (Below.refl _ _), k0, k1, k2, k3, k4, x0, x1, x2, x3, p0, g5, t0, t1, t2, t3⟩
        focus
          refine tkT 0 (some 23) (v := ?_) rfl rfl (.inl ⟨by rfl, ?_⟩) ?_
          rotate_left
          · (intro w hSw; (try dsimp only at hSw); go_simp; with_reducible rfl)
          try simp only [pS]
          refine tkT 1 (some 24) (v := ?_) rfl rfl (.inl ⟨by rfl, ?_⟩) ?_
          rotate_left
          · (intro w hSw; (try dsimp only at hSw); go_simp; with_reducible rfl)
          try simp only [pS]
          refine wpAnyH_ready (rs := [2]) (by kernel_rfl) (by simp) ?_
          refine AllReadyH.cons (o := { dst := some 25, op := Op.call { callee := Callee.value (Operand.func 109), args := #[Operand.tmp 23, Operand.tmp 24, Operand.const (Value.slice none 0 0)], argTypes := #[35, 152, 23] }, type := 4, pos := "ask.go:29", after := #[{ on := 0, ground := Ground.data }, { on := 1, ground := Ground.data }], guard := none }) rfl (fun K hK => ?_) ?_
          go_simp
          ((go_at_call 109; refine (right_calls cs cl A2 A3 A4 none c2 c3 c4 0 hs hung looks x [] _ HV.out (HM.out.later (below_step H1.out.below hHeld.1)) (Kd.C_nil _ _) (Nat.le_refl _) (Nat.zero_le _) (dries_bd HV.out HX.out)).mono ?_; rintro e W2 ⟨rfl, hb2⟩; rw [HRB.out]; have HB2 := Aside0.mk hb2; clear hb2))
          go_wp2_with fail
          refine hK.out _ _ ?_ ?_
          · ((try dsimp only); (first | go_keep | (go_split_ands; refine ⟨below_step (by assumption) HB2.out, later HB2.out (by assumption), later HB2.out (by assumption), later HB2.out (by assumption), later HB2.out (by assumption), later HB2.out (by assumption), later HB2.out (by assumption), later HB2.out (by assumption), later HB2.out (by assumption), later HB2.out (by assumption), later HB2.out (by assumption), later HB2.out (by assumption), later HB2.out (by assumption), later HB2.out (by assumption), later HB2.out (by assumption), later HB2.out (by assumption)⟩)))
          try clear hHeld
          intro hHeld
          clear hK K
          try simp only [pS]
          refine tkT 3 (some 26) (v := ?_) rfl rfl (.inl ⟨by rfl, ?_⟩) ?_
          rotate_left
          · (intro w hSw; (try dsimp only at hSw); go_simp; with_reducible rfl)
          try simp only [pS]
          refine tkT 4 (some 27) (v := ?_) rfl rfl (.inl ⟨by rfl, ?_⟩) ?_
          rotate_left
          · (intro w hSw; (try dsimp only at hSw); go_simp; with_reducible rfl)
          try simp only [pS]
          refine tkT 5 (some 28) (v := ?_) rfl rfl (.inl ⟨by rfl, ?_⟩) ?_
          rotate_left
          · (intro w hSw; (try dsimp only at hSw); go_simp; with_reducible rfl)
          try simp only [pS]
          refine tkT 6 (some 29) (v := ?_) rfl rfl (.inl ⟨by rfl, ?_⟩) ?_
          rotate_left
          · (intro w hSw; (try dsimp only at hSw); go_simp; with_reducible rfl)
          try simp only [pS]
          refine tkT 7 (some 30) (v := ?_) rfl rfl (.inl ⟨by rfl, ?_⟩) ?_
          rotate_left
          · (intro w hSw; (try dsimp only at hSw); go_simp; with_reducible rfl)
          try simp only [pS]
          refine tkT 8 (some 31) (v := ?_) rfl rfl (.inl ⟨by rfl, ?_⟩) ?_
          rotate_left
          · (intro w hSw; (try dsimp only at hSw); go_simp; with_reducible rfl)
          try simp only [pS]
          refine tkT 9 (some 32) (v := ?_) rfl rfl (.inl ⟨by rfl, ?_⟩) ?_
          rotate_left
          · (intro w hSw; (try dsimp only at hSw); go_simp; with_reducible rfl)
          try simp only [pS]
          refine tkT 10 (some 33) (v := ?_) rfl rfl (.inl ⟨by rfl, ?_⟩) ?_
          rotate_left
          · (intro w hSw; (try dsimp only at hSw); go_simp; with_reducible rfl)
          try simp only [pS]
          refine tkT 11 (some 34) (v := ?_) rfl rfl (.inl ⟨by rfl, ?_⟩) ?_
          rotate_left
          · (intro w hSw; (try dsimp only at hSw); go_simp; with_reducible rfl)
          try simp only [pS]
          refine tkT 12 (some 35) (v := ?_) rfl rfl (.inl ⟨by rfl, ?_⟩) ?_
          rotate_left
          · (intro w hSw; (try dsimp only at hSw); go_simp; with_reducible rfl)
          try simp only [pS]
          refine tkT 13 (some 36) (v := ?_) rfl rfl (.inl ⟨by rfl, ?_⟩) ?_
          rotate_left
          · (intro w hSw; (try dsimp only at hSw); go_simp; with_reducible rfl)
          try simp only [pS]
          refine tkT 14 (some 37) (v := ?_) rfl rfl (.inl ⟨by rfl, ?_⟩) ?_
          rotate_left
          · (intro w hSw; (try dsimp only at hSw); go_simp; with_reducible rfl)
          try simp only [pS]
          refine tkT 15 (some 38) (v := ?_) rfl rfl (.inl ⟨by rfl, ?_⟩) ?_
          rotate_left
          · (intro w hSw; (try dsimp only at hSw); go_simp; with_reducible rfl)
          try simp only [pS]
          refine tkT 16 (some 39) (v := ?_) rfl rfl (.inl ⟨by rfl, ?_⟩) ?_
          rotate_left
          · (intro w hSw; (try dsimp only at hSw); go_simp; with_reducible rfl)
          try simp only [pS]
          refine tkT 17 (some 40) (v := ?_) rfl rfl (.inl ⟨by rfl, ?_⟩) ?_
          rotate_left
          · (intro w hSw; (try dsimp only at hSw); go_simp; with_reducible rfl)
          try simp only [pS]
          refine tkT 18 (some 41) (v := ?_) rfl rfl (.inl ⟨by rfl, ?_⟩) ?_
          rotate_left
          · (intro w hSw; (try dsimp only at hSw); go_simp; with_reducible rfl)
          try simp only [pS]
          refine tkT 19 (some 42) (v := ?_) rfl rfl (.inl ⟨by rfl, ?_⟩) ?_
          rotate_left
          · (intro w hSw; (try dsimp only at hSw); go_simp; with_reducible rfl)
          try simp only [pS]
          refine tkT 20 (some 43) (v := ?_) rfl rfl (.inl ⟨by rfl, ?_⟩) ?_
          rotate_left
          · (intro w hSw; (try dsimp only at hSw); go_simp; with_reducible rfl)
          try simp only [pS]
          refine tkT 21 (some 44) (v := ?_) rfl rfl (.inl ⟨by rfl, ?_⟩) ?_
          rotate_left
          · (intro w hSw; (try dsimp only at hSw); go_simp; with_reducible rfl)
          try simp only [pS]
          refine tkT 22 (some 45) (v := ?_) rfl rfl (.inl ⟨by rfl, ?_⟩) ?_
          rotate_left
          · (intro w hSw; (try dsimp only at hSw); go_simp; with_reducible rfl)
          try simp only [pS]
          refine tkT 23 (some 46) (v := ?_) rfl rfl (.inl ⟨by rfl, ?_⟩) ?_
          rotate_left
          · (intro w hSw; (try dsimp only at hSw); go_simp; with_reducible rfl)
          try simp only [pS]
          refine tkT 24 (some 47) (v := ?_) rfl rfl (.inl ⟨by rfl, ?_⟩) ?_
          rotate_left
          · (intro w hSw; (try dsimp only at hSw); go_simp; with_reducible rfl)
          try simp only [pS]
          refine tkT 25 (some 48) (v := ?_) rfl rfl (.inl ⟨by rfl, ?_⟩) ?_
          rotate_left
          · (intro w hSw; (try dsimp only at hSw); go_simp; with_reducible rfl)
          try simp only [pS]
          refine tkT 26 (some 49) (v := ?_) rfl rfl (.inl ⟨by rfl, ?_⟩) ?_
          rotate_left
          · (intro w hSw; (try dsimp only at hSw); go_simp; with_reducible rfl)
          try simp only [pS]
          refine wpAnyH_done (by kernel_rfl) ?_ _
          rotate_left
          exact AllReadyH.nil
        have HBW := Aside0.mk (below_step hHeld.1 (Below.refl _ _))
        clear hHeld
        clear k0 k1 k2 k3 k4 x0 x1 x2 x3 p0 g5
        gi_wp2_with fail
        refine ⟨Rk.of_below HBW.out hgz (by omega) (by omega), ?_⟩
        dsimp only
        rw [HK1.out]
        exact H1.out.same HBW.out (by omega) (by omega) (by omega) (by omega) (by omega) (fun k' h3 h4 => HBW.out.block _ h4)
  case done =>
    rintro W h1 hK
    have H1 := Aside0.mk h1
    have HK := Aside0.mk hK
    obtain ⟨v, hg, hR⟩ := h1.t
    have hR2 : kN.R 152 (W.putObj W0.heap.size (.deferred none)) w.heap.size (fun k => w1.heap.size + 4 + 5 ≤ k) v (truthsT hs hung looks) := Kd.R_step hR (fun k hk _ => World.putObj_heap_other (by omega))
    obtain ⟨AT, cT, ev, hcT, hC⟩ := Kd.R_reads hR2
    have HC := Aside0.mk hC
    have HG := Aside0.mk hg
    subst ev
    have HAB := Aside0.mk (Kd.R_base hR2)
    have p0 : W.cell? ⟨w1.heap.size + 1 + 1, 0, none⟩ = some (.pointer (some ⟨w1.heap.size + 1, 0, none⟩)) := (blk_cell h1.q 0).trans rfl
    have g5 : W.cell? ⟨w1.heap.size + 1, 5, none⟩ = some (.slice AT (truthsT hs hung looks).length cT) := (blk_cell hg 5).trans rfl
    clear h1 hK hbox HP0 hg hR hR2 hC
    by_cases hemp : truthsT hs hung looks = []
    · have HE := Aside0.mk hemp
      rw [hemp] at g5
      clear hemp
      gi_wp2_with fail
      refine ⟨by simp, .inl ⟨_, _, rfl, run_takeDeferred HK.out, ?_⟩⟩
      exact ⟨_, results_tmp2 rfl _ _ _, .inl ⟨HE.out, rfl, H1.out.below.trans (below_putObj _ _ _ (by omega))⟩⟩
    · have q0 : (((truthsT hs hung looks).length : Int) == 0) = false := beq_eq_false_iff_ne.2 (by have := List.length_pos_iff.2 hemp; omega)
      have HE := Aside0.mk hemp
      clear hemp
      gi_wp2_with fail
      refine ⟨by simp, .inl ⟨_, _, rfl, run_takeDeferred HK.out, ?_⟩⟩
      refine ⟨_, results_tmp2 rfl _ _ _, .inr ⟨HE.out, w1.heap.size + 1, w1.heap.size, AT, cT, rfl, H1.out.below.trans (below_putObj _ _ _ (by omega)), by omega, by omega, HAB.out, (World.putObj_heap_other (by omega)).trans H1.out.k, (World.putObj_heap_other (by omega)).trans HG.out, ?_, HC.out, hcT⟩⟩
      exact HM.out.later (H1.out.below.trans (below_putObj _ _ _ (by omega)))
  case stop =>
    rintro W h1 hK
    exact h1.elim
end Go.Proofs.Ytokhmghgghjmhaa.Q
namespace Go.Proofs.Ytokhmghgghjmhaa.Q
open Go.RowKit Go.Proofs.YtokhmghgghjmhaaW.PrintWords Go.Proofs.YtokhmghgghjmhaaW.PrintLast Go.Proofs.YtokhmghgghjmhaaW.PrintMore
set_option linter.unusedVariables false
theorem keep_mem (hs : List S139) (hung : List Int) (looks : List S140) : ∀ (pre ts : List (Nat → Int)) (d : Nat → Int), d ∈ pre.foldl (keep1 hs hung looks) ts → d ∈ ts ∨ (d ∈ pre ∧ rightB hs hung looks d [] = true)
  | [], ts, d, h => .inl h
  | a :: r, ts, d, h => by
    rcases keep_mem hs hung looks r _ d h with h | h
    · unfold keep1 at h
      split at h
      · rename_i hr
        rcases List.mem_append.1 h with h | h
        · exact .inl h
        · rw [List.mem_singleton.1 h]; exact .inr ⟨by simp, hr.1⟩
      · exact .inl h
    · exact .inr ⟨by simp [h.1], h.2⟩
theorem truths_mem {hs : List S139} {hung : List Int} {looks : List S140} {d : Nat → Int} (h : d ∈ truthsT hs hung looks) : d ∈ dries hs ∧ rightB hs hung looks d [] = true := by
  rcases keep_mem hs hung looks _ _ d h with h | h
  · cases h
  · exact h
theorem truths_small {cs cl : Int} {hs : List S139} {hung : List Int} {looks : List S140} (V : Valid cs cl hs hung looks) : Small (truthsT hs hung looks) := by
  intro i j
  unfold rdN
  rw [List.getD_eq_getElem?_getD]
  cases h : (truthsT hs hung looks)[i]? with
  | none => simp
  | some d => exact dries_bd V (truths_mem (List.mem_of_getElem? h)).1 j
def szN (hs : List S139) (i : Nat) : Nat := ((rd_T139 hs i).f0.f1 + 1 - (rd_T139 hs i).f0.f0).toNat
def prN (hs : List S139) : Nat → Nat → Nat
  | 0, _ => 1
  | d + 1, h => szN hs h * prN hs d (h + 1)
def plN (hs : List S139) : Nat → Nat
  | 0 => 1
  | n + 1 => plN hs n * szN hs n
theorem flatMap_eq_len {α β : Type} (f : α → List β) (N : Nat) : ∀ l : List α, (∀ a ∈ l, (f a).length = N) → (l.flatMap f).length = l.length * N
  | [], _ => by simp
  | a :: r, h => by
    have h1 := h a (by simp)
    have h2 := flatMap_eq_len f N r (fun b hb => h b (by simp [hb]))
    simp only [List.flatMap_cons, List.length_append, List.length_cons, Nat.add_mul]
    omega
theorem allN_eq_len (hs : List S139) : ∀ (d h : Nat) (x : Nat → Int), (allN hs d h x).length = prN hs d h
  | 0, h, x => by simp [allN, prN]
  | d + 1, h, x => by
    simp only [allN, prN]
    rw [flatMap_eq_len _ (prN hs d (h + 1)) _ (fun v _ => allN_eq_len hs d (h + 1) _)]
    simp [vals, szN]
theorem pl_pr (hs : List S139) : ∀ (d h : Nat), plN hs h * prN hs d h = plN hs (h + d)
  | 0, h => by simp [prN]
  | d + 1, h => by
    have := pl_pr hs d (h + 1)
    simp only [prN]
    rw [← Nat.mul_assoc]
    rw [show plN hs h * szN hs h = plN hs (h + 1) from rfl, this]
    congr 1
    omega
theorem prod_pl {cs cl : Int} {hs : List S139} {hung : List Int} {looks : List S140} (V : Valid cs cl hs hung looks) : ∀ n : Nat, n ≤ hs.length → prodH hs n = plN hs n ∧ plN hs n ≤ 60 ^ n
  | 0, _ => by simp [prodH, plN]
  | n + 1, h => by
    obtain ⟨h1, h2⟩ := prod_pl V n (by omega)
    have hd := V.dry n (by omega)
    have h4 := V.n4
    have hp : 60 ^ n ≤ 60 ^ 3 := Nat.pow_le_pow_right (by omega) (by omega)
    have hs1 : szN hs n ≤ 60 := by unfold szN; omega
    have hs2 : ((szN hs n : Nat) : Int) = (rd_T139 hs n).f0.f1 - (rd_T139 hs n).f0.f0 + 1 := by unfold szN; omega
    have hm : plN hs n * szN hs n ≤ 60 ^ n * 60 := Nat.mul_le_mul h2 hs1
    have hb : plN hs n * szN hs n ≤ 12960000 := by omega
    refine ⟨?_, by simp only [plN]; rw [Nat.pow_succ]; exact hm⟩
    simp only [prodH, plN]
    rw [h1]
    have e1 : wrap64 ((rd_T139 hs n).f0.f1 - (rd_T139 hs n).f0.f0) = (rd_T139 hs n).f0.f1 - (rd_T139 hs n).f0.f0 := by unfold wrap64; omega
    have e2 : wrap64 ((rd_T139 hs n).f0.f1 - (rd_T139 hs n).f0.f0 + 1) = ((szN hs n : Nat) : Int) := by unfold wrap64; omega
    rw [e1, e2, ← Int.natCast_mul]
    unfold wrap64
    omega
theorem dries_2000 {cs cl : Int} {hs : List S139} {hung : List Int} {looks : List S140} (h : checkB cs cl hs hung looks = 0) : (dries hs).length ≤ 2000 := by
  have V := valid_of h
  have h1 := (prod_pl V hs.length (Nat.le_refl _)).1
  have h2 := pl_pr hs hs.length 0
  have h3 := allN_eq_len hs hs.length 0 (fun _ => 0)
  have h4 : ¬ prodH hs hs.length > 2000 := by
    unfold checkB at h
    split at h
    · omega
    split at h
    · omega
    split at h
    · omega
    · assumption
  unfold dries
  simp only [plN, Nat.one_mul, Nat.zero_add] at h2
  omega
theorem truths_len {cs cl : Int} {hs : List S139} {hung : List Int} {looks : List S140} (h : checkB cs cl hs hung looks = 0) : (truthsT hs hung looks).length ≤ 100000 := by
  have h1 := dries_2000 h
  have h2 := keepT_len hs hung looks (dries hs)
  unfold truthsT
  omega
/-- What asking leaves: an error, or closets at work. -/
def AskR (w : World) (cs cl : Int) (A2 A3 A4 : Option Addr) (c2 c3 c4 : Nat) (hs : List S139) (hung : List Int) (looks : List S140) (b : Bool) (p : Value) (c : Int) (w' : World) : Prop :=
  (c ≠ 0 ∧ c = askCode cs cl hs hung looks b ∧ p = .pointer none ∧ Below w.heap.size w w') ∨
  (c = 0 ∧ askCode cs cl hs hung looks b = 0 ∧ checkB cs cl hs hung looks = 0 ∧ b = true ∧ truthsT hs hung looks ≠ [] ∧ ∃ g m AT cT, p = .pointer (some ⟨g, 0, none⟩) ∧ Asked w cs cl A2 A3 A4 c2 c3 c4 hs hung looks g m AT cT w')
theorem AskR.below {w : World} {cs cl : Int} {A2 A3 A4 : Option Addr} {c2 c3 c4 : Nat} {hs : List S139} {hung : List Int} {looks : List S140} {b : Bool} {p : Value} {c : Int} {w' : World} (h : AskR w cs cl A2 A3 A4 c2 c3 c4 hs hung looks b p c w') : Below w.heap.size w w' := by
  rcases h with h | ⟨_, _, _, _, _, g, m, AT, cT, _, h⟩
  · exact h.2.2.2
  · exact h.below
theorem asked_calls (cs cl : Int) {A2 A3 A4 : Option Addr} {c2 c3 c4 : Nat} {hs : List S139} {hung : List Int} {looks : List S140} {w : World} (M : Mem w A2 A3 A4 c2 c3 c4 hs hung looks) (b : Bool) :
    Calls Try.prog 87 #[.agg #[.int .i64 cs, .int .i64 cl, .slice A2 hs.length c2, .slice A3 hung.length c3, .slice A4 looks.length c4], .bool b] w
      fun e w' => ∃ p c, e = .returned (.tuple #[p, .int .i64 c]) ∧ AskR w cs cl A2 A3 A4 c2 c3 c4 hs hung looks b p c w' := by
  by_cases hf : checkB cs cl hs hung looks ≠ 0 ∨ b = false
  · refine (asked_fail cs cl M b hf).mono ?_
    rintro e w' ⟨rfl, hb⟩
    refine ⟨_, _, rfl, .inl ⟨?_, rfl, rfl, hb⟩⟩
    unfold askCode
    split
    · assumption
    · rename_i h0
      rcases hf with hf | hf
      · exact absurd hf h0
      · rw [if_pos hf]; omega
  · have h0 : checkB cs cl hs hung looks = 0 := Classical.byContradiction fun h => hf (.inl h)
    have hb : b = true := by cases b with | true => rfl | false => exact absurd (.inr rfl) hf
    subst hb
    refine (asked_ok cs cl M h0).mono ?_
    rintro e w' (⟨ht, rfl, hb⟩ | ⟨ht, g, m, AT, cT, rfl, hA⟩)
    · refine ⟨_, _, rfl, .inl ⟨by omega, ?_, rfl, hb⟩⟩
      unfold askCode
      rw [if_neg (by omega), if_neg (by simp), if_pos ht]
    · refine ⟨_, _, rfl, .inr ⟨rfl, ?_, h0, rfl, ht, g, m, AT, cT, rfl, hA⟩⟩
      unfold askCode
      rw [if_neg (by omega), if_neg (by simp), if_neg ht]
end Go.Proofs.Ytokhmghgghjmhaa.Q
namespace Go.Proofs.Ytokhmghgghjmhaa.Q
open Go.RowKit Go.Proofs.YtokhmghgghjmhaaW.PrintWords Go.Proofs.YtokhmghgghjmhaaW.PrintLast Go.Proofs.YtokhmghgghjmhaaW.PrintMore
set_option linter.unusedVariables false
set_option linter.unusedSimpArgs false
/-- Is a list a placement? -/
def fineB (cs : Int) (hs : List S139) (p : List Int) : Bool := placeB (wrap64 (cs - 1)) hs.length p
/-- What Stuck says. -/
def stuckR (cs cl : Int) (hs : List S139) (hung : List Int) (looks : List S140) (p : List Int) : Int × Int :=
  if askCode cs cl hs hung looks (fineB cs hs p) ≠ 0 then (0, askCode cs cl hs hung looks (fineB cs hs p))
  else if (doneR cl hs p (truthsT hs hung looks)).2 = hs.length then (0, 7) else ((doneR cl hs p (truthsT hs hung looks)).2, 0)
theorem fine_place {cs cl : Int} {hs : List S139} {hung : List Int} {looks : List S140} {p : List Int} (V : Valid cs cl hs hung looks) (h : fineB cs hs p = true) : placeB (cs - 1) hs.length p = true := by
  have h1 := V.c1
  have h2 := V.c4
  unfold fineB at h
  rwa [wrap_dec (by omega) (by omega)] at h
set_option maxHeartbeats 4000000 in
set_option maxRecDepth 100000 in
theorem stuck_calls (cs cl : Int) {A2 A3 A4 A : Option Addr} {c2 c3 c4 c5 : Nat} {hs : List S139} {hung : List Int} {looks : List S140} {p : List Int} {w : World} (M : Mem w A2 A3 A4 c2 c3 c4 hs hung looks)
    (hrp : Kd.C (Kd.int .i64) w A p.length p) (hcp : p.length ≤ c5) (hn : hs.length ≤ 1000) :
    Calls Try.prog 25 #[.agg #[.int .i64 cs, .int .i64 cl, .slice A2 hs.length c2, .slice A3 hung.length c3, .slice A4 looks.length c4], .slice A p.length c5] w
      fun e w' => e = .returned (.tuple #[.int .i64 (stuckR cs cl hs hung looks p).1, .int .i64 (stuckR cs cl hs hung looks p).2]) ∧ Below w.heap.size w w' := by
  have HM := Aside0.mk M
  have HRP := Aside0.mk hrp
  have HCP := Aside0.mk hcp
  have HN := Aside0.mk hn
  obtain ⟨b, hb⟩ : ∃ b, fineB cs hs p = b := ⟨_, rfl⟩
  have HF := Aside0.mk hb
  clear M hrp hcp hn hb
  obtain ⟨W0, hW0⟩ : ∃ W0, w.alloc (.cells #[.int .i64 cs, .int .i64 cl, .slice A2 hs.length c2, .slice A3 hung.length c3, .slice A4 looks.length c4] 35) = W0 := ⟨_, rfl⟩
  have HB0 := Aside0.mk (show Below w.heap.size w W0 from by rw [← hW0]; exact below_alloc (Below.refl _ _) _)
  have HBK := Aside0.mk (show W0.heap[w.heap.size]? = some (.cells #[.int .i64 cs, .int .i64 cl, .slice A2 hs.length c2, .slice A3 hung.length c3, .slice A4 looks.length c4] 35 (0, 0)) from by rw [← hW0]; exact blk_new _ _)
  have b0 : W0.cell? ⟨w.heap.size, 0, none⟩ = some (.int .i64 cs) := (blk_cell HBK.out 0).trans rfl
  have b1 : W0.cell? ⟨w.heap.size, 1, none⟩ = some (.int .i64 cl) := (blk_cell HBK.out 1).trans rfl
  have b2 : W0.cell? ⟨w.heap.size, 2, none⟩ = some (.slice A2 hs.length c2) := (blk_cell HBK.out 2).trans rfl
  have b3 : W0.cell? ⟨w.heap.size, 3, none⟩ = some (.slice A3 hung.length c3) := (blk_cell HBK.out 3).trans rfl
  have b4 : W0.cell? ⟨w.heap.size, 4, none⟩ = some (.slice A4 looks.length c4) := (blk_cell HBK.out 4).trans rfl
  go_enter Try.func25, Try.ntmps25
  go_wp2_with fail
  try rw [hW0]
  clear hW0
  refine wp_region_held_drew (S := fun W' => Below W0.heap.size W0 W' ∧ W'.cell? ⟨w.heap.size, 0, none⟩ = some (.int .i64 cs) ∧ W'.cell? ⟨w.heap.size, 1, none⟩ = some (.int .i64 cl) ∧ W'.cell? ⟨w.heap.size, 2, none⟩ = some (.slice A2 hs.length c2) ∧ W'.cell? ⟨w.heap.size, 3, none⟩ = some (.slice A3 hung.length c3) ∧ W'.cell? ⟨w.heap.size, 4, none⟩ = some (.slice A4 looks.length c4)) (by kernel_rfl) ?hS (fun hHeld => ?_)
  case hS => exact ⟨below_drew (Below.refl _ _), b0, b1, b2, b3, b4⟩
  focus
    refine tkT 0 (some 11) (v := ?_) rfl rfl (.inl ⟨by rfl, ?_⟩) ?_
    rotate_left
    · (intro w hSw; (try dsimp only at hSw); go_simp; with_reducible rfl)
    try simp only [pS]
    refine tkT 1 (some 12) (v := ?_) rfl rfl (.inl ⟨by rfl, ?_⟩) ?_
    rotate_left
    · (intro w hSw; (try dsimp only at hSw); go_simp; with_reducible rfl)
    try simp only [pS]
    refine tkT 2 (some 13) (v := ?_) rfl rfl (.inl ⟨by rfl, ?_⟩) ?_
    rotate_left
    · (intro w hSw; (try dsimp only at hSw); go_simp; with_reducible rfl)
    try simp only [pS]
    refine wpAnyH_ready (rs := [3]) (by kernel_rfl) (by simp) ?_
    refine AllReadyH.cons (o := { dst := some 14, op := Op.call { callee := Callee.value (Operand.func 88), args := #[Operand.tmp 12, Operand.tmp 13], argTypes := #[35, 23] }, type := 4, pos := "ask.go:125", after := #[{ on := 1, ground := Ground.data }, { on := 2, ground := Ground.data }], guard := none }) rfl (fun K hK => ?_) ?_
    go_simp
    ((first | (go_at_call 88; refine (isPlace_all cs cl A2 A3 A4 A c2 c3 c4 c5 hs hung looks p _ (HM.out.later (below_step HB0.out hHeld.1)) (Kd.C_below HRP.out (below_step HB0.out hHeld.1)) HCP.out HN.out HF.out).mono ?_; rintro e wx ⟨rfl, hbx⟩; have HBX := Aside0.mk hbx; clear hbx) | (go_at_call 87; refine (asked_calls cs cl (HM.out.later (below_step HB0.out hHeld.1)) b).mono ?_; rintro e wy ⟨pt, c, rfl, hA⟩; have HBY := Aside0.mk hA.below; have HA := Aside0.mk hA; clear hA)))
    go_wp2_with fail
    refine hK.out _ _ ?_ ?_
    · ((try dsimp only); (first | go_keep | (go_split_ands; refine ⟨below_step (by assumption) (by first | exact HBY.out | exact HBX.out), ?_, ?_, ?_, ?_, ?_⟩ <;> first | exact later HBY.out (by assumption) | exact later HBX.out (by assumption))))
    try clear hHeld
    intro hHeld
    clear hK K
    try simp only [pS]
    refine wpAnyH_ready (rs := [4]) (by kernel_rfl) (by simp) ?_
    refine AllReadyH.cons (o := { dst := some 15, op := Op.call { callee := Callee.value (Operand.func 87), args := #[Operand.tmp 11, Operand.tmp 14], argTypes := #[35, 4] }, type := 133, pos := "ask.go:125", after := #[{ on := 0, ground := Ground.data }, { on := 3, ground := Ground.data }, { on := 3, ground := Ground.chain }], guard := none }) rfl (fun K hK => ?_) ?_
    go_simp
    ((first | (go_at_call 88; refine (isPlace_all cs cl A2 A3 A4 A c2 c3 c4 c5 hs hung looks p _ (HM.out.later (below_step HB0.out hHeld.1)) (Kd.C_below HRP.out (below_step HB0.out hHeld.1)) HCP.out HN.out HF.out).mono ?_; rintro e wx ⟨rfl, hbx⟩; have HBX := Aside0.mk hbx; clear hbx) | (go_at_call 87; refine (asked_calls cs cl (HM.out.later (below_step HB0.out hHeld.1)) b).mono ?_; rintro e wy ⟨pt, c, rfl, hA⟩; have HBY := Aside0.mk hA.below; have HA := Aside0.mk hA; clear hA)))
    go_wp2_with fail
    refine hK.out _ _ ?_ ?_
    · ((try dsimp only); (first | go_keep | (go_split_ands; refine ⟨below_step (by assumption) (by first | exact HBY.out | exact HBX.out), ?_, ?_, ?_, ?_, ?_⟩ <;> first | exact later HBY.out (by assumption) | exact later HBX.out (by assumption))))
    try clear hHeld
    intro hHeld
    clear hK K
    try simp only [pS]
    refine tkT 5 (some 10) (v := ?_) rfl rfl (.inl ⟨by rfl, ?_⟩) ?_
    rotate_left
    · (intro w hSw; (try dsimp only at hSw); go_simp; with_reducible rfl)
    try simp only [pS]
    refine tkT 6 (some 16) (v := ?_) rfl rfl (.inl ⟨by rfl, ?_⟩) ?_
    rotate_left
    · (intro w hSw; (try dsimp only at hSw); go_simp; with_reducible rfl)
    try simp only [pS]
    refine tkT 7 (some 17) (v := ?_) rfl rfl (.inl ⟨by rfl, ?_⟩) ?_
    rotate_left
    · (intro w hSw; (try dsimp only at hSw); go_simp; with_reducible rfl)
    try simp only [pS]
    refine tkT 8 (some 6) (v := ?_) rfl rfl (.inl ⟨by rfl, ?_⟩) ?_
    rotate_left
    · (intro w hSw; (try dsimp only at hSw); go_simp; with_reducible rfl)
    try simp only [pS]
    refine tkT 9 (some 7) (v := ?_) rfl rfl (.inl ⟨by rfl, ?_⟩) ?_
    rotate_left
    · (intro w hSw; (try dsimp only at hSw); go_simp; with_reducible rfl)
    try simp only [pS]
    refine wpAnyH_done (by kernel_rfl) ?_ _
    rotate_left
    exact AllReadyH.nil
    exact AllReadyH.nil
  have HL := Aside0.mk (below_step HB0.out hHeld.1)
  have k2 := hHeld.2.2.2.1
  have HX0 := Aside0.mk (show Below w.heap.size w wx from below_step HB0.out (below_step (below_drew (Below.refl _ _)) HBX.out))
  clear hHeld b0 b1 b2 b3 b4
  rcases HA.out with ⟨h0, hc, rfl, _⟩ | ⟨rfl, hc, hk, rfl, hts, g, m, AT, cT, rfl, hA⟩
  · have h1 : (c != 0) = true := by rw [bne_iff_ne]; exact h0
    have HR : Aside0 (stuckR cs cl hs hung looks p = (0, c)) := ⟨by unfold stuckR; rw [HF.out, ← hc, if_pos h0]⟩
    clear hc h0
    go_wp2_with fail
    go_ret2
    exact ⟨by rw [HR.out]; rfl, HL.out⟩
  · have HAS := Aside0.mk hA
    have HC := Aside0.mk hc
    have HK := Aside0.mk hk
    have HT := Aside0.mk hts
    have HV := Aside0.mk (valid_of hk)
    clear hA hc hk hts
    go_wp2_with fail
    refine (done_calls _ g (some m) cs cl A2 A3 A4 AT A c2 c3 c4 cT c5 hs hung looks (truthsT hs hung looks) p HV.out HAS.out.work (Kd.C_below HRP.out HL.out) (fine_place HV.out HF.out) HT.out (truths_small HV.out) (truths_len HK.out)).mono ?_
    rintro e wz ⟨rfl, hbz⟩
    have HZ := Aside0.mk (below_step HL.out hbz)
    have k2z := later hbz k2
    clear hbz k2
    by_cases hd : (doneR cl hs p (truthsT hs hung looks)).2 = hs.length
    · have HR : Aside0 (stuckR cs cl hs hung looks p = (0, 7)) := ⟨by unfold stuckR; rw [HF.out, HC.out, if_neg (by simp), if_pos hd]⟩
      rw [hd]
      clear hd
      go_wp2_with fail
      go_ret2
      exact ⟨by rw [HR.out]; rfl, HZ.out⟩
    · have HR : Aside0 (stuckR cs cl hs hung looks p = ((doneR cl hs p (truthsT hs hung looks)).2, 0)) := ⟨by unfold stuckR; rw [HF.out, HC.out, if_neg (by simp), if_neg hd]⟩
      have hd1 : ((doneR cl hs p (truthsT hs hung looks)).2 == (hs.length : Int)) = false := beq_eq_false_iff_ne.2 hd
      clear hd
      go_wp2_with fail
      go_ret2
      exact ⟨by rw [HR.out]; rfl, HZ.out⟩
end Go.Proofs.Ytokhmghgghjmhaa.Q
namespace Go.Proofs.Ytokhmghgghjmhaa.Q
open Go.RowKit Go.Proofs.YtokhmghgghjmhaaW.PrintWords Go.Proofs.YtokhmghgghjmhaaW.PrintLast Go.Proofs.YtokhmghgghjmhaaW.PrintMore
set_option linter.unusedVariables false
set_option linter.unusedSimpArgs false
/-- What ProvePlace says. -/
def provePR (cs cl : Int) (hs : List S139) (hung : List Int) (looks : List S140) (p : List Int) (t : Int) : Bool :=
  if askCode cs cl hs hung looks (fineB cs hs p) ≠ 0 then false
  else (doneR cl hs p (truthsT hs hung looks)).2 == (hs.length : Int) && decide ((doneR cl hs p (truthsT hs hung looks)).1 ≤ t)
set_option maxHeartbeats 4000000 in
set_option maxRecDepth 100000 in
theorem provePlace_calls (cs cl : Int) {A2 A3 A4 A : Option Addr} {c2 c3 c4 c5 : Nat} {hs : List S139} {hung : List Int} {looks : List S140} {p : List Int} (t : Int) {w : World} (M : Mem w A2 A3 A4 c2 c3 c4 hs hung looks)
    (hrp : Kd.C (Kd.int .i64) w A p.length p) (hcp : p.length ≤ c5) (hn : hs.length ≤ 1000) :
    Calls Try.prog 66 #[.agg #[.int .i64 cs, .int .i64 cl, .slice A2 hs.length c2, .slice A3 hung.length c3, .slice A4 looks.length c4], .slice A p.length c5, .int .i64 t] w
      fun e w' => e = .returned (.bool (provePR cs cl hs hung looks p t)) ∧ Below w.heap.size w w' := by
  have HM := Aside0.mk M
  have HRP := Aside0.mk hrp
  have HCP := Aside0.mk hcp
  have HN := Aside0.mk hn
  obtain ⟨b, hb⟩ : ∃ b, fineB cs hs p = b := ⟨_, rfl⟩
  have HF := Aside0.mk hb
  clear M hrp hcp hn hb
  obtain ⟨W0, hW0⟩ : ∃ W0, w.alloc (.cells #[.int .i64 cs, .int .i64 cl, .slice A2 hs.length c2, .slice A3 hung.length c3, .slice A4 looks.length c4] 35) = W0 := ⟨_, rfl⟩
  have HB0 := Aside0.mk (show Below w.heap.size w W0 from by rw [← hW0]; exact below_alloc (Below.refl _ _) _)
  have HBK := Aside0.mk (show W0.heap[w.heap.size]? = some (.cells #[.int .i64 cs, .int .i64 cl, .slice A2 hs.length c2, .slice A3 hung.length c3, .slice A4 looks.length c4] 35 (0, 0)) from by rw [← hW0]; exact blk_new _ _)
  have b0 : W0.cell? ⟨w.heap.size, 0, none⟩ = some (.int .i64 cs) := (blk_cell HBK.out 0).trans rfl
  have b1 : W0.cell? ⟨w.heap.size, 1, none⟩ = some (.int .i64 cl) := (blk_cell HBK.out 1).trans rfl
  have b2 : W0.cell? ⟨w.heap.size, 2, none⟩ = some (.slice A2 hs.length c2) := (blk_cell HBK.out 2).trans rfl
  have b3 : W0.cell? ⟨w.heap.size, 3, none⟩ = some (.slice A3 hung.length c3) := (blk_cell HBK.out 3).trans rfl
  have b4 : W0.cell? ⟨w.heap.size, 4, none⟩ = some (.slice A4 looks.length c4) := (blk_cell HBK.out 4).trans rfl
  go_enter Try.func66, Try.ntmps66
  go_wp2_with fail
  try rw [hW0]
  clear hW0
  refine wp_region_held_drew (S := fun W' => Below W0.heap.size W0 W' ∧ W'.cell? ⟨w.heap.size, 0, none⟩ = some (.int .i64 cs) ∧ W'.cell? ⟨w.heap.size, 1, none⟩ = some (.int .i64 cl) ∧ W'.cell? ⟨w.heap.size, 2, none⟩ = some (.slice A2 hs.length c2) ∧ W'.cell? ⟨w.heap.size, 3, none⟩ = some (.slice A3 hung.length c3) ∧ W'.cell? ⟨w.heap.size, 4, none⟩ = some (.slice A4 looks.length c4)) (by kernel_rfl) ?hS (fun hHeld => ?_)
  case hS => exact ⟨below_drew (Below.refl _ _), b0, b1, b2, b3, b4⟩
  focus
    refine tkT 0 (some 12) (v := ?_) rfl rfl (.inl ⟨by rfl, ?_⟩) ?_
    rotate_left
    · (intro w hSw; (try dsimp only at hSw); go_simp; with_reducible rfl)
    try simp only [pS]
    refine tkT 1 (some 13) (v := ?_) rfl rfl (.inl ⟨by rfl, ?_⟩) ?_
    rotate_left
    · (intro w hSw; (try dsimp only at hSw); go_simp; with_reducible rfl)
    try simp only [pS]
    refine tkT 2 (some 14) (v := ?_) rfl rfl (.inl ⟨by rfl, ?_⟩) ?_
    rotate_left
    · (intro w hSw; (try dsimp only at hSw); go_simp; with_reducible rfl)
    try simp only [pS]
    refine wpAnyH_ready (rs := [3]) (by kernel_rfl) (by simp) ?_
    refine AllReadyH.cons (o := { dst := some 15, op := Op.call { callee := Callee.value (Operand.func 88), args := #[Operand.tmp 13, Operand.tmp 14], argTypes := #[35, 23] }, type := 4, pos := "ask.go:172", after := #[{ on := 1, ground := Ground.data }, { on := 2, ground := Ground.data }], guard := none }) rfl (fun K hK => ?_) ?_
    go_simp
    ((first | (go_at_call 88; refine (isPlace_all cs cl A2 A3 A4 A c2 c3 c4 c5 hs hung looks p _ (HM.out.later (below_step HB0.out hHeld.1)) (Kd.C_below HRP.out (below_step HB0.out hHeld.1)) HCP.out HN.out HF.out).mono ?_; rintro e wx ⟨rfl, hbx⟩; have HBX := Aside0.mk hbx; clear hbx) | (go_at_call 87; refine (asked_calls cs cl (HM.out.later (below_step HB0.out hHeld.1)) b).mono ?_; rintro e wy ⟨pt, c, rfl, hA⟩; have HBY := Aside0.mk hA.below; have HA := Aside0.mk hA; clear hA)))
    go_wp2_with fail
    refine hK.out _ _ ?_ ?_
    · ((try dsimp only); (first | go_keep | (go_split_ands; refine ⟨below_step (by assumption) (by first | exact HBY.out | exact HBX.out), ?_, ?_, ?_, ?_, ?_⟩ <;> first | exact later HBY.out (by assumption) | exact later HBX.out (by assumption))))
    try clear hHeld
    intro hHeld
    clear hK K
    try simp only [pS]
    refine wpAnyH_ready (rs := [4]) (by kernel_rfl) (by simp) ?_
    refine AllReadyH.cons (o := { dst := some 16, op := Op.call { callee := Callee.value (Operand.func 87), args := #[Operand.tmp 12, Operand.tmp 15], argTypes := #[35, 4] }, type := 133, pos := "ask.go:172", after := #[{ on := 0, ground := Ground.data }, { on := 3, ground := Ground.data }, { on := 3, ground := Ground.chain }], guard := none }) rfl (fun K hK => ?_) ?_
    go_simp
    ((first | (go_at_call 88; refine (isPlace_all cs cl A2 A3 A4 A c2 c3 c4 c5 hs hung looks p _ (HM.out.later (below_step HB0.out hHeld.1)) (Kd.C_below HRP.out (below_step HB0.out hHeld.1)) HCP.out HN.out HF.out).mono ?_; rintro e wx ⟨rfl, hbx⟩; have HBX := Aside0.mk hbx; clear hbx) | (go_at_call 87; refine (asked_calls cs cl (HM.out.later (below_step HB0.out hHeld.1)) b).mono ?_; rintro e wy ⟨pt, c, rfl, hA⟩; have HBY := Aside0.mk hA.below; have HA := Aside0.mk hA; clear hA)))
    go_wp2_with fail
    refine hK.out _ _ ?_ ?_
    · ((try dsimp only); (first | go_keep | (go_split_ands; refine ⟨below_step (by assumption) (by first | exact HBY.out | exact HBX.out), ?_, ?_, ?_, ?_, ?_⟩ <;> first | exact later HBY.out (by assumption) | exact later HBX.out (by assumption))))
    try clear hHeld
    intro hHeld
    clear hK K
    try simp only [pS]
    refine tkT 5 (some 11) (v := ?_) rfl rfl (.inl ⟨by rfl, ?_⟩) ?_
    rotate_left
    · (intro w hSw; (try dsimp only at hSw); go_simp; with_reducible rfl)
    try simp only [pS]
    refine tkT 6 (some 17) (v := ?_) rfl rfl (.inl ⟨by rfl, ?_⟩) ?_
    rotate_left
    · (intro w hSw; (try dsimp only at hSw); go_simp; with_reducible rfl)
    try simp only [pS]
    refine tkT 7 (some 18) (v := ?_) rfl rfl (.inl ⟨by rfl, ?_⟩) ?_
    rotate_left
    · (intro w hSw; (try dsimp only at hSw); go_simp; with_reducible rfl)
    try simp only [pS]
    refine tkT 8 (some 7) (v := ?_) rfl rfl (.inl ⟨by rfl, ?_⟩) ?_
    rotate_left
    · (intro w hSw; (try dsimp only at hSw); go_simp; with_reducible rfl)
    try simp only [pS]
    refine tkT 9 (some 8) (v := ?_) rfl rfl (.inl ⟨by rfl, ?_⟩) ?_
    rotate_left
    · (intro w hSw; (try dsimp only at hSw); go_simp; with_reducible rfl)
    try simp only [pS]
    refine wpAnyH_done (by kernel_rfl) ?_ _
    rotate_left
    exact AllReadyH.nil
    exact AllReadyH.nil
  have HL := Aside0.mk (below_step HB0.out hHeld.1)
  have k2 := hHeld.2.2.2.1
  have HX0 := Aside0.mk (show Below w.heap.size w wx from below_step HB0.out (below_step (below_drew (Below.refl _ _)) HBX.out))
  clear hHeld b0 b1 b2 b3 b4
  rcases HA.out with ⟨h0, hc, rfl, _⟩ | ⟨rfl, hc, hk, rfl, hts, g, m, AT, cT, rfl, hA⟩
  · have h1 : (c != 0) = true := by rw [bne_iff_ne]; exact h0
    have HR : Aside0 (provePR cs cl hs hung looks p t = false) := ⟨by unfold provePR; rw [HF.out, ← hc, if_pos h0]⟩
    clear hc h0
    go_wp2_with fail
    go_ret
    exact ⟨by rw [HR.out]; rfl, HL.out⟩
  · have HAS := Aside0.mk hA
    have HC := Aside0.mk hc
    have HK := Aside0.mk hk
    have HT := Aside0.mk hts
    have HV := Aside0.mk (valid_of hk)
    clear hA hc hk hts
    go_wp2_with fail
    refine (done_calls _ g (some m) cs cl A2 A3 A4 AT A c2 c3 c4 cT c5 hs hung looks (truthsT hs hung looks) p HV.out HAS.out.work (Kd.C_below HRP.out HL.out) (fine_place HV.out HF.out) HT.out (truths_small HV.out) (truths_len HK.out)).mono ?_
    rintro e wz ⟨rfl, hbz⟩
    have HZ := Aside0.mk (below_step HL.out hbz)
    have k2z := later hbz k2
    clear hbz k2
    have HR : Aside0 (provePR cs cl hs hung looks p t = ((doneR cl hs p (truthsT hs hung looks)).2 == (hs.length : Int) && decide ((doneR cl hs p (truthsT hs hung looks)).1 ≤ t))) := ⟨by unfold provePR; rw [HF.out, HC.out, if_neg (by simp)]⟩
    obtain ⟨D, hD⟩ : ∃ D, doneR cl hs p (truthsT hs hung looks) = D := ⟨_, rfl⟩
    rw [hD] at HR ⊢
    clear hD
    cases hd : D.2 == (hs.length : Int) with
    | true =>
      rw [hd] at HR
      go_wp2_with fail
      go_ret
      exact ⟨by rw [HR.out]; rfl, HZ.out⟩
    | false =>
      rw [hd] at HR
      go_wp2_with fail
      go_ret
      exact ⟨by rw [HR.out]; rfl, HZ.out⟩
end Go.Proofs.Ytokhmghgghjmhaa.Q
namespace Go.Proofs.Ytokhmghgghjmhaa.Q
open Go.RowKit Go.Proofs.YtokhmghgghjmhaaW.PrintWords Go.Proofs.YtokhmghgghjmhaaW.PrintLast Go.Proofs.YtokhmghgghjmhaaW.PrintMore
set_option linter.unusedVariables false
set_option linter.unusedSimpArgs false
/-- Is there a horse of this number? -/
def horseB (n : Nat) (h : Int) : Bool := decide (0 ≤ h ∧ h ≤ wrap64 ((n : Int) - 1))
theorem horse_f (cs cl : Int) (hs : List S139) (hung : List Int) (looks : List S140) (h : Int) : closet_Closet_horse.f cs cl hs hung looks h = some (horseB hs.length h) := by
  unfold closet_Closet_horse.f; rw [within_f]; rfl
theorem horse_nat {n : Nat} {h : Int} (hb : horseB n h = true) (hn : n ≤ 1000) : ∃ k : Nat, h = k ∧ k < n := by
  have h1 := of_decide_eq_true hb
  rw [wrap_dec (by omega) (by omega)] at h1
  exact ⟨h.toNat, by omega, by omega⟩
/-- What Good says. -/
def goodR (cs cl : Int) (hs : List S139) (hung : List Int) (looks : List S140) (p : List Int) (h : Int) : Int × Int × Int :=
  if askCode cs cl hs hung looks (fineB cs hs p && horseB hs.length h) ≠ 0 then (0, 0, askCode cs cl hs hung looks (fineB cs hs p && horseB hs.length h))
  else if goodLo hs p (truthsT hs hung looks) h.toNat > goodHi cl hs p (truthsT hs hung looks) h.toNat then (0, 0, 10) else (goodLo hs p (truthsT hs hung looks) h.toNat, goodHi cl hs p (truthsT hs hung looks) h.toNat, 0)
set_option maxHeartbeats 4000000 in
set_option maxRecDepth 100000 in
theorem goodX_calls (cs cl : Int) {A2 A3 A4 A : Option Addr} {c2 c3 c4 c5 : Nat} {hs : List S139} {hung : List Int} {looks : List S140} {p : List Int} (h : Int) {w : World} (M : Mem w A2 A3 A4 c2 c3 c4 hs hung looks)
    (hrp : Kd.C (Kd.int .i64) w A p.length p) (hcp : p.length ≤ c5) (hn : hs.length ≤ 1000) :
    Calls Try.prog 54 #[.agg #[.int .i64 cs, .int .i64 cl, .slice A2 hs.length c2, .slice A3 hung.length c3, .slice A4 looks.length c4], .slice A p.length c5, .int .i64 h] w
      fun e w' => e = .returned (.tuple #[.agg #[.int .i64 (goodR cs cl hs hung looks p h).1, .int .i64 (goodR cs cl hs hung looks p h).2.1], .int .i64 (goodR cs cl hs hung looks p h).2.2]) ∧ Below w.heap.size w w' := by
  have HM := Aside0.mk M
  have HRP := Aside0.mk hrp
  have HCP := Aside0.mk hcp
  have HN := Aside0.mk hn
  have HH := Aside0.mk (horse_f cs cl hs hung looks h)
  clear M hrp hcp hn
  obtain ⟨W0, hW0⟩ : ∃ W0, (w.alloc (.cells #[.int .i64 cs, .int .i64 cl, .slice A2 hs.length c2, .slice A3 hung.length c3, .slice A4 looks.length c4] 35)).alloc (.cells #[.int .i64 0, .int .i64 0] 61) = W0 := ⟨_, rfl⟩
  have HB0 := Aside0.mk (show Below w.heap.size w W0 from by rw [← hW0]; repeat (first | exact Below.refl _ _ | apply below_alloc))
  have HBK := Aside0.mk (show W0.heap[w.heap.size]? = some (.cells #[.int .i64 cs, .int .i64 cl, .slice A2 hs.length c2, .slice A3 hung.length c3, .slice A4 looks.length c4] 35 (0, 0)) from by rw [← hW0]; repeat (first | (refine blk_new_ ?_; simp; done) | refine blk_alloc ?_ _))
  have b0 : W0.cell? ⟨w.heap.size, 0, none⟩ = some (.int .i64 cs) := (blk_cell HBK.out 0).trans rfl
  have b1 : W0.cell? ⟨w.heap.size, 1, none⟩ = some (.int .i64 cl) := (blk_cell HBK.out 1).trans rfl
  have b2 : W0.cell? ⟨w.heap.size, 2, none⟩ = some (.slice A2 hs.length c2) := (blk_cell HBK.out 2).trans rfl
  have b3 : W0.cell? ⟨w.heap.size, 3, none⟩ = some (.slice A3 hung.length c3) := (blk_cell HBK.out 3).trans rfl
  have b4 : W0.cell? ⟨w.heap.size, 4, none⟩ = some (.slice A4 looks.length c4) := (blk_cell HBK.out 4).trans rfl
  have HRB := Aside0.mk (show W0.heap[w.heap.size + 1]? = some (.cells #[.int .i64 0, .int .i64 0] 61 (0, 0)) from by rw [← hW0]; refine blk_new_ ?_; simp)
  obtain ⟨b, hb⟩ : ∃ b, fineB cs hs p = b := ⟨_, rfl⟩
  have HF := Aside0.mk hb
  obtain ⟨hq, hhq⟩ : ∃ hq, horseB hs.length h = hq := ⟨_, rfl⟩
  have HHQ := Aside0.mk hhq
  rw [hhq] at HH
  clear hb hhq
  have fin : ∀ (wy : World) (pt : Value) (c : Int) (wx : World), True := fun _ _ _ _ => trivial
  clear fin
  go_enter Try.func54, Try.ntmps54
  go_wp2_with fail
  try rw [hW0]
  clear hW0
  cases b with
  | false =>
    refine wp_region_held_drew (S := fun W' => Below W0.heap.size W0 W' ∧ W'.cell? ⟨w.heap.size, 0, none⟩ = some (.int .i64 cs) ∧ W'.cell? ⟨w.heap.size, 1, none⟩ = some (.int .i64 cl) ∧ W'.cell? ⟨w.heap.size, 2, none⟩ = some (.slice A2 hs.length c2) ∧ W'.cell? ⟨w.heap.size, 3, none⟩ = some (.slice A3 hung.length c3) ∧ W'.cell? ⟨w.heap.size, 4, none⟩ = some (.slice A4 looks.length c4)) (by kernel_rfl) ?hS (fun hHeld => ?_)
    case hS => exact ⟨below_drew (Below.refl _ _), b0, b1, b2, b3, b4⟩
    focus
      refine tkT 0 (some 12) (v := ?_) rfl rfl (.inl ⟨by rfl, ?_⟩) ?_
      rotate_left
      · (intro w hSw; (try dsimp only at hSw); go_simp; with_reducible rfl)
      try simp only [pS]
      refine tkT 1 (some 13) (v := ?_) rfl rfl (.inl ⟨by rfl, ?_⟩) ?_
      rotate_left
      · (intro w hSw; (try dsimp only at hSw); go_simp; with_reducible rfl)
      try simp only [pS]
      refine tkT 2 (some 14) (v := ?_) rfl rfl (.inl ⟨by rfl, ?_⟩) ?_
      rotate_left
      · (intro w hSw; (try dsimp only at hSw); go_simp; with_reducible rfl)
      try simp only [pS]
      refine wpAnyH_ready (rs := [3]) (by kernel_rfl) (by simp) ?_
      refine AllReadyH.cons (o := { dst := some 15, op := Op.call { callee := Callee.value (Operand.func 88), args := #[Operand.tmp 13, Operand.tmp 14], argTypes := #[35, 23] }, type := 4, pos := "ask.go:100", after := #[{ on := 1, ground := Ground.data }, { on := 2, ground := Ground.data }], guard := none }) rfl (fun K hK => ?_) ?_
      go_simp
      ((first | (go_at_call 88; refine (isPlace_all cs cl A2 A3 A4 A c2 c3 c4 c5 hs hung looks p _ (HM.out.later (below_step HB0.out hHeld.1)) (Kd.C_below HRP.out (below_step HB0.out hHeld.1)) HCP.out HN.out HF.out).mono ?_; rintro e wx ⟨rfl, hbx⟩; have HBX := Aside0.mk hbx; clear hbx) | (go_at_call 87; refine (asked_calls cs cl (HM.out.later (below_step HB0.out hHeld.1)) false).mono ?_; rintro e wy ⟨pt, c, rfl, hA⟩; have HBY := Aside0.mk hA.below; have HA := Aside0.mk hA; clear hA)))
      go_wp2_with fail
      refine hK.out _ _ ?_ ?_
      · ((try dsimp only); (first | go_keep | (go_split_ands; refine ⟨below_step (by assumption) (by first | exact HBY.out | exact HBX.out), ?_, ?_, ?_, ?_, ?_⟩ <;> first | exact later HBY.out (by assumption) | exact later HBX.out (by assumption))))
      try clear hHeld
      intro hHeld
      clear hK K
      try simp only [pS]
      refine tkT 4 (some 16) (v := ?_) rfl rfl (.inl ⟨by rfl, ?_⟩) ?_
      rotate_left
      · (intro w hSw; (try dsimp only at hSw); go_simp; with_reducible rfl)
      try simp only [pS]
      refine tkT 5 (some 17) (v := undef) rfl rfl (.inr ⟨by rfl, rfl⟩) ?_
      try simp only [pS]
      refine tkT 6 (some 18) (v := undef) rfl rfl (.inr ⟨by rfl, rfl⟩) ?_
      try simp only [pS]
      refine tkT 7 (some 19) (v := undef) rfl rfl (.inr ⟨by rfl, rfl⟩) ?_
      try simp only [pS]
      refine tkT 8 (some 20) (v := ?_) rfl rfl (.inl ⟨by rfl, ?_⟩) ?_
      rotate_left
      · (intro w hSw; (try dsimp only at hSw); go_simp; with_reducible rfl)
      try simp only [pS]
      refine wpAnyH_ready (rs := [9]) (by kernel_rfl) (by simp) ?_
      refine AllReadyH.cons (o := { dst := some 21, op := Op.call { callee := Callee.value (Operand.func 87), args := #[Operand.tmp 12, Operand.tmp 20], argTypes := #[35, 4] }, type := 133, pos := "ask.go:100", after := #[{ on := 0, ground := Ground.data }, { on := 8, ground := Ground.data }, { on := 7, ground := Ground.chain }], guard := none }) rfl (fun K hK => ?_) ?_
      go_simp
      ((first | (go_at_call 88; refine (isPlace_all cs cl A2 A3 A4 A c2 c3 c4 c5 hs hung looks p _ (HM.out.later (below_step HB0.out hHeld.1)) (Kd.C_below HRP.out (below_step HB0.out hHeld.1)) HCP.out HN.out HF.out).mono ?_; rintro e wx ⟨rfl, hbx⟩; have HBX := Aside0.mk hbx; clear hbx) | (go_at_call 87; refine (asked_calls cs cl (HM.out.later (below_step HB0.out hHeld.1)) false).mono ?_; rintro e wy ⟨pt, c, rfl, hA⟩; have HBY := Aside0.mk hA.below; have HA := Aside0.mk hA; clear hA)))
      go_wp2_with fail
      refine hK.out _ _ ?_ ?_
      · ((try dsimp only); (first | go_keep | (go_split_ands; refine ⟨below_step (by assumption) (by first | exact HBY.out | exact HBX.out), ?_, ?_, ?_, ?_, ?_⟩ <;> first | exact later HBY.out (by assumption) | exact later HBX.out (by assumption))))
      try clear hHeld
      intro hHeld
      clear hK K
      try simp only [pS]
      refine tkT 10 (some 11) (v := ?_) rfl rfl (.inl ⟨by rfl, ?_⟩) ?_
      rotate_left
      · (intro w hSw; (try dsimp only at hSw); go_simp; with_reducible rfl)
      try simp only [pS]
      refine tkT 11 (some 22) (v := ?_) rfl rfl (.inl ⟨by rfl, ?_⟩) ?_
      rotate_left
      · (intro w hSw; (try dsimp only at hSw); go_simp; with_reducible rfl)
      try simp only [pS]
      refine tkT 12 (some 23) (v := ?_) rfl rfl (.inl ⟨by rfl, ?_⟩) ?_
      rotate_left
      · (intro w hSw; (try dsimp only at hSw); go_simp; with_reducible rfl)
      try simp only [pS]
      refine tkT 13 (some 8) (v := ?_) rfl rfl (.inl ⟨by rfl, ?_⟩) ?_
      rotate_left
      · (intro w hSw; (try dsimp only at hSw); go_simp; with_reducible rfl)
      try simp only [pS]
      refine tkT 14 (some 9) (v := ?_) rfl rfl (.inl ⟨by rfl, ?_⟩) ?_
      rotate_left
      · (intro w hSw; (try dsimp only at hSw); go_simp; with_reducible rfl)
      try simp only [pS]
      refine wpAnyH_done (by kernel_rfl) ?_ _
      rotate_left
      exact AllReadyH.nil
      exact AllReadyH.nil
    have HL := Aside0.mk (below_step (Below.refl _ _) hHeld.1)
    clear hHeld b0 b1 b2 b3 b4
    rcases HA.out with ⟨h0, hc, rfl, _⟩ | ⟨_, _, _, hbt, _⟩
    · have h1 : (c != 0) = true := by rw [bne_iff_ne]; exact h0
      have HR : Aside0 (goodR cs cl hs hung looks p h = (0, 0, c)) := ⟨by unfold goodR; rw [HF.out, Bool.false_and, ← hc, if_pos h0]⟩
      have HRB2 := Aside0.mk (blk_below HRB.out HL.out)
      have rz := blk_lt HRB2.out
      have r0 : wy.cell? ⟨w.heap.size + 1, 0, none⟩ = some (.int .i64 0) := (blk_cell HRB2.out 0).trans rfl
      have r1 : wy.cell? ⟨w.heap.size + 1, 1, none⟩ = some (.int .i64 0) := (blk_cell HRB2.out 1).trans rfl
      have rf0 := blk_frozen HRB2.out 0
      have rf1 := blk_frozen HRB2.out 1
      clear hc h0
      go_wp2_with fail
      refine bodyPost_ret (results_list (rs := [.cell 6 61, .tmp 7]) rfl (by simp) (.cell (w.heap.size + 1) 61 #[.int .i64 0, .int .i64 0] (0, 0) _ rfl (blk_put (blk_put HRB2.out 0 _ rfl) 1 _ rfl) Try.underlying61 rfl (by kernel_rfl) (.tmp .nil))) rfl ⟨by rw [HR.out]; rfl, ((below_step HB0.out HL.out).setCell (by simp) _).setCell (by simp) _⟩
    · cases hbt
  | true =>
    refine wp_region_held_drew (S := fun W' => Below W0.heap.size W0 W' ∧ W'.cell? ⟨w.heap.size, 0, none⟩ = some (.int .i64 cs) ∧ W'.cell? ⟨w.heap.size, 1, none⟩ = some (.int .i64 cl) ∧ W'.cell? ⟨w.heap.size, 2, none⟩ = some (.slice A2 hs.length c2) ∧ W'.cell? ⟨w.heap.size, 3, none⟩ = some (.slice A3 hung.length c3) ∧ W'.cell? ⟨w.heap.size, 4, none⟩ = some (.slice A4 looks.length c4)) (by kernel_rfl) ?hS (fun hHeld => ?_)
    case hS => exact ⟨below_drew (Below.refl _ _), b0, b1, b2, b3, b4⟩
    focus
      refine tkT 0 (some 12) (v := ?_) rfl rfl (.inl ⟨by rfl, ?_⟩) ?_
      rotate_left
      · (intro w hSw; (try dsimp only at hSw); go_simp; with_reducible rfl)
      try simp only [pS]
      refine tkT 1 (some 13) (v := ?_) rfl rfl (.inl ⟨by rfl, ?_⟩) ?_
      rotate_left
      · (intro w hSw; (try dsimp only at hSw); go_simp; with_reducible rfl)
      try simp only [pS]
      refine tkT 2 (some 14) (v := ?_) rfl rfl (.inl ⟨by rfl, ?_⟩) ?_
      rotate_left
      · (intro w hSw; (try dsimp only at hSw); go_simp; with_reducible rfl)
      try simp only [pS]
      refine wpAnyH_ready (rs := [3]) (by kernel_rfl) (by simp) ?_
      refine AllReadyH.cons (o := { dst := some 15, op := Op.call { callee := Callee.value (Operand.func 88), args := #[Operand.tmp 13, Operand.tmp 14], argTypes := #[35, 23] }, type := 4, pos := "ask.go:100", after := #[{ on := 1, ground := Ground.data }, { on := 2, ground := Ground.data }], guard := none }) rfl (fun K hK => ?_) ?_
      go_simp
      ((first | (go_at_call 88; refine (isPlace_all cs cl A2 A3 A4 A c2 c3 c4 c5 hs hung looks p _ (HM.out.later (below_step HB0.out hHeld.1)) (Kd.C_below HRP.out (below_step HB0.out hHeld.1)) HCP.out HN.out HF.out).mono ?_; rintro e wx ⟨rfl, hbx⟩; have HBX := Aside0.mk hbx; clear hbx) | (go_at_call 101; refine (closet_Closet_horse.calls cs cl A2 c2 hs A3 c3 hung A4 c4 looks h _ _ (Kd.C_below HM.out.h2 (below_step HB0.out hHeld.1)) HM.out.l2 (Kd.C_below HM.out.h3 (below_step HB0.out hHeld.1)) HM.out.l3 (Kd.C_below HM.out.h4 (below_step HB0.out hHeld.1)) HM.out.l4 HH.out).mono ?_; rintro e wq ⟨rfl, hbq⟩; have HBQ := Aside0.mk hbq; clear hbq) | (go_at_call 87; refine (asked_calls cs cl (HM.out.later (below_step HB0.out hHeld.1)) hq).mono ?_; rintro e wy ⟨pt, c, rfl, hA⟩; have HBY := Aside0.mk hA.below; have HA := Aside0.mk hA; clear hA)))
      go_wp2_with fail
      refine hK.out _ _ ?_ ?_
      · ((try dsimp only); (first | go_keep | (go_split_ands; refine ⟨below_step (by assumption) (by first | exact HBY.out | exact HBQ.out | exact HBX.out), ?_, ?_, ?_, ?_, ?_⟩ <;> first | exact later HBY.out (by assumption) | exact later HBQ.out (by assumption) | exact later HBX.out (by assumption))))
      try clear hHeld
      intro hHeld
      clear hK K
      try simp only [pS]
      refine tkT 4 (some 16) (v := ?_) rfl rfl (.inl ⟨by rfl, ?_⟩) ?_
      rotate_left
      · (intro w hSw; (try dsimp only at hSw); go_simp; with_reducible rfl)
      try simp only [pS]
      refine tkT 5 (some 17) (v := ?_) rfl rfl (.inl ⟨by rfl, ?_⟩) ?_
      rotate_left
      · (intro w hSw; (try dsimp only at hSw); go_simp; with_reducible rfl)
      try simp only [pS]
      refine tkT 6 (some 18) (v := ?_) rfl rfl (.inl ⟨by rfl, ?_⟩) ?_
      rotate_left
      · (intro w hSw; (try dsimp only at hSw); go_simp; with_reducible rfl)
      try simp only [pS]
      refine wpAnyH_ready (rs := [7]) (by kernel_rfl) (by simp) ?_
      refine AllReadyH.cons (o := { dst := some 19, op := Op.call { callee := Callee.value (Operand.func 101), args := #[Operand.tmp 17, Operand.tmp 18], argTypes := #[35, 3] }, type := 4, pos := "ask.go:100", after := #[{ on := 5, ground := Ground.data }, { on := 6, ground := Ground.data }, { on := 4, ground := Ground.chain }, { on := 4, ground := Ground.guard }], guard := some (4, true) }) rfl (fun K hK => ?_) ?_
      go_simp
      ((first | (go_at_call 88; refine (isPlace_all cs cl A2 A3 A4 A c2 c3 c4 c5 hs hung looks p _ (HM.out.later (below_step HB0.out hHeld.1)) (Kd.C_below HRP.out (below_step HB0.out hHeld.1)) HCP.out HN.out HF.out).mono ?_; rintro e wx ⟨rfl, hbx⟩; have HBX := Aside0.mk hbx; clear hbx) | (go_at_call 101; refine (closet_Closet_horse.calls cs cl A2 c2 hs A3 c3 hung A4 c4 looks h _ _ (Kd.C_below HM.out.h2 (below_step HB0.out hHeld.1)) HM.out.l2 (Kd.C_below HM.out.h3 (below_step HB0.out hHeld.1)) HM.out.l3 (Kd.C_below HM.out.h4 (below_step HB0.out hHeld.1)) HM.out.l4 HH.out).mono ?_; rintro e wq ⟨rfl, hbq⟩; have HBQ := Aside0.mk hbq; clear hbq) | (go_at_call 87; refine (asked_calls cs cl (HM.out.later (below_step HB0.out hHeld.1)) hq).mono ?_; rintro e wy ⟨pt, c, rfl, hA⟩; have HBY := Aside0.mk hA.below; have HA := Aside0.mk hA; clear hA)))
      go_wp2_with fail
      refine hK.out _ _ ?_ ?_
      · ((try dsimp only); (first | go_keep | (go_split_ands; refine ⟨below_step (by assumption) (by first | exact HBY.out | exact HBQ.out | exact HBX.out), ?_, ?_, ?_, ?_, ?_⟩ <;> first | exact later HBY.out (by assumption) | exact later HBQ.out (by assumption) | exact later HBX.out (by assumption))))
      try clear hHeld
      intro hHeld
      clear hK K
      try simp only [pS]
      refine tkT 8 (some 20) (v := ?_) rfl rfl (.inl ⟨by rfl, ?_⟩) ?_
      rotate_left
      · (intro w hSw; (try dsimp only at hSw); go_simp; with_reducible rfl)
      try simp only [pS]
      refine wpAnyH_ready (rs := [9]) (by kernel_rfl) (by simp) ?_
      refine AllReadyH.cons (o := { dst := some 21, op := Op.call { callee := Callee.value (Operand.func 87), args := #[Operand.tmp 12, Operand.tmp 20], argTypes := #[35, 4] }, type := 133, pos := "ask.go:100", after := #[{ on := 0, ground := Ground.data }, { on := 8, ground := Ground.data }, { on := 7, ground := Ground.chain }], guard := none }) rfl (fun K hK => ?_) ?_
      go_simp
      ((first | (go_at_call 88; refine (isPlace_all cs cl A2 A3 A4 A c2 c3 c4 c5 hs hung looks p _ (HM.out.later (below_step HB0.out hHeld.1)) (Kd.C_below HRP.out (below_step HB0.out hHeld.1)) HCP.out HN.out HF.out).mono ?_; rintro e wx ⟨rfl, hbx⟩; have HBX := Aside0.mk hbx; clear hbx) | (go_at_call 101; refine (closet_Closet_horse.calls cs cl A2 c2 hs A3 c3 hung A4 c4 looks h _ _ (Kd.C_below HM.out.h2 (below_step HB0.out hHeld.1)) HM.out.l2 (Kd.C_below HM.out.h3 (below_step HB0.out hHeld.1)) HM.out.l3 (Kd.C_below HM.out.h4 (below_step HB0.out hHeld.1)) HM.out.l4 HH.out).mono ?_; rintro e wq ⟨rfl, hbq⟩; have HBQ := Aside0.mk hbq; clear hbq) | (go_at_call 87; refine (asked_calls cs cl (HM.out.later (below_step HB0.out hHeld.1)) hq).mono ?_; rintro e wy ⟨pt, c, rfl, hA⟩; have HBY := Aside0.mk hA.below; have HA := Aside0.mk hA; clear hA)))
      go_wp2_with fail
      refine hK.out _ _ ?_ ?_
      · ((try dsimp only); (first | go_keep | (go_split_ands; refine ⟨below_step (by assumption) (by first | exact HBY.out | exact HBQ.out | exact HBX.out), ?_, ?_, ?_, ?_, ?_⟩ <;> first | exact later HBY.out (by assumption) | exact later HBQ.out (by assumption) | exact later HBX.out (by assumption))))
      try clear hHeld
      intro hHeld
      clear hK K
      try simp only [pS]
      refine tkT 10 (some 11) (v := ?_) rfl rfl (.inl ⟨by rfl, ?_⟩) ?_
      rotate_left
      · (intro w hSw; (try dsimp only at hSw); go_simp; with_reducible rfl)
      try simp only [pS]
      refine tkT 11 (some 22) (v := ?_) rfl rfl (.inl ⟨by rfl, ?_⟩) ?_
      rotate_left
      · (intro w hSw; (try dsimp only at hSw); go_simp; with_reducible rfl)
      try simp only [pS]
      refine tkT 12 (some 23) (v := ?_) rfl rfl (.inl ⟨by rfl, ?_⟩) ?_
      rotate_left
      · (intro w hSw; (try dsimp only at hSw); go_simp; with_reducible rfl)
      try simp only [pS]
      refine tkT 13 (some 8) (v := ?_) rfl rfl (.inl ⟨by rfl, ?_⟩) ?_
      rotate_left
      · (intro w hSw; (try dsimp only at hSw); go_simp; with_reducible rfl)
      try simp only [pS]
      refine tkT 14 (some 9) (v := ?_) rfl rfl (.inl ⟨by rfl, ?_⟩) ?_
      rotate_left
      · (intro w hSw; (try dsimp only at hSw); go_simp; with_reducible rfl)
      try simp only [pS]
      refine wpAnyH_done (by kernel_rfl) ?_ _
      rotate_left
      exact AllReadyH.nil
      exact AllReadyH.nil
      exact AllReadyH.nil
    have HL := Aside0.mk (below_step (Below.refl _ _) hHeld.1)
    clear hHeld b0 b1 b2 b3 b4
    have HRB2 := Aside0.mk (blk_below HRB.out HL.out)
    have rz := blk_lt HRB2.out
    have HLW := Aside0.mk (below_step HB0.out HL.out)
    rcases HA.out with ⟨h0, hc, rfl, _⟩ | ⟨rfl, hc, hk, rfl, hts, g, m, AT, cT, rfl, hA⟩
    · have h1 : (c != 0) = true := by rw [bne_iff_ne]; exact h0
      have HR : Aside0 (goodR cs cl hs hung looks p h = (0, 0, c)) := ⟨by unfold goodR; rw [HF.out, HHQ.out, Bool.true_and, ← hc, if_pos h0]⟩
      have r0 : wy.cell? ⟨w.heap.size + 1, 0, none⟩ = some (.int .i64 0) := (blk_cell HRB2.out 0).trans rfl
      have r1 : wy.cell? ⟨w.heap.size + 1, 1, none⟩ = some (.int .i64 0) := (blk_cell HRB2.out 1).trans rfl
      have rf0 := blk_frozen HRB2.out 0
      have rf1 := blk_frozen HRB2.out 1
      clear hc h0
      go_wp2_with fail
      refine bodyPost_ret (results_list (rs := [.cell 6 61, .tmp 7]) rfl (by simp) (.cell (w.heap.size + 1) 61 #[.int .i64 0, .int .i64 0] (0, 0) _ rfl (blk_put (blk_put HRB2.out 0 _ rfl) 1 _ rfl) Try.underlying61 rfl (by kernel_rfl) (.tmp .nil))) rfl ⟨by rw [HR.out]; rfl, ((below_step HB0.out HL.out).setCell (by simp) _).setCell (by simp) _⟩
    · have HAS := Aside0.mk hA
      have HC := Aside0.mk hc
      have HK := Aside0.mk hk
      have HT := Aside0.mk hts
      have HV := Aside0.mk (valid_of hk)
      clear hA hc hk hts
      obtain ⟨k, rfl, hkl⟩ := horse_nat HHQ.out HN.out
      go_wp2_with fail
      refine (good_calls _ g (some m) cs cl A2 A3 A4 AT A c2 c3 c4 cT c5 hs hung looks (truthsT hs hung looks) p k HV.out HAS.out.work (Kd.C_below HRP.out HLW.out) (fine_place HV.out HF.out) hkl HT.out (truths_small HV.out) (truths_len HK.out)).mono ?_
      rintro e wz ⟨rfl, hbz⟩
      have HZ := Aside0.mk (below_step HLW.out hbz)
      have HRB3 := Aside0.mk (blk_below HRB2.out hbz)
      clear hbz
      obtain ⟨lo, hlo⟩ : ∃ lo, goodLo hs p (truthsT hs hung looks) k = lo := ⟨_, rfl⟩
      obtain ⟨hi, hhi⟩ : ∃ hi, goodHi cl hs p (truthsT hs hung looks) k = hi := ⟨_, rfl⟩
      have HLO := Aside0.mk hlo
      have HHI := Aside0.mk hhi
      rw [hlo, hhi]
      clear hlo hhi
      have rz3 := blk_lt HRB3.out
      go_wp2_with fail
      cases hd : decide (lo > hi) with
      | true =>
        have HD := Aside0.mk (of_decide_eq_true hd)
        have HR : Aside0 (goodR cs cl hs hung looks p (k : Int) = (0, 0, 10)) := ⟨by unfold goodR; rw [HF.out, HHQ.out, Bool.true_and, HC.out, if_neg (by simp), Int.toNat_natCast, HLO.out, HHI.out, if_pos HD.out]⟩
        refine (closet_Range_none.calls _ _ true _ (by unfold closet_Range_none.f; rw [hd])).mono ?_
        clear hd
        rintro e wv ⟨rfl, hbv⟩
        have HV2 := Aside0.mk (below_step (below_alloc HZ.out _) hbv)
        have HRB4 := Aside0.mk (blk_below (blk_alloc HRB3.out _) hbv)
        clear hbv
        have r0 : wv.cell? ⟨w.heap.size + 1, 0, none⟩ = some (.int .i64 0) := (blk_cell HRB4.out 0).trans rfl
        have r1 : wv.cell? ⟨w.heap.size + 1, 1, none⟩ = some (.int .i64 0) := (blk_cell HRB4.out 1).trans rfl
        have rf0 := blk_frozen HRB4.out 0
        have rf1 := blk_frozen HRB4.out 1
        go_wp2_with fail
        refine bodyPost_ret (results_list (rs := [.cell 6 61, .tmp 7]) rfl (by simp) (.cell (w.heap.size + 1) 61 #[.int .i64 0, .int .i64 0] (0, 0) _ rfl (blk_put (blk_put HRB4.out 0 _ rfl) 1 _ rfl) Try.underlying61 rfl (by kernel_rfl) (.tmp .nil))) rfl ⟨by rw [HR.out]; rfl, (HV2.out.setCell (by simp) _).setCell (by simp) _⟩
      | false =>
        have HD := Aside0.mk (of_decide_eq_false hd)
        have HR : Aside0 (goodR cs cl hs hung looks p (k : Int) = (lo, hi, 0)) := ⟨by unfold goodR; rw [HF.out, HHQ.out, Bool.true_and, HC.out, if_neg (by simp), Int.toNat_natCast, HLO.out, HHI.out, if_neg HD.out]⟩
        refine (closet_Range_none.calls _ _ false _ (by unfold closet_Range_none.f; rw [hd])).mono ?_
        clear hd
        rintro e wv ⟨rfl, hbv⟩
        have HV2 := Aside0.mk (below_step (below_alloc HZ.out _) hbv)
        have HRB4 := Aside0.mk (blk_below (blk_alloc HRB3.out _) hbv)
        have d0 : wv.cell? ⟨wz.heap.size, 0, none⟩ = some (.int .i64 lo) := later hbv (by go_simp)
        have d1 : wv.cell? ⟨wz.heap.size, 1, none⟩ = some (.int .i64 hi) := later hbv (by go_simp)
        clear hbv
        have r0 : wv.cell? ⟨w.heap.size + 1, 0, none⟩ = some (.int .i64 0) := (blk_cell HRB4.out 0).trans rfl
        have r1 : wv.cell? ⟨w.heap.size + 1, 1, none⟩ = some (.int .i64 0) := (blk_cell HRB4.out 1).trans rfl
        have rf0 := blk_frozen HRB4.out 0
        have rf1 := blk_frozen HRB4.out 1
        go_wp2_with fail
        refine bodyPost_ret (results_list (rs := [.cell 6 61, .tmp 7]) rfl (by simp) (.cell (w.heap.size + 1) 61 #[.int .i64 lo, .int .i64 hi] (0, 0) _ rfl (blk_put (blk_put HRB4.out 0 _ rfl) 1 _ rfl) Try.underlying61 rfl (by kernel_rfl) (.tmp .nil))) rfl ⟨by rw [HR.out]; rfl, (HV2.out.setCell (by simp) _).setCell (by simp) _⟩
end Go.Proofs.Ytokhmghgghjmhaa.Q
