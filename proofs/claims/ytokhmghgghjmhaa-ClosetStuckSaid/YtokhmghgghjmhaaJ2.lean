/- Part 2 of the proof (C11, C12, C13, C14, C15, C16, C17, C18, C19): contracts of functions, and plain lemmas about what they compute. -/
import Derived.Test.YtokhmghgghjmhaaJ1
import Derived.Deep.RegionHeld3
import Derived.CallsIn
import Derived.OrdersIn
import Derived.ChangeKeysEq
import Derived.Test.YtokhmghgghjmhaaJ0
namespace Go.Proofs.Ytokhmghgghjmhaa.Q
open Go.RowKit Go.Proofs.YtokhmghgghjmhaaW.PrintWords Go.Proofs.YtokhmghgghjmhaaW.PrintLast Go.Proofs.YtokhmghgghjmhaaW.PrintMore
set_option linter.unusedVariables false

/-- Is a look fine: its horse and its minute? -/
def lookB (n : Nat) (l : S140) : Bool := decide (0 ≤ l.f0 ∧ l.f0 ≤ wrap64 ((n : Int) - 1) ∧ 0 ≤ l.f1 ∧ l.f1 ≤ 99)
theorem look_f (cs cl : Int) (hs : List S139) (hung : List Int) (looks : List S140) (l : S140) : closet_Closet_look.f cs cl hs hung looks l.f0 l.f1 l.f2 = some (lookB hs.length l) := by
  unfold closet_Closet_look.f closet_Closet_horse.f closet_minute.f lookB
  simp only [within_f, Option.bind_some]
  by_cases h1 : 0 ≤ l.f0 ∧ l.f0 ≤ wrap64 ((hs.length : Int) - 1)
  · simp [h1]
  · have h2 : ¬ (0 ≤ l.f0 ∧ l.f0 ≤ wrap64 ((hs.length : Int) - 1) ∧ 0 ≤ l.f1 ∧ l.f1 ≤ 99) := fun h => h1 ⟨h.1, h.2.1⟩
    simp [h1, h2]
set_option maxHeartbeats 1000000 in
set_option maxRecDepth 100000 in
theorem notLook_calls (cs cl : Int) {A2 A3 A4 : Option Addr} {c2 c3 c4 : Nat} {hs : List S139} {hung : List Int} {looks : List S140} {w : World} (M : Mem w A2 A3 A4 c2 c3 c4 hs hung looks) (g : Nat) (h : S140) (hg : w.heap[g]? = some (.cells #[.func (.func 110) #[.agg #[.int .i64 cs, .int .i64 cl, .slice A2 hs.length c2, .slice A3 hung.length c3, .slice A4 looks.length c4]] #[]] 172 (0, 0))) :
    Calls Try.prog 142 #[.agg #[.int .i64 h.f0, .int .i64 h.f1, .bool h.f2], .pointer (some ⟨g, 0, none⟩)] w fun e w' => e = .returned (.bool (!lookB hs.length h)) ∧ Below w.heap.size w w' := by
  have hz := blk_lt hg
  have hc : w.cell? ⟨g, 0, none⟩ = some (.func (.func 110) #[.agg #[.int .i64 cs, .int .i64 cl, .slice A2 hs.length c2, .slice A3 hung.length c3, .slice A4 looks.length c4]] #[]) := (blk_cell hg 0).trans rfl
  have HV := Aside0.mk (look_f cs cl hs hung looks h)
  have HM := Aside0.mk M
  clear M
  clear hg
  cases hb : lookB hs.length h with
  | false =>
    rw [hb] at HV
    clear hb
    go_enter Try.func142, Try.ntmps142
    go_wp2_with fail
    refine (closet_Closet_look.calls cs cl A2 c2 hs A3 c3 hung A4 c4 looks _ _ _ _ _ (Kd.C_alloc HM.out.h2 _) HM.out.l2 (Kd.C_alloc HM.out.h3 _) HM.out.l3 (Kd.C_alloc HM.out.h4 _) HM.out.l4 HV.out).mono ?_
    rintro e w1 ⟨rfl, hb⟩
    have HB := Aside0.mk (below_step (below_alloc (Below.refl _ _) _) hb)
    clear hb
    go_wp2_with fail
    go_ret
    exact ⟨rfl, HB.out⟩
  | true =>
    rw [hb] at HV
    clear hb
    go_enter Try.func142, Try.ntmps142
    go_wp2_with fail
    refine (closet_Closet_look.calls cs cl A2 c2 hs A3 c3 hung A4 c4 looks _ _ _ _ _ (Kd.C_alloc HM.out.h2 _) HM.out.l2 (Kd.C_alloc HM.out.h3 _) HM.out.l3 (Kd.C_alloc HM.out.h4 _) HM.out.l4 HV.out).mono ?_
    rintro e w1 ⟨rfl, hb⟩
    have HB := Aside0.mk (below_step (below_alloc (Below.refl _ _) _) hb)
    clear hb
    go_wp2_with fail
    go_ret
    exact ⟨rfl, HB.out⟩

/-- Are all looks fine? -/
def allL (n : Nat) (looks : List S140) : Bool := decide (∀ i : Nat, i < looks.length → lookB n (rd_T140 looks i) = true)
set_option maxHeartbeats 1000000 in
set_option maxRecDepth 100000 in
theorem indexL_calls (cs cl : Int) {A2 A3 A4 : Option Addr} {c2 c3 c4 : Nat} {hs : List S139} {hung : List Int} {looks : List S140} {w : World} (M : Mem w A2 A3 A4 c2 c3 c4 hs hung looks) (g : Nat) (hg : w.heap[g]? = some (.cells #[.func (.func 110) #[.agg #[.int .i64 cs, .int .i64 cl, .slice A2 hs.length c2, .slice A3 hung.length c3, .slice A4 looks.length c4]] #[]] 172 (0, 0))) (hl : looks.length ≤ 1000) :
    Calls Try.prog 157 #[.slice A4 looks.length c4, .func (.func 142) #[] #[.pointer (some ⟨g, 0, none⟩)]] w (IdxPost (allL hs.length looks) w) := by
  have HG := Aside0.mk hg
  have HM := Aside0.mk M
  clear hg M
  go_enter Try.func157, Try.ntmps157
  go_wp2_with fail
  go_loopg [8] looks.length (fun k v wr => ∃ n : Nat, v = .int .i64 n ∧ Aside0 (n + k = looks.length) ∧ Aside0 (∀ i : Nat, i < n → lookB hs.length (rd_T140 looks i) = true) ∧ Aside0 (Below w.heap.size w wr))
  case atStart => exact ⟨0, rfl, ⟨by omega⟩, ⟨fun i hi => absurd hi (by omega)⟩, ⟨Below.refl _ _⟩⟩
  case round =>
    obtain ⟨n, rfl, HN, HA, HB⟩ := hrel
    by_cases hlt : n < looks.length
    · obtain ⟨ad, e, h0, h1, h2⟩ := at_l HM.out.h4 n hlt
      cases e
      replace h0 := later HB.out h0
      replace h1 := later HB.out h1
      replace h2 := later HB.out h2
      have HX := Aside0.mk (notLook_calls cs cl (HM.out.later HB.out) g (rd_T140 looks n) (blk_below HG.out HB.out))
      cases hv : lookB hs.length (rd_T140 looks n) with
      | true =>
        rw [hv] at HX
        have HV := Aside0.mk hv
        clear hv
        go_wp2_with fail
        refine HX.out.mono ?_
        clear HX
        rintro e w1 ⟨rfl, hb⟩
        have HB1 := Aside0.mk (below_step HB.out hb)
        clear hb
        go_wp2_with fail
        go_roundg (looks.length - (n + 1))
        case measure => have := HN.out; omega
        case rel =>
          refine ⟨n + 1, by go_num, ⟨by have := HN.out; omega⟩, ⟨fun i hi => ?_⟩, HB1⟩
          by_cases hin : i < n
          · exact HA.out i hin
          · obtain rfl : i = n := by omega
            exact HV.out
      | false =>
        rw [hv] at HX
        have HV := Aside0.mk hv
        clear hv
        go_wp2_with fail
        refine HX.out.mono ?_
        clear HX
        rintro e w1 ⟨rfl, hb⟩
        have HB1 := Aside0.mk (below_step HB.out hb)
        clear hb
        go_wp2_with fail
        go_ret
        exact ⟨n, rfl, .inr ⟨decide_eq_false (fun h => by have := h n hlt; rw [HV.out] at this; cases this), by omega⟩, HB1.out⟩
    · go_wp2_with fail
      go_ret
      exact ⟨-1, rfl, .inl ⟨decide_eq_true fun i hi => HA.out i (by have := HN.out; omega), rfl⟩, HB.out⟩
set_option maxHeartbeats 1000000 in
set_option maxRecDepth 100000 in
theorem someL_calls (cs cl : Int) {A2 A3 A4 : Option Addr} {c2 c3 c4 : Nat} {hs : List S139} {hung : List Int} {looks : List S140} {w : World} (M : Mem w A2 A3 A4 c2 c3 c4 hs hung looks) (g : Nat) (hg : w.heap[g]? = some (.cells #[.func (.func 110) #[.agg #[.int .i64 cs, .int .i64 cl, .slice A2 hs.length c2, .slice A3 hung.length c3, .slice A4 looks.length c4]] #[]] 172 (0, 0))) (hl : looks.length ≤ 1000) :
    Calls Try.prog 141 #[.slice A4 looks.length c4, .func (.func 142) #[] #[.pointer (some ⟨g, 0, none⟩)]] w fun e w' => e = .returned (.bool (!allL hs.length looks)) ∧ Below w.heap.size w w' := by
  have HX := Aside0.mk (indexL_calls cs cl M g hg hl)
  clear hg M
  go_enter Try.func141, Try.ntmps141
  go_wp2_with fail
  refine HX.out.mono ?_
  clear HX
  rintro e w1 ⟨r, rfl, h, hb⟩
  have HB := Aside0.mk hb
  clear hb
  rcases h with ⟨h, rfl⟩ | ⟨h, hr⟩
  · have HH := Aside0.mk h
    clear h
    go_wp2_with fail
    go_ret
    exact ⟨by rw [HH.out]; rfl, HB.out⟩
  · have HH := Aside0.mk h
    clear h
    go_wp2_with fail
    go_ret
    exact ⟨by rw [HH.out]; rfl, HB.out⟩
set_option maxHeartbeats 1000000 in
set_option maxRecDepth 100000 in
theorem allL_calls (cs cl : Int) {A2 A3 A4 : Option Addr} {c2 c3 c4 : Nat} {hs : List S139} {hung : List Int} {looks : List S140} {w : World} (M : Mem w A2 A3 A4 c2 c3 c4 hs hung looks) (hl : looks.length ≤ 1000) {b : Bool} (hb : allL hs.length looks = b) :
    Calls Try.prog 114 #[.slice A4 looks.length c4, .func (.func 110) #[.agg #[.int .i64 cs, .int .i64 cl, .slice A2 hs.length c2, .slice A3 hung.length c3, .slice A4 looks.length c4]] #[]] w fun e w' => e = .returned (.bool b) ∧ Below w.heap.size w w' := by
  have HX := Aside0.mk (someL_calls cs cl (w := w.alloc (.cells #[.func (.func 110) #[.agg #[.int .i64 cs, .int .i64 cl, .slice A2 hs.length c2, .slice A3 hung.length c3, .slice A4 looks.length c4]] #[]] 172)) (M.later (below_alloc (Below.refl _ _) _)) w.heap.size (blk_new _ _) hl)
  rw [hb] at HX
  clear M hb
  go_enter Try.func114, Try.ntmps114
  go_wp2_with fail
  refine HX.out.mono ?_
  clear HX
  rintro e w1 ⟨rfl, hb⟩
  have HB := Aside0.mk (below_step (below_alloc (Below.refl _ _) _) hb)
  clear hb
  go_wp2_with fail
  go_ret
  cases b <;> exact ⟨rfl, HB.out⟩
end Go.Proofs.Ytokhmghgghjmhaa.Q

namespace Go.Proofs.Ytokhmghgghjmhaa.Q
open Go.RowKit Go.Proofs.YtokhmghgghjmhaaW.PrintWords Go.Proofs.YtokhmghgghjmhaaW.PrintLast Go.Proofs.YtokhmghgghjmhaaW.PrintMore
set_option linter.unusedVariables false

set_option maxHeartbeats 1000000 in
set_option maxRecDepth 100000 in
theorem isPlace_all (cs cl : Int) (A2 A3 A4 A : Option Addr) (c2 c3 c4 c5 : Nat) (hs : List S139) (hung : List Int) (looks : List S140) (p : List Int) (w : World)
    (M : Mem w A2 A3 A4 c2 c3 c4 hs hung looks) (hrp : Kd.C (Kd.int .i64) w A p.length p) (hcp : p.length ≤ c5) (hn : hs.length ≤ 1000) {b : Bool} (hb : placeB (wrap64 (cs - 1)) hs.length p = b) :
    Calls Try.prog 88 #[.agg #[.int .i64 cs, .int .i64 cl, .slice A2 hs.length c2, .slice A3 hung.length c3, .slice A4 looks.length c4], .slice A p.length c5] w
      fun e w' => e = .returned (.bool b) ∧ Below w.heap.size w w' := by
  subst hb
  by_cases he : p.length = hs.length
  · exact isPlace_calls cs cl A2 A3 A4 A c2 c3 c4 c5 hs hung looks p w M hrp hcp (by omega) hn
  · have he1 : (p.length == hs.length) = false := beq_eq_false_iff_ne.2 he
    have he2 : ((p.length : Int) != (hs.length : Int)) = true := by rw [bne_iff_ne]; omega
    have hr : placeB (wrap64 (cs - 1)) hs.length p = false := decide_eq_false fun h => he h.1
    have HR := Aside0.mk hr
    clear he hr
    go_enter Try.func88, Try.ntmps88
    go_wp2_with fail
    go_ret
    exact ⟨by rw [HR.out]; rfl, below_alloc (Below.refl _ _) _⟩

/-- The product of the sizes of the ranges of the first so many horses. -/
def prodH (hs : List S139) : Nat → Int
  | 0 => 1
  | n + 1 => wrap64 (prodH hs n * wrap64 (wrap64 ((rd_T139 hs n).f0.f1 - (rd_T139 hs n).f0.f0) + 1))
/-- What CheckCloset says. -/
def checkB (cs cl : Int) (hs : List S139) (hung : List Int) (looks : List S140) : Int :=
  if cs > 4 ∨ hs.length > 4 ∨ looks.length > 5 then 3
  else if cs < 1 ∨ ¬ (0 ≤ cl ∧ cl ≤ 99) ∨ allH hs = false ∨ placeB (wrap64 (cs - 1)) hs.length hung = false ∨ allL hs.length looks = false then 1
  else if prodH hs hs.length > 2000 then 3 else 0
set_option maxHeartbeats 4000000 in
set_option maxRecDepth 100000 in
theorem check_calls (cs cl : Int) {A2 A3 A4 : Option Addr} {c2 c3 c4 : Nat} {hs : List S139} {hung : List Int} {looks : List S140} {w : World} (M : Mem w A2 A3 A4 c2 c3 c4 hs hung looks) :
    Calls Try.prog 63 #[.agg #[.int .i64 cs, .int .i64 cl, .slice A2 hs.length c2, .slice A3 hung.length c3, .slice A4 looks.length c4]] w
      fun e w' => e = .returned (.int .i64 (checkB cs cl hs hung looks)) ∧ Below w.heap.size w w' := by
  have HM := Aside0.mk M
  have HB0 := Aside0.mk (below_alloc (Below.refl w.heap.size w) (.cells #[.int .i64 cs, .int .i64 cl, .slice A2 hs.length c2, .slice A3 hung.length c3, .slice A4 looks.length c4] 35))
  clear M
  go_enter Try.func63, Try.ntmps63
  by_cases h1 : cs > 4
  · have HR : Aside0 (checkB cs cl hs hung looks = 3) := ⟨by unfold checkB; rw [if_pos (.inl h1)]⟩
    go_wp2_with fail
    go_ret
    exact ⟨by rw [HR.out]; rfl, HB0.out⟩
  by_cases h2 : hs.length > 4
  · have HR : Aside0 (checkB cs cl hs hung looks = 3) := ⟨by unfold checkB; rw [if_pos (.inr (.inl h2))]⟩
    have h2' : (hs.length : Int) > 4 := by omega
    go_wp2_with fail
    go_ret
    exact ⟨by rw [HR.out]; rfl, HB0.out⟩
  by_cases h3 : looks.length > 5
  · have HR : Aside0 (checkB cs cl hs hung looks = 3) := ⟨by unfold checkB; rw [if_pos (.inr (.inr h3))]⟩
    have h2' : ¬ (hs.length : Int) > 4 := by omega
    have h3' : (looks.length : Int) > 5 := by omega
    go_wp2_with fail
    go_ret
    exact ⟨by rw [HR.out]; rfl, HB0.out⟩
  have hn : ¬ (cs > 4 ∨ hs.length > 4 ∨ looks.length > 5) := fun h => by rcases h with h | h | h <;> omega
  have HN := Aside0.mk hn
  have h2' : ¬ (hs.length : Int) > 4 := by omega
  have h3' : ¬ (looks.length : Int) > 5 := by omega
  clear hn h2 h3
  have h1n : decide (cs > 4) = false := decide_eq_false h1
  have h1g : cs ≤ 4 := by omega
  clear h1
  by_cases h4 : cs < 1
  · have HR : Aside0 (checkB cs cl hs hung looks = 1) := ⟨by unfold checkB; rw [if_neg HN.out, if_pos (.inl h4)]⟩
    go_wp2_with fail
    go_ret
    exact ⟨by rw [HR.out]; rfl, HB0.out⟩
  cases h5 : decide (0 ≤ cl ∧ cl ≤ 99) with
  | false =>
    have HR : Aside0 (checkB cs cl hs hung looks = 1) := ⟨by unfold checkB; rw [if_neg HN.out, if_pos (.inr (.inl (of_decide_eq_false h5)))]⟩
    have HX : Aside0 (closet_minute.f cl = some false) := ⟨by unfold closet_minute.f; rw [within_f, h5]; rfl⟩
    clear h5
    go_wp2_with fail
    refine (closet_minute.calls _ _ _ HX.out).mono ?_
    rintro e w1 ⟨rfl, nd, rfl⟩
    go_wp2_with fail
    go_ret
    exact ⟨by rw [HR.out]; rfl, pw_below_drewN HB0.out _⟩
  | true =>
  have HX : Aside0 (closet_minute.f cl = some true) := ⟨by unfold closet_minute.f; rw [within_f, h5]; rfl⟩
  have H5 := Aside0.mk h5
  clear h5
  go_wp2_with fail
  refine (closet_minute.calls _ _ _ HX.out).mono ?_
  clear HX
  rintro e w1 ⟨rfl, nd, rfl⟩
  have HB1 := Aside0.mk (pw_below_drewN HB0.out nd)
  cases h6 : allH hs with
  | false =>
    have HR : Aside0 (checkB cs cl hs hung looks = 1) := ⟨by unfold checkB; rw [if_neg HN.out, if_pos (.inr (.inr (.inl h6)))]⟩
    have H6 := Aside0.mk h6
    clear h6
    go_wp2_with fail
    refine (allH_calls _ _ hs _ (Kd.C_below HM.out.h2 HB1.out) (by have := HN.out; omega) H6.out).mono ?_
    rintro e w2 ⟨rfl, hb⟩
    have HB2 := Aside0.mk (below_step HB1.out hb)
    clear hb
    go_wp2_with fail
    go_ret
    exact ⟨by rw [HR.out]; rfl, HB2.out⟩
  | true =>
  have H6 := Aside0.mk h6
  clear h6
  go_wp2_with fail
  refine (allH_calls _ _ hs _ (Kd.C_below HM.out.h2 HB1.out) (by have := HN.out; omega) H6.out).mono ?_
  rintro e w2 ⟨rfl, hb⟩
  have HB2 := Aside0.mk (below_step HB1.out hb)
  have BK2 := Aside0.mk (blk_below (blk_drewN (blk_new w (.cells #[.int .i64 cs, .int .i64 cl, .slice A2 hs.length c2, .slice A3 hung.length c3, .slice A4 looks.length c4] 35)) nd) hb)
  have z2 := blk_lt BK2.out
  clear hb
  have b0 : w2.cell? ⟨w.heap.size, 0, none⟩ = some (.int .i64 cs) := (blk_cell BK2.out 0).trans rfl
  have b1 : w2.cell? ⟨w.heap.size, 1, none⟩ = some (.int .i64 cl) := (blk_cell BK2.out 1).trans rfl
  have b2 : w2.cell? ⟨w.heap.size, 2, none⟩ = some (.slice A2 hs.length c2) := (blk_cell BK2.out 2).trans rfl
  have b3 : w2.cell? ⟨w.heap.size, 3, none⟩ = some (.slice A3 hung.length c3) := (blk_cell BK2.out 3).trans rfl
  have b4 : w2.cell? ⟨w.heap.size, 4, none⟩ = some (.slice A4 looks.length c4) := (blk_cell BK2.out 4).trans rfl
  cases h7 : placeB (wrap64 (cs - 1)) hs.length hung with
  | false =>
    have HR : Aside0 (checkB cs cl hs hung looks = 1) := ⟨by unfold checkB; rw [if_neg HN.out, if_pos (.inr (.inr (.inr (.inl h7))))]⟩
    have H7 := Aside0.mk h7
    clear h7
    go_wp2_with fail
    refine (isPlace_all cs cl A2 A3 A4 _ c2 c3 c4 _ hs hung looks hung _ (HM.out.later HB2.out) (Kd.C_below HM.out.h3 HB2.out) HM.out.l3 (by have := HN.out; omega) H7.out).mono ?_
    rintro e w3 ⟨rfl, hb⟩
    have HB3 := Aside0.mk (below_step HB2.out hb)
    clear hb
    go_wp2_with fail
    go_ret
    exact ⟨by rw [HR.out]; rfl, HB3.out⟩
  | true =>
  have H7 := Aside0.mk h7
  clear h7
  go_wp2_with fail
  refine (isPlace_all cs cl A2 A3 A4 _ c2 c3 c4 _ hs hung looks hung _ (HM.out.later HB2.out) (Kd.C_below HM.out.h3 HB2.out) HM.out.l3 (by have := HN.out; omega) H7.out).mono ?_
  rintro e w3 ⟨rfl, hb⟩
  have HB3 := Aside0.mk (below_step HB2.out hb)
  have BK3 := Aside0.mk (blk_below BK2.out hb)
  have z3 := blk_lt BK3.out
  clear hb b0 b1 b2 b3 b4 z2
  have b2 : w3.cell? ⟨w.heap.size, 2, none⟩ = some (.slice A2 hs.length c2) := (blk_cell BK3.out 2).trans rfl
  have b4 : w3.cell? ⟨w.heap.size, 4, none⟩ = some (.slice A4 looks.length c4) := (blk_cell BK3.out 4).trans rfl
  cases h8 : allL hs.length looks with
  | false =>
    have HR : Aside0 (checkB cs cl hs hung looks = 1) := ⟨by unfold checkB; rw [if_neg HN.out, if_pos (.inr (.inr (.inr (.inr h8))))]⟩
    have H8 := Aside0.mk h8
    clear h8
    go_wp2_with fail
    refine (allL_calls cs cl (HM.out.later HB3.out) (by have := HN.out; omega) H8.out).mono ?_
    rintro e w4 ⟨rfl, hb⟩
    have HB4 := Aside0.mk (below_step HB3.out hb)
    clear hb
    go_wp2_with fail
    go_ret
    exact ⟨by rw [HR.out]; rfl, HB4.out⟩
  | true =>
  have HR : Aside0 (checkB cs cl hs hung looks = if prodH hs hs.length > 2000 then 3 else 0) := ⟨by
    unfold checkB
    rw [if_neg HN.out, if_neg]
    have := of_decide_eq_true H5.out
    rw [H6.out, H7.out, h8]
    simp
    omega⟩
  have H8 := Aside0.mk h8
  clear h8
  go_wp2_with fail
  refine (allL_calls cs cl (HM.out.later HB3.out) (by have := HN.out; omega) H8.out).mono ?_
  rintro e w4 ⟨rfl, hb⟩
  have HB4 := Aside0.mk (below_step HB3.out hb)
  have BK4 := Aside0.mk (blk_below BK3.out hb)
  have z4 := blk_lt BK4.out
  clear hb b2 b4 z3
  have b2 : w4.cell? ⟨w.heap.size, 2, none⟩ = some (.slice A2 hs.length c2) := (blk_cell BK4.out 2).trans rfl
  go_wp2_with fail
  go_loopg [4, 58] hs.length (fun k m v wr => ∃ n : Nat, m = .int .i64 (prodH hs n) ∧ v = .int .i64 n ∧ Aside0 (n + k = hs.length) ∧ Aside0 (Below w.heap.size w wr))
  case atStart => exact ⟨0, rfl, rfl, ⟨by omega⟩, HB4⟩
  case round =>
    obtain ⟨n, rfl, rfl, HI, HB⟩ := hrel
    by_cases hlt : n < hs.length
    · obtain ⟨ad, e, y0, y1, y2, y3⟩ := at_h HM.out.h2 n hlt
      cases e
      replace y0 := later HB.out y0
      replace y1 := later HB.out y1
      replace y2 := later HB.out y2
      replace y3 := later HB.out y3
      have HP : Aside0 (prodH hs (n + 1) = wrap64 (prodH hs n * wrap64 (wrap64 ((rd_T139 hs n).f0.f1 - (rd_T139 hs n).f0.f0) + 1))) := ⟨rfl⟩
      have hlt4 : (n : Int) < 4 := by have := HN.out; omega
      go_wp2_with fail
      refine (closet_Range_size.calls _ _ _ _ rfl).mono ?_
      rintro e w5 ⟨rfl, hb⟩
      have HB5 := Aside0.mk (below_step (below_alloc HB.out _) hb)
      clear hb
      go_wp2_with fail
      go_roundg (hs.length - (n + 1))
      case measure => have := HI.out; omega
      case rel => exact ⟨n + 1, by rw [HP.out], by go_num, ⟨by have := HI.out; omega⟩, HB5⟩
    · obtain rfl : n = hs.length := by have := HI.out; omega
      by_cases h9 : prodH hs hs.length > 2000
      · go_wp2_with fail
        go_ret
        exact ⟨by rw [HR.out, if_pos h9]; rfl, HB.out⟩
      · go_wp2_with fail
        go_ret
        exact ⟨by rw [HR.out, if_neg (by omega)]; rfl, HB.out⟩

theorem wrap_dec {n : Int} (h : n ≤ 1000000) (h0 : -1000000 ≤ n) : wrap64 (n - 1) = n - 1 := by unfold wrap64; omega
theorem valid_of {cs cl : Int} {hs : List S139} {hung : List Int} {looks : List S140} (h : checkB cs cl hs hung looks = 0) : Valid cs cl hs hung looks := by
  unfold checkB at h
  split at h
  · omega
  rename_i h1
  split at h
  · omega
  rename_i h2
  have p1 : cs ≤ 4 := by omega
  have p2 : hs.length ≤ 4 := by omega
  have p3 : looks.length ≤ 5 := by omega
  have q1 : 1 ≤ cs := by omega
  have q2 : 0 ≤ cl ∧ cl ≤ 99 := Classical.byContradiction fun k => h2 (.inr (.inl k))
  have q3 : allH hs = true := by cases e : allH hs with | true => rfl | false => exact absurd (.inr (.inr (.inl e))) h2
  have q4 : placeB (wrap64 (cs - 1)) hs.length hung = true := by cases e : placeB (wrap64 (cs - 1)) hs.length hung with | true => rfl | false => exact absurd (.inr (.inr (.inr (.inl e)))) h2
  have q5 : allL hs.length looks = true := by cases e : allL hs.length looks with | true => rfl | false => exact absurd (.inr (.inr (.inr (.inr e)))) h2
  have a3 := of_decide_eq_true q3
  have a4 := of_decide_eq_true q4
  have a5 := of_decide_eq_true q5
  have b3 : ∀ i : Nat, i < hs.length → _ := fun i hi => of_decide_eq_true (a3 i hi)
  have b5 : ∀ i : Nat, i < looks.length → _ := fun i hi => of_decide_eq_true (a5 i hi)
  rw [wrap_dec (by omega) (by omega)] at a4
  rw [wrap_dec (by omega) (by omega)] at b5
  refine ⟨q1, p1, q2.1, q2.2, p2, p3, fun i hi => ?_, fun i hi => ?_, fun i hi => ?_, a4.1, fun i hi => ?_, fun i j hi hj e => ?_, fun i hi => ?_⟩
  · exact ⟨(b3 i hi).1, (b3 i hi).2.1, (b3 i hi).2.2.1⟩
  · exact (b3 i hi).2.2.2.1
  · exact (b3 i hi).2.2.2.2
  · exact ⟨(a4.2 i hi).1, (a4.2 i hi).2.1⟩
  · have h3 := (a4.2 i hi).2.2
    have : (hung.take i).contains (rd hung i) = true := by
      rw [List.contains_iff_mem, e, rd_nn, List.getD_eq_getElem?_getD, List.getElem?_eq_getElem (by omega)]
      exact List.mem_take_iff_getElem.2 ⟨j, by omega, rfl⟩
    rw [h3] at this; cases this
  · have := b5 i hi; omega
end Go.Proofs.Ytokhmghgghjmhaa.Q

set_option linter.unusedVariables false
namespace Go

/-- A way for an operation, in a round: the same one, where it defers nothing. -/
theorem Oper.wpIn_round {P : Program} {n l : Nat} {o : Oper} (hd : ∀ c, o.op ≠ .defer c) {a : Act} {w : World} {K : Act → World → Prop} {Q : Exit → Act → World → Prop} (h : o.wp P a w K Q) :
    o.wpIn (Fence.wide.inRound l) n P a w K Q := by
  refine ⟨fun _ _ => trivial, ?_⟩
  rw [Oper.semAt_eq _ _ _ hd]
  unfold Oper.wp at h
  generalize (execOp a.eval o).run P w = r at *
  cases r with
  | ok x w' =>
    cases x with
    | value v => exact h
    | skip => exact h
    | defer d => exact h
    | enter f args => exact ⟨(fun h => by cases h), callsIn_wide.2 h⟩
    | row r args => exact ⟨(fun h => by cases h), fun c cs _ => let ⟨v, w', r, s⟩ := h c cs; ⟨v, w', r, stepsIn_wide.2 s⟩⟩
    | _ => exact (h : False).elim
  | halt x w' => cases x <;> exact h

theorem wpOpIn_round {P : Program} {n l : Nat} {ops : Array Oper} (hd : ∀ (i : Nat) (o : Oper), ops[i]? = some o → ∀ c, o.op ≠ .defer c) {Q : Exit → Act → World → Prop} (hQ : ¬ LetsOut Q) {i : Nat} {K : Act → World → Prop} {a : Act} {w : World}
    (h : wpOp P ops Q i K a w) : wpOpIn (Fence.wide.inRound l) n P ops Q i K a w := by
  unfold wpOp at h
  unfold wpOpIn
  cases ho : ops[i]? with
  | none => simpa only [ho] using h
  | some o =>
    simp only [ho] at h ⊢
    split
    · rename_i hw
      simp only [hw, if_true] at h
      rcases h with h | h
      · exact Oper.wpIn_round (hd i o ho) h
      · exact absurd h.2 hQ
    · rename_i hw
      simp only [hw] at h
      exact ⟨fun _ _ => trivial, h⟩

theorem wpAnyIn_round {P : Program} {n l : Nat} {md : Region.Mode} {ops : Array Oper} (hd : ∀ (i : Nat) (o : Oper), ops[i]? = some o → ∀ c, o.op ≠ .defer c) {Q : Exit → Act → World → Prop} (hQ : ¬ LetsOut Q) :
    ∀ (fuel : Nat) (listed : Array Bool) (a : Act) (w : World), wpAny P md ops Q fuel listed a w → wpAnyIn (Fence.wide.inRound l) n P md ops Q fuel listed a w
  | 0, _, _, _, h => h
  | fuel + 1, listed, a, w, h => ⟨h.1, fun i hi => wpOpIn_round hd hQ (wpOp_mono (fun a w => wpAnyIn_round hd hQ fuel _ a w) (h.2 i hi))⟩

def noDefer (ops : Array Oper) : Bool := ops.toList.all fun o => match o.op with | .defer _ => false | _ => true
theorem noDefer_spec {ops : Array Oper} (h : noDefer ops = true) (i : Nat) (o : Oper) (ho : ops[i]? = some o) (c : _) : o.op ≠ .defer c := by
  intro e
  have := List.all_eq_true.1 h o (Array.mem_toList_iff.2 (Array.mem_of_getElem? ho))
  rw [e] at this
  cases this
theorem wpIn_round_held {P : Program} {n l : Nat} {ops : Array Oper} {Q : Exit → Act → World → Prop} {S : World → Prop} {id : Nat} {a : Act} {w : World} (hm : P.follows .mixedOrders = true)
    (hd : noDefer ops = true) (hQ : ¬ LetsOut Q) (hS : S w.drew)
    (h : S w.drew → wpAnyH P .any ops Q S ops.size (Array.replicate ops.size false) a w.drew) : (Code.region id ops true).wpIn (Fence.wide.inRound l) n P Q a w :=
  wpIn_region_any hm (wpAnyIn_round (noDefer_spec hd) hQ _ _ _ _ (wpAny_of_held _ _ _ _ (h hS)))


/-- Take operation i, whose target is d, first. -/
theorem tkT {P : Program} {md : Region.Mode} {ops : Array Oper} {Q : Exit → Act → World → Prop} {S : World → Prop} (i : Nat) (d : Option Tmp) {oi : Oper} {v : Value} {fuel : Nat} {listed : Array Bool} {a : Act} {w : World} (hi : ops[i]? = some oi) (hd : oi.dst = d)
    (hy : YieldsIf P ops S oi v a) (h : wpAnyH P md ops Q S fuel (listed.setIfInBounds i true) (a.put d v) w)
    (hs : Region.noSelect ops = true := by kernel_rfl) (hf : Region.free md ops listed i = true := by kernel_rfl) (hr : (Region.ready md ops listed).contains i = true := by kernel_rfl)
    (hQ : ∀ c a w, Q (.panic c) (a.put d v) w → Q (.panic c) a w := by exact fun _ _ _ h => h) (hS : S w := by assumption) : wpAnyH P md ops Q S (fuel + 1) listed a w := by
  subst hd
  exact wpAnyH_take hi hs hf hr hQ hy hS h
end Go

namespace Go.Proofs.Ytokhmghgghjmhaa.Q
open Go.RowKit Go.Shelf Go.Proofs.YtokhmghgghjmhaaW.PrintWords Go.Proofs.YtokhmghgghjmhaaW.PrintLast Go.Proofs.YtokhmghgghjmhaaW.PrintMore
attribute [local go_sem] Oper.semAt_some
set_option linter.unusedVariables false

/-- Do two rows of four numbers differ? -/
def ne4 (a b : Nat → Int) : Bool := !(decide (a 0 = b 0) && decide (a 1 = b 1) && decide (a 2 = b 2) && decide (a 3 = b 3))
set_option linter.unusedSimpArgs false in
theorem eq4 (a b : Nat → Int) (w : World) : (Op.equalIn 10000 152 (.agg #[.int .i64 (a 0), .int .i64 (a 1), .int .i64 (a 2), .int .i64 (a 3)]) (.agg #[.int .i64 (b 0), .int .i64 (b 1), .int .i64 (b 2), .int .i64 (b 3)])).run Try.prog w = .ok (!ne4 a b) w := by
  have hu := Try.underlying152
  have hu3 := Try.underlying3
  obtain ⟨i0, hi0, _, hsz, _⟩ := info_parts info3
  have hk : Try.prog.plainKey 3 = true := by kernel_rfl
  have hc : Try.prog.cellsOf 3 = 1 := by kernel_rfl
  rw [show (10000 : Nat) = 9999 + 1 from rfl, run_equalIn_array w 9999 _ _ hu hi0, hc]
  have p : ∀ (xs : Array Value) (i : Nat) (v : Value), xs[i]? = some v → (part 3 xs i).run Try.prog w = .ok v w := fun xs i v h => run_part_plain w hk h
  have p0 : ∀ a b c d : Value, (part 3 #[a, b, c, d] 0).run Try.prog w = .ok a w := fun a b c d => p _ _ _ rfl
  have p1 : ∀ a b c d : Value, (part 3 #[a, b, c, d] 1).run Try.prog w = .ok b w := fun a b c d => p _ _ _ rfl
  have p2 : ∀ a b c d : Value, (part 3 #[a, b, c, d] 2).run Try.prog w = .ok c w := fun a b c d => p _ _ _ rfl
  have p3 : ∀ a b c d : Value, (part 3 #[a, b, c, d] 3).run Try.prog w = .ok d w := fun a b c d => p _ _ _ rfl
  have e : ∀ x y : Int, (Op.equalIn 9999 3 (.int .i64 x) (.int .i64 y)).run Try.prog w = .ok (x == y) w := fun x y => run_equalIn_int w 9998 3 .i64 .i64 x y hu3
  simp only [show List.range 4 = [0, 1, 2, 3] from rfl, Op.eqItems, Sem.run_bind, Nat.mul_one, p0, Result.andThen_ok, e, ne4]
  by_cases h0 : a 0 = b 0 <;> by_cases h1 : a 1 = b 1 <;> by_cases h2 : a 2 = b 2 <;> by_cases h3 : a 3 = b 3 <;> simp [h0, h1, h2, h3, e, Sem.run_bind, p1, p2, p3]
/-- The truths that are kept of a row of dry numbers. -/
def keep1 (hs : List S139) (hung : List Int) (looks : List S140) (ts : List (Nat → Int)) (d : Nat → Int) : List (Nat → Int) :=
  if rightB hs hung looks d [] = true ∧ (ts = [] ∨ ne4 (rdN ts (ts.length - 1)) d = true) then ts ++ [d] else ts
def keepT (hs : List S139) (hung : List Int) (looks : List S140) (pre : List (Nat → Int)) : List (Nat → Int) := pre.foldl (keep1 hs hung looks) []
theorem keepT_snoc (hs : List S139) (hung : List Int) (looks : List S140) (pre : List (Nat → Int)) (d : Nat → Int) : keepT hs hung looks (pre ++ [d]) = keep1 hs hung looks (keepT hs hung looks pre) d := by
  simp [keepT, List.foldl_append]
theorem keep1_len (hs : List S139) (hung : List Int) (looks : List S140) (ts : List (Nat → Int)) (d : Nat → Int) : (keep1 hs hung looks ts d).length ≤ ts.length + 1 := by
  unfold keep1; split <;> simp
theorem foldl_keep_len (hs : List S139) (hung : List Int) (looks : List S140) : ∀ (pre ts : List (Nat → Int)), (pre.foldl (keep1 hs hung looks) ts).length ≤ ts.length + pre.length
  | [], ts => by simp
  | d :: r, ts => by
    have h1 := foldl_keep_len hs hung looks r (keep1 hs hung looks ts d)
    have h2 := keep1_len hs hung looks ts d
    simp only [List.foldl_cons, List.length_cons]
    omega
theorem keepT_len (hs : List S139) (hung : List Int) (looks : List S140) (pre : List (Nat → Int)) : (keepT hs hung looks pre).length ≤ pre.length := by
  have := foldl_keep_len hs hung looks pre []
  simpa [keepT] using this
theorem flatMap_len {α β : Type} (f : α → List β) (N : Nat) : ∀ l : List α, (∀ a ∈ l, (f a).length ≤ N) → (l.flatMap f).length ≤ l.length * N
  | [], _ => by simp
  | a :: r, h => by
    have h1 := h a (by simp)
    have h2 := flatMap_len f N r (fun b hb => h b (by simp [hb]))
    simp only [List.flatMap_cons, List.length_append, List.length_cons, Nat.add_mul]
    omega
theorem allN_len (hs : List S139) (hdry : ∀ i : Nat, i < hs.length → 1 ≤ (rd_T139 hs i).f0.f0 ∧ (rd_T139 hs i).f0.f0 ≤ (rd_T139 hs i).f0.f1 ∧ (rd_T139 hs i).f0.f1 ≤ 60) :
    ∀ (d h : Nat) (x : Nat → Int), h + d = hs.length → (allN hs d h x).length ≤ 60 ^ d
  | 0, h, x, _ => by simp [allN]
  | d + 1, h, x, e => by
    have hd := hdry h (by omega)
    simp only [allN]
    refine Nat.le_trans (flatMap_len _ (60 ^ d) _ (fun v _ => allN_len hs hdry d (h + 1) _ (by omega))) ?_
    simp only [vals, List.length_map, List.length_range]
    rw [Nat.pow_succ, Nat.mul_comm (60 ^ d) 60]
    exact Nat.mul_le_mul_right _ (by omega)
theorem dries_len {cs cl : Int} {hs : List S139} {hung : List Int} {looks : List S140} (V : Valid cs cl hs hung looks) : (dries hs).length ≤ 12960000 := by
  have h := allN_len hs V.dry hs.length 0 (fun _ => 0) (by omega)
  have h4 := V.n4
  have : 60 ^ hs.length ≤ 60 ^ 4 := Nat.pow_le_pow_right (by omega) h4
  unfold dries
  omega
/-- All truths of closets. -/
def truthsT (hs : List S139) (hung : List Int) (looks : List S140) : List (Nat → Int) := keepT hs hung looks (dries hs)
/-- The error of closets, of which something is asked. -/
def askCode (cs cl : Int) (hs : List S139) (hung : List Int) (looks : List S140) (fine : Bool) : Int :=
  if checkB cs cl hs hung looks ≠ 0 then checkB cs cl hs hung looks else if fine = false then 2 else if truthsT hs hung looks = [] then 11 else 0
/-- What lies in memory while truths are sought. -/
structure AI (w : World) (b m g q : Nat) (cs cl : Int) (A2 A3 A4 : Option Addr) (n2 n3 n4 c2 c3 c4 : Nat) (D : Nat) (ts : List (Nat → Int)) (W : World) : Prop where
  below : Below w.heap.size w W
  c : W.heap[b]? = some (.cells #[.int .i64 cs, .int .i64 cl, .slice A2 n2 c2, .slice A3 n3 c3, .slice A4 n4 c4] 35 (0, 0))
  k : W.heap[m]? = some (.map #[] 0)
  q : W.heap[q]? = some (.cells #[.pointer (some ⟨g, 0, none⟩)] 132 (0, 0))
  t : ∃ v, W.heap[g]? = some (.cells #[.int .i64 cs, .int .i64 cl, .slice A2 n2 c2, .slice A3 n3 c3, .slice A4 n4 c4, v, .map (some m)] 144 (0, 0)) ∧ kN.R 152 W w.heap.size (fun k => D + 5 ≤ k) v ts

set_option maxHeartbeats 4000000 in
set_option maxRecDepth 100000 in
theorem asked_fail (cs cl : Int) {A2 A3 A4 : Option Addr} {c2 c3 c4 : Nat} {hs : List S139} {hung : List Int} {looks : List S140} {w : World} (M : Mem w A2 A3 A4 c2 c3 c4 hs hung looks) (fine : Bool) (hf : checkB cs cl hs hung looks ≠ 0 ∨ fine = false) :
    Calls Try.prog 87 #[.agg #[.int .i64 cs, .int .i64 cl, .slice A2 hs.length c2, .slice A3 hung.length c3, .slice A4 looks.length c4], .bool fine] w
      fun e w' => e = .returned (.tuple #[.pointer none, .int .i64 (askCode cs cl hs hung looks fine)]) ∧ Below w.heap.size w w' := by
  have HM := Aside0.mk M
  clear M
  have HB0 := Aside0.mk (below_alloc (Below.refl w.heap.size w) (.cells #[.int .i64 cs, .int .i64 cl, .slice A2 hs.length c2, .slice A3 hung.length c3, .slice A4 looks.length c4] 35))
  go_enter Try.func87, Try.ntmps87
  go_wp2_with fail
  refine (check_calls cs cl (HM.out.later HB0.out)).mono ?_
  rintro e w1 ⟨rfl, hb⟩
  have HB1 := Aside0.mk (below_step HB0.out hb)
  clear hb
  by_cases h0 : checkB cs cl hs hung looks = 0
  · rcases hf with hf | hf
    · exact absurd h0 hf
    subst hf
    have HR : Aside0 (askCode cs cl hs hung looks false = 2) := ⟨by unfold askCode; rw [if_neg (by simp [h0])]; rfl⟩
    rw [h0]
    go_wp2_with fail
    go_ret2
    exact ⟨by rw [HR.out]; rfl, HB1.out⟩
  · have HR : Aside0 (askCode cs cl hs hung looks fine = checkB cs cl hs hung looks) := ⟨by unfold askCode; rw [if_pos h0]⟩
    have h1 : (checkB cs cl hs hung looks != 0) = true := by rw [bne_iff_ne]; exact h0
    go_wp2_with fail
    go_ret2
    exact ⟨by rw [HR.out]; rfl, HB1.out⟩

theorem AI.same {w : World} {b m g q : Nat} {cs cl : Int} {A2 A3 A4 : Option Addr} {n2 n3 n4 c2 c3 c4 : Nat} {D : Nat} {ts : List (Nat → Int)} {W W' : World} (h : AI w b m g q cs cl A2 A3 A4 n2 n3 n4 c2 c3 c4 D ts W) {N : Nat} (hb : Below N W W') (hw : w.heap.size ≤ N) (hbD : b < N) (hmD : m < N) (hgD : g < N) (hqD : q < N)
    (ht : ∀ k, D + 5 ≤ k → k < W.heap.size → W'.heap[k]? = W.heap[k]?) : AI w b m g q cs cl A2 A3 A4 n2 n3 n4 c2 c3 c4 D ts W' := by
  obtain ⟨v, h1, h2⟩ := h.t
  refine ⟨h.below.trans (hb.mono (by omega)), (hb.block _ (by omega)).trans h.c, (hb.block _ (by omega)).trans h.k, (hb.block _ (by omega)).trans h.q, v, (hb.block _ (by omega)).trans h1, ?_⟩
  exact Kd.R_step h2 (fun k hk hl => ht k hk hl)
end Go.Proofs.Ytokhmghgghjmhaa.Q

namespace Go.Proofs.Ytokhmghgghjmhaa.Q
open Go.RowKit Go.Shelf Go.Proofs.YtokhmghgghjmhaaW.PrintWords Go.Proofs.YtokhmghgghjmhaaW.PrintLast Go.Proofs.YtokhmghgghjmhaaW.PrintMore
attribute [local go_sem] Oper.semAt_some
set_option linter.unusedVariables false
set_option linter.unusedSimpArgs false

/-- What one has who asks of closets without fault. -/
structure Asked (w : World) (cs cl : Int) (A2 A3 A4 : Option Addr) (c2 c3 c4 : Nat) (hs : List S139) (hung : List Int) (looks : List S140) (g m : Nat) (AT : Option Addr) (cT : Nat) (W : World) : Prop where
  below : Below w.heap.size w W
  g0 : w.heap.size ≤ g
  m0 : w.heap.size ≤ m
  at0 : ∀ k, (Value.slice AT (truthsT hs hung looks).length cT).ownBlock = some k → w.heap.size ≤ k
  k : W.heap[m]? = some (.map #[] 0)
  work : Work W g (some m) cs cl A2 A3 A4 AT c2 c3 c4 cT hs hung looks (truthsT hs hung looks)
set_option maxHeartbeats 4000000 in
set_option maxRecDepth 100000 in
theorem asked_ok (cs cl : Int) {A2 A3 A4 : Option Addr} {c2 c3 c4 : Nat} {hs : List S139} {hung : List Int} {looks : List S140} {w : World} (M : Mem w A2 A3 A4 c2 c3 c4 hs hung looks) (h0 : checkB cs cl hs hung looks = 0) :
    Calls Try.prog 87 #[.agg #[.int .i64 cs, .int .i64 cl, .slice A2 hs.length c2, .slice A3 hung.length c3, .slice A4 looks.length c4], .bool true] w
      fun e w' => (truthsT hs hung looks = [] ∧ e = .returned (.tuple #[.pointer none, .int .i64 11]) ∧ Below w.heap.size w w') ∨
        (truthsT hs hung looks ≠ [] ∧ ∃ g m AT cT, e = .returned (.tuple #[.pointer (some ⟨g, 0, none⟩), .int .i64 0]) ∧ Asked w cs cl A2 A3 A4 c2 c3 c4 hs hung looks g m AT cT w') := by
  have HM := Aside0.mk M
  have HV := Aside0.mk (valid_of h0)
  have H0 := Aside0.mk h0
  have hmm := @run_makeMap Try.prog
  clear M h0
  have HB0 := Aside0.mk (below_alloc (Below.refl w.heap.size w) (.cells #[.int .i64 cs, .int .i64 cl, .slice A2 hs.length c2, .slice A3 hung.length c3, .slice A4 looks.length c4] 35))
  refine (callsIn_wide (n := 3)).1 ?_
  refine callsIn_of_wp_marks Try.func87 rfl trivial ?_ rfl
  simp only [Try.ntmps87, List.size_toArray, List.length_cons, List.length_nil, Nat.reduceAdd, Nat.reduceSub, Array.replicate_succ, Array.replicate_zero, List.push_toArray, List.append_toArray, List.nil_append, List.cons_append]
  gi_wp2_with fail
  refine ⟨trivial, ?_⟩
  refine callsIn_wide.2 ((check_calls cs cl (HM.out.later HB0.out)).mono ?_)
  rintro e w1 ⟨rfl, hb⟩
  rw [H0.out]
  have HB1 := Aside0.mk (below_step HB0.out hb)
  have BK1 := Aside0.mk (blk_below (blk_new w (.cells #[.int .i64 cs, .int .i64 cl, .slice A2 hs.length c2, .slice A3 hung.length c3, .slice A4 looks.length c4] 35)) hb)
  have z1 := blk_lt BK1.out
  clear hb
  have b0 : w1.cell? ⟨w.heap.size, 0, none⟩ = some (.int .i64 cs) := (blk_cell BK1.out 0).trans rfl
  have b1 : w1.cell? ⟨w.heap.size, 1, none⟩ = some (.int .i64 cl) := (blk_cell BK1.out 1).trans rfl
  have b2 : w1.cell? ⟨w.heap.size, 2, none⟩ = some (.slice A2 hs.length c2) := (blk_cell BK1.out 2).trans rfl
  have b3 : w1.cell? ⟨w.heap.size, 3, none⟩ = some (.slice A3 hung.length c3) := (blk_cell BK1.out 3).trans rfl
  have b4 : w1.cell? ⟨w.heap.size, 4, none⟩ = some (.slice A4 looks.length c4) := (blk_cell BK1.out 4).trans rfl
  obtain ⟨W1, hW1⟩ : ∃ W1, ((w1.alloc (.map #[] 0)).alloc (.cells #[.int .i64 cs, .int .i64 cl, .slice A2 hs.length c2, .slice A3 hung.length c3, .slice A4 looks.length c4, .slice none 0 0, .map (some w1.heap.size)] 144)).alloc (.cells #[.pointer (some ⟨w1.heap.size + 1, 0, none⟩)] 132) = W1 := ⟨_, rfl⟩
  have HB2 : Below w1.heap.size w1 W1 := by rw [← hW1]; repeat (first | exact Below.refl _ _ | apply below_alloc)
  have hz : W1.heap.size = w1.heap.size + 3 := by rw [← hW1]; simp
  have d0 := later HB2 b0
  have d1 := later HB2 b1
  have d2 := later HB2 b2
  have d3 := later HB2 b3
  have d4 := later HB2 b4
  gi_wp2_with (rw [hW1])
  refine ⟨trivial, ?_⟩
  refine (callsIn_wide.2 (truths_calls _ _ _ _ _ _)).mono ?_
  rintro e w2 ⟨rfl, rfl⟩
  gi_wp2_with fail
  obtain ⟨W0, hW0⟩ : ∃ W0, W1.alloc (.cells #[.int .i64 cs, .int .i64 cl, .slice A2 hs.length c2, .slice A3 hung.length c3, .slice A4 looks.length c4] 35) = W0 := ⟨_, rfl⟩
  have HB3 : Below w.heap.size w W0 := by rw [← hW0]; exact below_alloc (below_step HB1.out HB2) _
  have hP0 : AI w w.heap.size w1.heap.size (w1.heap.size + 1) (w1.heap.size + 1 + 1) cs cl A2 A3 A4 hs.length hung.length looks.length c2 c3 c4 (w1.heap.size + 4) [] W0 := by
    refine ⟨HB3, ?_, ?_, ?_, .slice none 0 0, ?_, Kd.R_nil _ _ _ _ _⟩
    · rw [← hW0]; exact blk_alloc (blk_below BK1.out HB2) _
    · rw [← hW0, ← hW1]
      exact (Below.heap_alloc _ _ _ (by simp; omega)).trans ((Below.heap_alloc _ _ _ (by simp; omega)).trans ((Below.heap_alloc _ _ _ (by simp)).trans (World.alloc_heap_new _ _)))
    · rw [← hW0, ← hW1]; repeat (first | (refine blk_new_ ?_; simp; done) | refine blk_alloc ?_ _)
    · rw [← hW0, ← hW1]; repeat (first | (refine blk_new_ ?_; simp; done) | refine blk_alloc ?_ _)
  have HP0 := Aside0.mk hP0
  have hbox : W0.heap[w1.heap.size + 3]? = some (.cells #[.int .i64 cs, .int .i64 cl, .slice A2 hs.length c2, .slice A3 hung.length c3, .slice A4 looks.length c4] 35 (0, 0)) := by
    rw [← hW0]; refine blk_new_ ?_; omega
  have hsz : W0.heap.size = w1.heap.size + 4 := by rw [← hW0]; simp; omega
  have hzw : w.heap.size < w1.heap.size := z1
  rw [hW0]
  clear hW0 hW1 hz d0 d1 d2 d3 d4 HB2 HB3 b0 b1 b2 b3 b4 hP0 BK1 hmm
  refine range_truths (wB := w) (n := 3) (w1.heap.size + 3) rfl cs cl A2 A3 A4 hung.length looks.length c2 c3 c4 hs HM.out.h2 hbox HP0.out.below HV.out.n4 HV.out.dry
    (fun pre W => AI w w.heap.size w1.heap.size (w1.heap.size + 1) (w1.heap.size + 1 + 1) cs cl A2 A3 A4 hs.length hung.length looks.length c2 c3 c4 (w1.heap.size + 4) (keepT hs hung looks pre) W)
    (fun W => False)
    (fun x a' W => ∃ Bx : Nat, W.heap[Bx]? = some (.cells #[.int .i64 (x 0), .int .i64 (x 1), .int .i64 (x 2), .int .i64 (x 3)] 152 (0, 0)) ∧ w1.heap.size + 9 ≤ Bx ∧ (∀ v, W.heap[w1.heap.size + 1]? = some (.cells #[.int .i64 cs, .int .i64 cl, .slice A2 hs.length c2, .slice A3 hung.length c3, .slice A4 looks.length c4, v, .map (some w1.heap.size)] 144 (0, 0)) → some Bx ≠ v.ownBlock) ∧
      a' = { tmps := #[.agg #[.int .i64 cs, .int .i64 cl, .slice A2 hs.length c2, .slice A3 hung.length c3, .slice A4 looks.length c4], .bool true, .pointer (some ⟨w.heap.size, 0, none⟩), undef, .pointer none, .int .i64 0, .int .i64 0, .pointer (some ⟨w1.heap.size + 1 + 1, 0, none⟩), .pointer (some ⟨Bx, 0, none⟩), .agg #[.int .i64 cs, .int .i64 cl, .slice A2 hs.length c2, .slice A3 hung.length c3, .slice A4 looks.length c4], .int .i64 0, .int .i64 0, .bool false, undef, .bool true, .bool false, .agg #[.int .i64 cs, .int .i64 cl, .slice A2 hs.length c2, .slice A3 hung.length c3, .slice A4 looks.length c4], .map (some w1.heap.size), .agg #[.int .i64 cs, .int .i64 cl, .slice A2 hs.length c2, .slice A3 hung.length c3, .slice A4 looks.length c4, .slice none 0 0, .map (some w1.heap.size)], .pointer (some ⟨w1.heap.size + 1, 0, none⟩), .agg #[.int .i64 cs, .int .i64 cl, .slice A2 hs.length c2, .slice A3 hung.length c3, .slice A4 looks.length c4], .func (.func 144) #[] #[.pointer (some ⟨w1.heap.size + 3, 0, none⟩)], .agg #[.int .i64 (x 0), .int .i64 (x 1), .int .i64 (x 2), .int .i64 (x 3)], undef, undef, undef, undef, undef, undef, undef, undef, undef, undef, undef, undef, undef, undef, undef, undef, undef, undef, undef, undef, undef, undef, undef, undef, undef, undef, undef, undef, undef, undef, undef, undef, undef, undef, undef, undef, undef, undef, undef, undef, undef, undef, undef, undef], defers := [] })
    ?sI ?sp ?sa ?sx ?sA HP0.out ?assign ?body ?done ?stop
  case sI => intro s A C h st; exact h.same st.below (by omega) (by omega) (by omega) (by omega) (by omega) (fun k h1 h2 => st.above k (by omega) h2)
  case sp => intro pre A k o h1 h2 h; exact h.same (below_putObj A k o h1) (by omega) (by omega) (by omega) (by omega) (by omega) (fun k' h3 h4 => World.putObj_heap_other (by omega))
  case sa => intro pre A o h; exact h.same ((Below.refl A.heap.size A).alloc (Nat.le_refl _) o) (by have := blk_lt h.q; omega) (by have := blk_lt h.q; omega) (by have := blk_lt h.q; omega) (by have := blk_lt h.q; omega) (by have := blk_lt h.q; omega) (fun k' h3 h4 => Below.heap_alloc A o _ h4)
  case sx => intro A k o h1 h2 h; exact h
  case sA => intro x a' A k o h1 h2 ⟨Bx, hB, hs9, hv, e⟩; exact ⟨Bx, (World.putObj_heap_other (by omega)).trans hB, hs9, (fun v h => hv v ((World.putObj_heap_other (by omega)).symm.trans h)), e⟩
  case assign =>
    intro l pre x W K hsz5 hgz h1 hK
    gi_wp2_with fail
    exact hK _ _ (Rk.alloc W _ hgz (by omega) (by omega)) (by simp; omega) (h1.same ((Below.refl W.heap.size W).alloc (Nat.le_refl _) _) (by omega) (by omega) (by omega) (by omega) (by omega) (fun k' h3 h4 => Below.heap_alloc W _ _ h4)) ⟨W.heap.size, blk_new _ _, by omega, (fun v hv e => by
      obtain ⟨v', hg', hR'⟩ := h1.t
      rw [Below.heap_alloc W _ _ (blk_lt hg'), hg'] at hv
      have := Kd.R_lt hR' W.heap.size (by injection hv with hv; injection hv with hv; simp at hv; rw [hv]; exact e.symm)
      omega), rfl⟩
  case body =>
    rintro l pre x a' W hsz5 hgz hxm h1 ⟨Bx, hB, hs9, hbv, rfl⟩
    have H1 := Aside0.mk h1
    have HB := Aside0.mk hB
    have HX : Aside0 (x ∈ dries hs) := ⟨by obtain ⟨s, e⟩ := hxm; unfold dries; rw [e]; simp⟩
    have HLN : Aside0 ((keepT hs hung looks pre).length + 1 ≤ 12960000) := ⟨by
      obtain ⟨s, e⟩ := hxm
      have h1 := keepT_len hs hung looks pre
      have h2 := dries_len HV.out
      unfold dries at h2
      rw [e] at h2
      simp at h2
      omega⟩
    obtain ⟨v, hg, hR⟩ := h1.t
    have hbv := hbv v hg
    have HG := Aside0.mk hg
    have HR := Aside0.mk hR
    obtain ⟨AT, cT, ev, hcT, hC⟩ := Kd.R_reads hR
    obtain ⟨ts, hts⟩ : ∃ ts, keepT hs hung looks pre = ts := ⟨_, rfl⟩
    rw [hts] at H1 HR ev hcT hC HLN
    have HTS := Aside0.mk hts
    have k0 : W.cell? ⟨w.heap.size, 0, none⟩ = some (.int .i64 cs) := (blk_cell h1.c 0).trans rfl
    have k1 : W.cell? ⟨w.heap.size, 1, none⟩ = some (.int .i64 cl) := (blk_cell h1.c 1).trans rfl
    have k2 : W.cell? ⟨w.heap.size, 2, none⟩ = some (.slice A2 hs.length c2) := (blk_cell h1.c 2).trans rfl
    have k3 : W.cell? ⟨w.heap.size, 3, none⟩ = some (.slice A3 hung.length c3) := (blk_cell h1.c 3).trans rfl
    have k4 : W.cell? ⟨w.heap.size, 4, none⟩ = some (.slice A4 looks.length c4) := (blk_cell h1.c 4).trans rfl
    have x0 : W.cell? ⟨Bx, 0, none⟩ = some (.int .i64 (x 0)) := (blk_cell hB 0).trans rfl
    have x1 : W.cell? ⟨Bx, 1, none⟩ = some (.int .i64 (x 1)) := (blk_cell hB 1).trans rfl
    have x2 : W.cell? ⟨Bx, 2, none⟩ = some (.int .i64 (x 2)) := (blk_cell hB 2).trans rfl
    have x3 : W.cell? ⟨Bx, 3, none⟩ = some (.int .i64 (x 3)) := (blk_cell hB 3).trans rfl
    have p0 : W.cell? ⟨w1.heap.size + 1 + 1, 0, none⟩ = some (.pointer (some ⟨w1.heap.size + 1, 0, none⟩)) := (blk_cell h1.q 0).trans rfl
    have g5 : W.cell? ⟨w1.heap.size + 1, 5, none⟩ = some v := (blk_cell hg 5).trans rfl
    subst ev
    have HBV := Aside0.mk hbv
    clear hbv
    clear h1 hB hxm hbox HP0 hg hR hts
    cases hrb : rightB hs hung looks x [] with
    | false =>
      have HK1 : Aside0 (keepT hs hung looks (pre ++ [x]) = ts) := ⟨by rw [keepT_snoc, HTS.out]; unfold keep1; rw [hrb]; simp⟩
      have HRB := Aside0.mk hrb
      clear hrb
      gi_wp2_with fail
      refine wpIn_round_held (S := fun W' => Below W.heap.size W W' ∧ W'.cell? ⟨w.heap.size, 0, none⟩ = some (.int .i64 cs) ∧ W'.cell? ⟨w.heap.size, 1, none⟩ = some (.int .i64 cl) ∧ W'.cell? ⟨w.heap.size, 2, none⟩ = some (.slice A2 hs.length c2) ∧ W'.cell? ⟨w.heap.size, 3, none⟩ = some (.slice A3 hung.length c3) ∧ W'.cell? ⟨w.heap.size, 4, none⟩ = some (.slice A4 looks.length c4) ∧
              W'.cell? ⟨Bx, 0, none⟩ = some (.int .i64 (x 0)) ∧ W'.cell? ⟨Bx, 1, none⟩ = some (.int .i64 (x 1)) ∧ W'.cell? ⟨Bx, 2, none⟩ = some (.int .i64 (x 2)) ∧ W'.cell? ⟨Bx, 3, none⟩ = some (.int .i64 (x 3))) (by kernel_rfl) (by kernel_rfl) (fun ⟨_, _, h⟩ => h) ?hS (fun hHeld => ?_)
      case hS => exact ⟨below_drew (Below.refl _ _), k0, k1, k2, k3, k4, x0, x1, x2, x3⟩
      focus
        refine tkT 0 (some 23) (v := ?_) rfl rfl (.inl ⟨by rfl, ?_⟩) ?_
        rotate_left
        · (intro w hSw; (try dsimp only at hSw); go_simp; with_reducible rfl)
        try simp only [Act.put, List.setIfInBounds_toArray, List.set_cons_zero, List.set_cons_succ]
        refine tkT 1 (some 24) (v := ?_) rfl rfl (.inl ⟨by rfl, ?_⟩) ?_
        rotate_left
        · (intro w hSw; (try dsimp only at hSw); go_simp; with_reducible rfl)
        try simp only [Act.put, List.setIfInBounds_toArray, List.set_cons_zero, List.set_cons_succ]
        refine wpAnyH_ready (rs := [2]) (by kernel_rfl) (by simp) ?_
        refine AllReadyH.cons (o := { dst := some 25, op := Op.call { callee := Callee.value (Operand.func 109), args := #[Operand.tmp 23, Operand.tmp 24, Operand.const (Value.slice none 0 0)], argTypes := #[35, 152, 23] }, type := 4, pos := "ask.go:29", after := #[{ on := 0, ground := Ground.data }, { on := 1, ground := Ground.data }], guard := none }) rfl (fun K hK => ?_) ?_
        go_simp
        ((go_at_call 109; refine (right_calls cs cl A2 A3 A4 none c2 c3 c4 0 hs hung looks x [] _ HV.out (HM.out.later (below_step H1.out.below hHeld.1)) (Kd.C_nil _ _) (Nat.le_refl _) (Nat.zero_le _) (dries_bd HV.out HX.out)).mono ?_; rintro e W2 ⟨rfl, hb2⟩; rw [HRB.out]; have HB2 := Aside0.mk hb2; clear hb2))
        go_wp2_with fail
        refine hK.out _ _ ?_ ?_
        · ((try dsimp only); (first | go_keep | (go_split_ands; refine ⟨below_step (by assumption) HB2.out, later HB2.out (by assumption), later HB2.out (by assumption), later HB2.out (by assumption), later HB2.out (by assumption), later HB2.out (by assumption), later HB2.out (by assumption), later HB2.out (by assumption), later HB2.out (by assumption), later HB2.out (by assumption)⟩)))
        try clear hHeld
        intro hHeld
        clear hK K
        try simp only [Act.put, List.setIfInBounds_toArray, List.set_cons_zero, List.set_cons_succ]
        refine tkT 3 (some 26) (v := ?_) rfl rfl (.inl ⟨by rfl, ?_⟩) ?_
        rotate_left
        · (intro w hSw; (try dsimp only at hSw); go_simp; with_reducible rfl)
        try simp only [Act.put, List.setIfInBounds_toArray, List.set_cons_zero, List.set_cons_succ]
        refine tkT 4 (some 27) (v := undef) rfl rfl (.inr ⟨by rfl, rfl⟩) ?_
        try simp only [Act.put, List.setIfInBounds_toArray, List.set_cons_zero, List.set_cons_succ]
        refine tkT 5 (some 28) (v := undef) rfl rfl (.inr ⟨by rfl, rfl⟩) ?_
        try simp only [Act.put, List.setIfInBounds_toArray, List.set_cons_zero, List.set_cons_succ]
        refine tkT 6 (some 29) (v := undef) rfl rfl (.inr ⟨by rfl, rfl⟩) ?_
        try simp only [Act.put, List.setIfInBounds_toArray, List.set_cons_zero, List.set_cons_succ]
        refine tkT 7 (some 30) (v := undef) rfl rfl (.inr ⟨by rfl, rfl⟩) ?_
        try simp only [Act.put, List.setIfInBounds_toArray, List.set_cons_zero, List.set_cons_succ]
        refine tkT 8 (some 31) (v := undef) rfl rfl (.inr ⟨by rfl, rfl⟩) ?_
        try simp only [Act.put, List.setIfInBounds_toArray, List.set_cons_zero, List.set_cons_succ]
        refine tkT 9 (some 32) (v := undef) rfl rfl (.inr ⟨by rfl, rfl⟩) ?_
        try simp only [Act.put, List.setIfInBounds_toArray, List.set_cons_zero, List.set_cons_succ]
        refine tkT 10 (some 33) (v := undef) rfl rfl (.inr ⟨by rfl, rfl⟩) ?_
        try simp only [Act.put, List.setIfInBounds_toArray, List.set_cons_zero, List.set_cons_succ]
        refine tkT 11 (some 34) (v := undef) rfl rfl (.inr ⟨by rfl, rfl⟩) ?_
        try simp only [Act.put, List.setIfInBounds_toArray, List.set_cons_zero, List.set_cons_succ]
        refine tkT 12 (some 35) (v := undef) rfl rfl (.inr ⟨by rfl, rfl⟩) ?_
        try simp only [Act.put, List.setIfInBounds_toArray, List.set_cons_zero, List.set_cons_succ]
        refine tkT 13 (some 36) (v := undef) rfl rfl (.inr ⟨by rfl, rfl⟩) ?_
        try simp only [Act.put, List.setIfInBounds_toArray, List.set_cons_zero, List.set_cons_succ]
        refine tkT 14 (some 37) (v := undef) rfl rfl (.inr ⟨by rfl, rfl⟩) ?_
        try simp only [Act.put, List.setIfInBounds_toArray, List.set_cons_zero, List.set_cons_succ]
        refine tkT 15 (some 38) (v := undef) rfl rfl (.inr ⟨by rfl, rfl⟩) ?_
        try simp only [Act.put, List.setIfInBounds_toArray, List.set_cons_zero, List.set_cons_succ]
        refine tkT 16 (some 39) (v := undef) rfl rfl (.inr ⟨by rfl, rfl⟩) ?_
        try simp only [Act.put, List.setIfInBounds_toArray, List.set_cons_zero, List.set_cons_succ]
        refine tkT 17 (some 40) (v := undef) rfl rfl (.inr ⟨by rfl, rfl⟩) ?_
        try simp only [Act.put, List.setIfInBounds_toArray, List.set_cons_zero, List.set_cons_succ]
        refine tkT 18 (some 41) (v := undef) rfl rfl (.inr ⟨by rfl, rfl⟩) ?_
        try simp only [Act.put, List.setIfInBounds_toArray, List.set_cons_zero, List.set_cons_succ]
        refine tkT 19 (some 42) (v := undef) rfl rfl (.inr ⟨by rfl, rfl⟩) ?_
        try simp only [Act.put, List.setIfInBounds_toArray, List.set_cons_zero, List.set_cons_succ]
        refine tkT 20 (some 43) (v := undef) rfl rfl (.inr ⟨by rfl, rfl⟩) ?_
        try simp only [Act.put, List.setIfInBounds_toArray, List.set_cons_zero, List.set_cons_succ]
        refine tkT 21 (some 44) (v := undef) rfl rfl (.inr ⟨by rfl, rfl⟩) ?_
        try simp only [Act.put, List.setIfInBounds_toArray, List.set_cons_zero, List.set_cons_succ]
        refine tkT 22 (some 45) (v := undef) rfl rfl (.inr ⟨by rfl, rfl⟩) ?_
        try simp only [Act.put, List.setIfInBounds_toArray, List.set_cons_zero, List.set_cons_succ]
        refine tkT 23 (some 46) (v := undef) rfl rfl (.inr ⟨by rfl, rfl⟩) ?_
        try simp only [Act.put, List.setIfInBounds_toArray, List.set_cons_zero, List.set_cons_succ]
        refine tkT 24 (some 47) (v := undef) rfl rfl (.inr ⟨by rfl, rfl⟩) ?_
        try simp only [Act.put, List.setIfInBounds_toArray, List.set_cons_zero, List.set_cons_succ]
        refine tkT 25 (some 48) (v := undef) rfl rfl (.inr ⟨by rfl, rfl⟩) ?_
        try simp only [Act.put, List.setIfInBounds_toArray, List.set_cons_zero, List.set_cons_succ]
        refine tkT 26 (some 49) (v := ?_) rfl rfl (.inl ⟨by rfl, ?_⟩) ?_
        rotate_left
        · (intro w hSw; (try dsimp only at hSw); go_simp; with_reducible rfl)
        try simp only [Act.put, List.setIfInBounds_toArray, List.set_cons_zero, List.set_cons_succ]
        refine wpAnyH_done (by kernel_rfl) ?_ _
        rotate_left
        exact AllReadyH.nil
      have HBW := Aside0.mk (below_step hHeld.1 (Below.refl _ _))
      clear hHeld
      clear k0 k1 k2 k3 k4 x0 x1 x2 x3 p0 g5
      gi_wp2_with fail
      refine ⟨Rk.of_below HBW.out hgz (by omega) (by omega), ?_⟩
      dsimp only
      rw [HK1.out]
      exact H1.out.same HBW.out (by omega) (by omega) (by omega) (by omega) (by omega) (fun k' h3 h4 => HBW.out.block _ h4)
    | true =>
      have HRB := Aside0.mk hrb
      clear hrb
      by_cases hne : ts = [] ∨ ne4 (rdN ts (ts.length - 1)) x = true
      · have HK1 : Aside0 (keepT hs hung looks (pre ++ [x]) = ts ++ [x]) := ⟨by rw [keepT_snoc, HTS.out]; unfold keep1; rw [if_pos ⟨HRB.out, hne⟩]⟩
        by_cases hemp : ts = []
        · subst hemp
          clear hne
          gi_wp2_with fail
          refine wpIn_round_held (S := fun W' => Below W.heap.size W W' ∧ W'.cell? ⟨w.heap.size, 0, none⟩ = some (.int .i64 cs) ∧ W'.cell? ⟨w.heap.size, 1, none⟩ = some (.int .i64 cl) ∧ W'.cell? ⟨w.heap.size, 2, none⟩ = some (.slice A2 hs.length c2) ∧ W'.cell? ⟨w.heap.size, 3, none⟩ = some (.slice A3 hung.length c3) ∧ W'.cell? ⟨w.heap.size, 4, none⟩ = some (.slice A4 looks.length c4) ∧
                  W'.cell? ⟨Bx, 0, none⟩ = some (.int .i64 (x 0)) ∧ W'.cell? ⟨Bx, 1, none⟩ = some (.int .i64 (x 1)) ∧ W'.cell? ⟨Bx, 2, none⟩ = some (.int .i64 (x 2)) ∧ W'.cell? ⟨Bx, 3, none⟩ = some (.int .i64 (x 3)) ∧ W'.cell? ⟨w1.heap.size + 1 + 1, 0, none⟩ = some (.pointer (some ⟨w1.heap.size + 1, 0, none⟩)) ∧ W'.cell? ⟨w1.heap.size + 1, 5, none⟩ = some (.slice AT 0 cT)) (by kernel_rfl) (by kernel_rfl) (fun ⟨_, _, h⟩ => h) ?hS (fun hHeld => ?_)
          case hS => exact ⟨below_drew (Below.refl _ _), k0, k1, k2, k3, k4, x0, x1, x2, x3, p0, g5⟩
          focus
            refine tkT 0 (some 23) (v := ?_) rfl rfl (.inl ⟨by rfl, ?_⟩) ?_
            rotate_left
            · (intro w hSw; (try dsimp only at hSw); go_simp; with_reducible rfl)
            try simp only [Act.put, List.setIfInBounds_toArray, List.set_cons_zero, List.set_cons_succ]
            refine tkT 1 (some 24) (v := ?_) rfl rfl (.inl ⟨by rfl, ?_⟩) ?_
            rotate_left
            · (intro w hSw; (try dsimp only at hSw); go_simp; with_reducible rfl)
            try simp only [Act.put, List.setIfInBounds_toArray, List.set_cons_zero, List.set_cons_succ]
            refine wpAnyH_ready (rs := [2]) (by kernel_rfl) (by simp) ?_
            refine AllReadyH.cons (o := { dst := some 25, op := Op.call { callee := Callee.value (Operand.func 109), args := #[Operand.tmp 23, Operand.tmp 24, Operand.const (Value.slice none 0 0)], argTypes := #[35, 152, 23] }, type := 4, pos := "ask.go:29", after := #[{ on := 0, ground := Ground.data }, { on := 1, ground := Ground.data }], guard := none }) rfl (fun K hK => ?_) ?_
            go_simp
            ((go_at_call 109; refine (right_calls cs cl A2 A3 A4 none c2 c3 c4 0 hs hung looks x [] _ HV.out (HM.out.later (below_step H1.out.below hHeld.1)) (Kd.C_nil _ _) (Nat.le_refl _) (Nat.zero_le _) (dries_bd HV.out HX.out)).mono ?_; rintro e W2 ⟨rfl, hb2⟩; rw [HRB.out]; have HB2 := Aside0.mk hb2; clear hb2))
            go_wp2_with fail
            refine hK.out _ _ ?_ ?_
            · ((try dsimp only); (first | go_keep | (go_split_ands; refine ⟨below_step (by assumption) HB2.out, later HB2.out (by assumption), later HB2.out (by assumption), later HB2.out (by assumption), later HB2.out (by assumption), later HB2.out (by assumption), later HB2.out (by assumption), later HB2.out (by assumption), later HB2.out (by assumption), later HB2.out (by assumption), later HB2.out (by assumption), later HB2.out (by assumption)⟩)))
            try clear hHeld
            intro hHeld
            clear hK K
            try simp only [Act.put, List.setIfInBounds_toArray, List.set_cons_zero, List.set_cons_succ]
            refine tkT 3 (some 26) (v := ?_) rfl rfl (.inl ⟨by rfl, ?_⟩) ?_
            rotate_left
            · (intro w hSw; (try dsimp only at hSw); go_simp; with_reducible rfl)
            try simp only [Act.put, List.setIfInBounds_toArray, List.set_cons_zero, List.set_cons_succ]
            refine tkT 4 (some 27) (v := ?_) rfl rfl (.inl ⟨by rfl, ?_⟩) ?_
            rotate_left
            · (intro w hSw; (try dsimp only at hSw); go_simp; with_reducible rfl)
            try simp only [Act.put, List.setIfInBounds_toArray, List.set_cons_zero, List.set_cons_succ]
            refine tkT 5 (some 28) (v := ?_) rfl rfl (.inl ⟨by rfl, ?_⟩) ?_
            rotate_left
            · (intro w hSw; (try dsimp only at hSw); go_simp; with_reducible rfl)
            try simp only [Act.put, List.setIfInBounds_toArray, List.set_cons_zero, List.set_cons_succ]
            refine tkT 6 (some 29) (v := ?_) rfl rfl (.inl ⟨by rfl, ?_⟩) ?_
            rotate_left
            · (intro w hSw; (try dsimp only at hSw); go_simp; with_reducible rfl)
            try simp only [Act.put, List.setIfInBounds_toArray, List.set_cons_zero, List.set_cons_succ]
            refine tkT 7 (some 30) (v := ?_) rfl rfl (.inl ⟨by rfl, ?_⟩) ?_
            rotate_left
            · (intro w hSw; (try dsimp only at hSw); go_simp; with_reducible rfl)
            try simp only [Act.put, List.setIfInBounds_toArray, List.set_cons_zero, List.set_cons_succ]
            refine tkT 8 (some 31) (v := ?_) rfl rfl (.inl ⟨by rfl, ?_⟩) ?_
            rotate_left
            · (intro w hSw; (try dsimp only at hSw); go_simp; with_reducible rfl)
            try simp only [Act.put, List.setIfInBounds_toArray, List.set_cons_zero, List.set_cons_succ]
            refine tkT 9 (some 32) (v := ?_) rfl rfl (.inl ⟨by rfl, ?_⟩) ?_
            rotate_left
            · (intro w hSw; (try dsimp only at hSw); go_simp; with_reducible rfl)
            try simp only [Act.put, List.setIfInBounds_toArray, List.set_cons_zero, List.set_cons_succ]
            refine tkT 10 (some 33) (v := ?_) rfl rfl (.inl ⟨by rfl, ?_⟩) ?_
            rotate_left
            · (intro w hSw; (try dsimp only at hSw); go_simp; with_reducible rfl)
            try simp only [Act.put, List.setIfInBounds_toArray, List.set_cons_zero, List.set_cons_succ]
            refine tkT 11 (some 34) (v := undef) rfl rfl (.inr ⟨by rfl, rfl⟩) ?_
            try simp only [Act.put, List.setIfInBounds_toArray, List.set_cons_zero, List.set_cons_succ]
            refine tkT 12 (some 35) (v := undef) rfl rfl (.inr ⟨by rfl, rfl⟩) ?_
            try simp only [Act.put, List.setIfInBounds_toArray, List.set_cons_zero, List.set_cons_succ]
            refine tkT 13 (some 36) (v := undef) rfl rfl (.inr ⟨by rfl, rfl⟩) ?_
            try simp only [Act.put, List.setIfInBounds_toArray, List.set_cons_zero, List.set_cons_succ]
            refine tkT 14 (some 37) (v := undef) rfl rfl (.inr ⟨by rfl, rfl⟩) ?_
            try simp only [Act.put, List.setIfInBounds_toArray, List.set_cons_zero, List.set_cons_succ]
            refine tkT 15 (some 38) (v := undef) rfl rfl (.inr ⟨by rfl, rfl⟩) ?_
            try simp only [Act.put, List.setIfInBounds_toArray, List.set_cons_zero, List.set_cons_succ]
            refine tkT 16 (some 39) (v := undef) rfl rfl (.inr ⟨by rfl, rfl⟩) ?_
            try simp only [Act.put, List.setIfInBounds_toArray, List.set_cons_zero, List.set_cons_succ]
            refine tkT 17 (some 40) (v := undef) rfl rfl (.inr ⟨by rfl, rfl⟩) ?_
            try simp only [Act.put, List.setIfInBounds_toArray, List.set_cons_zero, List.set_cons_succ]
            refine tkT 18 (some 41) (v := undef) rfl rfl (.inr ⟨by rfl, rfl⟩) ?_
            try simp only [Act.put, List.setIfInBounds_toArray, List.set_cons_zero, List.set_cons_succ]
            refine tkT 19 (some 42) (v := undef) rfl rfl (.inr ⟨by rfl, rfl⟩) ?_
            try simp only [Act.put, List.setIfInBounds_toArray, List.set_cons_zero, List.set_cons_succ]
            refine tkT 20 (some 43) (v := undef) rfl rfl (.inr ⟨by rfl, rfl⟩) ?_
            try simp only [Act.put, List.setIfInBounds_toArray, List.set_cons_zero, List.set_cons_succ]
            refine tkT 21 (some 44) (v := undef) rfl rfl (.inr ⟨by rfl, rfl⟩) ?_
            try simp only [Act.put, List.setIfInBounds_toArray, List.set_cons_zero, List.set_cons_succ]
            refine tkT 22 (some 45) (v := undef) rfl rfl (.inr ⟨by rfl, rfl⟩) ?_
            try simp only [Act.put, List.setIfInBounds_toArray, List.set_cons_zero, List.set_cons_succ]
            refine tkT 23 (some 46) (v := undef) rfl rfl (.inr ⟨by rfl, rfl⟩) ?_
            try simp only [Act.put, List.setIfInBounds_toArray, List.set_cons_zero, List.set_cons_succ]
            refine tkT 24 (some 47) (v := undef) rfl rfl (.inr ⟨by rfl, rfl⟩) ?_
            try simp only [Act.put, List.setIfInBounds_toArray, List.set_cons_zero, List.set_cons_succ]
            refine tkT 25 (some 48) (v := ?_) rfl rfl (.inl ⟨by rfl, ?_⟩) ?_
            rotate_left
            · (intro w hSw; (try dsimp only at hSw); go_simp; with_reducible rfl)
            try simp only [Act.put, List.setIfInBounds_toArray, List.set_cons_zero, List.set_cons_succ]
            refine tkT 26 (some 49) (v := ?_) rfl rfl (.inl ⟨by rfl, ?_⟩) ?_
            rotate_left
            · (intro w hSw; (try dsimp only at hSw); go_simp; with_reducible rfl)
            try simp only [Act.put, List.setIfInBounds_toArray, List.set_cons_zero, List.set_cons_succ]
            refine wpAnyH_done (by kernel_rfl) ?_ _
            rotate_left
            exact AllReadyH.nil
          have HBW := Aside0.mk (below_step hHeld.1 (Below.refl _ _))
          clear hHeld
          try subst hL
          have HG2 := Aside0.mk (blk_below HG.out HBW.out)
          have HX2 := Aside0.mk (blk_below HB.out HBW.out)
          have HQ2 := Aside0.mk (blk_below H1.out.q HBW.out)
          have HR2 := Aside0.mk (Kd.R_below HR.out HBW.out)
          have HN2 := Aside0.mk (Below.size HBW.out)
          have HLO := Aside0.mk (below_step H1.out.below HBW.out)
          clear k0 k1 k2 k3 k4 x0 x1 x2 x3 p0 g5
          have hBg : w1.heap.size + 1 ≠ Bx := by omega
          have hBq : w1.heap.size + 1 + 1 ≠ Bx := by omega
          have x0 : W2.cell? ⟨Bx, 0, none⟩ = some (.int .i64 (x 0)) := (blk_cell HX2.out 0).trans rfl
          have x1 : W2.cell? ⟨Bx, 1, none⟩ = some (.int .i64 (x 1)) := (blk_cell HX2.out 1).trans rfl
          have x2 : W2.cell? ⟨Bx, 2, none⟩ = some (.int .i64 (x 2)) := (blk_cell HX2.out 2).trans rfl
          have x3 : W2.cell? ⟨Bx, 3, none⟩ = some (.int .i64 (x 3)) := (blk_cell HX2.out 3).trans rfl
          have p0 : W2.cell? ⟨w1.heap.size + 1 + 1, 0, none⟩ = some (.pointer (some ⟨w1.heap.size + 1, 0, none⟩)) := (blk_cell HQ2.out 0).trans rfl
          have g5 : W2.cell? ⟨w1.heap.size + 1, 5, none⟩ = some (.slice AT ([] : List (Nat → Int)).length cT) := (blk_cell HG2.out 5).trans rfl
          have f5 := blk_frozen HG2.out 5
          have gz := blk_lt HG2.out
          have aP := kN_mkM W2.drew w.heap.size (fun _ => False) x
          have aF : ∀ k, W2.drew.heap.size ≤ k → w1.heap.size + 4 + 5 ≤ k := by intro k hk; have := HN2.out; have : W2.heap.size ≤ k := hk; omega
          have aO := Kd.R_drew HR2.out
          have aB := below_drew HLO.out
          have aS : w.heap.size ≤ W2.drew.heap.size := Below.size aB
          have aL : (([] : List (Nat → Int)).length + 1) * 32 ≤ 140737488355328 := by have := HLN.out; first | omega | (simp only [List.length_nil] at this ⊢; omega)
          gi_wp2_with fail
          refine wpIn_round_held (S := fun W' => W'.cell? ⟨w1.heap.size + 1 + 1, 0, none⟩ = some (.pointer (some ⟨w1.heap.size + 1, 0, none⟩)) ∧
            W'.cell? ⟨Bx, 0, none⟩ = some (.int .i64 (x 0)) ∧ W'.cell? ⟨Bx, 1, none⟩ = some (.int .i64 (x 1)) ∧ W'.cell? ⟨Bx, 2, none⟩ = some (.int .i64 (x 2)) ∧ W'.cell? ⟨Bx, 3, none⟩ = some (.int .i64 (x 3))) (by kernel_rfl) (by kernel_rfl) (fun ⟨_, _, h⟩ => h) ?hS (fun hHeld => ?_)
          case hS => exact ⟨p0, x0, x1, x2, x3⟩
          focus
            refine tkT 0 (some 50) (v := ?_) rfl rfl (.inl ⟨by rfl, ?_⟩) ?_
            rotate_left
            · (intro w hSw; (try dsimp only at hSw); go_simp; with_reducible rfl)
            try simp only [Act.put, List.setIfInBounds_toArray, List.set_cons_zero, List.set_cons_succ]
            refine tkT 1 (some 51) (v := ?_) rfl rfl (.inl ⟨by rfl, ?_⟩) ?_
            rotate_left
            · (intro w hSw; (try dsimp only at hSw); go_simp; with_reducible rfl)
            try simp only [Act.put, List.setIfInBounds_toArray, List.set_cons_zero, List.set_cons_succ]
            refine tkT 2 (some 52) (v := ?_) rfl rfl (.inl ⟨by rfl, ?_⟩) ?_
            rotate_left
            · (intro w hSw; (try dsimp only at hSw); go_simp; with_reducible rfl)
            try simp only [Act.put, List.setIfInBounds_toArray, List.set_cons_zero, List.set_cons_succ]
            refine tkT 3 (some 53) (v := ?_) rfl rfl (.inl ⟨by rfl, ?_⟩) ?_
            rotate_left
            · (intro w hSw; (try dsimp only at hSw); go_simp; with_reducible rfl)
            try simp only [Act.put, List.setIfInBounds_toArray, List.set_cons_zero, List.set_cons_succ]
            refine tkT 5 (some 55) (v := ?_) rfl rfl (.inl ⟨by rfl, ?_⟩) ?_
            rotate_left
            · (intro w hSw; (try dsimp only at hSw); go_simp; with_reducible rfl)
            try simp only [Act.put, List.setIfInBounds_toArray, List.set_cons_zero, List.set_cons_succ]
            refine wpAnyH_ready (rs := [4, 6]) (by kernel_rfl) (by simp) ?_
            refine AllReadyH.cons (o := { dst := some 54, op := Op.load 141 (Operand.tmp 53), type := 141, pos := "ask.go:30", after := #[{ on := 3, ground := Ground.data }], guard := none }) rfl (fun K hK => ?_) ?_
            go_simp
            refine hK.out _ _ ?_ ?_
            · ((try dsimp only); (first | go_keep | (go_split_ands; refine ⟨later (below_alloc (Below.refl _ _) _) (by assumption), later (below_alloc (Below.refl _ _) _) (by assumption), later (below_alloc (Below.refl _ _) _) (by assumption), later (below_alloc (Below.refl _ _) _) (by assumption), later (below_alloc (Below.refl _ _) _) (by assumption)⟩)))
            try clear hHeld
            intro hHeld
            clear hK K
            try simp only [Act.put, List.setIfInBounds_toArray, List.set_cons_zero, List.set_cons_succ]
            refine wpAnyH_ready (rs := [6]) (by kernel_rfl) (by simp) ?_
            refine AllReadyH.cons (o := { dst := some 56, op := Op.buildSlice 141 1 #[(0, Operand.tmp 55)], type := 141, pos := "ask.go:30", after := #[{ on := 5, ground := Ground.data }], guard := none }) rfl (fun K hK => ?_) ?_
            go_simp
            refine hK.out _ _ ?_ ?_
            · ((try dsimp only); (first | go_keep | (go_split_ands; refine ⟨later (below_alloc (Below.refl _ _) _) (by assumption), later (below_alloc (Below.refl _ _) _) (by assumption), later (below_alloc (Below.refl _ _) _) (by assumption), later (below_alloc (Below.refl _ _) _) (by assumption), later (below_alloc (Below.refl _ _) _) (by assumption)⟩)))
            try clear hHeld
            intro hHeld
            clear hK K
            try simp only [Act.put, List.setIfInBounds_toArray, List.set_cons_zero, List.set_cons_succ]
            refine wpAnyH_ready (rs := [7]) (by kernel_rfl) (by simp) ?_
            refine AllReadyH.cons (o := { dst := some 57, op := Op.call { callee := Callee.builtin Builtin.append, args := #[Operand.tmp 54, Operand.tmp 56], argTypes := #[141, 141] }, type := 141, pos := "ask.go:30", after := #[{ on := 4, ground := Ground.data }, { on := 6, ground := Ground.data }], guard := none }) rfl (fun K hK => ?_) ?_
            ((refine Kd.R_append_step kN (w0 := w) w.heap.size (by rfl) (.tmp 54) (.tmp 56) 141 152 (.agg #[(.int .i64 0), (.int .i64 0), (.int .i64 0), (.int .i64 0)]) 32 rfl Try.underlying141 (by kernel_rfl) rfl (by decide) (by omega) (.slice AT ([] : List (Nat → Int)).length cT) ([] : List (Nat → Int)) x [.int .i64 (x 0), .int .i64 (x 1), .int .i64 (x 2), .int .i64 (x 3)] (fun k => w1.heap.size + 4 + 5 ≤ k) (fun _ => False) rfl rfl aP (fun _ hk => hk.elim) aF aO aB aS aL ?_; intro v1 w3 ho hb hg hat; obtain ⟨A1, C1, hv1⟩ := Kd.R_slice ho; obtain ⟨N1, hN1⟩ : ∃ N1, (([] : List (Nat → Int)) ++ [x]).length = N1 := ⟨_, rfl⟩; rw [hN1] at hv1; subst hv1; have HN1 := Aside0.mk hN1; clear hN1; have HO3 := Aside0.mk ho; have HB3 := Aside0.mk hb; have HGB := Aside0.mk hg; have HG3 := Aside0.mk (blk_grown (blk_drew HG2.out) hg (Kd.R_ne HR2.out HG2.out (by decide))); have HQ3 := Aside0.mk (blk_grown (blk_drew HQ2.out) hg (Kd.R_ne HR2.out HQ2.out (by decide))); have HX3 := Aside0.mk (blk_grown (blk_drew HX2.out) hg HBV.out); clear ho hb hg hat; have x30 : w3.cell? ⟨Bx, 0, none⟩ = some (.int .i64 (x 0)) := (blk_cell HX3.out 0).trans rfl; have x31 : w3.cell? ⟨Bx, 1, none⟩ = some (.int .i64 (x 1)) := (blk_cell HX3.out 1).trans rfl; have x32 : w3.cell? ⟨Bx, 2, none⟩ = some (.int .i64 (x 2)) := (blk_cell HX3.out 2).trans rfl; have x33 : w3.cell? ⟨Bx, 3, none⟩ = some (.int .i64 (x 3)) := (blk_cell HX3.out 3).trans rfl; have p30 : w3.cell? ⟨w1.heap.size + 1 + 1, 0, none⟩ = some (.pointer (some ⟨w1.heap.size + 1, 0, none⟩)) := (blk_cell HQ3.out 0).trans rfl; have g35 : w3.cell? ⟨w1.heap.size + 1, 5, none⟩ = some (.slice AT ([] : List (Nat → Int)).length cT) := (blk_cell HG3.out 5).trans rfl; have f35 := blk_frozen HG3.out 5))
            refine hK.out _ _ ?_ ?_
            · ((try dsimp only); (first | go_keep | (go_split_ands; refine ⟨later (below_alloc (Below.refl _ _) _) (by assumption), later (below_alloc (Below.refl _ _) _) (by assumption), later (below_alloc (Below.refl _ _) _) (by assumption), later (below_alloc (Below.refl _ _) _) (by assumption), later (below_alloc (Below.refl _ _) _) (by assumption)⟩)))
            try clear hHeld
            intro hHeld
            clear hK K
            try simp only [Act.put, List.setIfInBounds_toArray, List.set_cons_zero, List.set_cons_succ]
            refine tkT 8 (some 58) (v := ?_) rfl rfl (.inl ⟨by rfl, ?_⟩) ?_
            rotate_left
            · (intro w hSw; (try dsimp only at hSw); go_simp; with_reducible rfl)
            try simp only [Act.put, List.setIfInBounds_toArray, List.set_cons_zero, List.set_cons_succ]
            refine tkT 9 (some 59) (v := ?_) rfl rfl (.inl ⟨by rfl, ?_⟩) ?_
            rotate_left
            · (intro w hSw; (try dsimp only at hSw); go_simp; with_reducible rfl)
            try simp only [Act.put, List.setIfInBounds_toArray, List.set_cons_zero, List.set_cons_succ]
            refine wpAnyH_ready (rs := [10]) (by kernel_rfl) (by simp) ?_
            refine AllReadyH.cons (o := { dst := none, op := Op.store 141 (Operand.tmp 59) (Operand.tmp 57), type := 0, pos := "ask.go:30", after := #[{ on := 9, ground := Ground.data }, { on := 7, ground := Ground.data }, { on := 7, ground := Ground.chain }, { on := 0, ground := Ground.phase }, { on := 1, ground := Ground.phase }, { on := 2, ground := Ground.phase }, { on := 3, ground := Ground.phase }, { on := 4, ground := Ground.phase }, { on := 5, ground := Ground.phase }, { on := 6, ground := Ground.phase }, { on := 7, ground := Ground.phase }], guard := none }) rfl (fun K hK => ?_) ?_
            go_simp
            refine hK.out _ _ ?_ ?_
            · ((try dsimp only); (first | go_keep | (go_split_ands; refine ⟨later (below_alloc (Below.refl _ _) _) (by assumption), later (below_alloc (Below.refl _ _) _) (by assumption), later (below_alloc (Below.refl _ _) _) (by assumption), later (below_alloc (Below.refl _ _) _) (by assumption), later (below_alloc (Below.refl _ _) _) (by assumption)⟩)))
            try clear hHeld
            intro hHeld
            clear hK K
            try simp only [Act.put, List.setIfInBounds_toArray, List.set_cons_zero, List.set_cons_succ]
            refine wpAnyH_done (by kernel_rfl) ?_ _
            rotate_left
            exact AllReadyH.nil
            exact AllReadyH.nil
            exact AllReadyH.nil
            refine AllReadyH.cons (o := { dst := some 56, op := Op.buildSlice 141 1 #[(0, Operand.tmp 55)], type := 141, pos := "ask.go:30", after := #[{ on := 5, ground := Ground.data }], guard := none }) rfl (fun K hK => ?_) ?_
            go_simp
            refine hK.out _ _ ?_ ?_
            · ((try dsimp only); (first | go_keep | (go_split_ands; refine ⟨later (below_alloc (Below.refl _ _) _) (by assumption), later (below_alloc (Below.refl _ _) _) (by assumption), later (below_alloc (Below.refl _ _) _) (by assumption), later (below_alloc (Below.refl _ _) _) (by assumption), later (below_alloc (Below.refl _ _) _) (by assumption)⟩)))
            try clear hHeld
            intro hHeld
            clear hK K
            try simp only [Act.put, List.setIfInBounds_toArray, List.set_cons_zero, List.set_cons_succ]
            refine wpAnyH_ready (rs := [4]) (by kernel_rfl) (by simp) ?_
            refine AllReadyH.cons (o := { dst := some 54, op := Op.load 141 (Operand.tmp 53), type := 141, pos := "ask.go:30", after := #[{ on := 3, ground := Ground.data }], guard := none }) rfl (fun K hK => ?_) ?_
            go_simp
            refine hK.out _ _ ?_ ?_
            · ((try dsimp only); (first | go_keep | (go_split_ands; refine ⟨later (below_alloc (Below.refl _ _) _) (by assumption), later (below_alloc (Below.refl _ _) _) (by assumption), later (below_alloc (Below.refl _ _) _) (by assumption), later (below_alloc (Below.refl _ _) _) (by assumption), later (below_alloc (Below.refl _ _) _) (by assumption)⟩)))
            try clear hHeld
            intro hHeld
            clear hK K
            try simp only [Act.put, List.setIfInBounds_toArray, List.set_cons_zero, List.set_cons_succ]
            refine wpAnyH_ready (rs := [7]) (by kernel_rfl) (by simp) ?_
            refine AllReadyH.cons (o := { dst := some 57, op := Op.call { callee := Callee.builtin Builtin.append, args := #[Operand.tmp 54, Operand.tmp 56], argTypes := #[141, 141] }, type := 141, pos := "ask.go:30", after := #[{ on := 4, ground := Ground.data }, { on := 6, ground := Ground.data }], guard := none }) rfl (fun K hK => ?_) ?_
            ((refine Kd.R_append_step kN (w0 := w) w.heap.size (by rfl) (.tmp 54) (.tmp 56) 141 152 (.agg #[(.int .i64 0), (.int .i64 0), (.int .i64 0), (.int .i64 0)]) 32 rfl Try.underlying141 (by kernel_rfl) rfl (by decide) (by omega) (.slice AT ([] : List (Nat → Int)).length cT) ([] : List (Nat → Int)) x [.int .i64 (x 0), .int .i64 (x 1), .int .i64 (x 2), .int .i64 (x 3)] (fun k => w1.heap.size + 4 + 5 ≤ k) (fun _ => False) rfl rfl aP (fun _ hk => hk.elim) aF aO aB aS aL ?_; intro v1 w3 ho hb hg hat; obtain ⟨A1, C1, hv1⟩ := Kd.R_slice ho; obtain ⟨N1, hN1⟩ : ∃ N1, (([] : List (Nat → Int)) ++ [x]).length = N1 := ⟨_, rfl⟩; rw [hN1] at hv1; subst hv1; have HN1 := Aside0.mk hN1; clear hN1; have HO3 := Aside0.mk ho; have HB3 := Aside0.mk hb; have HGB := Aside0.mk hg; have HG3 := Aside0.mk (blk_grown (blk_drew HG2.out) hg (Kd.R_ne HR2.out HG2.out (by decide))); have HQ3 := Aside0.mk (blk_grown (blk_drew HQ2.out) hg (Kd.R_ne HR2.out HQ2.out (by decide))); have HX3 := Aside0.mk (blk_grown (blk_drew HX2.out) hg HBV.out); clear ho hb hg hat; have x30 : w3.cell? ⟨Bx, 0, none⟩ = some (.int .i64 (x 0)) := (blk_cell HX3.out 0).trans rfl; have x31 : w3.cell? ⟨Bx, 1, none⟩ = some (.int .i64 (x 1)) := (blk_cell HX3.out 1).trans rfl; have x32 : w3.cell? ⟨Bx, 2, none⟩ = some (.int .i64 (x 2)) := (blk_cell HX3.out 2).trans rfl; have x33 : w3.cell? ⟨Bx, 3, none⟩ = some (.int .i64 (x 3)) := (blk_cell HX3.out 3).trans rfl; have p30 : w3.cell? ⟨w1.heap.size + 1 + 1, 0, none⟩ = some (.pointer (some ⟨w1.heap.size + 1, 0, none⟩)) := (blk_cell HQ3.out 0).trans rfl; have g35 : w3.cell? ⟨w1.heap.size + 1, 5, none⟩ = some (.slice AT ([] : List (Nat → Int)).length cT) := (blk_cell HG3.out 5).trans rfl; have f35 := blk_frozen HG3.out 5))
            refine hK.out _ _ ?_ ?_
            · ((try dsimp only); (first | go_keep | (go_split_ands; refine ⟨later (below_alloc (Below.refl _ _) _) (by assumption), later (below_alloc (Below.refl _ _) _) (by assumption), later (below_alloc (Below.refl _ _) _) (by assumption), later (below_alloc (Below.refl _ _) _) (by assumption), later (below_alloc (Below.refl _ _) _) (by assumption)⟩)))
            try clear hHeld
            intro hHeld
            clear hK K
            try simp only [Act.put, List.setIfInBounds_toArray, List.set_cons_zero, List.set_cons_succ]
            refine tkT 8 (some 58) (v := ?_) rfl rfl (.inl ⟨by rfl, ?_⟩) ?_
            rotate_left
            · (intro w hSw; (try dsimp only at hSw); go_simp; with_reducible rfl)
            try simp only [Act.put, List.setIfInBounds_toArray, List.set_cons_zero, List.set_cons_succ]
            refine tkT 9 (some 59) (v := ?_) rfl rfl (.inl ⟨by rfl, ?_⟩) ?_
            rotate_left
            · (intro w hSw; (try dsimp only at hSw); go_simp; with_reducible rfl)
            try simp only [Act.put, List.setIfInBounds_toArray, List.set_cons_zero, List.set_cons_succ]
            refine wpAnyH_ready (rs := [10]) (by kernel_rfl) (by simp) ?_
            refine AllReadyH.cons (o := { dst := none, op := Op.store 141 (Operand.tmp 59) (Operand.tmp 57), type := 0, pos := "ask.go:30", after := #[{ on := 9, ground := Ground.data }, { on := 7, ground := Ground.data }, { on := 7, ground := Ground.chain }, { on := 0, ground := Ground.phase }, { on := 1, ground := Ground.phase }, { on := 2, ground := Ground.phase }, { on := 3, ground := Ground.phase }, { on := 4, ground := Ground.phase }, { on := 5, ground := Ground.phase }, { on := 6, ground := Ground.phase }, { on := 7, ground := Ground.phase }], guard := none }) rfl (fun K hK => ?_) ?_
            go_simp
            refine hK.out _ _ ?_ ?_
            · ((try dsimp only); (first | go_keep | (go_split_ands; refine ⟨later (below_alloc (Below.refl _ _) _) (by assumption), later (below_alloc (Below.refl _ _) _) (by assumption), later (below_alloc (Below.refl _ _) _) (by assumption), later (below_alloc (Below.refl _ _) _) (by assumption), later (below_alloc (Below.refl _ _) _) (by assumption)⟩)))
            try clear hHeld
            intro hHeld
            clear hK K
            try simp only [Act.put, List.setIfInBounds_toArray, List.set_cons_zero, List.set_cons_succ]
            refine wpAnyH_done (by kernel_rfl) ?_ _
            rotate_left
            exact AllReadyH.nil
            exact AllReadyH.nil
            exact AllReadyH.nil
            exact AllReadyH.nil
          all_goals
            clear x0 x1 x2 x3 p0 g5 f5 x30 x31 x32 x33 p30 g35 f35 hHeld
            gi_wp2_with fail
            have hown : ∀ k, (Value.slice AT ([] : List (Nat → Int)).length cT).ownBlock = some k → w1.heap.size + 4 + 5 ≤ k := HR2.out.1
            have hfar : ∀ k, k < w1.heap.size + 9 → k ≠ w1.heap.size + 1 → (w3.setCell ⟨w1.heap.size + 1, 5, none⟩ (.slice A1 N1 C1)).heap[k]? = W.heap[k]? := by
              intro k hk hne
              have h1 := HGB.out.block k (by have := HN2.out; have : W2.drew.heap.size = W2.heap.size := rfl; omega) (fun e => by have := hown k e.symm; omega)
              exact (Below.heap_setCell w3 ⟨w1.heap.size + 1, 5, none⟩ (.slice A1 N1 C1) k hne).trans (h1.trans (HBW.out.block k (by omega)))
            have hbl : Below w.heap.size W (w3.setCell ⟨w1.heap.size + 1, 5, none⟩ (.slice A1 N1 C1)) :=
              (((below_drew (HBW.out.mono (by omega))).grown HGB.out aS (fun k e => by have := hown k e; omega)).setCell (by simp; omega) _)
            refine ⟨⟨hbl, hfar _ (by omega) (by omega), fun k h3 h4 => hfar k (by omega) (by omega)⟩, ?_⟩
            dsimp only
            rw [HK1.out]
            exact ⟨H1.out.below.trans hbl, (hfar _ (by omega) (by omega)).trans H1.out.c, (hfar _ (by omega) (by omega)).trans H1.out.k, (hfar _ (by omega) (by omega)).trans H1.out.q, _, blk_put HG3.out 5 _ rfl, Kd.R_far HO3.out (fun k hk => by simp; omega) _⟩
        · have hne : ne4 (rdN ts (ts.length - 1)) x = true := hne.resolve_left hemp
          have hpos : 0 < ts.length := List.length_pos_iff.2 hemp
          obtain ⟨ad, eA, t0, t1, t2, t3⟩ := at_N hC (ts.length - 1) (by omega)
          subst eA
          have q0 : ((ts.length : Int) == 0) = false := beq_eq_false_iff_ne.2 (by omega)
          have q1 : IntKind.i64.wrap ((ts.length : Int) - 1) = ((ts.length - 1 : Nat) : Int) := by
            have := HLN.out
            rw [show IntKind.i64.wrap ((ts.length : Int) - 1) = (ts.length : Int) - 1 from IntWalk.i64_in _ (by omega)]
            omega
          obtain ⟨n, hn⟩ : ∃ n, ts.length - 1 = n := ⟨_, rfl⟩
          rw [hn] at t0 t1 t2 t3 q1 hne
          have hn0 : (0 : Int) ≤ n := by omega
          have hn1 : (n : Int) < ts.length := by omega
          obtain ⟨L, hL⟩ : ∃ L, ts.length = L := ⟨_, rfl⟩
          rw [hL] at q0 q1 hn1 g5 hpos
          have hEQ : ∀ W, (Op.equalIn 10000 152 (.agg #[.int .i64 (rdN ts n 0), .int .i64 (rdN ts n 1), .int .i64 (rdN ts n 2), .int .i64 (rdN ts n 3)]) (.agg #[.int .i64 (x 0), .int .i64 (x 1), .int .i64 (x 2), .int .i64 (x 3)])).run Try.prog W = .ok false W := fun W => by rw [eq4, hne]; rfl
          clear hne hn hC hemp
          gi_wp2_with fail
          refine wpIn_round_held (S := fun W' => Below W.heap.size W W' ∧ W'.cell? ⟨w.heap.size, 0, none⟩ = some (.int .i64 cs) ∧ W'.cell? ⟨w.heap.size, 1, none⟩ = some (.int .i64 cl) ∧ W'.cell? ⟨w.heap.size, 2, none⟩ = some (.slice A2 hs.length c2) ∧ W'.cell? ⟨w.heap.size, 3, none⟩ = some (.slice A3 hung.length c3) ∧ W'.cell? ⟨w.heap.size, 4, none⟩ = some (.slice A4 looks.length c4) ∧
                  W'.cell? ⟨Bx, 0, none⟩ = some (.int .i64 (x 0)) ∧ W'.cell? ⟨Bx, 1, none⟩ = some (.int .i64 (x 1)) ∧ W'.cell? ⟨Bx, 2, none⟩ = some (.int .i64 (x 2)) ∧ W'.cell? ⟨Bx, 3, none⟩ = some (.int .i64 (x 3)) ∧ W'.cell? ⟨w1.heap.size + 1 + 1, 0, none⟩ = some (.pointer (some ⟨w1.heap.size + 1, 0, none⟩)) ∧ W'.cell? ⟨w1.heap.size + 1, 5, none⟩ = some (.slice (some ad) L cT) ∧
                  W'.cell? (ad.add (n * 4)) = some (.int .i64 (rdN ts n 0)) ∧ W'.cell? ⟨(ad.add (n * 4)).block, (ad.add (n * 4)).off + 1, none⟩ = some (.int .i64 (rdN ts n 1)) ∧ W'.cell? ⟨(ad.add (n * 4)).block, (ad.add (n * 4)).off + 2, none⟩ = some (.int .i64 (rdN ts n 2)) ∧ W'.cell? ⟨(ad.add (n * 4)).block, (ad.add (n * 4)).off + 3, none⟩ = some (.int .i64 (rdN ts n 3))) (by kernel_rfl) (by kernel_rfl) (fun ⟨_, _, h⟩ => h) ?hS (fun hHeld => ?_)
          case hS => exact ⟨below_drew (Below.refl _ _), k0, k1, k2, k3, k4, x0, x1, x2, x3, p0, g5, t0, t1, t2, t3⟩
          focus
            refine tkT 0 (some 23) (v := ?_) rfl rfl (.inl ⟨by rfl, ?_⟩) ?_
            rotate_left
            · (intro w hSw; (try dsimp only at hSw); go_simp; with_reducible rfl)
            try simp only [Act.put, List.setIfInBounds_toArray, List.set_cons_zero, List.set_cons_succ]
            refine tkT 1 (some 24) (v := ?_) rfl rfl (.inl ⟨by rfl, ?_⟩) ?_
            rotate_left
            · (intro w hSw; (try dsimp only at hSw); go_simp; with_reducible rfl)
            try simp only [Act.put, List.setIfInBounds_toArray, List.set_cons_zero, List.set_cons_succ]
            refine wpAnyH_ready (rs := [2]) (by kernel_rfl) (by simp) ?_
            refine AllReadyH.cons (o := { dst := some 25, op := Op.call { callee := Callee.value (Operand.func 109), args := #[Operand.tmp 23, Operand.tmp 24, Operand.const (Value.slice none 0 0)], argTypes := #[35, 152, 23] }, type := 4, pos := "ask.go:29", after := #[{ on := 0, ground := Ground.data }, { on := 1, ground := Ground.data }], guard := none }) rfl (fun K hK => ?_) ?_
            go_simp
            ((go_at_call 109; refine (right_calls cs cl A2 A3 A4 none c2 c3 c4 0 hs hung looks x [] _ HV.out (HM.out.later (below_step H1.out.below hHeld.1)) (Kd.C_nil _ _) (Nat.le_refl _) (Nat.zero_le _) (dries_bd HV.out HX.out)).mono ?_; rintro e W2 ⟨rfl, hb2⟩; rw [HRB.out]; have HB2 := Aside0.mk hb2; clear hb2))
            go_wp2_with fail
            refine hK.out _ _ ?_ ?_
            · ((try dsimp only); (first | go_keep | (go_split_ands; refine ⟨below_step (by assumption) HB2.out, later HB2.out (by assumption), later HB2.out (by assumption), later HB2.out (by assumption), later HB2.out (by assumption), later HB2.out (by assumption), later HB2.out (by assumption), later HB2.out (by assumption), later HB2.out (by assumption), later HB2.out (by assumption), later HB2.out (by assumption), later HB2.out (by assumption), later HB2.out (by assumption), later HB2.out (by assumption), later HB2.out (by assumption), later HB2.out (by assumption)⟩)))
            try clear hHeld
            intro hHeld
            clear hK K
            try simp only [Act.put, List.setIfInBounds_toArray, List.set_cons_zero, List.set_cons_succ]
            refine tkT 3 (some 26) (v := ?_) rfl rfl (.inl ⟨by rfl, ?_⟩) ?_
            rotate_left
            · (intro w hSw; (try dsimp only at hSw); go_simp; with_reducible rfl)
            try simp only [Act.put, List.setIfInBounds_toArray, List.set_cons_zero, List.set_cons_succ]
            refine tkT 4 (some 27) (v := ?_) rfl rfl (.inl ⟨by rfl, ?_⟩) ?_
            rotate_left
            · (intro w hSw; (try dsimp only at hSw); go_simp; with_reducible rfl)
            try simp only [Act.put, List.setIfInBounds_toArray, List.set_cons_zero, List.set_cons_succ]
            refine tkT 5 (some 28) (v := ?_) rfl rfl (.inl ⟨by rfl, ?_⟩) ?_
            rotate_left
            · (intro w hSw; (try dsimp only at hSw); go_simp; with_reducible rfl)
            try simp only [Act.put, List.setIfInBounds_toArray, List.set_cons_zero, List.set_cons_succ]
            refine tkT 6 (some 29) (v := ?_) rfl rfl (.inl ⟨by rfl, ?_⟩) ?_
            rotate_left
            · (intro w hSw; (try dsimp only at hSw); go_simp; with_reducible rfl)
            try simp only [Act.put, List.setIfInBounds_toArray, List.set_cons_zero, List.set_cons_succ]
            refine tkT 7 (some 30) (v := ?_) rfl rfl (.inl ⟨by rfl, ?_⟩) ?_
            rotate_left
            · (intro w hSw; (try dsimp only at hSw); go_simp; with_reducible rfl)
            try simp only [Act.put, List.setIfInBounds_toArray, List.set_cons_zero, List.set_cons_succ]
            refine tkT 8 (some 31) (v := ?_) rfl rfl (.inl ⟨by rfl, ?_⟩) ?_
            rotate_left
            · (intro w hSw; (try dsimp only at hSw); go_simp; with_reducible rfl)
            try simp only [Act.put, List.setIfInBounds_toArray, List.set_cons_zero, List.set_cons_succ]
            refine tkT 9 (some 32) (v := ?_) rfl rfl (.inl ⟨by rfl, ?_⟩) ?_
            rotate_left
            · (intro w hSw; (try dsimp only at hSw); go_simp; with_reducible rfl)
            try simp only [Act.put, List.setIfInBounds_toArray, List.set_cons_zero, List.set_cons_succ]
            refine tkT 10 (some 33) (v := ?_) rfl rfl (.inl ⟨by rfl, ?_⟩) ?_
            rotate_left
            · (intro w hSw; (try dsimp only at hSw); go_simp; with_reducible rfl)
            try simp only [Act.put, List.setIfInBounds_toArray, List.set_cons_zero, List.set_cons_succ]
            refine tkT 11 (some 34) (v := ?_) rfl rfl (.inl ⟨by rfl, ?_⟩) ?_
            rotate_left
            · (intro w hSw; (try dsimp only at hSw); go_simp; with_reducible rfl)
            try simp only [Act.put, List.setIfInBounds_toArray, List.set_cons_zero, List.set_cons_succ]
            refine tkT 12 (some 35) (v := ?_) rfl rfl (.inl ⟨by rfl, ?_⟩) ?_
            rotate_left
            · (intro w hSw; (try dsimp only at hSw); go_simp; with_reducible rfl)
            try simp only [Act.put, List.setIfInBounds_toArray, List.set_cons_zero, List.set_cons_succ]
            refine tkT 13 (some 36) (v := ?_) rfl rfl (.inl ⟨by rfl, ?_⟩) ?_
            rotate_left
            · (intro w hSw; (try dsimp only at hSw); go_simp; with_reducible rfl)
            try simp only [Act.put, List.setIfInBounds_toArray, List.set_cons_zero, List.set_cons_succ]
            refine tkT 14 (some 37) (v := ?_) rfl rfl (.inl ⟨by rfl, ?_⟩) ?_
            rotate_left
            · (intro w hSw; (try dsimp only at hSw); go_simp; with_reducible rfl)
            try simp only [Act.put, List.setIfInBounds_toArray, List.set_cons_zero, List.set_cons_succ]
            refine tkT 15 (some 38) (v := ?_) rfl rfl (.inl ⟨by rfl, ?_⟩) ?_
            rotate_left
            · (intro w hSw; (try dsimp only at hSw); go_simp; with_reducible rfl)
            try simp only [Act.put, List.setIfInBounds_toArray, List.set_cons_zero, List.set_cons_succ]
            refine tkT 16 (some 39) (v := ?_) rfl rfl (.inl ⟨by rfl, ?_⟩) ?_
            rotate_left
            · (intro w hSw; (try dsimp only at hSw); go_simp; with_reducible rfl)
            try simp only [Act.put, List.setIfInBounds_toArray, List.set_cons_zero, List.set_cons_succ]
            refine tkT 17 (some 40) (v := ?_) rfl rfl (.inl ⟨by rfl, ?_⟩) ?_
            rotate_left
            · (intro w hSw; (try dsimp only at hSw); go_simp; with_reducible rfl)
            try simp only [Act.put, List.setIfInBounds_toArray, List.set_cons_zero, List.set_cons_succ]
            refine tkT 18 (some 41) (v := ?_) rfl rfl (.inl ⟨by rfl, ?_⟩) ?_
            rotate_left
            · (intro w hSw; (try dsimp only at hSw); go_simp; with_reducible rfl)
            try simp only [Act.put, List.setIfInBounds_toArray, List.set_cons_zero, List.set_cons_succ]
            refine tkT 19 (some 42) (v := ?_) rfl rfl (.inl ⟨by rfl, ?_⟩) ?_
            rotate_left
            · (intro w hSw; (try dsimp only at hSw); go_simp; with_reducible rfl)
            try simp only [Act.put, List.setIfInBounds_toArray, List.set_cons_zero, List.set_cons_succ]
            refine tkT 20 (some 43) (v := ?_) rfl rfl (.inl ⟨by rfl, ?_⟩) ?_
            rotate_left
            · (intro w hSw; (try dsimp only at hSw); go_simp; with_reducible rfl)
            try simp only [Act.put, List.setIfInBounds_toArray, List.set_cons_zero, List.set_cons_succ]
            refine tkT 21 (some 44) (v := ?_) rfl rfl (.inl ⟨by rfl, ?_⟩) ?_
            rotate_left
            · (intro w hSw; (try dsimp only at hSw); go_simp; with_reducible rfl)
            try simp only [Act.put, List.setIfInBounds_toArray, List.set_cons_zero, List.set_cons_succ]
            refine tkT 22 (some 45) (v := ?_) rfl rfl (.inl ⟨by rfl, ?_⟩) ?_
            rotate_left
            · (intro w hSw; (try dsimp only at hSw); go_simp; with_reducible rfl)
            try simp only [Act.put, List.setIfInBounds_toArray, List.set_cons_zero, List.set_cons_succ]
            refine tkT 23 (some 46) (v := ?_) rfl rfl (.inl ⟨by rfl, ?_⟩) ?_
            rotate_left
            · (intro w hSw; (try dsimp only at hSw); go_simp; with_reducible rfl)
            try simp only [Act.put, List.setIfInBounds_toArray, List.set_cons_zero, List.set_cons_succ]
            refine tkT 24 (some 47) (v := ?_) rfl rfl (.inl ⟨by rfl, ?_⟩) ?_
            rotate_left
            · (intro w hSw; (try dsimp only at hSw); go_simp; with_reducible rfl)
            try simp only [Act.put, List.setIfInBounds_toArray, List.set_cons_zero, List.set_cons_succ]
            refine tkT 25 (some 48) (v := ?_) rfl rfl (.inl ⟨by rfl, ?_⟩) ?_
            rotate_left
            · (intro w hSw; (try dsimp only at hSw); go_simp; with_reducible rfl)
            try simp only [Act.put, List.setIfInBounds_toArray, List.set_cons_zero, List.set_cons_succ]
            refine tkT 26 (some 49) (v := ?_) rfl rfl (.inl ⟨by rfl, ?_⟩) ?_
            rotate_left
            · (intro w hSw; (try dsimp only at hSw); go_simp; with_reducible rfl)
            try simp only [Act.put, List.setIfInBounds_toArray, List.set_cons_zero, List.set_cons_succ]
            refine wpAnyH_done (by kernel_rfl) ?_ _
            rotate_left
            exact AllReadyH.nil
          have HBW := Aside0.mk (below_step hHeld.1 (Below.refl _ _))
          clear hHeld
          try subst hL
          have HG2 := Aside0.mk (blk_below HG.out HBW.out)
          have HX2 := Aside0.mk (blk_below HB.out HBW.out)
          have HQ2 := Aside0.mk (blk_below H1.out.q HBW.out)
          have HR2 := Aside0.mk (Kd.R_below HR.out HBW.out)
          have HN2 := Aside0.mk (Below.size HBW.out)
          have HLO := Aside0.mk (below_step H1.out.below HBW.out)
          clear k0 k1 k2 k3 k4 x0 x1 x2 x3 p0 g5
          have hBg : w1.heap.size + 1 ≠ Bx := by omega
          have hBq : w1.heap.size + 1 + 1 ≠ Bx := by omega
          have x0 : W2.cell? ⟨Bx, 0, none⟩ = some (.int .i64 (x 0)) := (blk_cell HX2.out 0).trans rfl
          have x1 : W2.cell? ⟨Bx, 1, none⟩ = some (.int .i64 (x 1)) := (blk_cell HX2.out 1).trans rfl
          have x2 : W2.cell? ⟨Bx, 2, none⟩ = some (.int .i64 (x 2)) := (blk_cell HX2.out 2).trans rfl
          have x3 : W2.cell? ⟨Bx, 3, none⟩ = some (.int .i64 (x 3)) := (blk_cell HX2.out 3).trans rfl
          have p0 : W2.cell? ⟨w1.heap.size + 1 + 1, 0, none⟩ = some (.pointer (some ⟨w1.heap.size + 1, 0, none⟩)) := (blk_cell HQ2.out 0).trans rfl
          have g5 : W2.cell? ⟨w1.heap.size + 1, 5, none⟩ = some (.slice (some ad) ts.length cT) := (blk_cell HG2.out 5).trans rfl
          have f5 := blk_frozen HG2.out 5
          have gz := blk_lt HG2.out
          have aP := kN_mkM W2.drew w.heap.size (fun _ => False) x
          have aF : ∀ k, W2.drew.heap.size ≤ k → w1.heap.size + 4 + 5 ≤ k := by intro k hk; have := HN2.out; have : W2.heap.size ≤ k := hk; omega
          have aO := Kd.R_drew HR2.out
          have aB := below_drew HLO.out
          have aS : w.heap.size ≤ W2.drew.heap.size := Below.size aB
          have aL : (ts.length + 1) * 32 ≤ 140737488355328 := by have := HLN.out; first | omega | (simp only [List.length_nil] at this ⊢; omega)
          gi_wp2_with fail
          refine wpIn_round_held (S := fun W' => W'.cell? ⟨w1.heap.size + 1 + 1, 0, none⟩ = some (.pointer (some ⟨w1.heap.size + 1, 0, none⟩)) ∧
            W'.cell? ⟨Bx, 0, none⟩ = some (.int .i64 (x 0)) ∧ W'.cell? ⟨Bx, 1, none⟩ = some (.int .i64 (x 1)) ∧ W'.cell? ⟨Bx, 2, none⟩ = some (.int .i64 (x 2)) ∧ W'.cell? ⟨Bx, 3, none⟩ = some (.int .i64 (x 3))) (by kernel_rfl) (by kernel_rfl) (fun ⟨_, _, h⟩ => h) ?hS (fun hHeld => ?_)
          case hS => exact ⟨p0, x0, x1, x2, x3⟩
          focus
            refine tkT 0 (some 50) (v := ?_) rfl rfl (.inl ⟨by rfl, ?_⟩) ?_
            rotate_left
            · (intro w hSw; (try dsimp only at hSw); go_simp; with_reducible rfl)
            try simp only [Act.put, List.setIfInBounds_toArray, List.set_cons_zero, List.set_cons_succ]
            refine tkT 1 (some 51) (v := ?_) rfl rfl (.inl ⟨by rfl, ?_⟩) ?_
            rotate_left
            · (intro w hSw; (try dsimp only at hSw); go_simp; with_reducible rfl)
            try simp only [Act.put, List.setIfInBounds_toArray, List.set_cons_zero, List.set_cons_succ]
            refine tkT 2 (some 52) (v := ?_) rfl rfl (.inl ⟨by rfl, ?_⟩) ?_
            rotate_left
            · (intro w hSw; (try dsimp only at hSw); go_simp; with_reducible rfl)
            try simp only [Act.put, List.setIfInBounds_toArray, List.set_cons_zero, List.set_cons_succ]
            refine tkT 3 (some 53) (v := ?_) rfl rfl (.inl ⟨by rfl, ?_⟩) ?_
            rotate_left
            · (intro w hSw; (try dsimp only at hSw); go_simp; with_reducible rfl)
            try simp only [Act.put, List.setIfInBounds_toArray, List.set_cons_zero, List.set_cons_succ]
            refine tkT 5 (some 55) (v := ?_) rfl rfl (.inl ⟨by rfl, ?_⟩) ?_
            rotate_left
            · (intro w hSw; (try dsimp only at hSw); go_simp; with_reducible rfl)
            try simp only [Act.put, List.setIfInBounds_toArray, List.set_cons_zero, List.set_cons_succ]
            refine wpAnyH_ready (rs := [4, 6]) (by kernel_rfl) (by simp) ?_
            refine AllReadyH.cons (o := { dst := some 54, op := Op.load 141 (Operand.tmp 53), type := 141, pos := "ask.go:30", after := #[{ on := 3, ground := Ground.data }], guard := none }) rfl (fun K hK => ?_) ?_
            go_simp
            refine hK.out _ _ ?_ ?_
            · ((try dsimp only); (first | go_keep | (go_split_ands; refine ⟨later (below_alloc (Below.refl _ _) _) (by assumption), later (below_alloc (Below.refl _ _) _) (by assumption), later (below_alloc (Below.refl _ _) _) (by assumption), later (below_alloc (Below.refl _ _) _) (by assumption), later (below_alloc (Below.refl _ _) _) (by assumption)⟩)))
            try clear hHeld
            intro hHeld
            clear hK K
            try simp only [Act.put, List.setIfInBounds_toArray, List.set_cons_zero, List.set_cons_succ]
            refine wpAnyH_ready (rs := [6]) (by kernel_rfl) (by simp) ?_
            refine AllReadyH.cons (o := { dst := some 56, op := Op.buildSlice 141 1 #[(0, Operand.tmp 55)], type := 141, pos := "ask.go:30", after := #[{ on := 5, ground := Ground.data }], guard := none }) rfl (fun K hK => ?_) ?_
            go_simp
            refine hK.out _ _ ?_ ?_
            · ((try dsimp only); (first | go_keep | (go_split_ands; refine ⟨later (below_alloc (Below.refl _ _) _) (by assumption), later (below_alloc (Below.refl _ _) _) (by assumption), later (below_alloc (Below.refl _ _) _) (by assumption), later (below_alloc (Below.refl _ _) _) (by assumption), later (below_alloc (Below.refl _ _) _) (by assumption)⟩)))
            try clear hHeld
            intro hHeld
            clear hK K
            try simp only [Act.put, List.setIfInBounds_toArray, List.set_cons_zero, List.set_cons_succ]
            refine wpAnyH_ready (rs := [7]) (by kernel_rfl) (by simp) ?_
            refine AllReadyH.cons (o := { dst := some 57, op := Op.call { callee := Callee.builtin Builtin.append, args := #[Operand.tmp 54, Operand.tmp 56], argTypes := #[141, 141] }, type := 141, pos := "ask.go:30", after := #[{ on := 4, ground := Ground.data }, { on := 6, ground := Ground.data }], guard := none }) rfl (fun K hK => ?_) ?_
            ((refine Kd.R_append_step kN (w0 := w) w.heap.size (by rfl) (.tmp 54) (.tmp 56) 141 152 (.agg #[(.int .i64 0), (.int .i64 0), (.int .i64 0), (.int .i64 0)]) 32 rfl Try.underlying141 (by kernel_rfl) rfl (by decide) (by omega) (.slice (some ad) ts.length cT) ts x [.int .i64 (x 0), .int .i64 (x 1), .int .i64 (x 2), .int .i64 (x 3)] (fun k => w1.heap.size + 4 + 5 ≤ k) (fun _ => False) rfl rfl aP (fun _ hk => hk.elim) aF aO aB aS aL ?_; intro v1 w3 ho hb hg hat; obtain ⟨A1, C1, hv1⟩ := Kd.R_slice ho; obtain ⟨N1, hN1⟩ : ∃ N1, (ts ++ [x]).length = N1 := ⟨_, rfl⟩; rw [hN1] at hv1; subst hv1; have HN1 := Aside0.mk hN1; clear hN1; have HO3 := Aside0.mk ho; have HB3 := Aside0.mk hb; have HGB := Aside0.mk hg; have HG3 := Aside0.mk (blk_grown (blk_drew HG2.out) hg (Kd.R_ne HR2.out HG2.out (by decide))); have HQ3 := Aside0.mk (blk_grown (blk_drew HQ2.out) hg (Kd.R_ne HR2.out HQ2.out (by decide))); have HX3 := Aside0.mk (blk_grown (blk_drew HX2.out) hg HBV.out); clear ho hb hg hat; have x30 : w3.cell? ⟨Bx, 0, none⟩ = some (.int .i64 (x 0)) := (blk_cell HX3.out 0).trans rfl; have x31 : w3.cell? ⟨Bx, 1, none⟩ = some (.int .i64 (x 1)) := (blk_cell HX3.out 1).trans rfl; have x32 : w3.cell? ⟨Bx, 2, none⟩ = some (.int .i64 (x 2)) := (blk_cell HX3.out 2).trans rfl; have x33 : w3.cell? ⟨Bx, 3, none⟩ = some (.int .i64 (x 3)) := (blk_cell HX3.out 3).trans rfl; have p30 : w3.cell? ⟨w1.heap.size + 1 + 1, 0, none⟩ = some (.pointer (some ⟨w1.heap.size + 1, 0, none⟩)) := (blk_cell HQ3.out 0).trans rfl; have g35 : w3.cell? ⟨w1.heap.size + 1, 5, none⟩ = some (.slice (some ad) ts.length cT) := (blk_cell HG3.out 5).trans rfl; have f35 := blk_frozen HG3.out 5))
            refine hK.out _ _ ?_ ?_
            · ((try dsimp only); (first | go_keep | (go_split_ands; refine ⟨later (below_alloc (Below.refl _ _) _) (by assumption), later (below_alloc (Below.refl _ _) _) (by assumption), later (below_alloc (Below.refl _ _) _) (by assumption), later (below_alloc (Below.refl _ _) _) (by assumption), later (below_alloc (Below.refl _ _) _) (by assumption)⟩)))
            try clear hHeld
            intro hHeld
            clear hK K
            try simp only [Act.put, List.setIfInBounds_toArray, List.set_cons_zero, List.set_cons_succ]
            refine tkT 8 (some 58) (v := ?_) rfl rfl (.inl ⟨by rfl, ?_⟩) ?_
            rotate_left
            · (intro w hSw; (try dsimp only at hSw); go_simp; with_reducible rfl)
            try simp only [Act.put, List.setIfInBounds_toArray, List.set_cons_zero, List.set_cons_succ]
            refine tkT 9 (some 59) (v := ?_) rfl rfl (.inl ⟨by rfl, ?_⟩) ?_
            rotate_left
            · (intro w hSw; (try dsimp only at hSw); go_simp; with_reducible rfl)
            try simp only [Act.put, List.setIfInBounds_toArray, List.set_cons_zero, List.set_cons_succ]
            refine wpAnyH_ready (rs := [10]) (by kernel_rfl) (by simp) ?_
            refine AllReadyH.cons (o := { dst := none, op := Op.store 141 (Operand.tmp 59) (Operand.tmp 57), type := 0, pos := "ask.go:30", after := #[{ on := 9, ground := Ground.data }, { on := 7, ground := Ground.data }, { on := 7, ground := Ground.chain }, { on := 0, ground := Ground.phase }, { on := 1, ground := Ground.phase }, { on := 2, ground := Ground.phase }, { on := 3, ground := Ground.phase }, { on := 4, ground := Ground.phase }, { on := 5, ground := Ground.phase }, { on := 6, ground := Ground.phase }, { on := 7, ground := Ground.phase }], guard := none }) rfl (fun K hK => ?_) ?_
            go_simp
            refine hK.out _ _ ?_ ?_
            · ((try dsimp only); (first | go_keep | (go_split_ands; refine ⟨later (below_alloc (Below.refl _ _) _) (by assumption), later (below_alloc (Below.refl _ _) _) (by assumption), later (below_alloc (Below.refl _ _) _) (by assumption), later (below_alloc (Below.refl _ _) _) (by assumption), later (below_alloc (Below.refl _ _) _) (by assumption)⟩)))
            try clear hHeld
            intro hHeld
            clear hK K
            try simp only [Act.put, List.setIfInBounds_toArray, List.set_cons_zero, List.set_cons_succ]
            refine wpAnyH_done (by kernel_rfl) ?_ _
            rotate_left
            exact AllReadyH.nil
            exact AllReadyH.nil
            exact AllReadyH.nil
            refine AllReadyH.cons (o := { dst := some 56, op := Op.buildSlice 141 1 #[(0, Operand.tmp 55)], type := 141, pos := "ask.go:30", after := #[{ on := 5, ground := Ground.data }], guard := none }) rfl (fun K hK => ?_) ?_
            go_simp
            refine hK.out _ _ ?_ ?_
            · ((try dsimp only); (first | go_keep | (go_split_ands; refine ⟨later (below_alloc (Below.refl _ _) _) (by assumption), later (below_alloc (Below.refl _ _) _) (by assumption), later (below_alloc (Below.refl _ _) _) (by assumption), later (below_alloc (Below.refl _ _) _) (by assumption), later (below_alloc (Below.refl _ _) _) (by assumption)⟩)))
            try clear hHeld
            intro hHeld
            clear hK K
            try simp only [Act.put, List.setIfInBounds_toArray, List.set_cons_zero, List.set_cons_succ]
            refine wpAnyH_ready (rs := [4]) (by kernel_rfl) (by simp) ?_
            refine AllReadyH.cons (o := { dst := some 54, op := Op.load 141 (Operand.tmp 53), type := 141, pos := "ask.go:30", after := #[{ on := 3, ground := Ground.data }], guard := none }) rfl (fun K hK => ?_) ?_
            go_simp
            refine hK.out _ _ ?_ ?_
            · ((try dsimp only); (first | go_keep | (go_split_ands; refine ⟨later (below_alloc (Below.refl _ _) _) (by assumption), later (below_alloc (Below.refl _ _) _) (by assumption), later (below_alloc (Below.refl _ _) _) (by assumption), later (below_alloc (Below.refl _ _) _) (by assumption), later (below_alloc (Below.refl _ _) _) (by assumption)⟩)))
            try clear hHeld
            intro hHeld
            clear hK K
            try simp only [Act.put, List.setIfInBounds_toArray, List.set_cons_zero, List.set_cons_succ]
            refine wpAnyH_ready (rs := [7]) (by kernel_rfl) (by simp) ?_
            refine AllReadyH.cons (o := { dst := some 57, op := Op.call { callee := Callee.builtin Builtin.append, args := #[Operand.tmp 54, Operand.tmp 56], argTypes := #[141, 141] }, type := 141, pos := "ask.go:30", after := #[{ on := 4, ground := Ground.data }, { on := 6, ground := Ground.data }], guard := none }) rfl (fun K hK => ?_) ?_
            ((refine Kd.R_append_step kN (w0 := w) w.heap.size (by rfl) (.tmp 54) (.tmp 56) 141 152 (.agg #[(.int .i64 0), (.int .i64 0), (.int .i64 0), (.int .i64 0)]) 32 rfl Try.underlying141 (by kernel_rfl) rfl (by decide) (by omega) (.slice (some ad) ts.length cT) ts x [.int .i64 (x 0), .int .i64 (x 1), .int .i64 (x 2), .int .i64 (x 3)] (fun k => w1.heap.size + 4 + 5 ≤ k) (fun _ => False) rfl rfl aP (fun _ hk => hk.elim) aF aO aB aS aL ?_; intro v1 w3 ho hb hg hat; obtain ⟨A1, C1, hv1⟩ := Kd.R_slice ho; obtain ⟨N1, hN1⟩ : ∃ N1, (ts ++ [x]).length = N1 := ⟨_, rfl⟩; rw [hN1] at hv1; subst hv1; have HN1 := Aside0.mk hN1; clear hN1; have HO3 := Aside0.mk ho; have HB3 := Aside0.mk hb; have HGB := Aside0.mk hg; have HG3 := Aside0.mk (blk_grown (blk_drew HG2.out) hg (Kd.R_ne HR2.out HG2.out (by decide))); have HQ3 := Aside0.mk (blk_grown (blk_drew HQ2.out) hg (Kd.R_ne HR2.out HQ2.out (by decide))); have HX3 := Aside0.mk (blk_grown (blk_drew HX2.out) hg HBV.out); clear ho hb hg hat; have x30 : w3.cell? ⟨Bx, 0, none⟩ = some (.int .i64 (x 0)) := (blk_cell HX3.out 0).trans rfl; have x31 : w3.cell? ⟨Bx, 1, none⟩ = some (.int .i64 (x 1)) := (blk_cell HX3.out 1).trans rfl; have x32 : w3.cell? ⟨Bx, 2, none⟩ = some (.int .i64 (x 2)) := (blk_cell HX3.out 2).trans rfl; have x33 : w3.cell? ⟨Bx, 3, none⟩ = some (.int .i64 (x 3)) := (blk_cell HX3.out 3).trans rfl; have p30 : w3.cell? ⟨w1.heap.size + 1 + 1, 0, none⟩ = some (.pointer (some ⟨w1.heap.size + 1, 0, none⟩)) := (blk_cell HQ3.out 0).trans rfl; have g35 : w3.cell? ⟨w1.heap.size + 1, 5, none⟩ = some (.slice (some ad) ts.length cT) := (blk_cell HG3.out 5).trans rfl; have f35 := blk_frozen HG3.out 5))
            refine hK.out _ _ ?_ ?_
            · ((try dsimp only); (first | go_keep | (go_split_ands; refine ⟨later (below_alloc (Below.refl _ _) _) (by assumption), later (below_alloc (Below.refl _ _) _) (by assumption), later (below_alloc (Below.refl _ _) _) (by assumption), later (below_alloc (Below.refl _ _) _) (by assumption), later (below_alloc (Below.refl _ _) _) (by assumption)⟩)))
            try clear hHeld
            intro hHeld
            clear hK K
            try simp only [Act.put, List.setIfInBounds_toArray, List.set_cons_zero, List.set_cons_succ]
            refine tkT 8 (some 58) (v := ?_) rfl rfl (.inl ⟨by rfl, ?_⟩) ?_
            rotate_left
            · (intro w hSw; (try dsimp only at hSw); go_simp; with_reducible rfl)
            try simp only [Act.put, List.setIfInBounds_toArray, List.set_cons_zero, List.set_cons_succ]
            refine tkT 9 (some 59) (v := ?_) rfl rfl (.inl ⟨by rfl, ?_⟩) ?_
            rotate_left
            · (intro w hSw; (try dsimp only at hSw); go_simp; with_reducible rfl)
            try simp only [Act.put, List.setIfInBounds_toArray, List.set_cons_zero, List.set_cons_succ]
            refine wpAnyH_ready (rs := [10]) (by kernel_rfl) (by simp) ?_
            refine AllReadyH.cons (o := { dst := none, op := Op.store 141 (Operand.tmp 59) (Operand.tmp 57), type := 0, pos := "ask.go:30", after := #[{ on := 9, ground := Ground.data }, { on := 7, ground := Ground.data }, { on := 7, ground := Ground.chain }, { on := 0, ground := Ground.phase }, { on := 1, ground := Ground.phase }, { on := 2, ground := Ground.phase }, { on := 3, ground := Ground.phase }, { on := 4, ground := Ground.phase }, { on := 5, ground := Ground.phase }, { on := 6, ground := Ground.phase }, { on := 7, ground := Ground.phase }], guard := none }) rfl (fun K hK => ?_) ?_
            go_simp
            refine hK.out _ _ ?_ ?_
            · ((try dsimp only); (first | go_keep | (go_split_ands; refine ⟨later (below_alloc (Below.refl _ _) _) (by assumption), later (below_alloc (Below.refl _ _) _) (by assumption), later (below_alloc (Below.refl _ _) _) (by assumption), later (below_alloc (Below.refl _ _) _) (by assumption), later (below_alloc (Below.refl _ _) _) (by assumption)⟩)))
            try clear hHeld
            intro hHeld
            clear hK K
            try simp only [Act.put, List.setIfInBounds_toArray, List.set_cons_zero, List.set_cons_succ]
            refine wpAnyH_done (by kernel_rfl) ?_ _
            rotate_left
            exact AllReadyH.nil
            exact AllReadyH.nil
            exact AllReadyH.nil
            exact AllReadyH.nil
          all_goals
            clear x0 x1 x2 x3 p0 g5 f5 x30 x31 x32 x33 p30 g35 f35 hHeld
            gi_wp2_with fail
            have hown : ∀ k, (Value.slice (some ad) ts.length cT).ownBlock = some k → w1.heap.size + 4 + 5 ≤ k := HR2.out.1
            have hfar : ∀ k, k < w1.heap.size + 9 → k ≠ w1.heap.size + 1 → (w3.setCell ⟨w1.heap.size + 1, 5, none⟩ (.slice A1 N1 C1)).heap[k]? = W.heap[k]? := by
              intro k hk hne
              have h1 := HGB.out.block k (by have := HN2.out; have : W2.drew.heap.size = W2.heap.size := rfl; omega) (fun e => by have := hown k e.symm; omega)
              exact (Below.heap_setCell w3 ⟨w1.heap.size + 1, 5, none⟩ (.slice A1 N1 C1) k hne).trans (h1.trans (HBW.out.block k (by omega)))
            have hbl : Below w.heap.size W (w3.setCell ⟨w1.heap.size + 1, 5, none⟩ (.slice A1 N1 C1)) :=
              (((below_drew (HBW.out.mono (by omega))).grown HGB.out aS (fun k e => by have := hown k e; omega)).setCell (by simp; omega) _)
            refine ⟨⟨hbl, hfar _ (by omega) (by omega), fun k h3 h4 => hfar k (by omega) (by omega)⟩, ?_⟩
            dsimp only
            rw [HK1.out]
            exact ⟨H1.out.below.trans hbl, (hfar _ (by omega) (by omega)).trans H1.out.c, (hfar _ (by omega) (by omega)).trans H1.out.k, (hfar _ (by omega) (by omega)).trans H1.out.q, _, blk_put HG3.out 5 _ rfl, Kd.R_far HO3.out (fun k hk => by simp; omega) _⟩
      · have HK1 : Aside0 (keepT hs hung looks (pre ++ [x]) = ts) := ⟨by rw [keepT_snoc, HTS.out]; unfold keep1; rw [if_neg (fun h => hne h.2)]⟩
        have hpos : 0 < ts.length := by
          cases ts with
          | nil => exact absurd (.inl rfl) hne
          | cons a r => simp
        obtain ⟨ad, eA, t0, t1, t2, t3⟩ := at_N hC (ts.length - 1) (by omega)
        subst eA
        have q0 : ((ts.length : Int) == 0) = false := beq_eq_false_iff_ne.2 (by omega)
        have q1 : IntKind.i64.wrap ((ts.length : Int) - 1) = ((ts.length - 1 : Nat) : Int) := by
          have := HLN.out
          rw [show IntKind.i64.wrap ((ts.length : Int) - 1) = (ts.length : Int) - 1 from IntWalk.i64_in _ (by omega)]
          omega
        obtain ⟨n, hn⟩ : ∃ n, ts.length - 1 = n := ⟨_, rfl⟩
        rw [hn] at t0 t1 t2 t3 q1 hne
        have hn0 : (0 : Int) ≤ n := by omega
        have hn1 : (n : Int) < ts.length := by omega
        obtain ⟨L, hL⟩ : ∃ L, ts.length = L := ⟨_, rfl⟩
        rw [hL] at q0 q1 hn1 g5 hpos
        have hx0 : rdN ts n 0 = x 0 ∧ rdN ts n 1 = x 1 ∧ rdN ts n 2 = x 2 ∧ rdN ts n 3 = x 3 := by
          have h : ¬ ne4 (rdN ts n) x = true := fun h => hne (.inr h)
          simpa [ne4, and_assoc] using h
        obtain ⟨e0, e1, e2, e3⟩ := hx0
        rw [e0] at t0
        rw [e1] at t1
        rw [e2] at t2
        rw [e3] at t3
        have hEQ : ∀ W, (Op.equalIn 10000 152 (.agg #[.int .i64 (x 0), .int .i64 (x 1), .int .i64 (x 2), .int .i64 (x 3)]) (.agg #[.int .i64 (x 0), .int .i64 (x 1), .int .i64 (x 2), .int .i64 (x 3)])).run Try.prog W = .ok true W := fun W => by rw [eq4]; simp [ne4]
        clear hne hn e0 e1 e2 e3 hC
        gi_wp2_with fail
        refine wpIn_round_held (S := fun W' => Below W.heap.size W W' ∧ W'.cell? ⟨w.heap.size, 0, none⟩ = some (.int .i64 cs) ∧ W'.cell? ⟨w.heap.size, 1, none⟩ = some (.int .i64 cl) ∧ W'.cell? ⟨w.heap.size, 2, none⟩ = some (.slice A2 hs.length c2) ∧ W'.cell? ⟨w.heap.size, 3, none⟩ = some (.slice A3 hung.length c3) ∧ W'.cell? ⟨w.heap.size, 4, none⟩ = some (.slice A4 looks.length c4) ∧
                W'.cell? ⟨Bx, 0, none⟩ = some (.int .i64 (x 0)) ∧ W'.cell? ⟨Bx, 1, none⟩ = some (.int .i64 (x 1)) ∧ W'.cell? ⟨Bx, 2, none⟩ = some (.int .i64 (x 2)) ∧ W'.cell? ⟨Bx, 3, none⟩ = some (.int .i64 (x 3)) ∧ W'.cell? ⟨w1.heap.size + 1 + 1, 0, none⟩ = some (.pointer (some ⟨w1.heap.size + 1, 0, none⟩)) ∧ W'.cell? ⟨w1.heap.size + 1, 5, none⟩ = some (.slice (some ad) L cT) ∧
                W'.cell? (ad.add (n * 4)) = some (.int .i64 (x 0)) ∧ W'.cell? ⟨(ad.add (n * 4)).block, (ad.add (n * 4)).off + 1, none⟩ = some (.int .i64 (x 1)) ∧ W'.cell? ⟨(ad.add (n * 4)).block, (ad.add (n * 4)).off + 2, none⟩ = some (.int .i64 (x 2)) ∧ W'.cell? ⟨(ad.add (n * 4)).block, (ad.add (n * 4)).off + 3, none⟩ = some (.int .i64 (x 3))) (by kernel_rfl) (by kernel_rfl) (fun ⟨_, _, h⟩ => h) ?hS (fun hHeld => ?_)
        case hS => exact ⟨below_drew (Below.refl _ _), k0, k1, k2, k3, k4, x0, x1, x2, x3, p0, g5, t0, t1, t2, t3⟩
        focus
          refine tkT 0 (some 23) (v := ?_) rfl rfl (.inl ⟨by rfl, ?_⟩) ?_
          rotate_left
          · (intro w hSw; (try dsimp only at hSw); go_simp; with_reducible rfl)
          try simp only [Act.put, List.setIfInBounds_toArray, List.set_cons_zero, List.set_cons_succ]
          refine tkT 1 (some 24) (v := ?_) rfl rfl (.inl ⟨by rfl, ?_⟩) ?_
          rotate_left
          · (intro w hSw; (try dsimp only at hSw); go_simp; with_reducible rfl)
          try simp only [Act.put, List.setIfInBounds_toArray, List.set_cons_zero, List.set_cons_succ]
          refine wpAnyH_ready (rs := [2]) (by kernel_rfl) (by simp) ?_
          refine AllReadyH.cons (o := { dst := some 25, op := Op.call { callee := Callee.value (Operand.func 109), args := #[Operand.tmp 23, Operand.tmp 24, Operand.const (Value.slice none 0 0)], argTypes := #[35, 152, 23] }, type := 4, pos := "ask.go:29", after := #[{ on := 0, ground := Ground.data }, { on := 1, ground := Ground.data }], guard := none }) rfl (fun K hK => ?_) ?_
          go_simp
          ((go_at_call 109; refine (right_calls cs cl A2 A3 A4 none c2 c3 c4 0 hs hung looks x [] _ HV.out (HM.out.later (below_step H1.out.below hHeld.1)) (Kd.C_nil _ _) (Nat.le_refl _) (Nat.zero_le _) (dries_bd HV.out HX.out)).mono ?_; rintro e W2 ⟨rfl, hb2⟩; rw [HRB.out]; have HB2 := Aside0.mk hb2; clear hb2))
          go_wp2_with fail
          refine hK.out _ _ ?_ ?_
          · ((try dsimp only); (first | go_keep | (go_split_ands; refine ⟨below_step (by assumption) HB2.out, later HB2.out (by assumption), later HB2.out (by assumption), later HB2.out (by assumption), later HB2.out (by assumption), later HB2.out (by assumption), later HB2.out (by assumption), later HB2.out (by assumption), later HB2.out (by assumption), later HB2.out (by assumption), later HB2.out (by assumption), later HB2.out (by assumption), later HB2.out (by assumption), later HB2.out (by assumption), later HB2.out (by assumption), later HB2.out (by assumption)⟩)))
          try clear hHeld
          intro hHeld
          clear hK K
          try simp only [Act.put, List.setIfInBounds_toArray, List.set_cons_zero, List.set_cons_succ]
          refine tkT 3 (some 26) (v := ?_) rfl rfl (.inl ⟨by rfl, ?_⟩) ?_
          rotate_left
          · (intro w hSw; (try dsimp only at hSw); go_simp; with_reducible rfl)
          try simp only [Act.put, List.setIfInBounds_toArray, List.set_cons_zero, List.set_cons_succ]
          refine tkT 4 (some 27) (v := ?_) rfl rfl (.inl ⟨by rfl, ?_⟩) ?_
          rotate_left
          · (intro w hSw; (try dsimp only at hSw); go_simp; with_reducible rfl)
          try simp only [Act.put, List.setIfInBounds_toArray, List.set_cons_zero, List.set_cons_succ]
          refine tkT 5 (some 28) (v := ?_) rfl rfl (.inl ⟨by rfl, ?_⟩) ?_
          rotate_left
          · (intro w hSw; (try dsimp only at hSw); go_simp; with_reducible rfl)
          try simp only [Act.put, List.setIfInBounds_toArray, List.set_cons_zero, List.set_cons_succ]
          refine tkT 6 (some 29) (v := ?_) rfl rfl (.inl ⟨by rfl, ?_⟩) ?_
          rotate_left
          · (intro w hSw; (try dsimp only at hSw); go_simp; with_reducible rfl)
          try simp only [Act.put, List.setIfInBounds_toArray, List.set_cons_zero, List.set_cons_succ]
          refine tkT 7 (some 30) (v := ?_) rfl rfl (.inl ⟨by rfl, ?_⟩) ?_
          rotate_left
          · (intro w hSw; (try dsimp only at hSw); go_simp; with_reducible rfl)
          try simp only [Act.put, List.setIfInBounds_toArray, List.set_cons_zero, List.set_cons_succ]
          refine tkT 8 (some 31) (v := ?_) rfl rfl (.inl ⟨by rfl, ?_⟩) ?_
          rotate_left
          · (intro w hSw; (try dsimp only at hSw); go_simp; with_reducible rfl)
          try simp only [Act.put, List.setIfInBounds_toArray, List.set_cons_zero, List.set_cons_succ]
          refine tkT 9 (some 32) (v := ?_) rfl rfl (.inl ⟨by rfl, ?_⟩) ?_
          rotate_left
          · (intro w hSw; (try dsimp only at hSw); go_simp; with_reducible rfl)
          try simp only [Act.put, List.setIfInBounds_toArray, List.set_cons_zero, List.set_cons_succ]
          refine tkT 10 (some 33) (v := ?_) rfl rfl (.inl ⟨by rfl, ?_⟩) ?_
          rotate_left
          · (intro w hSw; (try dsimp only at hSw); go_simp; with_reducible rfl)
          try simp only [Act.put, List.setIfInBounds_toArray, List.set_cons_zero, List.set_cons_succ]
          refine tkT 11 (some 34) (v := ?_) rfl rfl (.inl ⟨by rfl, ?_⟩) ?_
          rotate_left
          · (intro w hSw; (try dsimp only at hSw); go_simp; with_reducible rfl)
          try simp only [Act.put, List.setIfInBounds_toArray, List.set_cons_zero, List.set_cons_succ]
          refine tkT 12 (some 35) (v := ?_) rfl rfl (.inl ⟨by rfl, ?_⟩) ?_
          rotate_left
          · (intro w hSw; (try dsimp only at hSw); go_simp; with_reducible rfl)
          try simp only [Act.put, List.setIfInBounds_toArray, List.set_cons_zero, List.set_cons_succ]
          refine tkT 13 (some 36) (v := ?_) rfl rfl (.inl ⟨by rfl, ?_⟩) ?_
          rotate_left
          · (intro w hSw; (try dsimp only at hSw); go_simp; with_reducible rfl)
          try simp only [Act.put, List.setIfInBounds_toArray, List.set_cons_zero, List.set_cons_succ]
          refine tkT 14 (some 37) (v := ?_) rfl rfl (.inl ⟨by rfl, ?_⟩) ?_
          rotate_left
          · (intro w hSw; (try dsimp only at hSw); go_simp; with_reducible rfl)
          try simp only [Act.put, List.setIfInBounds_toArray, List.set_cons_zero, List.set_cons_succ]
          refine tkT 15 (some 38) (v := ?_) rfl rfl (.inl ⟨by rfl, ?_⟩) ?_
          rotate_left
          · (intro w hSw; (try dsimp only at hSw); go_simp; with_reducible rfl)
          try simp only [Act.put, List.setIfInBounds_toArray, List.set_cons_zero, List.set_cons_succ]
          refine tkT 16 (some 39) (v := ?_) rfl rfl (.inl ⟨by rfl, ?_⟩) ?_
          rotate_left
          · (intro w hSw; (try dsimp only at hSw); go_simp; with_reducible rfl)
          try simp only [Act.put, List.setIfInBounds_toArray, List.set_cons_zero, List.set_cons_succ]
          refine tkT 17 (some 40) (v := ?_) rfl rfl (.inl ⟨by rfl, ?_⟩) ?_
          rotate_left
          · (intro w hSw; (try dsimp only at hSw); go_simp; with_reducible rfl)
          try simp only [Act.put, List.setIfInBounds_toArray, List.set_cons_zero, List.set_cons_succ]
          refine tkT 18 (some 41) (v := ?_) rfl rfl (.inl ⟨by rfl, ?_⟩) ?_
          rotate_left
          · (intro w hSw; (try dsimp only at hSw); go_simp; with_reducible rfl)
          try simp only [Act.put, List.setIfInBounds_toArray, List.set_cons_zero, List.set_cons_succ]
          refine tkT 19 (some 42) (v := ?_) rfl rfl (.inl ⟨by rfl, ?_⟩) ?_
          rotate_left
          · (intro w hSw; (try dsimp only at hSw); go_simp; with_reducible rfl)
          try simp only [Act.put, List.setIfInBounds_toArray, List.set_cons_zero, List.set_cons_succ]
          refine tkT 20 (some 43) (v := ?_) rfl rfl (.inl ⟨by rfl, ?_⟩) ?_
          rotate_left
          · (intro w hSw; (try dsimp only at hSw); go_simp; with_reducible rfl)
          try simp only [Act.put, List.setIfInBounds_toArray, List.set_cons_zero, List.set_cons_succ]
          refine tkT 21 (some 44) (v := ?_) rfl rfl (.inl ⟨by rfl, ?_⟩) ?_
          rotate_left
          · (intro w hSw; (try dsimp only at hSw); go_simp; with_reducible rfl)
          try simp only [Act.put, List.setIfInBounds_toArray, List.set_cons_zero, List.set_cons_succ]
          refine tkT 22 (some 45) (v := ?_) rfl rfl (.inl ⟨by rfl, ?_⟩) ?_
          rotate_left
          · (intro w hSw; (try dsimp only at hSw); go_simp; with_reducible rfl)
          try simp only [Act.put, List.setIfInBounds_toArray, List.set_cons_zero, List.set_cons_succ]
          refine tkT 23 (some 46) (v := ?_) rfl rfl (.inl ⟨by rfl, ?_⟩) ?_
          rotate_left
          · (intro w hSw; (try dsimp only at hSw); go_simp; with_reducible rfl)
          try simp only [Act.put, List.setIfInBounds_toArray, List.set_cons_zero, List.set_cons_succ]
          refine tkT 24 (some 47) (v := ?_) rfl rfl (.inl ⟨by rfl, ?_⟩) ?_
          rotate_left
          · (intro w hSw; (try dsimp only at hSw); go_simp; with_reducible rfl)
          try simp only [Act.put, List.setIfInBounds_toArray, List.set_cons_zero, List.set_cons_succ]
          refine tkT 25 (some 48) (v := ?_) rfl rfl (.inl ⟨by rfl, ?_⟩) ?_
          rotate_left
          · (intro w hSw; (try dsimp only at hSw); go_simp; with_reducible rfl)
          try simp only [Act.put, List.setIfInBounds_toArray, List.set_cons_zero, List.set_cons_succ]
          refine tkT 26 (some 49) (v := ?_) rfl rfl (.inl ⟨by rfl, ?_⟩) ?_
          rotate_left
          · (intro w hSw; (try dsimp only at hSw); go_simp; with_reducible rfl)
          try simp only [Act.put, List.setIfInBounds_toArray, List.set_cons_zero, List.set_cons_succ]
          refine wpAnyH_done (by kernel_rfl) ?_ _
          rotate_left
          exact AllReadyH.nil
        have HBW := Aside0.mk (below_step hHeld.1 (Below.refl _ _))
        clear hHeld
        clear k0 k1 k2 k3 k4 x0 x1 x2 x3 p0 g5
        gi_wp2_with fail
        refine ⟨Rk.of_below HBW.out hgz (by omega) (by omega), ?_⟩
        dsimp only
        rw [HK1.out]
        exact H1.out.same HBW.out (by omega) (by omega) (by omega) (by omega) (by omega) (fun k' h3 h4 => HBW.out.block _ h4)
  case done =>
    rintro W h1 hK
    have H1 := Aside0.mk h1
    have HK := Aside0.mk hK
    obtain ⟨v, hg, hR⟩ := h1.t
    have hR2 : kN.R 152 (W.putObj W0.heap.size (.deferred none)) w.heap.size (fun k => w1.heap.size + 4 + 5 ≤ k) v (truthsT hs hung looks) := Kd.R_step hR (fun k hk _ => World.putObj_heap_other (by omega))
    obtain ⟨AT, cT, ev, hcT, hC⟩ := Kd.R_reads hR2
    have HC := Aside0.mk hC
    have HG := Aside0.mk hg
    subst ev
    have HAB := Aside0.mk (Kd.R_base hR2)
    have p0 : W.cell? ⟨w1.heap.size + 1 + 1, 0, none⟩ = some (.pointer (some ⟨w1.heap.size + 1, 0, none⟩)) := (blk_cell h1.q 0).trans rfl
    have g5 : W.cell? ⟨w1.heap.size + 1, 5, none⟩ = some (.slice AT (truthsT hs hung looks).length cT) := (blk_cell hg 5).trans rfl
    clear h1 hK hbox HP0 hg hR hR2 hC
    by_cases hemp : truthsT hs hung looks = []
    · have HE := Aside0.mk hemp
      rw [hemp] at g5
      clear hemp
      gi_wp2_with fail
      refine ⟨by simp, .inl ⟨_, _, rfl, run_takeDeferred HK.out, ?_⟩⟩
      exact ⟨_, results_tmp2 rfl _ _ _, .inl ⟨HE.out, rfl, H1.out.below.trans (below_putObj _ _ _ (by omega))⟩⟩
    · have q0 : (((truthsT hs hung looks).length : Int) == 0) = false := beq_eq_false_iff_ne.2 (by have := List.length_pos_iff.2 hemp; omega)
      have HE := Aside0.mk hemp
      clear hemp
      gi_wp2_with fail
      refine ⟨by simp, .inl ⟨_, _, rfl, run_takeDeferred HK.out, ?_⟩⟩
      refine ⟨_, results_tmp2 rfl _ _ _, .inr ⟨HE.out, w1.heap.size + 1, w1.heap.size, AT, cT, rfl, H1.out.below.trans (below_putObj _ _ _ (by omega)), by omega, by omega, HAB.out, (World.putObj_heap_other (by omega)).trans H1.out.k, (World.putObj_heap_other (by omega)).trans HG.out, ?_, HC.out, hcT⟩⟩
      exact HM.out.later (H1.out.below.trans (below_putObj _ _ _ (by omega)))
  case stop =>
    rintro W h1 hK
    exact h1.elim
end Go.Proofs.Ytokhmghgghjmhaa.Q

namespace Go.Proofs.Ytokhmghgghjmhaa.Q
open Go.RowKit Go.Proofs.YtokhmghgghjmhaaW.PrintWords Go.Proofs.YtokhmghgghjmhaaW.PrintLast Go.Proofs.YtokhmghgghjmhaaW.PrintMore
set_option linter.unusedVariables false

theorem keep_mem (hs : List S139) (hung : List Int) (looks : List S140) : ∀ (pre ts : List (Nat → Int)) (d : Nat → Int), d ∈ pre.foldl (keep1 hs hung looks) ts → d ∈ ts ∨ (d ∈ pre ∧ rightB hs hung looks d [] = true)
  | [], ts, d, h => .inl h
  | a :: r, ts, d, h => by
    rcases keep_mem hs hung looks r _ d h with h | h
    · unfold keep1 at h
      split at h
      · rename_i hr
        rcases List.mem_append.1 h with h | h
        · exact .inl h
        · rw [List.mem_singleton.1 h]; exact .inr ⟨by simp, hr.1⟩
      · exact .inl h
    · exact .inr ⟨by simp [h.1], h.2⟩
theorem truths_mem {hs : List S139} {hung : List Int} {looks : List S140} {d : Nat → Int} (h : d ∈ truthsT hs hung looks) : d ∈ dries hs ∧ rightB hs hung looks d [] = true := by
  rcases keep_mem hs hung looks _ _ d h with h | h
  · cases h
  · exact h
theorem truths_small {cs cl : Int} {hs : List S139} {hung : List Int} {looks : List S140} (V : Valid cs cl hs hung looks) : Small (truthsT hs hung looks) := by
  intro i j
  unfold rdN
  rw [List.getD_eq_getElem?_getD]
  cases h : (truthsT hs hung looks)[i]? with
  | none => simp
  | some d => exact dries_bd V (truths_mem (List.mem_of_getElem? h)).1 j

/-! How many dry numbers there are. -/
def szN (hs : List S139) (i : Nat) : Nat := ((rd_T139 hs i).f0.f1 + 1 - (rd_T139 hs i).f0.f0).toNat
def prN (hs : List S139) : Nat → Nat → Nat
  | 0, _ => 1
  | d + 1, h => szN hs h * prN hs d (h + 1)
def plN (hs : List S139) : Nat → Nat
  | 0 => 1
  | n + 1 => plN hs n * szN hs n
theorem flatMap_eq_len {α β : Type} (f : α → List β) (N : Nat) : ∀ l : List α, (∀ a ∈ l, (f a).length = N) → (l.flatMap f).length = l.length * N
  | [], _ => by simp
  | a :: r, h => by
    have h1 := h a (by simp)
    have h2 := flatMap_eq_len f N r (fun b hb => h b (by simp [hb]))
    simp only [List.flatMap_cons, List.length_append, List.length_cons, Nat.add_mul]
    omega
theorem allN_eq_len (hs : List S139) : ∀ (d h : Nat) (x : Nat → Int), (allN hs d h x).length = prN hs d h
  | 0, h, x => by simp [allN, prN]
  | d + 1, h, x => by
    simp only [allN, prN]
    rw [flatMap_eq_len _ (prN hs d (h + 1)) _ (fun v _ => allN_eq_len hs d (h + 1) _)]
    simp [vals, szN]
theorem pl_pr (hs : List S139) : ∀ (d h : Nat), plN hs h * prN hs d h = plN hs (h + d)
  | 0, h => by simp [prN]
  | d + 1, h => by
    have := pl_pr hs d (h + 1)
    simp only [prN]
    rw [← Nat.mul_assoc]
    rw [show plN hs h * szN hs h = plN hs (h + 1) from rfl, this]
    congr 1
    omega
theorem prod_pl {cs cl : Int} {hs : List S139} {hung : List Int} {looks : List S140} (V : Valid cs cl hs hung looks) : ∀ n : Nat, n ≤ hs.length → prodH hs n = plN hs n ∧ plN hs n ≤ 60 ^ n
  | 0, _ => by simp [prodH, plN]
  | n + 1, h => by
    obtain ⟨h1, h2⟩ := prod_pl V n (by omega)
    have hd := V.dry n (by omega)
    have h4 := V.n4
    have hp : 60 ^ n ≤ 60 ^ 3 := Nat.pow_le_pow_right (by omega) (by omega)
    have hs1 : szN hs n ≤ 60 := by unfold szN; omega
    have hs2 : ((szN hs n : Nat) : Int) = (rd_T139 hs n).f0.f1 - (rd_T139 hs n).f0.f0 + 1 := by unfold szN; omega
    have hm : plN hs n * szN hs n ≤ 60 ^ n * 60 := Nat.mul_le_mul h2 hs1
    have hb : plN hs n * szN hs n ≤ 12960000 := by omega
    refine ⟨?_, by simp only [plN]; rw [Nat.pow_succ]; exact hm⟩
    simp only [prodH, plN]
    rw [h1]
    have e1 : wrap64 ((rd_T139 hs n).f0.f1 - (rd_T139 hs n).f0.f0) = (rd_T139 hs n).f0.f1 - (rd_T139 hs n).f0.f0 := by unfold wrap64; omega
    have e2 : wrap64 ((rd_T139 hs n).f0.f1 - (rd_T139 hs n).f0.f0 + 1) = ((szN hs n : Nat) : Int) := by unfold wrap64; omega
    rw [e1, e2, ← Int.natCast_mul]
    unfold wrap64
    omega
theorem dries_2000 {cs cl : Int} {hs : List S139} {hung : List Int} {looks : List S140} (h : checkB cs cl hs hung looks = 0) : (dries hs).length ≤ 2000 := by
  have V := valid_of h
  have h1 := (prod_pl V hs.length (Nat.le_refl _)).1
  have h2 := pl_pr hs hs.length 0
  have h3 := allN_eq_len hs hs.length 0 (fun _ => 0)
  have h4 : ¬ prodH hs hs.length > 2000 := by
    unfold checkB at h
    split at h
    · omega
    split at h
    · omega
    split at h
    · omega
    · assumption
  unfold dries
  simp only [plN, Nat.one_mul, Nat.zero_add] at h2
  omega
theorem truths_len {cs cl : Int} {hs : List S139} {hung : List Int} {looks : List S140} (h : checkB cs cl hs hung looks = 0) : (truthsT hs hung looks).length ≤ 100000 := by
  have h1 := dries_2000 h
  have h2 := keepT_len hs hung looks (dries hs)
  unfold truthsT
  omega

/-- What asking leaves: an error, or closets at work. -/
def AskR (w : World) (cs cl : Int) (A2 A3 A4 : Option Addr) (c2 c3 c4 : Nat) (hs : List S139) (hung : List Int) (looks : List S140) (b : Bool) (p : Value) (c : Int) (w' : World) : Prop :=
  (c ≠ 0 ∧ c = askCode cs cl hs hung looks b ∧ p = .pointer none ∧ Below w.heap.size w w') ∨
  (c = 0 ∧ askCode cs cl hs hung looks b = 0 ∧ checkB cs cl hs hung looks = 0 ∧ b = true ∧ truthsT hs hung looks ≠ [] ∧ ∃ g m AT cT, p = .pointer (some ⟨g, 0, none⟩) ∧ Asked w cs cl A2 A3 A4 c2 c3 c4 hs hung looks g m AT cT w')
theorem AskR.below {w : World} {cs cl : Int} {A2 A3 A4 : Option Addr} {c2 c3 c4 : Nat} {hs : List S139} {hung : List Int} {looks : List S140} {b : Bool} {p : Value} {c : Int} {w' : World} (h : AskR w cs cl A2 A3 A4 c2 c3 c4 hs hung looks b p c w') : Below w.heap.size w w' := by
  rcases h with h | ⟨_, _, _, _, _, g, m, AT, cT, _, h⟩
  · exact h.2.2.2
  · exact h.below
theorem asked_calls (cs cl : Int) {A2 A3 A4 : Option Addr} {c2 c3 c4 : Nat} {hs : List S139} {hung : List Int} {looks : List S140} {w : World} (M : Mem w A2 A3 A4 c2 c3 c4 hs hung looks) (b : Bool) :
    Calls Try.prog 87 #[.agg #[.int .i64 cs, .int .i64 cl, .slice A2 hs.length c2, .slice A3 hung.length c3, .slice A4 looks.length c4], .bool b] w
      fun e w' => ∃ p c, e = .returned (.tuple #[p, .int .i64 c]) ∧ AskR w cs cl A2 A3 A4 c2 c3 c4 hs hung looks b p c w' := by
  by_cases hf : checkB cs cl hs hung looks ≠ 0 ∨ b = false
  · refine (asked_fail cs cl M b hf).mono ?_
    rintro e w' ⟨rfl, hb⟩
    refine ⟨_, _, rfl, .inl ⟨?_, rfl, rfl, hb⟩⟩
    unfold askCode
    split
    · assumption
    · rename_i h0
      rcases hf with hf | hf
      · exact absurd hf h0
      · rw [if_pos hf]; omega
  · have h0 : checkB cs cl hs hung looks = 0 := Classical.byContradiction fun h => hf (.inl h)
    have hb : b = true := by cases b with | true => rfl | false => exact absurd (.inr rfl) hf
    subst hb
    refine (asked_ok cs cl M h0).mono ?_
    rintro e w' (⟨ht, rfl, hb⟩ | ⟨ht, g, m, AT, cT, rfl, hA⟩)
    · refine ⟨_, _, rfl, .inl ⟨by omega, ?_, rfl, hb⟩⟩
      unfold askCode
      rw [if_neg (by omega), if_neg (by simp), if_pos ht]
    · refine ⟨_, _, rfl, .inr ⟨rfl, ?_, h0, rfl, ht, g, m, AT, cT, rfl, hA⟩⟩
      unfold askCode
      rw [if_neg (by omega), if_neg (by simp), if_neg ht]
end Go.Proofs.Ytokhmghgghjmhaa.Q

namespace Go.Proofs.Ytokhmghgghjmhaa.Q
open Go.RowKit Go.Proofs.YtokhmghgghjmhaaW.PrintWords Go.Proofs.YtokhmghgghjmhaaW.PrintLast Go.Proofs.YtokhmghgghjmhaaW.PrintMore
set_option linter.unusedVariables false
set_option linter.unusedSimpArgs false

/-- Is a list a placement? -/
def fineB (cs : Int) (hs : List S139) (p : List Int) : Bool := placeB (wrap64 (cs - 1)) hs.length p
/-- What Stuck says. -/
def stuckR (cs cl : Int) (hs : List S139) (hung : List Int) (looks : List S140) (p : List Int) : Int × Int :=
  if askCode cs cl hs hung looks (fineB cs hs p) ≠ 0 then (0, askCode cs cl hs hung looks (fineB cs hs p))
  else if (doneR cl hs p (truthsT hs hung looks)).2 = hs.length then (0, 7) else ((doneR cl hs p (truthsT hs hung looks)).2, 0)
theorem fine_place {cs cl : Int} {hs : List S139} {hung : List Int} {looks : List S140} {p : List Int} (V : Valid cs cl hs hung looks) (h : fineB cs hs p = true) : placeB (cs - 1) hs.length p = true := by
  have h1 := V.c1
  have h2 := V.c4
  unfold fineB at h
  rwa [wrap_dec (by omega) (by omega)] at h
set_option maxHeartbeats 4000000 in
set_option maxRecDepth 100000 in
theorem stuck_calls (cs cl : Int) {A2 A3 A4 A : Option Addr} {c2 c3 c4 c5 : Nat} {hs : List S139} {hung : List Int} {looks : List S140} {p : List Int} {w : World} (M : Mem w A2 A3 A4 c2 c3 c4 hs hung looks)
    (hrp : Kd.C (Kd.int .i64) w A p.length p) (hcp : p.length ≤ c5) (hn : hs.length ≤ 1000) :
    Calls Try.prog 25 #[.agg #[.int .i64 cs, .int .i64 cl, .slice A2 hs.length c2, .slice A3 hung.length c3, .slice A4 looks.length c4], .slice A p.length c5] w
      fun e w' => e = .returned (.tuple #[.int .i64 (stuckR cs cl hs hung looks p).1, .int .i64 (stuckR cs cl hs hung looks p).2]) ∧ Below w.heap.size w w' := by
  have HM := Aside0.mk M
  have HRP := Aside0.mk hrp
  have HCP := Aside0.mk hcp
  have HN := Aside0.mk hn
  obtain ⟨b, hb⟩ : ∃ b, fineB cs hs p = b := ⟨_, rfl⟩
  have HF := Aside0.mk hb
  clear M hrp hcp hn hb
  obtain ⟨W0, hW0⟩ : ∃ W0, w.alloc (.cells #[.int .i64 cs, .int .i64 cl, .slice A2 hs.length c2, .slice A3 hung.length c3, .slice A4 looks.length c4] 35) = W0 := ⟨_, rfl⟩
  have HB0 := Aside0.mk (show Below w.heap.size w W0 from by rw [← hW0]; exact below_alloc (Below.refl _ _) _)
  have HBK := Aside0.mk (show W0.heap[w.heap.size]? = some (.cells #[.int .i64 cs, .int .i64 cl, .slice A2 hs.length c2, .slice A3 hung.length c3, .slice A4 looks.length c4] 35 (0, 0)) from by rw [← hW0]; exact blk_new _ _)
  have b0 : W0.cell? ⟨w.heap.size, 0, none⟩ = some (.int .i64 cs) := (blk_cell HBK.out 0).trans rfl
  have b1 : W0.cell? ⟨w.heap.size, 1, none⟩ = some (.int .i64 cl) := (blk_cell HBK.out 1).trans rfl
  have b2 : W0.cell? ⟨w.heap.size, 2, none⟩ = some (.slice A2 hs.length c2) := (blk_cell HBK.out 2).trans rfl
  have b3 : W0.cell? ⟨w.heap.size, 3, none⟩ = some (.slice A3 hung.length c3) := (blk_cell HBK.out 3).trans rfl
  have b4 : W0.cell? ⟨w.heap.size, 4, none⟩ = some (.slice A4 looks.length c4) := (blk_cell HBK.out 4).trans rfl
  go_enter Try.func25, Try.ntmps25
  go_wp2_with fail
  try rw [hW0]
  clear hW0
  refine wp_region_held_drew (S := fun W' => Below W0.heap.size W0 W' ∧ W'.cell? ⟨w.heap.size, 0, none⟩ = some (.int .i64 cs) ∧ W'.cell? ⟨w.heap.size, 1, none⟩ = some (.int .i64 cl) ∧ W'.cell? ⟨w.heap.size, 2, none⟩ = some (.slice A2 hs.length c2) ∧ W'.cell? ⟨w.heap.size, 3, none⟩ = some (.slice A3 hung.length c3) ∧ W'.cell? ⟨w.heap.size, 4, none⟩ = some (.slice A4 looks.length c4)) (by kernel_rfl) ?hS (fun hHeld => ?_)
  case hS => exact ⟨below_drew (Below.refl _ _), b0, b1, b2, b3, b4⟩
  focus
    refine tkT 0 (some 11) (v := ?_) rfl rfl (.inl ⟨by rfl, ?_⟩) ?_
    rotate_left
    · (intro w hSw; (try dsimp only at hSw); go_simp; with_reducible rfl)
    try simp only [Act.put, List.setIfInBounds_toArray, List.set_cons_zero, List.set_cons_succ]
    refine tkT 1 (some 12) (v := ?_) rfl rfl (.inl ⟨by rfl, ?_⟩) ?_
    rotate_left
    · (intro w hSw; (try dsimp only at hSw); go_simp; with_reducible rfl)
    try simp only [Act.put, List.setIfInBounds_toArray, List.set_cons_zero, List.set_cons_succ]
    refine tkT 2 (some 13) (v := ?_) rfl rfl (.inl ⟨by rfl, ?_⟩) ?_
    rotate_left
    · (intro w hSw; (try dsimp only at hSw); go_simp; with_reducible rfl)
    try simp only [Act.put, List.setIfInBounds_toArray, List.set_cons_zero, List.set_cons_succ]
    refine wpAnyH_ready (rs := [3]) (by kernel_rfl) (by simp) ?_
    refine AllReadyH.cons (o := { dst := some 14, op := Op.call { callee := Callee.value (Operand.func 88), args := #[Operand.tmp 12, Operand.tmp 13], argTypes := #[35, 23] }, type := 4, pos := "ask.go:125", after := #[{ on := 1, ground := Ground.data }, { on := 2, ground := Ground.data }], guard := none }) rfl (fun K hK => ?_) ?_
    go_simp
    ((first | (go_at_call 88; refine (isPlace_all cs cl A2 A3 A4 A c2 c3 c4 c5 hs hung looks p _ (HM.out.later (below_step HB0.out hHeld.1)) (Kd.C_below HRP.out (below_step HB0.out hHeld.1)) HCP.out HN.out HF.out).mono ?_; rintro e wx ⟨rfl, hbx⟩; have HBX := Aside0.mk hbx; clear hbx) | (go_at_call 87; refine (asked_calls cs cl (HM.out.later (below_step HB0.out hHeld.1)) b).mono ?_; rintro e wy ⟨pt, c, rfl, hA⟩; have HBY := Aside0.mk hA.below; have HA := Aside0.mk hA; clear hA)))
    go_wp2_with fail
    refine hK.out _ _ ?_ ?_
    · ((try dsimp only); (first | go_keep | (go_split_ands; refine ⟨below_step (by assumption) (by first | exact HBY.out | exact HBX.out), ?_, ?_, ?_, ?_, ?_⟩ <;> first | exact later HBY.out (by assumption) | exact later HBX.out (by assumption))))
    try clear hHeld
    intro hHeld
    clear hK K
    try simp only [Act.put, List.setIfInBounds_toArray, List.set_cons_zero, List.set_cons_succ]
    refine wpAnyH_ready (rs := [4]) (by kernel_rfl) (by simp) ?_
    refine AllReadyH.cons (o := { dst := some 15, op := Op.call { callee := Callee.value (Operand.func 87), args := #[Operand.tmp 11, Operand.tmp 14], argTypes := #[35, 4] }, type := 133, pos := "ask.go:125", after := #[{ on := 0, ground := Ground.data }, { on := 3, ground := Ground.data }, { on := 3, ground := Ground.chain }], guard := none }) rfl (fun K hK => ?_) ?_
    go_simp
    ((first | (go_at_call 88; refine (isPlace_all cs cl A2 A3 A4 A c2 c3 c4 c5 hs hung looks p _ (HM.out.later (below_step HB0.out hHeld.1)) (Kd.C_below HRP.out (below_step HB0.out hHeld.1)) HCP.out HN.out HF.out).mono ?_; rintro e wx ⟨rfl, hbx⟩; have HBX := Aside0.mk hbx; clear hbx) | (go_at_call 87; refine (asked_calls cs cl (HM.out.later (below_step HB0.out hHeld.1)) b).mono ?_; rintro e wy ⟨pt, c, rfl, hA⟩; have HBY := Aside0.mk hA.below; have HA := Aside0.mk hA; clear hA)))
    go_wp2_with fail
    refine hK.out _ _ ?_ ?_
    · ((try dsimp only); (first | go_keep | (go_split_ands; refine ⟨below_step (by assumption) (by first | exact HBY.out | exact HBX.out), ?_, ?_, ?_, ?_, ?_⟩ <;> first | exact later HBY.out (by assumption) | exact later HBX.out (by assumption))))
    try clear hHeld
    intro hHeld
    clear hK K
    try simp only [Act.put, List.setIfInBounds_toArray, List.set_cons_zero, List.set_cons_succ]
    refine tkT 5 (some 10) (v := ?_) rfl rfl (.inl ⟨by rfl, ?_⟩) ?_
    rotate_left
    · (intro w hSw; (try dsimp only at hSw); go_simp; with_reducible rfl)
    try simp only [Act.put, List.setIfInBounds_toArray, List.set_cons_zero, List.set_cons_succ]
    refine tkT 6 (some 16) (v := ?_) rfl rfl (.inl ⟨by rfl, ?_⟩) ?_
    rotate_left
    · (intro w hSw; (try dsimp only at hSw); go_simp; with_reducible rfl)
    try simp only [Act.put, List.setIfInBounds_toArray, List.set_cons_zero, List.set_cons_succ]
    refine tkT 7 (some 17) (v := ?_) rfl rfl (.inl ⟨by rfl, ?_⟩) ?_
    rotate_left
    · (intro w hSw; (try dsimp only at hSw); go_simp; with_reducible rfl)
    try simp only [Act.put, List.setIfInBounds_toArray, List.set_cons_zero, List.set_cons_succ]
    refine tkT 8 (some 6) (v := ?_) rfl rfl (.inl ⟨by rfl, ?_⟩) ?_
    rotate_left
    · (intro w hSw; (try dsimp only at hSw); go_simp; with_reducible rfl)
    try simp only [Act.put, List.setIfInBounds_toArray, List.set_cons_zero, List.set_cons_succ]
    refine tkT 9 (some 7) (v := ?_) rfl rfl (.inl ⟨by rfl, ?_⟩) ?_
    rotate_left
    · (intro w hSw; (try dsimp only at hSw); go_simp; with_reducible rfl)
    try simp only [Act.put, List.setIfInBounds_toArray, List.set_cons_zero, List.set_cons_succ]
    refine wpAnyH_done (by kernel_rfl) ?_ _
    rotate_left
    exact AllReadyH.nil
    exact AllReadyH.nil
  have HL := Aside0.mk (below_step HB0.out hHeld.1)
  have k2 := hHeld.2.2.2.1
  have HX0 := Aside0.mk (show Below w.heap.size w wx from below_step HB0.out (below_step (below_drew (Below.refl _ _)) HBX.out))
  clear hHeld b0 b1 b2 b3 b4
  rcases HA.out with ⟨h0, hc, rfl, _⟩ | ⟨rfl, hc, hk, rfl, hts, g, m, AT, cT, rfl, hA⟩
  · have h1 : (c != 0) = true := by rw [bne_iff_ne]; exact h0
    have HR : Aside0 (stuckR cs cl hs hung looks p = (0, c)) := ⟨by unfold stuckR; rw [HF.out, ← hc, if_pos h0]⟩
    clear hc h0
    go_wp2_with fail
    go_ret2
    exact ⟨by rw [HR.out]; rfl, HL.out⟩
  · have HAS := Aside0.mk hA
    have HC := Aside0.mk hc
    have HK := Aside0.mk hk
    have HT := Aside0.mk hts
    have HV := Aside0.mk (valid_of hk)
    clear hA hc hk hts
    go_wp2_with fail
    refine (done_calls _ g (some m) cs cl A2 A3 A4 AT A c2 c3 c4 cT c5 hs hung looks (truthsT hs hung looks) p HV.out HAS.out.work (Kd.C_below HRP.out HL.out) (fine_place HV.out HF.out) HT.out (truths_small HV.out) (truths_len HK.out)).mono ?_
    rintro e wz ⟨rfl, hbz⟩
    have HZ := Aside0.mk (below_step HL.out hbz)
    have k2z := later hbz k2
    clear hbz k2
    by_cases hd : (doneR cl hs p (truthsT hs hung looks)).2 = hs.length
    · have HR : Aside0 (stuckR cs cl hs hung looks p = (0, 7)) := ⟨by unfold stuckR; rw [HF.out, HC.out, if_neg (by simp), if_pos hd]⟩
      rw [hd]
      clear hd
      go_wp2_with fail
      go_ret2
      exact ⟨by rw [HR.out]; rfl, HZ.out⟩
    · have HR : Aside0 (stuckR cs cl hs hung looks p = ((doneR cl hs p (truthsT hs hung looks)).2, 0)) := ⟨by unfold stuckR; rw [HF.out, HC.out, if_neg (by simp), if_neg hd]⟩
      have hd1 : ((doneR cl hs p (truthsT hs hung looks)).2 == (hs.length : Int)) = false := beq_eq_false_iff_ne.2 hd
      clear hd
      go_wp2_with fail
      go_ret2
      exact ⟨by rw [HR.out]; rfl, HZ.out⟩
end Go.Proofs.Ytokhmghgghjmhaa.Q

namespace Go.Proofs.Ytokhmghgghjmhaa.Q
open Go.RowKit Go.Proofs.YtokhmghgghjmhaaW.PrintWords Go.Proofs.YtokhmghgghjmhaaW.PrintLast Go.Proofs.YtokhmghgghjmhaaW.PrintMore
set_option linter.unusedVariables false
set_option linter.unusedSimpArgs false

end Go.Proofs.Ytokhmghgghjmhaa.Q

namespace Go.Proofs.Ytokhmghgghjmhaa.Q
open Go.RowKit Go.Proofs.YtokhmghgghjmhaaW.PrintWords Go.Proofs.YtokhmghgghjmhaaW.PrintLast Go.Proofs.YtokhmghgghjmhaaW.PrintMore
set_option linter.unusedVariables false
set_option linter.unusedSimpArgs false

/-- Is there a horse of this number? -/
def horseB (n : Nat) (h : Int) : Bool := decide (0 ≤ h ∧ h ≤ wrap64 ((n : Int) - 1))
theorem horse_f (cs cl : Int) (hs : List S139) (hung : List Int) (looks : List S140) (h : Int) : closet_Closet_horse.f cs cl hs hung looks h = some (horseB hs.length h) := by
  unfold closet_Closet_horse.f; rw [within_f]; rfl
theorem horse_nat {n : Nat} {h : Int} (hb : horseB n h = true) (hn : n ≤ 1000) : ∃ k : Nat, h = k ∧ k < n := by
  have h1 := of_decide_eq_true hb
  rw [wrap_dec (by omega) (by omega)] at h1
  exact ⟨h.toNat, by omega, by omega⟩
/-- What Good says. -/
def goodR (cs cl : Int) (hs : List S139) (hung : List Int) (looks : List S140) (p : List Int) (h : Int) : Int × Int × Int :=
  if askCode cs cl hs hung looks (fineB cs hs p && horseB hs.length h) ≠ 0 then (0, 0, askCode cs cl hs hung looks (fineB cs hs p && horseB hs.length h))
  else if goodLo hs p (truthsT hs hung looks) h.toNat > goodHi cl hs p (truthsT hs hung looks) h.toNat then (0, 0, 10) else (goodLo hs p (truthsT hs hung looks) h.toNat, goodHi cl hs p (truthsT hs hung looks) h.toNat, 0)

set_option maxHeartbeats 4000000 in
set_option maxRecDepth 100000 in
theorem goodX_calls (cs cl : Int) {A2 A3 A4 A : Option Addr} {c2 c3 c4 c5 : Nat} {hs : List S139} {hung : List Int} {looks : List S140} {p : List Int} (h : Int) {w : World} (M : Mem w A2 A3 A4 c2 c3 c4 hs hung looks)
    (hrp : Kd.C (Kd.int .i64) w A p.length p) (hcp : p.length ≤ c5) (hn : hs.length ≤ 1000) :
    Calls Try.prog 54 #[.agg #[.int .i64 cs, .int .i64 cl, .slice A2 hs.length c2, .slice A3 hung.length c3, .slice A4 looks.length c4], .slice A p.length c5, .int .i64 h] w
      fun e w' => e = .returned (.tuple #[.agg #[.int .i64 (goodR cs cl hs hung looks p h).1, .int .i64 (goodR cs cl hs hung looks p h).2.1], .int .i64 (goodR cs cl hs hung looks p h).2.2]) ∧ Below w.heap.size w w' := by
  have HM := Aside0.mk M
  have HRP := Aside0.mk hrp
  have HCP := Aside0.mk hcp
  have HN := Aside0.mk hn
  have HH := Aside0.mk (horse_f cs cl hs hung looks h)
  clear M hrp hcp hn
  obtain ⟨W0, hW0⟩ : ∃ W0, (w.alloc (.cells #[.int .i64 cs, .int .i64 cl, .slice A2 hs.length c2, .slice A3 hung.length c3, .slice A4 looks.length c4] 35)).alloc (.cells #[.int .i64 0, .int .i64 0] 61) = W0 := ⟨_, rfl⟩
  have HB0 := Aside0.mk (show Below w.heap.size w W0 from by rw [← hW0]; repeat (first | exact Below.refl _ _ | apply below_alloc))
  have HBK := Aside0.mk (show W0.heap[w.heap.size]? = some (.cells #[.int .i64 cs, .int .i64 cl, .slice A2 hs.length c2, .slice A3 hung.length c3, .slice A4 looks.length c4] 35 (0, 0)) from by rw [← hW0]; repeat (first | (refine blk_new_ ?_; simp; done) | refine blk_alloc ?_ _))
  have b0 : W0.cell? ⟨w.heap.size, 0, none⟩ = some (.int .i64 cs) := (blk_cell HBK.out 0).trans rfl
  have b1 : W0.cell? ⟨w.heap.size, 1, none⟩ = some (.int .i64 cl) := (blk_cell HBK.out 1).trans rfl
  have b2 : W0.cell? ⟨w.heap.size, 2, none⟩ = some (.slice A2 hs.length c2) := (blk_cell HBK.out 2).trans rfl
  have b3 : W0.cell? ⟨w.heap.size, 3, none⟩ = some (.slice A3 hung.length c3) := (blk_cell HBK.out 3).trans rfl
  have b4 : W0.cell? ⟨w.heap.size, 4, none⟩ = some (.slice A4 looks.length c4) := (blk_cell HBK.out 4).trans rfl
  have HRB := Aside0.mk (show W0.heap[w.heap.size + 1]? = some (.cells #[.int .i64 0, .int .i64 0] 61 (0, 0)) from by rw [← hW0]; refine blk_new_ ?_; simp)
  obtain ⟨b, hb⟩ : ∃ b, fineB cs hs p = b := ⟨_, rfl⟩
  have HF := Aside0.mk hb
  obtain ⟨hq, hhq⟩ : ∃ hq, horseB hs.length h = hq := ⟨_, rfl⟩
  have HHQ := Aside0.mk hhq
  rw [hhq] at HH
  clear hb hhq
  have fin : ∀ (wy : World) (pt : Value) (c : Int) (wx : World), True := fun _ _ _ _ => trivial
  clear fin
  go_enter Try.func54, Try.ntmps54
  go_wp2_with fail
  try rw [hW0]
  clear hW0
  cases b with
  | false =>
    refine wp_region_held_drew (S := fun W' => Below W0.heap.size W0 W' ∧ W'.cell? ⟨w.heap.size, 0, none⟩ = some (.int .i64 cs) ∧ W'.cell? ⟨w.heap.size, 1, none⟩ = some (.int .i64 cl) ∧ W'.cell? ⟨w.heap.size, 2, none⟩ = some (.slice A2 hs.length c2) ∧ W'.cell? ⟨w.heap.size, 3, none⟩ = some (.slice A3 hung.length c3) ∧ W'.cell? ⟨w.heap.size, 4, none⟩ = some (.slice A4 looks.length c4)) (by kernel_rfl) ?hS (fun hHeld => ?_)
    case hS => exact ⟨below_drew (Below.refl _ _), b0, b1, b2, b3, b4⟩
    focus
      refine tkT 0 (some 12) (v := ?_) rfl rfl (.inl ⟨by rfl, ?_⟩) ?_
      rotate_left
      · (intro w hSw; (try dsimp only at hSw); go_simp; with_reducible rfl)
      try simp only [Act.put, List.setIfInBounds_toArray, List.set_cons_zero, List.set_cons_succ]
      refine tkT 1 (some 13) (v := ?_) rfl rfl (.inl ⟨by rfl, ?_⟩) ?_
      rotate_left
      · (intro w hSw; (try dsimp only at hSw); go_simp; with_reducible rfl)
      try simp only [Act.put, List.setIfInBounds_toArray, List.set_cons_zero, List.set_cons_succ]
      refine tkT 2 (some 14) (v := ?_) rfl rfl (.inl ⟨by rfl, ?_⟩) ?_
      rotate_left
      · (intro w hSw; (try dsimp only at hSw); go_simp; with_reducible rfl)
      try simp only [Act.put, List.setIfInBounds_toArray, List.set_cons_zero, List.set_cons_succ]
      refine wpAnyH_ready (rs := [3]) (by kernel_rfl) (by simp) ?_
      refine AllReadyH.cons (o := { dst := some 15, op := Op.call { callee := Callee.value (Operand.func 88), args := #[Operand.tmp 13, Operand.tmp 14], argTypes := #[35, 23] }, type := 4, pos := "ask.go:100", after := #[{ on := 1, ground := Ground.data }, { on := 2, ground := Ground.data }], guard := none }) rfl (fun K hK => ?_) ?_
      go_simp
      ((first | (go_at_call 88; refine (isPlace_all cs cl A2 A3 A4 A c2 c3 c4 c5 hs hung looks p _ (HM.out.later (below_step HB0.out hHeld.1)) (Kd.C_below HRP.out (below_step HB0.out hHeld.1)) HCP.out HN.out HF.out).mono ?_; rintro e wx ⟨rfl, hbx⟩; have HBX := Aside0.mk hbx; clear hbx) | (go_at_call 87; refine (asked_calls cs cl (HM.out.later (below_step HB0.out hHeld.1)) false).mono ?_; rintro e wy ⟨pt, c, rfl, hA⟩; have HBY := Aside0.mk hA.below; have HA := Aside0.mk hA; clear hA)))
      go_wp2_with fail
      refine hK.out _ _ ?_ ?_
      · ((try dsimp only); (first | go_keep | (go_split_ands; refine ⟨below_step (by assumption) (by first | exact HBY.out | exact HBX.out), ?_, ?_, ?_, ?_, ?_⟩ <;> first | exact later HBY.out (by assumption) | exact later HBX.out (by assumption))))
      try clear hHeld
      intro hHeld
      clear hK K
      try simp only [Act.put, List.setIfInBounds_toArray, List.set_cons_zero, List.set_cons_succ]
      refine tkT 4 (some 16) (v := ?_) rfl rfl (.inl ⟨by rfl, ?_⟩) ?_
      rotate_left
      · (intro w hSw; (try dsimp only at hSw); go_simp; with_reducible rfl)
      try simp only [Act.put, List.setIfInBounds_toArray, List.set_cons_zero, List.set_cons_succ]
      refine tkT 5 (some 17) (v := undef) rfl rfl (.inr ⟨by rfl, rfl⟩) ?_
      try simp only [Act.put, List.setIfInBounds_toArray, List.set_cons_zero, List.set_cons_succ]
      refine tkT 6 (some 18) (v := undef) rfl rfl (.inr ⟨by rfl, rfl⟩) ?_
      try simp only [Act.put, List.setIfInBounds_toArray, List.set_cons_zero, List.set_cons_succ]
      refine tkT 7 (some 19) (v := undef) rfl rfl (.inr ⟨by rfl, rfl⟩) ?_
      try simp only [Act.put, List.setIfInBounds_toArray, List.set_cons_zero, List.set_cons_succ]
      refine tkT 8 (some 20) (v := ?_) rfl rfl (.inl ⟨by rfl, ?_⟩) ?_
      rotate_left
      · (intro w hSw; (try dsimp only at hSw); go_simp; with_reducible rfl)
      try simp only [Act.put, List.setIfInBounds_toArray, List.set_cons_zero, List.set_cons_succ]
      refine wpAnyH_ready (rs := [9]) (by kernel_rfl) (by simp) ?_
      refine AllReadyH.cons (o := { dst := some 21, op := Op.call { callee := Callee.value (Operand.func 87), args := #[Operand.tmp 12, Operand.tmp 20], argTypes := #[35, 4] }, type := 133, pos := "ask.go:100", after := #[{ on := 0, ground := Ground.data }, { on := 8, ground := Ground.data }, { on := 7, ground := Ground.chain }], guard := none }) rfl (fun K hK => ?_) ?_
      go_simp
      ((first | (go_at_call 88; refine (isPlace_all cs cl A2 A3 A4 A c2 c3 c4 c5 hs hung looks p _ (HM.out.later (below_step HB0.out hHeld.1)) (Kd.C_below HRP.out (below_step HB0.out hHeld.1)) HCP.out HN.out HF.out).mono ?_; rintro e wx ⟨rfl, hbx⟩; have HBX := Aside0.mk hbx; clear hbx) | (go_at_call 87; refine (asked_calls cs cl (HM.out.later (below_step HB0.out hHeld.1)) false).mono ?_; rintro e wy ⟨pt, c, rfl, hA⟩; have HBY := Aside0.mk hA.below; have HA := Aside0.mk hA; clear hA)))
      go_wp2_with fail
      refine hK.out _ _ ?_ ?_
      · ((try dsimp only); (first | go_keep | (go_split_ands; refine ⟨below_step (by assumption) (by first | exact HBY.out | exact HBX.out), ?_, ?_, ?_, ?_, ?_⟩ <;> first | exact later HBY.out (by assumption) | exact later HBX.out (by assumption))))
      try clear hHeld
      intro hHeld
      clear hK K
      try simp only [Act.put, List.setIfInBounds_toArray, List.set_cons_zero, List.set_cons_succ]
      refine tkT 10 (some 11) (v := ?_) rfl rfl (.inl ⟨by rfl, ?_⟩) ?_
      rotate_left
      · (intro w hSw; (try dsimp only at hSw); go_simp; with_reducible rfl)
      try simp only [Act.put, List.setIfInBounds_toArray, List.set_cons_zero, List.set_cons_succ]
      refine tkT 11 (some 22) (v := ?_) rfl rfl (.inl ⟨by rfl, ?_⟩) ?_
      rotate_left
      · (intro w hSw; (try dsimp only at hSw); go_simp; with_reducible rfl)
      try simp only [Act.put, List.setIfInBounds_toArray, List.set_cons_zero, List.set_cons_succ]
      refine tkT 12 (some 23) (v := ?_) rfl rfl (.inl ⟨by rfl, ?_⟩) ?_
      rotate_left
      · (intro w hSw; (try dsimp only at hSw); go_simp; with_reducible rfl)
      try simp only [Act.put, List.setIfInBounds_toArray, List.set_cons_zero, List.set_cons_succ]
      refine tkT 13 (some 8) (v := ?_) rfl rfl (.inl ⟨by rfl, ?_⟩) ?_
      rotate_left
      · (intro w hSw; (try dsimp only at hSw); go_simp; with_reducible rfl)
      try simp only [Act.put, List.setIfInBounds_toArray, List.set_cons_zero, List.set_cons_succ]
      refine tkT 14 (some 9) (v := ?_) rfl rfl (.inl ⟨by rfl, ?_⟩) ?_
      rotate_left
      · (intro w hSw; (try dsimp only at hSw); go_simp; with_reducible rfl)
      try simp only [Act.put, List.setIfInBounds_toArray, List.set_cons_zero, List.set_cons_succ]
      refine wpAnyH_done (by kernel_rfl) ?_ _
      rotate_left
      exact AllReadyH.nil
      exact AllReadyH.nil
    have HL := Aside0.mk (below_step (Below.refl _ _) hHeld.1)
    clear hHeld b0 b1 b2 b3 b4
    rcases HA.out with ⟨h0, hc, rfl, _⟩ | ⟨_, _, _, hbt, _⟩
    · have h1 : (c != 0) = true := by rw [bne_iff_ne]; exact h0
      have HR : Aside0 (goodR cs cl hs hung looks p h = (0, 0, c)) := ⟨by unfold goodR; rw [HF.out, Bool.false_and, ← hc, if_pos h0]⟩
      have HRB2 := Aside0.mk (blk_below HRB.out HL.out)
      have rz := blk_lt HRB2.out
      have r0 : wy.cell? ⟨w.heap.size + 1, 0, none⟩ = some (.int .i64 0) := (blk_cell HRB2.out 0).trans rfl
      have r1 : wy.cell? ⟨w.heap.size + 1, 1, none⟩ = some (.int .i64 0) := (blk_cell HRB2.out 1).trans rfl
      have rf0 := blk_frozen HRB2.out 0
      have rf1 := blk_frozen HRB2.out 1
      clear hc h0
      go_wp2_with fail
      refine bodyPost_ret (results_list (rs := [.cell 6 61, .tmp 7]) rfl (by simp) (.cell (w.heap.size + 1) 61 #[.int .i64 0, .int .i64 0] (0, 0) _ rfl (blk_put (blk_put HRB2.out 0 _ rfl) 1 _ rfl) Try.underlying61 rfl (by kernel_rfl) (.tmp .nil))) rfl ⟨by rw [HR.out]; rfl, ((below_step HB0.out HL.out).setCell (by simp) _).setCell (by simp) _⟩
    · cases hbt
  | true =>
    refine wp_region_held_drew (S := fun W' => Below W0.heap.size W0 W' ∧ W'.cell? ⟨w.heap.size, 0, none⟩ = some (.int .i64 cs) ∧ W'.cell? ⟨w.heap.size, 1, none⟩ = some (.int .i64 cl) ∧ W'.cell? ⟨w.heap.size, 2, none⟩ = some (.slice A2 hs.length c2) ∧ W'.cell? ⟨w.heap.size, 3, none⟩ = some (.slice A3 hung.length c3) ∧ W'.cell? ⟨w.heap.size, 4, none⟩ = some (.slice A4 looks.length c4)) (by kernel_rfl) ?hS (fun hHeld => ?_)
    case hS => exact ⟨below_drew (Below.refl _ _), b0, b1, b2, b3, b4⟩
    focus
      refine tkT 0 (some 12) (v := ?_) rfl rfl (.inl ⟨by rfl, ?_⟩) ?_
      rotate_left
      · (intro w hSw; (try dsimp only at hSw); go_simp; with_reducible rfl)
      try simp only [Act.put, List.setIfInBounds_toArray, List.set_cons_zero, List.set_cons_succ]
      refine tkT 1 (some 13) (v := ?_) rfl rfl (.inl ⟨by rfl, ?_⟩) ?_
      rotate_left
      · (intro w hSw; (try dsimp only at hSw); go_simp; with_reducible rfl)
      try simp only [Act.put, List.setIfInBounds_toArray, List.set_cons_zero, List.set_cons_succ]
      refine tkT 2 (some 14) (v := ?_) rfl rfl (.inl ⟨by rfl, ?_⟩) ?_
      rotate_left
      · (intro w hSw; (try dsimp only at hSw); go_simp; with_reducible rfl)
      try simp only [Act.put, List.setIfInBounds_toArray, List.set_cons_zero, List.set_cons_succ]
      refine wpAnyH_ready (rs := [3]) (by kernel_rfl) (by simp) ?_
      refine AllReadyH.cons (o := { dst := some 15, op := Op.call { callee := Callee.value (Operand.func 88), args := #[Operand.tmp 13, Operand.tmp 14], argTypes := #[35, 23] }, type := 4, pos := "ask.go:100", after := #[{ on := 1, ground := Ground.data }, { on := 2, ground := Ground.data }], guard := none }) rfl (fun K hK => ?_) ?_
      go_simp
      ((first | (go_at_call 88; refine (isPlace_all cs cl A2 A3 A4 A c2 c3 c4 c5 hs hung looks p _ (HM.out.later (below_step HB0.out hHeld.1)) (Kd.C_below HRP.out (below_step HB0.out hHeld.1)) HCP.out HN.out HF.out).mono ?_; rintro e wx ⟨rfl, hbx⟩; have HBX := Aside0.mk hbx; clear hbx) | (go_at_call 101; refine (closet_Closet_horse.calls cs cl A2 c2 hs A3 c3 hung A4 c4 looks h _ _ (Kd.C_below HM.out.h2 (below_step HB0.out hHeld.1)) HM.out.l2 (Kd.C_below HM.out.h3 (below_step HB0.out hHeld.1)) HM.out.l3 (Kd.C_below HM.out.h4 (below_step HB0.out hHeld.1)) HM.out.l4 HH.out).mono ?_; rintro e wq ⟨rfl, hbq⟩; have HBQ := Aside0.mk hbq; clear hbq) | (go_at_call 87; refine (asked_calls cs cl (HM.out.later (below_step HB0.out hHeld.1)) hq).mono ?_; rintro e wy ⟨pt, c, rfl, hA⟩; have HBY := Aside0.mk hA.below; have HA := Aside0.mk hA; clear hA)))
      go_wp2_with fail
      refine hK.out _ _ ?_ ?_
      · ((try dsimp only); (first | go_keep | (go_split_ands; refine ⟨below_step (by assumption) (by first | exact HBY.out | exact HBQ.out | exact HBX.out), ?_, ?_, ?_, ?_, ?_⟩ <;> first | exact later HBY.out (by assumption) | exact later HBQ.out (by assumption) | exact later HBX.out (by assumption))))
      try clear hHeld
      intro hHeld
      clear hK K
      try simp only [Act.put, List.setIfInBounds_toArray, List.set_cons_zero, List.set_cons_succ]
      refine tkT 4 (some 16) (v := ?_) rfl rfl (.inl ⟨by rfl, ?_⟩) ?_
      rotate_left
      · (intro w hSw; (try dsimp only at hSw); go_simp; with_reducible rfl)
      try simp only [Act.put, List.setIfInBounds_toArray, List.set_cons_zero, List.set_cons_succ]
      refine tkT 5 (some 17) (v := ?_) rfl rfl (.inl ⟨by rfl, ?_⟩) ?_
      rotate_left
      · (intro w hSw; (try dsimp only at hSw); go_simp; with_reducible rfl)
      try simp only [Act.put, List.setIfInBounds_toArray, List.set_cons_zero, List.set_cons_succ]
      refine tkT 6 (some 18) (v := ?_) rfl rfl (.inl ⟨by rfl, ?_⟩) ?_
      rotate_left
      · (intro w hSw; (try dsimp only at hSw); go_simp; with_reducible rfl)
      try simp only [Act.put, List.setIfInBounds_toArray, List.set_cons_zero, List.set_cons_succ]
      refine wpAnyH_ready (rs := [7]) (by kernel_rfl) (by simp) ?_
      refine AllReadyH.cons (o := { dst := some 19, op := Op.call { callee := Callee.value (Operand.func 101), args := #[Operand.tmp 17, Operand.tmp 18], argTypes := #[35, 3] }, type := 4, pos := "ask.go:100", after := #[{ on := 5, ground := Ground.data }, { on := 6, ground := Ground.data }, { on := 4, ground := Ground.chain }, { on := 4, ground := Ground.guard }], guard := some (4, true) }) rfl (fun K hK => ?_) ?_
      go_simp
      ((first | (go_at_call 88; refine (isPlace_all cs cl A2 A3 A4 A c2 c3 c4 c5 hs hung looks p _ (HM.out.later (below_step HB0.out hHeld.1)) (Kd.C_below HRP.out (below_step HB0.out hHeld.1)) HCP.out HN.out HF.out).mono ?_; rintro e wx ⟨rfl, hbx⟩; have HBX := Aside0.mk hbx; clear hbx) | (go_at_call 101; refine (closet_Closet_horse.calls cs cl A2 c2 hs A3 c3 hung A4 c4 looks h _ _ (Kd.C_below HM.out.h2 (below_step HB0.out hHeld.1)) HM.out.l2 (Kd.C_below HM.out.h3 (below_step HB0.out hHeld.1)) HM.out.l3 (Kd.C_below HM.out.h4 (below_step HB0.out hHeld.1)) HM.out.l4 HH.out).mono ?_; rintro e wq ⟨rfl, hbq⟩; have HBQ := Aside0.mk hbq; clear hbq) | (go_at_call 87; refine (asked_calls cs cl (HM.out.later (below_step HB0.out hHeld.1)) hq).mono ?_; rintro e wy ⟨pt, c, rfl, hA⟩; have HBY := Aside0.mk hA.below; have HA := Aside0.mk hA; clear hA)))
      go_wp2_with fail
      refine hK.out _ _ ?_ ?_
      · ((try dsimp only); (first | go_keep | (go_split_ands; refine ⟨below_step (by assumption) (by first | exact HBY.out | exact HBQ.out | exact HBX.out), ?_, ?_, ?_, ?_, ?_⟩ <;> first | exact later HBY.out (by assumption) | exact later HBQ.out (by assumption) | exact later HBX.out (by assumption))))
      try clear hHeld
      intro hHeld
      clear hK K
      try simp only [Act.put, List.setIfInBounds_toArray, List.set_cons_zero, List.set_cons_succ]
      refine tkT 8 (some 20) (v := ?_) rfl rfl (.inl ⟨by rfl, ?_⟩) ?_
      rotate_left
      · (intro w hSw; (try dsimp only at hSw); go_simp; with_reducible rfl)
      try simp only [Act.put, List.setIfInBounds_toArray, List.set_cons_zero, List.set_cons_succ]
      refine wpAnyH_ready (rs := [9]) (by kernel_rfl) (by simp) ?_
      refine AllReadyH.cons (o := { dst := some 21, op := Op.call { callee := Callee.value (Operand.func 87), args := #[Operand.tmp 12, Operand.tmp 20], argTypes := #[35, 4] }, type := 133, pos := "ask.go:100", after := #[{ on := 0, ground := Ground.data }, { on := 8, ground := Ground.data }, { on := 7, ground := Ground.chain }], guard := none }) rfl (fun K hK => ?_) ?_
      go_simp
      ((first | (go_at_call 88; refine (isPlace_all cs cl A2 A3 A4 A c2 c3 c4 c5 hs hung looks p _ (HM.out.later (below_step HB0.out hHeld.1)) (Kd.C_below HRP.out (below_step HB0.out hHeld.1)) HCP.out HN.out HF.out).mono ?_; rintro e wx ⟨rfl, hbx⟩; have HBX := Aside0.mk hbx; clear hbx) | (go_at_call 101; refine (closet_Closet_horse.calls cs cl A2 c2 hs A3 c3 hung A4 c4 looks h _ _ (Kd.C_below HM.out.h2 (below_step HB0.out hHeld.1)) HM.out.l2 (Kd.C_below HM.out.h3 (below_step HB0.out hHeld.1)) HM.out.l3 (Kd.C_below HM.out.h4 (below_step HB0.out hHeld.1)) HM.out.l4 HH.out).mono ?_; rintro e wq ⟨rfl, hbq⟩; have HBQ := Aside0.mk hbq; clear hbq) | (go_at_call 87; refine (asked_calls cs cl (HM.out.later (below_step HB0.out hHeld.1)) hq).mono ?_; rintro e wy ⟨pt, c, rfl, hA⟩; have HBY := Aside0.mk hA.below; have HA := Aside0.mk hA; clear hA)))
      go_wp2_with fail
      refine hK.out _ _ ?_ ?_
      · ((try dsimp only); (first | go_keep | (go_split_ands; refine ⟨below_step (by assumption) (by first | exact HBY.out | exact HBQ.out | exact HBX.out), ?_, ?_, ?_, ?_, ?_⟩ <;> first | exact later HBY.out (by assumption) | exact later HBQ.out (by assumption) | exact later HBX.out (by assumption))))
      try clear hHeld
      intro hHeld
      clear hK K
      try simp only [Act.put, List.setIfInBounds_toArray, List.set_cons_zero, List.set_cons_succ]
      refine tkT 10 (some 11) (v := ?_) rfl rfl (.inl ⟨by rfl, ?_⟩) ?_
      rotate_left
      · (intro w hSw; (try dsimp only at hSw); go_simp; with_reducible rfl)
      try simp only [Act.put, List.setIfInBounds_toArray, List.set_cons_zero, List.set_cons_succ]
      refine tkT 11 (some 22) (v := ?_) rfl rfl (.inl ⟨by rfl, ?_⟩) ?_
      rotate_left
      · (intro w hSw; (try dsimp only at hSw); go_simp; with_reducible rfl)
      try simp only [Act.put, List.setIfInBounds_toArray, List.set_cons_zero, List.set_cons_succ]
      refine tkT 12 (some 23) (v := ?_) rfl rfl (.inl ⟨by rfl, ?_⟩) ?_
      rotate_left
      · (intro w hSw; (try dsimp only at hSw); go_simp; with_reducible rfl)
      try simp only [Act.put, List.setIfInBounds_toArray, List.set_cons_zero, List.set_cons_succ]
      refine tkT 13 (some 8) (v := ?_) rfl rfl (.inl ⟨by rfl, ?_⟩) ?_
      rotate_left
      · (intro w hSw; (try dsimp only at hSw); go_simp; with_reducible rfl)
      try simp only [Act.put, List.setIfInBounds_toArray, List.set_cons_zero, List.set_cons_succ]
      refine tkT 14 (some 9) (v := ?_) rfl rfl (.inl ⟨by rfl, ?_⟩) ?_
      rotate_left
      · (intro w hSw; (try dsimp only at hSw); go_simp; with_reducible rfl)
      try simp only [Act.put, List.setIfInBounds_toArray, List.set_cons_zero, List.set_cons_succ]
      refine wpAnyH_done (by kernel_rfl) ?_ _
      rotate_left
      exact AllReadyH.nil
      exact AllReadyH.nil
      exact AllReadyH.nil
    have HL := Aside0.mk (below_step (Below.refl _ _) hHeld.1)
    clear hHeld b0 b1 b2 b3 b4
    have HRB2 := Aside0.mk (blk_below HRB.out HL.out)
    have rz := blk_lt HRB2.out
    have HLW := Aside0.mk (below_step HB0.out HL.out)
    rcases HA.out with ⟨h0, hc, rfl, _⟩ | ⟨rfl, hc, hk, rfl, hts, g, m, AT, cT, rfl, hA⟩
    · have h1 : (c != 0) = true := by rw [bne_iff_ne]; exact h0
      have HR : Aside0 (goodR cs cl hs hung looks p h = (0, 0, c)) := ⟨by unfold goodR; rw [HF.out, HHQ.out, Bool.true_and, ← hc, if_pos h0]⟩
      have r0 : wy.cell? ⟨w.heap.size + 1, 0, none⟩ = some (.int .i64 0) := (blk_cell HRB2.out 0).trans rfl
      have r1 : wy.cell? ⟨w.heap.size + 1, 1, none⟩ = some (.int .i64 0) := (blk_cell HRB2.out 1).trans rfl
      have rf0 := blk_frozen HRB2.out 0
      have rf1 := blk_frozen HRB2.out 1
      clear hc h0
      go_wp2_with fail
      refine bodyPost_ret (results_list (rs := [.cell 6 61, .tmp 7]) rfl (by simp) (.cell (w.heap.size + 1) 61 #[.int .i64 0, .int .i64 0] (0, 0) _ rfl (blk_put (blk_put HRB2.out 0 _ rfl) 1 _ rfl) Try.underlying61 rfl (by kernel_rfl) (.tmp .nil))) rfl ⟨by rw [HR.out]; rfl, ((below_step HB0.out HL.out).setCell (by simp) _).setCell (by simp) _⟩
    · have HAS := Aside0.mk hA
      have HC := Aside0.mk hc
      have HK := Aside0.mk hk
      have HT := Aside0.mk hts
      have HV := Aside0.mk (valid_of hk)
      clear hA hc hk hts
      obtain ⟨k, rfl, hkl⟩ := horse_nat HHQ.out HN.out
      go_wp2_with fail
      refine (good_calls _ g (some m) cs cl A2 A3 A4 AT A c2 c3 c4 cT c5 hs hung looks (truthsT hs hung looks) p k HV.out HAS.out.work (Kd.C_below HRP.out HLW.out) (fine_place HV.out HF.out) hkl HT.out (truths_small HV.out) (truths_len HK.out)).mono ?_
      rintro e wz ⟨rfl, hbz⟩
      have HZ := Aside0.mk (below_step HLW.out hbz)
      have HRB3 := Aside0.mk (blk_below HRB2.out hbz)
      clear hbz
      obtain ⟨lo, hlo⟩ : ∃ lo, goodLo hs p (truthsT hs hung looks) k = lo := ⟨_, rfl⟩
      obtain ⟨hi, hhi⟩ : ∃ hi, goodHi cl hs p (truthsT hs hung looks) k = hi := ⟨_, rfl⟩
      have HLO := Aside0.mk hlo
      have HHI := Aside0.mk hhi
      rw [hlo, hhi]
      clear hlo hhi
      have rz3 := blk_lt HRB3.out
      go_wp2_with fail
      cases hd : decide (lo > hi) with
      | true =>
        have HD := Aside0.mk (of_decide_eq_true hd)
        have HR : Aside0 (goodR cs cl hs hung looks p (k : Int) = (0, 0, 10)) := ⟨by unfold goodR; rw [HF.out, HHQ.out, Bool.true_and, HC.out, if_neg (by simp), Int.toNat_natCast, HLO.out, HHI.out, if_pos HD.out]⟩
        refine (closet_Range_none.calls _ _ true _ (by unfold closet_Range_none.f; rw [hd])).mono ?_
        clear hd
        rintro e wv ⟨rfl, hbv⟩
        have HV2 := Aside0.mk (below_step (below_alloc HZ.out _) hbv)
        have HRB4 := Aside0.mk (blk_below (blk_alloc HRB3.out _) hbv)
        clear hbv
        have r0 : wv.cell? ⟨w.heap.size + 1, 0, none⟩ = some (.int .i64 0) := (blk_cell HRB4.out 0).trans rfl
        have r1 : wv.cell? ⟨w.heap.size + 1, 1, none⟩ = some (.int .i64 0) := (blk_cell HRB4.out 1).trans rfl
        have rf0 := blk_frozen HRB4.out 0
        have rf1 := blk_frozen HRB4.out 1
        go_wp2_with fail
        refine bodyPost_ret (results_list (rs := [.cell 6 61, .tmp 7]) rfl (by simp) (.cell (w.heap.size + 1) 61 #[.int .i64 0, .int .i64 0] (0, 0) _ rfl (blk_put (blk_put HRB4.out 0 _ rfl) 1 _ rfl) Try.underlying61 rfl (by kernel_rfl) (.tmp .nil))) rfl ⟨by rw [HR.out]; rfl, (HV2.out.setCell (by simp) _).setCell (by simp) _⟩
      | false =>
        have HD := Aside0.mk (of_decide_eq_false hd)
        have HR : Aside0 (goodR cs cl hs hung looks p (k : Int) = (lo, hi, 0)) := ⟨by unfold goodR; rw [HF.out, HHQ.out, Bool.true_and, HC.out, if_neg (by simp), Int.toNat_natCast, HLO.out, HHI.out, if_neg HD.out]⟩
        refine (closet_Range_none.calls _ _ false _ (by unfold closet_Range_none.f; rw [hd])).mono ?_
        clear hd
        rintro e wv ⟨rfl, hbv⟩
        have HV2 := Aside0.mk (below_step (below_alloc HZ.out _) hbv)
        have HRB4 := Aside0.mk (blk_below (blk_alloc HRB3.out _) hbv)
        have d0 : wv.cell? ⟨wz.heap.size, 0, none⟩ = some (.int .i64 lo) := later hbv (by go_simp)
        have d1 : wv.cell? ⟨wz.heap.size, 1, none⟩ = some (.int .i64 hi) := later hbv (by go_simp)
        clear hbv
        have r0 : wv.cell? ⟨w.heap.size + 1, 0, none⟩ = some (.int .i64 0) := (blk_cell HRB4.out 0).trans rfl
        have r1 : wv.cell? ⟨w.heap.size + 1, 1, none⟩ = some (.int .i64 0) := (blk_cell HRB4.out 1).trans rfl
        have rf0 := blk_frozen HRB4.out 0
        have rf1 := blk_frozen HRB4.out 1
        go_wp2_with fail
        refine bodyPost_ret (results_list (rs := [.cell 6 61, .tmp 7]) rfl (by simp) (.cell (w.heap.size + 1) 61 #[.int .i64 lo, .int .i64 hi] (0, 0) _ rfl (blk_put (blk_put HRB4.out 0 _ rfl) 1 _ rfl) Try.underlying61 rfl (by kernel_rfl) (.tmp .nil))) rfl ⟨by rw [HR.out]; rfl, (HV2.out.setCell (by simp) _).setCell (by simp) _⟩
end Go.Proofs.Ytokhmghgghjmhaa.Q

