/- Part A4 of the proof (C34, QB, QI, C35, C36, C37): contracts of functions, and plain lemmas about what they compute. -/
import Derived.ChangeKeysEq
import Derived.Test.YtokhmghgghjmhaaA0
import Derived.Test.YtokhmghgghjmhaaA1
import Derived.Test.YtokhmghgghjmhaaA2
import Derived.Test.YtokhmghgghjmhaaA3
namespace Go.Proofs.Ytokhmghgghjmhaa.Q
open Go.RowKit Go.Proofs.YtokhmghgghjmhaaW.PrintWords Go.Proofs.YtokhmghgghjmhaaW.PrintLast Go.Proofs.YtokhmghgghjmhaaW.PrintMore
set_option linter.unusedVariables false
attribute [local go_sem] max2_mx min2_mn max_two min_two
/-- How many truths a look leaves. -/
def lookN (hs : List S139) (hung : List Int) (ts : List (Nat → Int)) (k : Nat) (b : Int) : Int :=
  mx (dryN hs hung k b ts ts.length : Int) ((ts.length : Int) - (dryN hs hung k b ts ts.length : Int))
/-- One look more is tried. -/
def askS (hs : List S139) (hung : List Int) (ts : List (Nat → Int)) (k b : Nat) (st : Int × Int × Int) : Int × Int × Int :=
  if lookN hs hung ts k b < st.2.2 then ((k : Int), (b : Int), lookN hs hung ts k b) else st
def askM (hs : List S139) (hung : List Int) (ts : List (Nat → Int)) (k : Nat) (st : Int × Int × Int) : Nat → Int × Int × Int
  | 0 => st
  | b + 1 => askS hs hung ts k b (askM hs hung ts k st b)
def askH (hs : List S139) (hung : List Int) (ts : List (Nat → Int)) : Nat → Int × Int × Int
  | 0 => (0, 0, (ts.length : Int) + 1)
  | k + 1 => askM hs hung ts k (askH hs hung ts k) 100
/-- What Ask says. -/
def askR (cs cl : Int) (hs : List S139) (hung : List Int) (looks : List S140) : Int × Int × Int × Int :=
  if askCode cs cl hs hung looks true ≠ 0 then (0, 0, 0, askCode cs cl hs hung looks true)
  else if hs.length = 0 then (0, 0, 0, 7)
  else ((askH hs hung (truthsT hs hung looks) hs.length).1, (askH hs hung (truthsT hs hung looks) hs.length).2.1, (askH hs hung (truthsT hs hung looks) hs.length).2.2, 0)
/-- What lies in memory while looks are tried. -/
structure Ast (w : World) (g m : Nat) (cs cl : Int) (A2 A3 A4 AT : Option Addr) (c2 c3 c4 cT : Nat) (hs : List S139) (hung : List Int) (looks : List S140) (ts : List (Nat → Int)) (N : Nat) (P : Int → Int → Prop) (W : World) : Prop where
  below : Below w.heap.size w W
  work : Work W g (some m) cs cl A2 A3 A4 AT c2 c3 c4 cT hs hung looks ts
  map : ∃ D : DataW Unit, W.ownsMap Try.prog 147 (plainElem Try.prog 3) m N D ∧ ∀ a b : Int, 0 ≤ a ∧ a ≤ 1000 → 0 ≤ b ∧ b ≤ 1000 → Maps.has D (kl a b) = true → P a b
theorem Ast.mono {w : World} {g m : Nat} {cs cl : Int} {A2 A3 A4 AT : Option Addr} {c2 c3 c4 cT : Nat} {hs : List S139} {hung : List Int} {looks : List S140} {ts : List (Nat → Int)} {N N' : Nat} {P P' : Int → Int → Prop} {W : World}
    (h : Ast w g m cs cl A2 A3 A4 AT c2 c3 c4 cT hs hung looks ts N P W) (hN : N ≤ N') (hP : ∀ a b, P a b → P' a b) : Ast w g m cs cl A2 A3 A4 AT c2 c3 c4 cT hs hung looks ts N' P' W := by
  obtain ⟨D, h1, h2⟩ := h.map
  exact ⟨h.below, h.work, D, h1.mono hN, fun a b ha hb h => hP a b (h2 a b ha hb h)⟩
theorem dry_ast {w : World} {g m : Nat} {cs cl : Int} {A2 A3 A4 AT : Option Addr} {c2 c3 c4 cT : Nat} {hs : List S139} {hung : List Int} {looks : List S140} {ts : List (Nat → Int)} {N : Nat} {P : Int → Int → Prop} {W : World}
    (M : Mem w A2 A3 A4 c2 c3 c4 hs hung looks) (V : Valid cs cl hs hung looks) (h : Ast w g m cs cl A2 A3 A4 AT c2 c3 c4 cT hs hung looks ts N P W) (hg0 : w.heap.size ≤ g) (hm0 : w.heap.size ≤ m) (hA0 : ∀ k, (Value.slice AT ts.length cT).ownBlock = some k → w.heap.size ≤ k)
    (hgm : g ≠ m) (hAm : ∀ ad, AT = some ad → 0 < ts.length → ad.block ≠ m) (hN : N < 1000) (hT : Small ts) (hl : ts.length ≤ 100000) (k b : Nat) (hk : k < hs.length) (hb9 : b ≤ 99) (hP : ¬ P k b) :
    Calls Try.prog 90 #[.pointer (some ⟨g, 0, none⟩), .agg #[.int .i64 k, .int .i64 b]] W
      fun e W' => e = .returned (.int .i64 (dryN hs hung k b ts ts.length : Nat)) ∧ Ast w g m cs cl A2 A3 A4 AT c2 c3 c4 cT hs hung looks ts (N + 1) (fun x y => P x y ∨ (x = k ∧ y = b)) W' := by
  obtain ⟨D, hm, hD⟩ := h.map
  have hk4 := V.n4
  have hno : Maps.has D (kl k b) = false := by
    cases e : Maps.has D (kl k b)
    · rfl
    · exact absurd (hD k b (by omega) (by omega) e) hP
  refine (dry_calls w W g m N D cs cl k b M V h.work h.below hm0 hm hN hT hl hk (by omega) hno).mono ?_
  rintro e W' ⟨he, hown, hb, hkept⟩
  refine ⟨he, hb, Bst.work_kept M h.work hb hkept hgm hAm, _, hown, fun a c ha hc hh => ?_⟩
  by_cases hE : kl a c = kl k b
  · exact .inr (kl_inj ha hc (by omega) (by omega) hE)
  · rw [Maps.has_put_other hE] at hh
    exact .inl (hD a c ha hc hh)
set_option maxHeartbeats 4000000 in
set_option maxRecDepth 100000 in
theorem askX_calls (cs cl : Int) {A2 A3 A4 : Option Addr} {c2 c3 c4 : Nat} {hs : List S139} {hung : List Int} {looks : List S140} {w : World} (M : Mem w A2 A3 A4 c2 c3 c4 hs hung looks) :
    Calls Try.prog 31 #[.agg #[.int .i64 cs, .int .i64 cl, .slice A2 hs.length c2, .slice A3 hung.length c3, .slice A4 looks.length c4]] w
      fun e w' => e = .returned (.tuple #[.int .i64 (askR cs cl hs hung looks).1, .int .i64 (askR cs cl hs hung looks).2.1, .int .i64 (askR cs cl hs hung looks).2.2.1, .int .i64 (askR cs cl hs hung looks).2.2.2]) ∧ Below w.heap.size w w' := by
  have HM := Aside0.mk M
  clear M
  obtain ⟨W0, hW0⟩ : ∃ W0, w.alloc (.cells #[.int .i64 cs, .int .i64 cl, .slice A2 hs.length c2, .slice A3 hung.length c3, .slice A4 looks.length c4] 35) = W0 := ⟨_, rfl⟩
  have HB0 := Aside0.mk (show Below w.heap.size w W0 from by rw [← hW0]; exact below_alloc (Below.refl _ _) _)
  have HBK := Aside0.mk (show W0.heap[w.heap.size]? = some (.cells #[.int .i64 cs, .int .i64 cl, .slice A2 hs.length c2, .slice A3 hung.length c3, .slice A4 looks.length c4] 35 (0, 0)) from by rw [← hW0]; exact blk_new _ _)
  have b0 : W0.cell? ⟨w.heap.size, 0, none⟩ = some (.int .i64 cs) := (blk_cell HBK.out 0).trans rfl
  have b1 : W0.cell? ⟨w.heap.size, 1, none⟩ = some (.int .i64 cl) := (blk_cell HBK.out 1).trans rfl
  have b2 : W0.cell? ⟨w.heap.size, 2, none⟩ = some (.slice A2 hs.length c2) := (blk_cell HBK.out 2).trans rfl
  have b3 : W0.cell? ⟨w.heap.size, 3, none⟩ = some (.slice A3 hung.length c3) := (blk_cell HBK.out 3).trans rfl
  have b4 : W0.cell? ⟨w.heap.size, 4, none⟩ = some (.slice A4 looks.length c4) := (blk_cell HBK.out 4).trans rfl
  go_enter Try.func31, Try.ntmps31
  go_wp2_with fail
  try rw [hW0]
  clear hW0
  refine (asked_calls cs cl (HM.out.later HB0.out) true).mono ?_
  rintro e wy ⟨pt, c, rfl, hA⟩
  have HA := Aside0.mk hA
  have HL := Aside0.mk hA.below
  have HLW := Aside0.mk (below_step HB0.out HL.out)
  have HBK1 := Aside0.mk (blk_below HBK.out HL.out)
  have k2 : wy.cell? ⟨w.heap.size, 2, none⟩ = some (.slice A2 hs.length c2) := (blk_cell HBK1.out 2).trans rfl
  clear hA b0 b1 b2 b3 b4
  rcases HA.out with ⟨h0, hc, rfl, _⟩ | ⟨rfl, hc, hk, _, hts, g, m, AT, cT, rfl, hA⟩
  · have h1 : (c != 0) = true := by rw [bne_iff_ne]; exact h0
    have HR : Aside0 (askR cs cl hs hung looks = (0, 0, 0, c)) := ⟨by unfold askR; rw [← hc, if_pos h0]⟩
    clear hc h0
    go_wp2_with fail
    refine bodyPost_ret (results_list (rs := [.tmp 2, .tmp 3, .tmp 4, .tmp 5]) rfl (by simp) (.tmp (.tmp (.tmp (.tmp .nil))))) rfl ?_
    exact ⟨by rw [HR.out]; rfl, HLW.out⟩
  · have hdz : ∀ k b, dryN hs hung k b (truthsT hs hung looks) (truthsT hs hung looks).length ≤ (truthsT hs hung looks).length := fun k b => dry_le _ _ _ _ _ _
    have HAS := Aside0.mk hA
    have HC := Aside0.mk hc
    have HK := Aside0.mk hk
    have HT := Aside0.mk hts
    have HV := Aside0.mk (valid_of hk)
    have hgm : g ≠ m := by
      rintro rfl
      have h1 := hA.work.blk
      rw [hA.k] at h1
      cases h1
    have hAm : ∀ ad, AT = some ad → 0 < (truthsT hs hung looks).length → ad.block ≠ m := by
      intro ad e hn hq
      obtain ⟨ad', e', h0, _⟩ := at_N hA.work.tr 0 hn
      rw [e] at e'
      cases e'
      have hm := hA.k
      rw [← hq] at hm
      simp [World.cell?, add_block, hm] at h0
    have HGM := Aside0.mk hgm
    have HAM := Aside0.mk hAm
    have HSM := Aside0.mk (truths_small HV.out)
    have HTL := Aside0.mk (truths_len hk)
    have hTL := truths_len hk
    have HDZ := Aside0.mk hdz
    clear hA hc hk hts hdz
    by_cases hz : hs.length = 0
    · have HR : Aside0 (askR cs cl hs hung looks = (0, 0, 0, 7)) := ⟨by unfold askR; rw [if_neg (by simp [HC.out]), if_pos hz]⟩
      have hz1 : ((hs.length : Int) == 0) = true := by rw [beq_iff_eq]; omega
      clear hgm hAm
      go_wp2_with fail
      refine bodyPost_ret (results_list (rs := [.tmp 2, .tmp 3, .tmp 4, .tmp 5]) rfl (by simp) (.tmp (.tmp (.tmp (.tmp .nil))))) rfl ?_
      exact ⟨by rw [HR.out]; rfl, HLW.out⟩
    · have hz1 : ((hs.length : Int) == 0) = false := beq_eq_false_iff_ne.2 (by omega)
      have HR : Aside0 (askR cs cl hs hung looks = ((askH hs hung (truthsT hs hung looks) hs.length).1, (askH hs hung (truthsT hs hung looks) hs.length).2.1, (askH hs hung (truthsT hs hung looks) hs.length).2.2, 0)) := ⟨by unfold askR; rw [if_neg (by simp [HC.out]), if_neg hz]⟩
      have hw1 : IntKind.i64.wrap (((truthsT hs hung looks).length : Int) + 1) = ((truthsT hs hung looks).length : Int) + 1 := IntWalk.i64_in _ (by omega)
      have AST : Aside0 (Ast W0 g m cs cl A2 A3 A4 AT c2 c3 c4 cT hs hung looks (truthsT hs hung looks) 0 (fun _ _ => False) wy) := by
        refine ⟨HL.out, HAS.out.work, .map [], ⟨#[], 0, HAS.out.k, ⟨by simp, MapKept.stamped_empty 0, by simp⟩, Nat.le_refl _, rfl⟩, fun a b ha hb h => by simp [Maps.has] at h⟩
      obtain ⟨q0, q1, q2, q3, q4, q5, q6⟩ := HAS.out.work.cells
      clear hgm hAm q0 q1 q2 q3 q4 q6
      go_wp2_with fail
      go_loopg [2, 3, 4, 31] hs.length (fun kq hv mv lv v wr => ∃ i : Nat, hv = .int .i64 (askH hs hung (truthsT hs hung looks) i).1 ∧ mv = .int .i64 (askH hs hung (truthsT hs hung looks) i).2.1 ∧ lv = .int .i64 (askH hs hung (truthsT hs hung looks) i).2.2 ∧ v = .int .i64 i ∧ Aside0 (i + kq = hs.length) ∧
          Aside0 (Ast W0 g m cs cl A2 A3 A4 AT c2 c3 c4 cT hs hung looks (truthsT hs hung looks) (100 * i) (fun a _ => a < i) wr))
      case atStart => exact ⟨0, rfl, rfl, rfl, rfl, ⟨by omega⟩, ⟨AST.out.mono (by omega) (fun _ _ h => h.elim)⟩⟩
      case round =>
        obtain ⟨i, rfl, rfl, rfl, rfl, HJ, HB⟩ := hrel
        by_cases hlt : i < hs.length
        · obtain ⟨st, hst⟩ : ∃ st, askH hs hung (truthsT hs hung looks) i = st := ⟨_, rfl⟩
          have HST := Aside0.mk hst
          rw [hst]
          have hn4 := HV.out.n4
          clear hst
          go_wp2_with fail
          go_loopg [2, 3, 4, 34] 100 (fun kz hv mv lv v wr => ∃ j : Nat, hv = .int .i64 (askM hs hung (truthsT hs hung looks) i st j).1 ∧ mv = .int .i64 (askM hs hung (truthsT hs hung looks) i st j).2.1 ∧ lv = .int .i64 (askM hs hung (truthsT hs hung looks) i st j).2.2 ∧ v = .int .i64 j ∧ Aside0 (j + kz = 100) ∧
              Aside0 (Ast W0 g m cs cl A2 A3 A4 AT c2 c3 c4 cT hs hung looks (truthsT hs hung looks) (100 * i + j) (fun a b => a < i ∨ (a = i ∧ b < j)) wr))
          case atStart => exact ⟨0, rfl, rfl, rfl, rfl, ⟨by omega⟩, ⟨HB.out.mono (by omega) (fun _ _ h => .inl h)⟩⟩
          case round =>
            obtain ⟨j, rfl, rfl, rfl, rfl, HJ2, HB2⟩ := hrel
            by_cases hlt2 : j < 100
            · obtain ⟨s2, hs2⟩ : ∃ s2, askM hs hung (truthsT hs hung looks) i st j = s2 := ⟨_, rfl⟩
              have HS2 := Aside0.mk hs2
              rw [hs2]
              clear hs2
              have hlt3 : (j : Int) < 100 := by omega
              have HC := Aside0.mk (dry_ast (HM.out.later HB0.out) HV.out HB2.out HAS.out.g0 HAS.out.m0 HAS.out.at0 HGM.out HAM.out (by omega) HSM.out HTL.out i j hlt (by omega) (by omega))
              go_wp2_with fail
              refine HC.out.mono ?_
              rintro e wd ⟨rfl, hbd⟩
              have HBD := Aside0.mk hbd
              have hdz := HDZ.out i j
              obtain ⟨dz, hdz1⟩ : ∃ dz, dryN hs hung i j (truthsT hs hung looks) (truthsT hs hung looks).length = dz := ⟨_, rfl⟩
              rw [hdz1] at hdz
              rw [hdz1]
              have HDZ1 := Aside0.mk hdz1
              have hw2 : IntKind.i64.wrap (((truthsT hs hung looks).length : Int) - (dz : Int)) = ((truthsT hs hung looks).length : Int) - (dz : Int) := IntWalk.i64_in _ (by omega)
              obtain ⟨q0, q1, q2, q3, q4, q5, q6⟩ := hbd.work.cells
              clear hbd q0 q1 q2 q3 q4 q6 hdz1
              have HLK : Aside0 (lookN hs hung (truthsT hs hung looks) i j = mx (dz : Int) (((truthsT hs hung looks).length : Int) - (dz : Int))) := ⟨by unfold lookN; rw [HDZ1.out]⟩
              by_cases hcmp : mx (dz : Int) (((truthsT hs hung looks).length : Int) - (dz : Int)) < s2.2.2
              · have HE : Aside0 (askM hs hung (truthsT hs hung looks) i st (j + 1) = ((i : Int), (j : Int), mx (dz : Int) (((truthsT hs hung looks).length : Int) - (dz : Int)))) := ⟨by
                  show askS hs hung (truthsT hs hung looks) i j (askM hs hung (truthsT hs hung looks) i st j) = _
                  unfold askS
                  rw [HS2.out, HLK.out, if_pos hcmp]⟩
                go_wp2_with fail
                go_roundg (100 - (j + 1))
                case measure => have := HJ2.out; omega
                case rel => exact ⟨j + 1, by rw [HE.out], by rw [HE.out], by rw [HE.out], by go_num, ⟨by omega⟩, ⟨HBD.out.mono (by omega) (fun a b h => by omega)⟩⟩
              · have HE : Aside0 (askM hs hung (truthsT hs hung looks) i st (j + 1) = s2) := ⟨by
                  show askS hs hung (truthsT hs hung looks) i j (askM hs hung (truthsT hs hung looks) i st j) = _
                  unfold askS
                  rw [HS2.out, HLK.out, if_neg hcmp]⟩
                go_wp2_with fail
                go_roundg (100 - (j + 1))
                case measure => have := HJ2.out; omega
                case rel => exact ⟨j + 1, by rw [HE.out], by rw [HE.out], by rw [HE.out], by go_num, ⟨by omega⟩, ⟨HBD.out.mono (by omega) (fun a b h => by omega)⟩⟩
            · have hj : j = 100 := by have := HJ2.out; omega
              subst hj
              have hlt3 : ¬ (((100 : Nat) : Int) < 100) := by omega
              have HE : Aside0 (askH hs hung (truthsT hs hung looks) (i + 1) = askM hs hung (truthsT hs hung looks) i st 100) := ⟨by show askM hs hung (truthsT hs hung looks) i (askH hs hung (truthsT hs hung looks) i) 100 = _; rw [HST.out]⟩
              go_wp2_with fail
              go_roundg (hs.length - (i + 1))
              case measure => have := HJ.out; omega
              case rel => exact ⟨i + 1, by rw [HE.out], by rw [HE.out], by rw [HE.out], by go_num, ⟨by omega⟩, ⟨HB2.out.mono (by omega) (fun a b h => by omega)⟩⟩
        · have hi : i = hs.length := by have := HJ.out; omega
          subst hi
          go_wp2_with fail
          refine bodyPost_ret (results_list (rs := [.tmp 2, .tmp 3, .tmp 4, .tmp 5]) rfl (by simp) (.tmp (.tmp (.tmp (.tmp .nil))))) rfl ?_
          exact ⟨by rw [HR.out]; rfl, below_step HB0.out HB.out.below⟩
end Go.Proofs.Ytokhmghgghjmhaa.Q
namespace Go.Proofs.Ytokhmghgghjmhaa.Q
open Go.RowKit Go.Proofs.YtokhmghgghjmhaaW.PrintWords Go.Proofs.YtokhmghgghjmhaaW.PrintLast Go.Proofs.YtokhmghgghjmhaaW.PrintMore
attribute [local go_sem] max2_int min2_int max_two min_two max_three min_three max_four min_four   -- for this text's walks alone
set_option linter.unusedVariables false
set_option linter.unusedSimpArgs false
def posserlaw04_between.f (a0 : Int) (a1 : Int) : Option (Int × Int) := some (a0, a1)
set_option maxHeartbeats 8000000 in
set_option maxRecDepth 100000 in
theorem posserlaw04_between.calls (a0 : Int) (a1 : Int) (r1 : Int) (r2 : Int) (w : World) (h : posserlaw04_between.f a0 a1 = some (r1, r2)) :
    Calls Try.prog 86 #[.int .i64 a0, .int .i64 a1] w fun e w' => e = .returned (.agg #[.int .i64 r1, .int .i64 r2]) ∧ Below w.heap.size w w' := by
  have hu61 := Try.underlying61
  have HB := Aside0.mk (Below.refl w.heap.size w)
  have H : (some (a0, a1)) = some (r1, r2) := h
  clear h
  simp only [Option.some.injEq, Prod.mk.injEq] at H
  obtain ⟨rfl, rfl⟩ := H
  go_enter Try.func86, Try.ntmps86
  go_wp2_with (first | ((with_reducible refine gate_dst (N := 4) rfl ?_); refine box_event ?hg (N := 4) ?hd (cs := #[.int .i64 0, .int .i64 0]) (t := 61) ?hr ?_; (case hd => rfl); (case hg => rfl); (case hr => first | (go_simp; done) | (go_simp; rfl)); intro gb370 hg w3 hbox hb; have n0_ := Aside0.mk (below_step (by repeat (first | (with_reducible first | exact HB.out | apply below_alloc | apply pw_below_drewN | apply below_drew1) | exact HB.out)) hb); have n1_ := Aside0.mk (hbox); have n2_ := Aside0.mk ((by rw [hg]; exact (below_size (by repeat (first | (with_reducible first | exact HB.out | apply below_alloc | apply pw_below_drewN | apply below_drew1) | exact HB.out))) : w.heap.size ≤ gb370)); have n3_ := Aside0.mk ((by rw [hg]; exact (below_size (by repeat (first | (with_reducible first | exact HB.out | apply below_alloc | apply pw_below_drewN | apply below_drew1) | exact HB.out))) : w.heap.size ≤ gb370)); clear HB; have HB := n0_; have BK370 := n1_; have GW370 := n2_; have GE370 := n3_; clear n0_ n1_ n2_ n3_; clear hb hbox hg; have hcz4_0 : w3.cell? ⟨gb370, 0, none⟩ = some (.int .i64 0) := (blk_cell BK370.out 0).trans rfl; have hcz4_1 : w3.cell? ⟨gb370, 1, none⟩ = some (.int .i64 0) := (blk_cell BK370.out 1).trans rfl; have hfz4_0 := blk_frozen BK370.out 0; have hfz4_1 := blk_frozen BK370.out 1))
  refine bodyPost_ret (results_cell_row rfl _ _ gb370 61 #[.int .i64 a0, .int .i64 a1] (0, 0) _ rfl (by (with_reducible repeat (first | refine blk_drewN ?_ _ | refine blk_drew ?_ | refine blk_alloc ?_ _)); refine blk_put (cs := #[.int .i64 a0, .int .i64 0]) ?_ 1 _ rfl; (with_reducible repeat (first | refine blk_drewN ?_ _ | refine blk_drew ?_ | refine blk_alloc ?_ _)); refine blk_put (cs := #[.int .i64 0, .int .i64 0]) ?_ 0 _ rfl; (with_reducible repeat (first | refine blk_drewN ?_ _ | refine blk_drew ?_ | refine blk_alloc ?_ _)); exact BK370.out) Try.underlying61 rfl (by kernel_rfl)) rfl ?_
  exact ⟨by first | rfl | (simp [errW_none, errW_some] <;> rfl) | (simp [*, errW_none, errW_some] <;> rfl), by repeat (first | (with_reducible first | exact HB.out | apply below_alloc | apply pw_below_drewN | apply below_drew1 | refine below_set ?_ GE370.out) | exact HB.out)⟩
end Go.Proofs.Ytokhmghgghjmhaa.Q
namespace Go.Proofs.Ytokhmghgghjmhaa.Q
open Go.RowKit Go.Proofs.YtokhmghgghjmhaaW.PrintWords Go.Proofs.YtokhmghgghjmhaaW.PrintLast Go.Proofs.YtokhmghgghjmhaaW.PrintMore
attribute [local go_sem] max2_int min2_int max_two min_two max_three min_three max_four min_four   -- for this text's walks alone
set_option linter.unusedVariables false
set_option linter.unusedSimpArgs false
def posserlaw04_same.l0 : Nat → List Int → List Int → Int → Option (Bool)
  | 0, _, _, _ => none
  | k + 1, x0, x1, x5 => if x5 < (x0.length : Int) then (if 0 ≤ x5 then (if x5 < (x1.length : Int) then (if (rd x0 x5) = (rd x1 x5) then (posserlaw04_same.l0 k x0 x1 (wrap64 (x5 + 1))) else (some false)) else (none)) else (none)) else (some true)
def posserlaw04_same.f (k : Nat) (l0 : List Int) (l1 : List Int) : Option (Bool) := if (l0.length : Int) = (l1.length : Int) then (posserlaw04_same.l0 k l0 l1 0) else (some false)
set_option maxHeartbeats 8000000 in
set_option maxRecDepth 100000 in
theorem posserlaw04_same.calls (k : Nat) (A0 : Option Addr) (c0 : Nat) (l0 : List Int) (A1 : Option Addr) (c1 : Nat) (l1 : List Int) (r : Bool) (w : World) (hr0 : Kd.C (Kd.int .i64) w A0 l0.length l0) (hc0 : l0.length ≤ c0) (hr1 : Kd.C (Kd.int .i64) w A1 l1.length l1) (hc1 : l1.length ≤ c1) (h : posserlaw04_same.f k l0 l1 = some r) :
    Calls Try.prog 38 #[.slice A0 l0.length c0, .slice A1 l1.length c1] w fun e w' => e = .returned (.bool r) ∧ Drawn0 w w' := by
  have HR0 := Aside0.mk hr0
  have HC0 := Aside0.mk hc0
  clear hr0 hc0
  have HR1 := Aside0.mk hr1
  have HC1 := Aside0.mk hc1
  clear hr1 hc1
  have H : (if (l0.length : Int) = (l1.length : Int) then (posserlaw04_same.l0 k l0 l1 0) else (some false)) = some r := h
  clear h
  by_cases c3 : (l0.length : Int) = (l1.length : Int)
  · rw [if_pos c3] at H
    have c3b0 : ((l0.length : Int) == (l1.length : Int)) = true := beq_iff_eq.mpr c3
    have c3b1 : ((l0.length : Int) != (l1.length : Int)) = false := bne_eq_false_iff_eq.mpr c3
    have c3b2 : (l0.length == l1.length) = true := by first | simpa using c3 | (simp at c3 ⊢; omega)
    clear c3
    have H' := Aside0.mk H
    clear H
    go_enter Try.func38, Try.ntmps38
    go_wp2
    repeat (go_quiet (fail); try go_wp2)
    go_loopg [5] k (fun kq v5 w' => ∃ (x5_1 : Int), v5 = .int .i64 x5_1 ∧ Aside0 (posserlaw04_same.l0 kq l0 l1 x5_1 = some r) ∧ Aside0 (kq ≤ k) ∧ Drawn0 w w')
    case atStart => exact ⟨(0), (by first | rfl | (simp; done) | (simp [*]; done)), H', ⟨Nat.le_refl _⟩, by repeat (first | exact Drawn0.refl _ | apply Drawn0.step)⟩
    case round =>
      clear H'
      try clear c1
      try clear p2
      try clear c3
      try clear c3b0
      try clear c3b1
      try clear c3b2
      obtain ⟨x5_1, rfl, HA, HK1, ⟨m1, rfl⟩⟩ := hrel
      cases gk with
      | zero => exact absurd HA.out (by simp [posserlaw04_same.l0])
      | succ k1 =>
        have H := HA.out
        clear HA
        simp only [posserlaw04_same.l0] at H
        by_cases c4 : x5_1 < (l0.length : Int)
        · rw [if_pos c4] at H
          have c4b0 : decide (x5_1 < (l0.length : Int)) = true := decide_eq_true c4
          clear c4
          by_cases c5 : 0 ≤ x5_1
          · rw [if_pos c5] at H
            have c5b0 : decide (0 ≤ x5_1) = true := decide_eq_true c5
            clear c5
            by_cases c6 : x5_1 < (l1.length : Int)
            · rw [if_pos c6] at H
              have c6b0 : decide (x5_1 < (l1.length : Int)) = true := decide_eq_true c6
              clear c6
              by_cases c7 : (rd l0 x5_1) = (rd l1 x5_1)
              · rw [if_pos c7] at H
                have c7b0 : ((rd l0 x5_1) == (rd l1 x5_1)) = true := beq_iff_eq.mpr c7
                have c7b1 : ((rd l0 x5_1) != (rd l1 x5_1)) = false := bne_eq_false_iff_eq.mpr c7
                clear c7
                have H' := Aside0.mk H
                clear H
                have p291 : 0 ≤ (x5_1 : Int) := of_decide_eq_true (by first | (with_reducible assumption) | assumption)
                have q291 : x5_1 < (l0.length : Int) := of_decide_eq_true (by first | (with_reducible assumption) | assumption)
                obtain ⟨ad291, e291, hx291_0⟩ := Kd.at_int HR0.out x5_1 p291 q291
                cases e291
                replace p291 := eq_true p291
                replace q291 := eq_true q291
                have p292 : 0 ≤ (x5_1 : Int) := of_decide_eq_true (by first | (with_reducible assumption) | assumption)
                have q292 : x5_1 < (l1.length : Int) := of_decide_eq_true (by first | (with_reducible assumption) | assumption)
                obtain ⟨ad292, e292, hx292_0⟩ := Kd.at_int HR1.out x5_1 p292 q292
                cases e292
                replace p292 := eq_true p292
                replace q292 := eq_true q292
                go_wp2
                repeat (go_quiet (fail); try go_wp2)
                go_roundg k1
                case measure => have := HK1.out; omega
                case rel => exact ⟨(wrap64 (x5_1 + 1)), (by first | rfl | (simp; done) | (simp [*]; done)), H', ⟨by have := HK1.out; omega⟩, by repeat (first | exact Drawn0.refl _ | apply Drawn0.step)⟩
              · rw [if_neg c7] at H
                have c7b0 : ((rd l0 x5_1) == (rd l1 x5_1)) = false := beq_eq_false_iff_ne.mpr c7
                have c7b1 : ((rd l0 x5_1) != (rd l1 x5_1)) = true := bne_iff_ne.mpr c7
                obtain rfl := Option.some.inj H
                have p291 : 0 ≤ (x5_1 : Int) := of_decide_eq_true (by first | (with_reducible assumption) | assumption)
                have q291 : x5_1 < (l0.length : Int) := of_decide_eq_true (by first | (with_reducible assumption) | assumption)
                obtain ⟨ad291, e291, hx291_0⟩ := Kd.at_int HR0.out x5_1 p291 q291
                cases e291
                replace p291 := eq_true p291
                replace q291 := eq_true q291
                have p292 : 0 ≤ (x5_1 : Int) := of_decide_eq_true (by first | (with_reducible assumption) | assumption)
                have q292 : x5_1 < (l1.length : Int) := of_decide_eq_true (by first | (with_reducible assumption) | assumption)
                obtain ⟨ad292, e292, hx292_0⟩ := Kd.at_int HR1.out x5_1 p292 q292
                cases e292
                replace p292 := eq_true p292
                replace q292 := eq_true q292
                go_wp2
                repeat (go_quiet (fail); try go_wp2)
                go_ret
                exact ⟨by first | rfl | (simp; done) | (simp [*]; done), by repeat (first | exact Drawn0.refl _ | apply Drawn0.step)⟩
            · rw [if_neg c6] at H
              exact absurd H (by simp)
          · rw [if_neg c5] at H
            exact absurd H (by simp)
        · rw [if_neg c4] at H
          have c4b0 : decide (x5_1 < (l0.length : Int)) = false := decide_eq_false c4
          clear c4
          obtain rfl := Option.some.inj H
          go_wp2
          repeat (go_quiet (fail); try go_wp2)
          go_ret
          exact ⟨by first | rfl | (simp; done) | (simp [*]; done), by repeat (first | exact Drawn0.refl _ | apply Drawn0.step)⟩
  · rw [if_neg c3] at H
    have c3b0 : ((l0.length : Int) == (l1.length : Int)) = false := beq_eq_false_iff_ne.mpr c3
    have c3b1 : ((l0.length : Int) != (l1.length : Int)) = true := bne_iff_ne.mpr c3
    have c3b2 : (l0.length == l1.length) = false := by first | simpa using c3 | (simp at c3 ⊢; omega)
    obtain rfl := Option.some.inj H
    go_enter Try.func38, Try.ntmps38
    go_wp2
    repeat (go_quiet (fail); try go_wp2)
    go_ret
    exact ⟨by first | rfl | (simp; done) | (simp [*]; done), by repeat (first | exact Drawn0.refl _ | apply Drawn0.step)⟩
end Go.Proofs.Ytokhmghgghjmhaa.Q
namespace Go.Proofs.Ytokhmghgghjmhaa.Q
open Go.RowKit Go.Proofs.YtokhmghgghjmhaaW.PrintWords Go.Proofs.YtokhmghgghjmhaaW.PrintLast Go.Proofs.YtokhmghgghjmhaaW.PrintMore
set_option linter.unusedVariables false
set_option linter.unusedSimpArgs false
/-- A row that lies at the head of a block. -/
theorem C_blk {α : Type} {d : Kd α} {w : World} {g : Nat} {t : TypeId} {cs : Array Value} (xs : List α) (f : α → List Value) (hf : ∀ x ∈ xs, d.K w x (f x) ∧ (f x).length = d.sz) (hb : w.heap[g]? = some (.cells cs t (0, 0)))
    (hm : xs.length ≤ 1000) (hi : ∀ j p, xs[j]? = some p → ∀ i u, (f p)[i]? = some u → cs[j * d.sz + i]? = some u) : d.C w (some ⟨g, 0, none⟩) xs.length xs := by
  refine ⟨rfl, by omega, fun _ => ⟨_, rfl, fun j p hj => ?_⟩⟩
  have hmem := List.mem_of_getElem? hj
  refine ⟨f p, (hf p hmem).2, (hf p hmem).1, fun i u hu => ?_⟩
  have := blk_cell hb (j * d.sz + i)
  have e : (⟨g, 0, none⟩ : Addr).add (j * d.sz + i) = ⟨g, j * d.sz + i, none⟩ := by
    unfold Addr.add
    split
    · rename_i h; rw [h]
    · simp
  rw [e, this]
  exact hi j p hj i u hu
def hs2 (gr : Int) : List S139 := [⟨⟨20, 22⟩, 3, 5⟩, ⟨⟨30, 33⟩, 4, gr⟩]
def hung2 : List Int := [0, 1]
def looks2 : List S140 := [⟨1, 35, true⟩, ⟨1, 34, false⟩, ⟨1, 36, false⟩]
theorem two_store {w W5 : World} {s2 s3 s4 : Value} {v0 v1 v2 v3 v4 : Value} (h0 : Below w.heap.size w W5) (h1 : W5.heap[w.heap.size]? = some (.cells #[v0, v1, v2, v3, v4] 35 (0, 0))) (h2 : W5.heap[w.heap.size + 1]? = some (.cells #[.int .i64 1, .int .i64 35, .bool true, .int .i64 1, .int .i64 34, .bool false, .int .i64 1, .int .i64 36, .bool false] 140 (0, 0))) :
    Below w.heap.size w (((((W5.setCell ⟨w.heap.size, 0, none⟩ (.int .i64 3)).setCell ⟨w.heap.size, 1, none⟩ (.int .i64 60)).setCell ⟨w.heap.size, 2, none⟩ s2).setCell ⟨w.heap.size, 3, none⟩ s3).setCell ⟨w.heap.size, 4, none⟩ s4) ∧
    (∃ v0 v1 v2 v3 v4, (((((W5.setCell ⟨w.heap.size, 0, none⟩ (.int .i64 3)).setCell ⟨w.heap.size, 1, none⟩ (.int .i64 60)).setCell ⟨w.heap.size, 2, none⟩ s2).setCell ⟨w.heap.size, 3, none⟩ s3).setCell ⟨w.heap.size, 4, none⟩ s4).heap[w.heap.size]? = some (.cells #[v0, v1, v2, v3, v4] 35 (0, 0))) ∧
    (((((W5.setCell ⟨w.heap.size, 0, none⟩ (.int .i64 3)).setCell ⟨w.heap.size, 1, none⟩ (.int .i64 60)).setCell ⟨w.heap.size, 2, none⟩ s2).setCell ⟨w.heap.size, 3, none⟩ s3).setCell ⟨w.heap.size, 4, none⟩ s4).heap[w.heap.size + 1]? = some (.cells #[.int .i64 1, .int .i64 35, .bool true, .int .i64 1, .int .i64 34, .bool false, .int .i64 1, .int .i64 36, .bool false] 140 (0, 0)) ∧
    w.heap.size + 2 ≤ (((((W5.setCell ⟨w.heap.size, 0, none⟩ (.int .i64 3)).setCell ⟨w.heap.size, 1, none⟩ (.int .i64 60)).setCell ⟨w.heap.size, 2, none⟩ s2).setCell ⟨w.heap.size, 3, none⟩ s3).setCell ⟨w.heap.size, 4, none⟩ s4).heap.size := by
  have hlt := blk_lt h2
  refine ⟨?_, ⟨_, _, _, _, _, blk_put (blk_put (blk_put (blk_put (blk_put h1 0 _ rfl) 1 _ rfl) 2 _ rfl) 3 _ rfl) 4 _ rfl⟩, ?_, ?_⟩
  · exact ((((h0.setCell (Nat.le_refl _) _).setCell (Nat.le_refl _) _).setCell (Nat.le_refl _) _).setCell (Nat.le_refl _) _).setCell (Nat.le_refl _) _
  · refine blk_far ?_ (by simp) _
    refine blk_far ?_ (by simp) _
    refine blk_far ?_ (by simp) _
    refine blk_far ?_ (by simp) _
    refine blk_far ?_ (by simp) _
    exact h2
  · simp only [World.size_setCell]; omega
theorem hs2_C {w' : World} {g : Nat} {gr : Int} (hw : w'.heap[g]? = some (.cells #[.int .i64 20, .int .i64 22, .int .i64 3, .int .i64 5, .int .i64 30, .int .i64 33, .int .i64 4, .int .i64 gr] 139 (0, 0))) : Kd.C k139 w' (some ⟨g, 0, none⟩) (hs2 gr).length (hs2 gr) := by
  refine C_blk (hs2 gr) (fun x => [.int .i64 x.f0.f0, .int .i64 x.f0.f1, .int .i64 x.f1, .int .i64 x.f2]) (fun x _ => ⟨k139_mk _ x, rfl⟩) hw (by simp [hs2]) ?_
  intro j p hj i u hu
  have hj2 : j = 0 ∨ j = 1 := by
    have := (List.getElem?_eq_some_iff.1 hj).1
    simp only [hs2, List.length_cons, List.length_nil] at this
    omega
  have hi4 : i = 0 ∨ i = 1 ∨ i = 2 ∨ i = 3 := by
    have := (List.getElem?_eq_some_iff.1 hu).1
    simp only [List.length_cons, List.length_nil] at this
    omega
  rcases hj2 with rfl | rfl <;> (cases hj; rcases hi4 with rfl | rfl | rfl | rfl <;> exact hu)
theorem ints2_C {w' : World} {g : Nat} {a b : Int} (hw : w'.heap[g]? = some (.cells #[.int .i64 a, .int .i64 b] 3 (0, 0))) : Kd.C (Kd.int .i64) w' (some ⟨g, 0, none⟩) [a, b].length [a, b] := by
  refine C_blk [a, b] (fun x => [.int .i64 x]) (fun x _ => ⟨rfl, rfl⟩) hw (by simp) ?_
  intro j p hj i u hu
  have hj2 : j = 0 ∨ j = 1 := by
    have := (List.getElem?_eq_some_iff.1 hj).1
    simp only [List.length_cons, List.length_nil] at this
    omega
  have hi4 : i = 0 := by
    have := (List.getElem?_eq_some_iff.1 hu).1
    simp only [List.length_cons, List.length_nil] at this
    omega
  subst hi4
  rcases hj2 with rfl | rfl <;> (cases hj; exact hu)
theorem looks2_C {w' : World} {g n : Nat} (hn : n ≤ 3) (hw : w'.heap[g]? = some (.cells #[.int .i64 1, .int .i64 35, .bool true, .int .i64 1, .int .i64 34, .bool false, .int .i64 1, .int .i64 36, .bool false] 140 (0, 0))) : Kd.C k140 w' (some ⟨g, 0, none⟩) (looks2.take n).length (looks2.take n) := by
  have hl : (looks2.take n).length = n := by rw [List.length_take]; show min n 3 = n; omega
  refine C_blk (looks2.take n) (fun x => [.int .i64 x.f0, .int .i64 x.f1, .bool x.f2]) (fun x _ => ⟨k140_mk _ x, rfl⟩) hw (by omega) ?_
  intro j p hj i u hu
  have hj2 : j = 0 ∨ j = 1 ∨ j = 2 := by
    have := (List.getElem?_eq_some_iff.1 hj).1
    omega
  have hj3 : looks2[j]? = some p := by
    rw [← hj, List.getElem?_take, if_pos (by have := (List.getElem?_eq_some_iff.1 hj).1; omega)]
  have hi4 : i = 0 ∨ i = 1 ∨ i = 2 := by
    have := (List.getElem?_eq_some_iff.1 hu).1
    simp only [List.length_cons, List.length_nil] at this
    omega
  rcases hj2 with rfl | rfl | rfl <;> (cases hj3; rcases hi4 with rfl | rfl | rfl <;> exact hu)
theorem two_end {w w' : World} {e : Ending} {n a2 a3 a4 : Nat} {gr : Int} (hn : n ≤ 3) (he : e = .returned (.agg #[.int .i64 3, .int .i64 60, .slice (some ⟨a2, 0, none⟩) 2 2, .slice (some ⟨a3, 0, none⟩) 2 2, .slice (some ⟨a4, 0, none⟩) n 3]))
    (hb : Below w.heap.size w w') (h4 : w'.heap[a4]? = some (.cells #[.int .i64 1, .int .i64 35, .bool true, .int .i64 1, .int .i64 34, .bool false, .int .i64 1, .int .i64 36, .bool false] 140 (0, 0)))
    (h2 : w'.heap[a2]? = some (.cells #[.int .i64 20, .int .i64 22, .int .i64 3, .int .i64 5, .int .i64 30, .int .i64 33, .int .i64 4, .int .i64 gr] 139 (0, 0)))
    (h3 : w'.heap[a3]? = some (.cells #[.int .i64 0, .int .i64 1] 3 (0, 0))) :
    ∃ A2 A3 A4 c2 c3 c4, e = .returned (.agg #[.int .i64 3, .int .i64 60, .slice A2 (hs2 gr).length c2, .slice A3 hung2.length c3, .slice A4 (looks2.take n).length c4]) ∧ Mem w' A2 A3 A4 c2 c3 c4 (hs2 gr) hung2 (looks2.take n) ∧ Below w.heap.size w w' := by
  have hl : (looks2.take n).length = n := by rw [List.length_take]; show min n 3 = n; omega
  refine ⟨some ⟨a2, 0, none⟩, some ⟨a3, 0, none⟩, some ⟨a4, 0, none⟩, 2, 2, 3, by rw [he, hl]; rfl, ⟨hs2_C h2, ints2_C h3, looks2_C hn h4, Nat.le_refl 2, Nat.le_refl 2, by omega⟩, hb⟩
set_option maxHeartbeats 1000000 in
set_option maxRecDepth 100000 in
theorem two_calls (n : Nat) (gr : Int) (w : World) (hn : n ≤ 3) :
    Calls Try.prog 83 #[.int .i64 n, .int .i64 gr] w fun e w' => ∃ A2 A3 A4 c2 c3 c4, e = .returned (.agg #[.int .i64 3, .int .i64 60, .slice A2 (hs2 gr).length c2, .slice A3 hung2.length c3, .slice A4 (looks2.take n).length c4]) ∧ Mem w' A2 A3 A4 c2 c3 c4 (hs2 gr) hung2 (looks2.take n) ∧ Below w.heap.size w w' := by
  obtain ⟨W1, hW1⟩ : ∃ W1, ((w.alloc (.cells #[.int .i64 0, .int .i64 0, .slice none 0 0, .slice none 0 0, .slice none 0 0] 35)).alloc (.cells #[.int .i64 1, .int .i64 35, .bool true, .int .i64 1, .int .i64 34, .bool false, .int .i64 1, .int .i64 36, .bool false] 140)) = W1 := ⟨_, rfl⟩
  have HB1 := Aside0.mk (show Below w.heap.size w W1 from by rw [← hW1]; repeat (first | exact Below.refl _ _ | apply below_alloc))
  have HR1 := Aside0.mk (show W1.heap[w.heap.size]? = some (.cells #[.int .i64 0, .int .i64 0, .slice none 0 0, .slice none 0 0, .slice none 0 0] 35 (0, 0)) from by rw [← hW1]; repeat (first | (refine blk_new_ ?_; simp; done) | refine blk_alloc ?_ _))
  have HL1 := Aside0.mk (show W1.heap[w.heap.size + 1]? = some (.cells #[.int .i64 1, .int .i64 35, .bool true, .int .i64 1, .int .i64 34, .bool false, .int .i64 1, .int .i64 36, .bool false] 140 (0, 0)) from by rw [← hW1]; repeat (first | (refine blk_new_ ?_; simp; done) | refine blk_alloc ?_ _))
  have hz : W1.heap.size = w.heap.size + 2 := by rw [← hW1]; simp
  have hn0 : (0 : Int) ≤ (n : Int) := by omega
  have hn3 : (n : Int) ≤ 3 := by omega
  go_enter Try.func83, Try.ntmps83
  go_wp2_with fail
  try rw [hW1]
  clear hW1
  refine wp_region_held_drew (S := fun W' => Below w.heap.size w W' ∧ (∃ v0 v1 v2 v3 v4, W'.heap[w.heap.size]? = some (.cells #[v0, v1, v2, v3, v4] 35 (0, 0))) ∧ W'.heap[w.heap.size + 1]? = some (.cells #[.int .i64 1, .int .i64 35, .bool true, .int .i64 1, .int .i64 34, .bool false, .int .i64 1, .int .i64 36, .bool false] 140 (0, 0)) ∧ w.heap.size + 2 ≤ W'.heap.size) (by kernel_rfl) ?hS (fun hHeld => ?_)
  case hS => exact ⟨below_drew HB1.out, ⟨_, _, _, _, _, HR1.out⟩, HL1.out, by show w.heap.size + 2 ≤ W1.heap.size; omega⟩
  focus
    refine tkT 3 (some 13) (v := ?_) rfl rfl (.inl ⟨by rfl, ?_⟩) ?_
    rotate_left
    · (intro w hSw; (try dsimp only at hSw); go_simp; with_reducible rfl)
    try simp only [pS]
    refine tkT 7 (some 17) (v := ?_) rfl rfl (.inl ⟨by rfl, ?_⟩) ?_
    rotate_left
    · (intro w hSw; (try dsimp only at hSw); go_simp; with_reducible rfl)
    try simp only [pS]
    refine tkT 8 (some 18) (v := ?_) rfl rfl (.inl ⟨by rfl, ?_⟩) ?_
    rotate_left
    · (intro w hSw; (try dsimp only at hSw); go_simp; with_reducible rfl)
    try simp only [pS]
    refine tkT 9 (some 19) (v := ?_) rfl rfl (.inl ⟨by rfl, ?_⟩) ?_
    rotate_left
    · (intro w hSw; (try dsimp only at hSw); go_simp; with_reducible rfl)
    try simp only [pS]
    refine wpAnyH_ready (rs := [0, 6]) (by kernel_rfl) (by simp) ?_
    refine AllReadyH.cons (o := { dst := some 10, op := Op.call { callee := Callee.value (Operand.func 86), args := #[Operand.const (Value.int IntKind.i64 20), Operand.const (Value.int IntKind.i64 22)], argTypes := #[3, 3] }, type := 61, pos := "outright.go:16", after := #[], guard := none }) rfl (fun K hK => ?_) ?_
    go_simp
    ((first | (go_at_call 86; refine (posserlaw04_between.calls _ _ _ _ _ rfl).mono ?_; rintro e wx ⟨rfl, hbx⟩; have HZX := Aside0.mk (Nat.le_trans hHeld.2.2.2 hbx.size); replace hbx := Aside0.mk hbx) | (obtain ⟨W5, hW5, h0, ⟨v0, v1, v2, v3, v4, h1⟩, h2, h3⟩ : ∃ W5, W5 = _ ∧ Below w.heap.size w W5 ∧ (∃ v0 v1 v2 v3 v4, W5.heap[w.heap.size]? = some (.cells #[v0, v1, v2, v3, v4] 35 (0, 0))) ∧ W5.heap[w.heap.size + 1]? = some (.cells #[.int .i64 1, .int .i64 35, .bool true, .int .i64 1, .int .i64 34, .bool false, .int .i64 1, .int .i64 36, .bool false] 140 (0, 0)) ∧ w.heap.size + 2 ≤ W5.heap.size := ⟨_, rfl, hHeld⟩; simp only [← hW5]; have HB5 := Aside0.mk h0; have HK5 := Aside0.mk h1; have HL5 := Aside0.mk h2; have HW5 := Aside0.mk hW5; have c0 : W5.cell? ⟨w.heap.size, 0, none⟩ = some v0 := (blk_cell h1 0).trans rfl; have c1 : W5.cell? ⟨w.heap.size, 1, none⟩ = some v1 := (blk_cell h1 1).trans rfl; have c2 : W5.cell? ⟨w.heap.size, 2, none⟩ = some v2 := (blk_cell h1 2).trans rfl; have c3 : W5.cell? ⟨w.heap.size, 3, none⟩ = some v3 := (blk_cell h1 3).trans rfl; have c4 : W5.cell? ⟨w.heap.size, 4, none⟩ = some v4 := (blk_cell h1 4).trans rfl; have f0 := blk_frozen h1 0; have f1 := blk_frozen h1 1; have f2 := blk_frozen h1 2; have f3 := blk_frozen h1 3; have f4 := blk_frozen h1 4; clear h0 h1 h2 h3 hW5 hHeld; go_simp)))
    go_wp2_with fail
    refine hK.out _ _ ?_ ?_
    · ((try dsimp only); (first | (with_reducible refine ⟨below_drew (below_alloc HB1.out _), ⟨_, _, _, _, _, blk_drew (blk_alloc HR1.out _)⟩, blk_drew (blk_alloc HL1.out _), ?_⟩; simp only [World.size_drew, World.size_alloc]; omega) | with_reducible exact two_store HB5.out HK5.out HL5.out | (obtain ⟨h0, ⟨v0, v1, v2, v3, v4, h1⟩, h2, h3⟩ := hHeld; with_reducible refine ⟨below_alloc h0 _, ⟨_, _, _, _, _, blk_alloc h1 _⟩, blk_alloc h2 _, ?_⟩; simp only [World.size_drew, World.size_alloc] at h3 ⊢; omega) | (obtain ⟨h0, ⟨v0, v1, v2, v3, v4, h1⟩, h2, h3⟩ := hHeld; with_reducible exact ⟨below_step h0 hbx.out, ⟨_, _, _, _, _, blk_below h1 hbx.out⟩, blk_below h2 hbx.out, Nat.le_trans h3 hbx.out.size⟩)))
    try clear hHeld
    intro hHeld
    clear hK K
    try simp only [pS]
    refine tkT 1 (some 11) (v := ?_) rfl rfl (.inl ⟨by rfl, ?_⟩) ?_
    rotate_left
    · (intro w hSw; (try dsimp only at hSw); go_simp; with_reducible rfl)
    try simp only [pS]
    refine wpAnyH_ready (rs := [2, 6]) (by kernel_rfl) (by simp) ?_
    refine AllReadyH.cons (o := { dst := some 12, op := Op.call { callee := Callee.value (Operand.func 86), args := #[Operand.const (Value.int IntKind.i64 30), Operand.const (Value.int IntKind.i64 33)], argTypes := #[3, 3] }, type := 61, pos := "outright.go:16", after := #[{ on := 0, ground := Ground.chain }], guard := none }) rfl (fun K hK => ?_) ?_
    go_simp
    ((first | (go_at_call 86; refine (posserlaw04_between.calls _ _ _ _ _ rfl).mono ?_; rintro e wx ⟨rfl, hbx⟩; have HZX := Aside0.mk (Nat.le_trans hHeld.2.2.2 hbx.size); replace hbx := Aside0.mk hbx) | (obtain ⟨W5, hW5, h0, ⟨v0, v1, v2, v3, v4, h1⟩, h2, h3⟩ : ∃ W5, W5 = _ ∧ Below w.heap.size w W5 ∧ (∃ v0 v1 v2 v3 v4, W5.heap[w.heap.size]? = some (.cells #[v0, v1, v2, v3, v4] 35 (0, 0))) ∧ W5.heap[w.heap.size + 1]? = some (.cells #[.int .i64 1, .int .i64 35, .bool true, .int .i64 1, .int .i64 34, .bool false, .int .i64 1, .int .i64 36, .bool false] 140 (0, 0)) ∧ w.heap.size + 2 ≤ W5.heap.size := ⟨_, rfl, hHeld⟩; simp only [← hW5]; have HB5 := Aside0.mk h0; have HK5 := Aside0.mk h1; have HL5 := Aside0.mk h2; have HW5 := Aside0.mk hW5; have c0 : W5.cell? ⟨w.heap.size, 0, none⟩ = some v0 := (blk_cell h1 0).trans rfl; have c1 : W5.cell? ⟨w.heap.size, 1, none⟩ = some v1 := (blk_cell h1 1).trans rfl; have c2 : W5.cell? ⟨w.heap.size, 2, none⟩ = some v2 := (blk_cell h1 2).trans rfl; have c3 : W5.cell? ⟨w.heap.size, 3, none⟩ = some v3 := (blk_cell h1 3).trans rfl; have c4 : W5.cell? ⟨w.heap.size, 4, none⟩ = some v4 := (blk_cell h1 4).trans rfl; have f0 := blk_frozen h1 0; have f1 := blk_frozen h1 1; have f2 := blk_frozen h1 2; have f3 := blk_frozen h1 3; have f4 := blk_frozen h1 4; clear h0 h1 h2 h3 hW5 hHeld; go_simp)))
    go_wp2_with fail
    refine hK.out _ _ ?_ ?_
    · ((try dsimp only); (first | (with_reducible refine ⟨below_drew (below_alloc HB1.out _), ⟨_, _, _, _, _, blk_drew (blk_alloc HR1.out _)⟩, blk_drew (blk_alloc HL1.out _), ?_⟩; simp only [World.size_drew, World.size_alloc]; omega) | with_reducible exact two_store HB5.out HK5.out HL5.out | (obtain ⟨h0, ⟨v0, v1, v2, v3, v4, h1⟩, h2, h3⟩ := hHeld; with_reducible refine ⟨below_alloc h0 _, ⟨_, _, _, _, _, blk_alloc h1 _⟩, blk_alloc h2 _, ?_⟩; simp only [World.size_drew, World.size_alloc] at h3 ⊢; omega) | (obtain ⟨h0, ⟨v0, v1, v2, v3, v4, h1⟩, h2, h3⟩ := hHeld; with_reducible exact ⟨below_step h0 hbx.out, ⟨_, _, _, _, _, blk_below h1 hbx.out⟩, blk_below h2 hbx.out, Nat.le_trans h3 hbx.out.size⟩)))
    try clear hHeld
    intro hHeld
    clear hK K
    try simp only [pS]
    refine tkT 4 (some 14) (v := ?_) rfl rfl (.inl ⟨by rfl, ?_⟩) ?_
    rotate_left
    · (intro w hSw; (try dsimp only at hSw); go_simp; with_reducible rfl)
    try simp only [pS]
    refine wpAnyH_ready (rs := [5, 6]) (by kernel_rfl) (by simp) ?_
    refine AllReadyH.cons (o := { dst := some 15, op := Op.buildSlice 32 2 #[(0, Operand.tmp 11), (1, Operand.tmp 14)], type := 32, pos := "outright.go:16", after := #[{ on := 1, ground := Ground.data }, { on := 4, ground := Ground.data }], guard := none }) rfl (fun K hK => ?_) ?_
    go_simp
    refine hK.out _ _ ?_ ?_
    · ((try dsimp only); (first | (with_reducible refine ⟨below_drew (below_alloc HB1.out _), ⟨_, _, _, _, _, blk_drew (blk_alloc HR1.out _)⟩, blk_drew (blk_alloc HL1.out _), ?_⟩; simp only [World.size_drew, World.size_alloc]; omega) | with_reducible exact two_store HB5.out HK5.out HL5.out | (obtain ⟨h0, ⟨v0, v1, v2, v3, v4, h1⟩, h2, h3⟩ := hHeld; with_reducible refine ⟨below_alloc h0 _, ⟨_, _, _, _, _, blk_alloc h1 _⟩, blk_alloc h2 _, ?_⟩; simp only [World.size_drew, World.size_alloc] at h3 ⊢; omega) | (obtain ⟨h0, ⟨v0, v1, v2, v3, v4, h1⟩, h2, h3⟩ := hHeld; with_reducible exact ⟨below_step h0 hbx.out, ⟨_, _, _, _, _, blk_below h1 hbx.out⟩, blk_below h2 hbx.out, Nat.le_trans h3 hbx.out.size⟩)))
    try clear hHeld
    intro hHeld
    clear hK K
    try simp only [pS]
    refine wpAnyH_ready (rs := [6]) (by kernel_rfl) (by simp) ?_
    refine AllReadyH.cons (o := { dst := some 16, op := Op.buildSlice 23 2 #[(0, Operand.const (Value.int IntKind.i64 0)), (1, Operand.const (Value.int IntKind.i64 1))], type := 23, pos := "outright.go:16", after := #[], guard := none }) rfl (fun K hK => ?_) ?_
    go_simp
    refine hK.out _ _ ?_ ?_
    · ((try dsimp only); (first | (with_reducible refine ⟨below_drew (below_alloc HB1.out _), ⟨_, _, _, _, _, blk_drew (blk_alloc HR1.out _)⟩, blk_drew (blk_alloc HL1.out _), ?_⟩; simp only [World.size_drew, World.size_alloc]; omega) | with_reducible exact two_store HB5.out HK5.out HL5.out | (obtain ⟨h0, ⟨v0, v1, v2, v3, v4, h1⟩, h2, h3⟩ := hHeld; with_reducible refine ⟨below_alloc h0 _, ⟨_, _, _, _, _, blk_alloc h1 _⟩, blk_alloc h2 _, ?_⟩; simp only [World.size_drew, World.size_alloc] at h3 ⊢; omega) | (obtain ⟨h0, ⟨v0, v1, v2, v3, v4, h1⟩, h2, h3⟩ := hHeld; with_reducible exact ⟨below_step h0 hbx.out, ⟨_, _, _, _, _, blk_below h1 hbx.out⟩, blk_below h2 hbx.out, Nat.le_trans h3 hbx.out.size⟩)))
    try clear hHeld
    intro hHeld
    clear hK K
    try simp only [pS]
    refine tkT 10 (some 20) (v := ?_) rfl rfl (.inl ⟨by rfl, ?_⟩) ?_
    rotate_left
    · (intro w hSw; (try dsimp only at hSw); go_simp; with_reducible rfl)
    try simp only [pS]
    refine wpAnyH_ready (rs := [11]) (by kernel_rfl) (by simp) ?_
    refine AllReadyH.cons (o := { dst := none, op := Op.store 35 (Operand.tmp 4) (Operand.tmp 20), type := 0, pos := "outright.go:16", after := #[{ on := 10, ground := Ground.data }, { on := 2, ground := Ground.chain }, { on := 0, ground := Ground.phase }, { on := 1, ground := Ground.phase }, { on := 2, ground := Ground.phase }, { on := 3, ground := Ground.phase }, { on := 4, ground := Ground.phase }, { on := 5, ground := Ground.phase }, { on := 6, ground := Ground.phase }, { on := 7, ground := Ground.phase }, { on := 8, ground := Ground.phase }, { on := 9, ground := Ground.phase }, { on := 10, ground := Ground.phase }], guard := none }) rfl (fun K hK => ?_) ?_
    go_simp
    ((first | (go_at_call 86; refine (posserlaw04_between.calls _ _ _ _ _ rfl).mono ?_; rintro e wx ⟨rfl, hbx⟩; have HZX := Aside0.mk (Nat.le_trans hHeld.2.2.2 hbx.size); replace hbx := Aside0.mk hbx) | (obtain ⟨W5, hW5, h0, ⟨v0, v1, v2, v3, v4, h1⟩, h2, h3⟩ : ∃ W5, W5 = _ ∧ Below w.heap.size w W5 ∧ (∃ v0 v1 v2 v3 v4, W5.heap[w.heap.size]? = some (.cells #[v0, v1, v2, v3, v4] 35 (0, 0))) ∧ W5.heap[w.heap.size + 1]? = some (.cells #[.int .i64 1, .int .i64 35, .bool true, .int .i64 1, .int .i64 34, .bool false, .int .i64 1, .int .i64 36, .bool false] 140 (0, 0)) ∧ w.heap.size + 2 ≤ W5.heap.size := ⟨_, rfl, hHeld⟩; simp only [← hW5]; have HB5 := Aside0.mk h0; have HK5 := Aside0.mk h1; have HL5 := Aside0.mk h2; have HW5 := Aside0.mk hW5; have c0 : W5.cell? ⟨w.heap.size, 0, none⟩ = some v0 := (blk_cell h1 0).trans rfl; have c1 : W5.cell? ⟨w.heap.size, 1, none⟩ = some v1 := (blk_cell h1 1).trans rfl; have c2 : W5.cell? ⟨w.heap.size, 2, none⟩ = some v2 := (blk_cell h1 2).trans rfl; have c3 : W5.cell? ⟨w.heap.size, 3, none⟩ = some v3 := (blk_cell h1 3).trans rfl; have c4 : W5.cell? ⟨w.heap.size, 4, none⟩ = some v4 := (blk_cell h1 4).trans rfl; have f0 := blk_frozen h1 0; have f1 := blk_frozen h1 1; have f2 := blk_frozen h1 2; have f3 := blk_frozen h1 3; have f4 := blk_frozen h1 4; clear h0 h1 h2 h3 hW5 hHeld; go_simp)))
    refine hK.out _ _ ?_ ?_
    · ((try dsimp only); (first | (with_reducible refine ⟨below_drew (below_alloc HB1.out _), ⟨_, _, _, _, _, blk_drew (blk_alloc HR1.out _)⟩, blk_drew (blk_alloc HL1.out _), ?_⟩; simp only [World.size_drew, World.size_alloc]; omega) | with_reducible exact two_store HB5.out HK5.out HL5.out | (obtain ⟨h0, ⟨v0, v1, v2, v3, v4, h1⟩, h2, h3⟩ := hHeld; with_reducible refine ⟨below_alloc h0 _, ⟨_, _, _, _, _, blk_alloc h1 _⟩, blk_alloc h2 _, ?_⟩; simp only [World.size_drew, World.size_alloc] at h3 ⊢; omega) | (obtain ⟨h0, ⟨v0, v1, v2, v3, v4, h1⟩, h2, h3⟩ := hHeld; with_reducible exact ⟨below_step h0 hbx.out, ⟨_, _, _, _, _, blk_below h1 hbx.out⟩, blk_below h2 hbx.out, Nat.le_trans h3 hbx.out.size⟩)))
    try clear hHeld
    intro hHeld
    clear hK K
    try simp only [pS]
    refine wpAnyH_done (by kernel_rfl) ?_ _
    rotate_left
    exact AllReadyH.nil
    exact AllReadyH.nil
    refine AllReadyH.cons (o := { dst := some 16, op := Op.buildSlice 23 2 #[(0, Operand.const (Value.int IntKind.i64 0)), (1, Operand.const (Value.int IntKind.i64 1))], type := 23, pos := "outright.go:16", after := #[], guard := none }) rfl (fun K hK => ?_) ?_
    go_simp
    refine hK.out _ _ ?_ ?_
    · ((try dsimp only); (first | (with_reducible refine ⟨below_drew (below_alloc HB1.out _), ⟨_, _, _, _, _, blk_drew (blk_alloc HR1.out _)⟩, blk_drew (blk_alloc HL1.out _), ?_⟩; simp only [World.size_drew, World.size_alloc]; omega) | with_reducible exact two_store HB5.out HK5.out HL5.out | (obtain ⟨h0, ⟨v0, v1, v2, v3, v4, h1⟩, h2, h3⟩ := hHeld; with_reducible refine ⟨below_alloc h0 _, ⟨_, _, _, _, _, blk_alloc h1 _⟩, blk_alloc h2 _, ?_⟩; simp only [World.size_drew, World.size_alloc] at h3 ⊢; omega) | (obtain ⟨h0, ⟨v0, v1, v2, v3, v4, h1⟩, h2, h3⟩ := hHeld; with_reducible exact ⟨below_step h0 hbx.out, ⟨_, _, _, _, _, blk_below h1 hbx.out⟩, blk_below h2 hbx.out, Nat.le_trans h3 hbx.out.size⟩)))
    try clear hHeld
    intro hHeld
    clear hK K
    try simp only [pS]
    refine wpAnyH_ready (rs := [5]) (by kernel_rfl) (by simp) ?_
    refine AllReadyH.cons (o := { dst := some 15, op := Op.buildSlice 32 2 #[(0, Operand.tmp 11), (1, Operand.tmp 14)], type := 32, pos := "outright.go:16", after := #[{ on := 1, ground := Ground.data }, { on := 4, ground := Ground.data }], guard := none }) rfl (fun K hK => ?_) ?_
    go_simp
    refine hK.out _ _ ?_ ?_
    · ((try dsimp only); (first | (with_reducible refine ⟨below_drew (below_alloc HB1.out _), ⟨_, _, _, _, _, blk_drew (blk_alloc HR1.out _)⟩, blk_drew (blk_alloc HL1.out _), ?_⟩; simp only [World.size_drew, World.size_alloc]; omega) | with_reducible exact two_store HB5.out HK5.out HL5.out | (obtain ⟨h0, ⟨v0, v1, v2, v3, v4, h1⟩, h2, h3⟩ := hHeld; with_reducible refine ⟨below_alloc h0 _, ⟨_, _, _, _, _, blk_alloc h1 _⟩, blk_alloc h2 _, ?_⟩; simp only [World.size_drew, World.size_alloc] at h3 ⊢; omega) | (obtain ⟨h0, ⟨v0, v1, v2, v3, v4, h1⟩, h2, h3⟩ := hHeld; with_reducible exact ⟨below_step h0 hbx.out, ⟨_, _, _, _, _, blk_below h1 hbx.out⟩, blk_below h2 hbx.out, Nat.le_trans h3 hbx.out.size⟩)))
    try clear hHeld
    intro hHeld
    clear hK K
    try simp only [pS]
    refine tkT 10 (some 20) (v := ?_) rfl rfl (.inl ⟨by rfl, ?_⟩) ?_
    rotate_left
    · (intro w hSw; (try dsimp only at hSw); go_simp; with_reducible rfl)
    try simp only [pS]
    refine wpAnyH_ready (rs := [11]) (by kernel_rfl) (by simp) ?_
    refine AllReadyH.cons (o := { dst := none, op := Op.store 35 (Operand.tmp 4) (Operand.tmp 20), type := 0, pos := "outright.go:16", after := #[{ on := 10, ground := Ground.data }, { on := 2, ground := Ground.chain }, { on := 0, ground := Ground.phase }, { on := 1, ground := Ground.phase }, { on := 2, ground := Ground.phase }, { on := 3, ground := Ground.phase }, { on := 4, ground := Ground.phase }, { on := 5, ground := Ground.phase }, { on := 6, ground := Ground.phase }, { on := 7, ground := Ground.phase }, { on := 8, ground := Ground.phase }, { on := 9, ground := Ground.phase }, { on := 10, ground := Ground.phase }], guard := none }) rfl (fun K hK => ?_) ?_
    go_simp
    ((first | (go_at_call 86; refine (posserlaw04_between.calls _ _ _ _ _ rfl).mono ?_; rintro e wx ⟨rfl, hbx⟩; have HZX := Aside0.mk (Nat.le_trans hHeld.2.2.2 hbx.size); replace hbx := Aside0.mk hbx) | (obtain ⟨W5, hW5, h0, ⟨v0, v1, v2, v3, v4, h1⟩, h2, h3⟩ : ∃ W5, W5 = _ ∧ Below w.heap.size w W5 ∧ (∃ v0 v1 v2 v3 v4, W5.heap[w.heap.size]? = some (.cells #[v0, v1, v2, v3, v4] 35 (0, 0))) ∧ W5.heap[w.heap.size + 1]? = some (.cells #[.int .i64 1, .int .i64 35, .bool true, .int .i64 1, .int .i64 34, .bool false, .int .i64 1, .int .i64 36, .bool false] 140 (0, 0)) ∧ w.heap.size + 2 ≤ W5.heap.size := ⟨_, rfl, hHeld⟩; simp only [← hW5]; have HB5 := Aside0.mk h0; have HK5 := Aside0.mk h1; have HL5 := Aside0.mk h2; have HW5 := Aside0.mk hW5; have c0 : W5.cell? ⟨w.heap.size, 0, none⟩ = some v0 := (blk_cell h1 0).trans rfl; have c1 : W5.cell? ⟨w.heap.size, 1, none⟩ = some v1 := (blk_cell h1 1).trans rfl; have c2 : W5.cell? ⟨w.heap.size, 2, none⟩ = some v2 := (blk_cell h1 2).trans rfl; have c3 : W5.cell? ⟨w.heap.size, 3, none⟩ = some v3 := (blk_cell h1 3).trans rfl; have c4 : W5.cell? ⟨w.heap.size, 4, none⟩ = some v4 := (blk_cell h1 4).trans rfl; have f0 := blk_frozen h1 0; have f1 := blk_frozen h1 1; have f2 := blk_frozen h1 2; have f3 := blk_frozen h1 3; have f4 := blk_frozen h1 4; clear h0 h1 h2 h3 hW5 hHeld; go_simp)))
    refine hK.out _ _ ?_ ?_
    · ((try dsimp only); (first | (with_reducible refine ⟨below_drew (below_alloc HB1.out _), ⟨_, _, _, _, _, blk_drew (blk_alloc HR1.out _)⟩, blk_drew (blk_alloc HL1.out _), ?_⟩; simp only [World.size_drew, World.size_alloc]; omega) | with_reducible exact two_store HB5.out HK5.out HL5.out | (obtain ⟨h0, ⟨v0, v1, v2, v3, v4, h1⟩, h2, h3⟩ := hHeld; with_reducible refine ⟨below_alloc h0 _, ⟨_, _, _, _, _, blk_alloc h1 _⟩, blk_alloc h2 _, ?_⟩; simp only [World.size_drew, World.size_alloc] at h3 ⊢; omega) | (obtain ⟨h0, ⟨v0, v1, v2, v3, v4, h1⟩, h2, h3⟩ := hHeld; with_reducible exact ⟨below_step h0 hbx.out, ⟨_, _, _, _, _, blk_below h1 hbx.out⟩, blk_below h2 hbx.out, Nat.le_trans h3 hbx.out.size⟩)))
    try clear hHeld
    intro hHeld
    clear hK K
    try simp only [pS]
    refine wpAnyH_done (by kernel_rfl) ?_ _
    rotate_left
    exact AllReadyH.nil
    exact AllReadyH.nil
    exact AllReadyH.nil
    refine AllReadyH.cons (o := { dst := some 16, op := Op.buildSlice 23 2 #[(0, Operand.const (Value.int IntKind.i64 0)), (1, Operand.const (Value.int IntKind.i64 1))], type := 23, pos := "outright.go:16", after := #[], guard := none }) rfl (fun K hK => ?_) ?_
    go_simp
    refine hK.out _ _ ?_ ?_
    · ((try dsimp only); (first | (with_reducible refine ⟨below_drew (below_alloc HB1.out _), ⟨_, _, _, _, _, blk_drew (blk_alloc HR1.out _)⟩, blk_drew (blk_alloc HL1.out _), ?_⟩; simp only [World.size_drew, World.size_alloc]; omega) | with_reducible exact two_store HB5.out HK5.out HL5.out | (obtain ⟨h0, ⟨v0, v1, v2, v3, v4, h1⟩, h2, h3⟩ := hHeld; with_reducible refine ⟨below_alloc h0 _, ⟨_, _, _, _, _, blk_alloc h1 _⟩, blk_alloc h2 _, ?_⟩; simp only [World.size_drew, World.size_alloc] at h3 ⊢; omega) | (obtain ⟨h0, ⟨v0, v1, v2, v3, v4, h1⟩, h2, h3⟩ := hHeld; with_reducible exact ⟨below_step h0 hbx.out, ⟨_, _, _, _, _, blk_below h1 hbx.out⟩, blk_below h2 hbx.out, Nat.le_trans h3 hbx.out.size⟩)))
    try clear hHeld
    intro hHeld
    clear hK K
    try simp only [pS]
    refine wpAnyH_ready (rs := [2]) (by kernel_rfl) (by simp) ?_
    refine AllReadyH.cons (o := { dst := some 12, op := Op.call { callee := Callee.value (Operand.func 86), args := #[Operand.const (Value.int IntKind.i64 30), Operand.const (Value.int IntKind.i64 33)], argTypes := #[3, 3] }, type := 61, pos := "outright.go:16", after := #[{ on := 0, ground := Ground.chain }], guard := none }) rfl (fun K hK => ?_) ?_
    go_simp
    ((first | (go_at_call 86; refine (posserlaw04_between.calls _ _ _ _ _ rfl).mono ?_; rintro e wx ⟨rfl, hbx⟩; have HZX := Aside0.mk (Nat.le_trans hHeld.2.2.2 hbx.size); replace hbx := Aside0.mk hbx) | (obtain ⟨W5, hW5, h0, ⟨v0, v1, v2, v3, v4, h1⟩, h2, h3⟩ : ∃ W5, W5 = _ ∧ Below w.heap.size w W5 ∧ (∃ v0 v1 v2 v3 v4, W5.heap[w.heap.size]? = some (.cells #[v0, v1, v2, v3, v4] 35 (0, 0))) ∧ W5.heap[w.heap.size + 1]? = some (.cells #[.int .i64 1, .int .i64 35, .bool true, .int .i64 1, .int .i64 34, .bool false, .int .i64 1, .int .i64 36, .bool false] 140 (0, 0)) ∧ w.heap.size + 2 ≤ W5.heap.size := ⟨_, rfl, hHeld⟩; simp only [← hW5]; have HB5 := Aside0.mk h0; have HK5 := Aside0.mk h1; have HL5 := Aside0.mk h2; have HW5 := Aside0.mk hW5; have c0 : W5.cell? ⟨w.heap.size, 0, none⟩ = some v0 := (blk_cell h1 0).trans rfl; have c1 : W5.cell? ⟨w.heap.size, 1, none⟩ = some v1 := (blk_cell h1 1).trans rfl; have c2 : W5.cell? ⟨w.heap.size, 2, none⟩ = some v2 := (blk_cell h1 2).trans rfl; have c3 : W5.cell? ⟨w.heap.size, 3, none⟩ = some v3 := (blk_cell h1 3).trans rfl; have c4 : W5.cell? ⟨w.heap.size, 4, none⟩ = some v4 := (blk_cell h1 4).trans rfl; have f0 := blk_frozen h1 0; have f1 := blk_frozen h1 1; have f2 := blk_frozen h1 2; have f3 := blk_frozen h1 3; have f4 := blk_frozen h1 4; clear h0 h1 h2 h3 hW5 hHeld; go_simp)))
    go_wp2_with fail
    refine hK.out _ _ ?_ ?_
    · ((try dsimp only); (first | (with_reducible refine ⟨below_drew (below_alloc HB1.out _), ⟨_, _, _, _, _, blk_drew (blk_alloc HR1.out _)⟩, blk_drew (blk_alloc HL1.out _), ?_⟩; simp only [World.size_drew, World.size_alloc]; omega) | with_reducible exact two_store HB5.out HK5.out HL5.out | (obtain ⟨h0, ⟨v0, v1, v2, v3, v4, h1⟩, h2, h3⟩ := hHeld; with_reducible refine ⟨below_alloc h0 _, ⟨_, _, _, _, _, blk_alloc h1 _⟩, blk_alloc h2 _, ?_⟩; simp only [World.size_drew, World.size_alloc] at h3 ⊢; omega) | (obtain ⟨h0, ⟨v0, v1, v2, v3, v4, h1⟩, h2, h3⟩ := hHeld; with_reducible exact ⟨below_step h0 hbx.out, ⟨_, _, _, _, _, blk_below h1 hbx.out⟩, blk_below h2 hbx.out, Nat.le_trans h3 hbx.out.size⟩)))
    try clear hHeld
    intro hHeld
    clear hK K
    try simp only [pS]
    refine tkT 4 (some 14) (v := ?_) rfl rfl (.inl ⟨by rfl, ?_⟩) ?_
    rotate_left
    · (intro w hSw; (try dsimp only at hSw); go_simp; with_reducible rfl)
    try simp only [pS]
    refine wpAnyH_ready (rs := [5]) (by kernel_rfl) (by simp) ?_
    refine AllReadyH.cons (o := { dst := some 15, op := Op.buildSlice 32 2 #[(0, Operand.tmp 11), (1, Operand.tmp 14)], type := 32, pos := "outright.go:16", after := #[{ on := 1, ground := Ground.data }, { on := 4, ground := Ground.data }], guard := none }) rfl (fun K hK => ?_) ?_
    go_simp
    refine hK.out _ _ ?_ ?_
    · ((try dsimp only); (first | (with_reducible refine ⟨below_drew (below_alloc HB1.out _), ⟨_, _, _, _, _, blk_drew (blk_alloc HR1.out _)⟩, blk_drew (blk_alloc HL1.out _), ?_⟩; simp only [World.size_drew, World.size_alloc]; omega) | with_reducible exact two_store HB5.out HK5.out HL5.out | (obtain ⟨h0, ⟨v0, v1, v2, v3, v4, h1⟩, h2, h3⟩ := hHeld; with_reducible refine ⟨below_alloc h0 _, ⟨_, _, _, _, _, blk_alloc h1 _⟩, blk_alloc h2 _, ?_⟩; simp only [World.size_drew, World.size_alloc] at h3 ⊢; omega) | (obtain ⟨h0, ⟨v0, v1, v2, v3, v4, h1⟩, h2, h3⟩ := hHeld; with_reducible exact ⟨below_step h0 hbx.out, ⟨_, _, _, _, _, blk_below h1 hbx.out⟩, blk_below h2 hbx.out, Nat.le_trans h3 hbx.out.size⟩)))
    try clear hHeld
    intro hHeld
    clear hK K
    try simp only [pS]
    refine tkT 10 (some 20) (v := ?_) rfl rfl (.inl ⟨by rfl, ?_⟩) ?_
    rotate_left
    · (intro w hSw; (try dsimp only at hSw); go_simp; with_reducible rfl)
    try simp only [pS]
    refine wpAnyH_ready (rs := [11]) (by kernel_rfl) (by simp) ?_
    refine AllReadyH.cons (o := { dst := none, op := Op.store 35 (Operand.tmp 4) (Operand.tmp 20), type := 0, pos := "outright.go:16", after := #[{ on := 10, ground := Ground.data }, { on := 2, ground := Ground.chain }, { on := 0, ground := Ground.phase }, { on := 1, ground := Ground.phase }, { on := 2, ground := Ground.phase }, { on := 3, ground := Ground.phase }, { on := 4, ground := Ground.phase }, { on := 5, ground := Ground.phase }, { on := 6, ground := Ground.phase }, { on := 7, ground := Ground.phase }, { on := 8, ground := Ground.phase }, { on := 9, ground := Ground.phase }, { on := 10, ground := Ground.phase }], guard := none }) rfl (fun K hK => ?_) ?_
    go_simp
    ((first | (go_at_call 86; refine (posserlaw04_between.calls _ _ _ _ _ rfl).mono ?_; rintro e wx ⟨rfl, hbx⟩; have HZX := Aside0.mk (Nat.le_trans hHeld.2.2.2 hbx.size); replace hbx := Aside0.mk hbx) | (obtain ⟨W5, hW5, h0, ⟨v0, v1, v2, v3, v4, h1⟩, h2, h3⟩ : ∃ W5, W5 = _ ∧ Below w.heap.size w W5 ∧ (∃ v0 v1 v2 v3 v4, W5.heap[w.heap.size]? = some (.cells #[v0, v1, v2, v3, v4] 35 (0, 0))) ∧ W5.heap[w.heap.size + 1]? = some (.cells #[.int .i64 1, .int .i64 35, .bool true, .int .i64 1, .int .i64 34, .bool false, .int .i64 1, .int .i64 36, .bool false] 140 (0, 0)) ∧ w.heap.size + 2 ≤ W5.heap.size := ⟨_, rfl, hHeld⟩; simp only [← hW5]; have HB5 := Aside0.mk h0; have HK5 := Aside0.mk h1; have HL5 := Aside0.mk h2; have HW5 := Aside0.mk hW5; have c0 : W5.cell? ⟨w.heap.size, 0, none⟩ = some v0 := (blk_cell h1 0).trans rfl; have c1 : W5.cell? ⟨w.heap.size, 1, none⟩ = some v1 := (blk_cell h1 1).trans rfl; have c2 : W5.cell? ⟨w.heap.size, 2, none⟩ = some v2 := (blk_cell h1 2).trans rfl; have c3 : W5.cell? ⟨w.heap.size, 3, none⟩ = some v3 := (blk_cell h1 3).trans rfl; have c4 : W5.cell? ⟨w.heap.size, 4, none⟩ = some v4 := (blk_cell h1 4).trans rfl; have f0 := blk_frozen h1 0; have f1 := blk_frozen h1 1; have f2 := blk_frozen h1 2; have f3 := blk_frozen h1 3; have f4 := blk_frozen h1 4; clear h0 h1 h2 h3 hW5 hHeld; go_simp)))
    refine hK.out _ _ ?_ ?_
    · ((try dsimp only); (first | (with_reducible refine ⟨below_drew (below_alloc HB1.out _), ⟨_, _, _, _, _, blk_drew (blk_alloc HR1.out _)⟩, blk_drew (blk_alloc HL1.out _), ?_⟩; simp only [World.size_drew, World.size_alloc]; omega) | with_reducible exact two_store HB5.out HK5.out HL5.out | (obtain ⟨h0, ⟨v0, v1, v2, v3, v4, h1⟩, h2, h3⟩ := hHeld; with_reducible refine ⟨below_alloc h0 _, ⟨_, _, _, _, _, blk_alloc h1 _⟩, blk_alloc h2 _, ?_⟩; simp only [World.size_drew, World.size_alloc] at h3 ⊢; omega) | (obtain ⟨h0, ⟨v0, v1, v2, v3, v4, h1⟩, h2, h3⟩ := hHeld; with_reducible exact ⟨below_step h0 hbx.out, ⟨_, _, _, _, _, blk_below h1 hbx.out⟩, blk_below h2 hbx.out, Nat.le_trans h3 hbx.out.size⟩)))
    try clear hHeld
    intro hHeld
    clear hK K
    try simp only [pS]
    refine wpAnyH_done (by kernel_rfl) ?_ _
    rotate_left
    exact AllReadyH.nil
    exact AllReadyH.nil
    exact AllReadyH.nil
    exact AllReadyH.nil
    refine AllReadyH.cons (o := { dst := some 16, op := Op.buildSlice 23 2 #[(0, Operand.const (Value.int IntKind.i64 0)), (1, Operand.const (Value.int IntKind.i64 1))], type := 23, pos := "outright.go:16", after := #[], guard := none }) rfl (fun K hK => ?_) ?_
    go_simp
    refine hK.out _ _ ?_ ?_
    · ((try dsimp only); (first | (with_reducible refine ⟨below_drew (below_alloc HB1.out _), ⟨_, _, _, _, _, blk_drew (blk_alloc HR1.out _)⟩, blk_drew (blk_alloc HL1.out _), ?_⟩; simp only [World.size_drew, World.size_alloc]; omega) | with_reducible exact two_store HB5.out HK5.out HL5.out | (obtain ⟨h0, ⟨v0, v1, v2, v3, v4, h1⟩, h2, h3⟩ := hHeld; with_reducible refine ⟨below_alloc h0 _, ⟨_, _, _, _, _, blk_alloc h1 _⟩, blk_alloc h2 _, ?_⟩; simp only [World.size_drew, World.size_alloc] at h3 ⊢; omega) | (obtain ⟨h0, ⟨v0, v1, v2, v3, v4, h1⟩, h2, h3⟩ := hHeld; with_reducible exact ⟨below_step h0 hbx.out, ⟨_, _, _, _, _, blk_below h1 hbx.out⟩, blk_below h2 hbx.out, Nat.le_trans h3 hbx.out.size⟩)))
    try clear hHeld
    intro hHeld
    clear hK K
    try simp only [pS]
    refine wpAnyH_ready (rs := [0]) (by kernel_rfl) (by simp) ?_
    refine AllReadyH.cons (o := { dst := some 10, op := Op.call { callee := Callee.value (Operand.func 86), args := #[Operand.const (Value.int IntKind.i64 20), Operand.const (Value.int IntKind.i64 22)], argTypes := #[3, 3] }, type := 61, pos := "outright.go:16", after := #[], guard := none }) rfl (fun K hK => ?_) ?_
    go_simp
    ((first | (go_at_call 86; refine (posserlaw04_between.calls _ _ _ _ _ rfl).mono ?_; rintro e wx ⟨rfl, hbx⟩; have HZX := Aside0.mk (Nat.le_trans hHeld.2.2.2 hbx.size); replace hbx := Aside0.mk hbx) | (obtain ⟨W5, hW5, h0, ⟨v0, v1, v2, v3, v4, h1⟩, h2, h3⟩ : ∃ W5, W5 = _ ∧ Below w.heap.size w W5 ∧ (∃ v0 v1 v2 v3 v4, W5.heap[w.heap.size]? = some (.cells #[v0, v1, v2, v3, v4] 35 (0, 0))) ∧ W5.heap[w.heap.size + 1]? = some (.cells #[.int .i64 1, .int .i64 35, .bool true, .int .i64 1, .int .i64 34, .bool false, .int .i64 1, .int .i64 36, .bool false] 140 (0, 0)) ∧ w.heap.size + 2 ≤ W5.heap.size := ⟨_, rfl, hHeld⟩; simp only [← hW5]; have HB5 := Aside0.mk h0; have HK5 := Aside0.mk h1; have HL5 := Aside0.mk h2; have HW5 := Aside0.mk hW5; have c0 : W5.cell? ⟨w.heap.size, 0, none⟩ = some v0 := (blk_cell h1 0).trans rfl; have c1 : W5.cell? ⟨w.heap.size, 1, none⟩ = some v1 := (blk_cell h1 1).trans rfl; have c2 : W5.cell? ⟨w.heap.size, 2, none⟩ = some v2 := (blk_cell h1 2).trans rfl; have c3 : W5.cell? ⟨w.heap.size, 3, none⟩ = some v3 := (blk_cell h1 3).trans rfl; have c4 : W5.cell? ⟨w.heap.size, 4, none⟩ = some v4 := (blk_cell h1 4).trans rfl; have f0 := blk_frozen h1 0; have f1 := blk_frozen h1 1; have f2 := blk_frozen h1 2; have f3 := blk_frozen h1 3; have f4 := blk_frozen h1 4; clear h0 h1 h2 h3 hW5 hHeld; go_simp)))
    go_wp2_with fail
    refine hK.out _ _ ?_ ?_
    · ((try dsimp only); (first | (with_reducible refine ⟨below_drew (below_alloc HB1.out _), ⟨_, _, _, _, _, blk_drew (blk_alloc HR1.out _)⟩, blk_drew (blk_alloc HL1.out _), ?_⟩; simp only [World.size_drew, World.size_alloc]; omega) | with_reducible exact two_store HB5.out HK5.out HL5.out | (obtain ⟨h0, ⟨v0, v1, v2, v3, v4, h1⟩, h2, h3⟩ := hHeld; with_reducible refine ⟨below_alloc h0 _, ⟨_, _, _, _, _, blk_alloc h1 _⟩, blk_alloc h2 _, ?_⟩; simp only [World.size_drew, World.size_alloc] at h3 ⊢; omega) | (obtain ⟨h0, ⟨v0, v1, v2, v3, v4, h1⟩, h2, h3⟩ := hHeld; with_reducible exact ⟨below_step h0 hbx.out, ⟨_, _, _, _, _, blk_below h1 hbx.out⟩, blk_below h2 hbx.out, Nat.le_trans h3 hbx.out.size⟩)))
    try clear hHeld
    intro hHeld
    clear hK K
    try simp only [pS]
    refine tkT 1 (some 11) (v := ?_) rfl rfl (.inl ⟨by rfl, ?_⟩) ?_
    rotate_left
    · (intro w hSw; (try dsimp only at hSw); go_simp; with_reducible rfl)
    try simp only [pS]
    refine wpAnyH_ready (rs := [2]) (by kernel_rfl) (by simp) ?_
    refine AllReadyH.cons (o := { dst := some 12, op := Op.call { callee := Callee.value (Operand.func 86), args := #[Operand.const (Value.int IntKind.i64 30), Operand.const (Value.int IntKind.i64 33)], argTypes := #[3, 3] }, type := 61, pos := "outright.go:16", after := #[{ on := 0, ground := Ground.chain }], guard := none }) rfl (fun K hK => ?_) ?_
    go_simp
    ((first | (go_at_call 86; refine (posserlaw04_between.calls _ _ _ _ _ rfl).mono ?_; rintro e wx ⟨rfl, hbx⟩; have HZX := Aside0.mk (Nat.le_trans hHeld.2.2.2 hbx.size); replace hbx := Aside0.mk hbx) | (obtain ⟨W5, hW5, h0, ⟨v0, v1, v2, v3, v4, h1⟩, h2, h3⟩ : ∃ W5, W5 = _ ∧ Below w.heap.size w W5 ∧ (∃ v0 v1 v2 v3 v4, W5.heap[w.heap.size]? = some (.cells #[v0, v1, v2, v3, v4] 35 (0, 0))) ∧ W5.heap[w.heap.size + 1]? = some (.cells #[.int .i64 1, .int .i64 35, .bool true, .int .i64 1, .int .i64 34, .bool false, .int .i64 1, .int .i64 36, .bool false] 140 (0, 0)) ∧ w.heap.size + 2 ≤ W5.heap.size := ⟨_, rfl, hHeld⟩; simp only [← hW5]; have HB5 := Aside0.mk h0; have HK5 := Aside0.mk h1; have HL5 := Aside0.mk h2; have HW5 := Aside0.mk hW5; have c0 : W5.cell? ⟨w.heap.size, 0, none⟩ = some v0 := (blk_cell h1 0).trans rfl; have c1 : W5.cell? ⟨w.heap.size, 1, none⟩ = some v1 := (blk_cell h1 1).trans rfl; have c2 : W5.cell? ⟨w.heap.size, 2, none⟩ = some v2 := (blk_cell h1 2).trans rfl; have c3 : W5.cell? ⟨w.heap.size, 3, none⟩ = some v3 := (blk_cell h1 3).trans rfl; have c4 : W5.cell? ⟨w.heap.size, 4, none⟩ = some v4 := (blk_cell h1 4).trans rfl; have f0 := blk_frozen h1 0; have f1 := blk_frozen h1 1; have f2 := blk_frozen h1 2; have f3 := blk_frozen h1 3; have f4 := blk_frozen h1 4; clear h0 h1 h2 h3 hW5 hHeld; go_simp)))
    go_wp2_with fail
    refine hK.out _ _ ?_ ?_
    · ((try dsimp only); (first | (with_reducible refine ⟨below_drew (below_alloc HB1.out _), ⟨_, _, _, _, _, blk_drew (blk_alloc HR1.out _)⟩, blk_drew (blk_alloc HL1.out _), ?_⟩; simp only [World.size_drew, World.size_alloc]; omega) | with_reducible exact two_store HB5.out HK5.out HL5.out | (obtain ⟨h0, ⟨v0, v1, v2, v3, v4, h1⟩, h2, h3⟩ := hHeld; with_reducible refine ⟨below_alloc h0 _, ⟨_, _, _, _, _, blk_alloc h1 _⟩, blk_alloc h2 _, ?_⟩; simp only [World.size_drew, World.size_alloc] at h3 ⊢; omega) | (obtain ⟨h0, ⟨v0, v1, v2, v3, v4, h1⟩, h2, h3⟩ := hHeld; with_reducible exact ⟨below_step h0 hbx.out, ⟨_, _, _, _, _, blk_below h1 hbx.out⟩, blk_below h2 hbx.out, Nat.le_trans h3 hbx.out.size⟩)))
    try clear hHeld
    intro hHeld
    clear hK K
    try simp only [pS]
    refine tkT 4 (some 14) (v := ?_) rfl rfl (.inl ⟨by rfl, ?_⟩) ?_
    rotate_left
    · (intro w hSw; (try dsimp only at hSw); go_simp; with_reducible rfl)
    try simp only [pS]
    refine wpAnyH_ready (rs := [5]) (by kernel_rfl) (by simp) ?_
    refine AllReadyH.cons (o := { dst := some 15, op := Op.buildSlice 32 2 #[(0, Operand.tmp 11), (1, Operand.tmp 14)], type := 32, pos := "outright.go:16", after := #[{ on := 1, ground := Ground.data }, { on := 4, ground := Ground.data }], guard := none }) rfl (fun K hK => ?_) ?_
    go_simp
    refine hK.out _ _ ?_ ?_
    · ((try dsimp only); (first | (with_reducible refine ⟨below_drew (below_alloc HB1.out _), ⟨_, _, _, _, _, blk_drew (blk_alloc HR1.out _)⟩, blk_drew (blk_alloc HL1.out _), ?_⟩; simp only [World.size_drew, World.size_alloc]; omega) | with_reducible exact two_store HB5.out HK5.out HL5.out | (obtain ⟨h0, ⟨v0, v1, v2, v3, v4, h1⟩, h2, h3⟩ := hHeld; with_reducible refine ⟨below_alloc h0 _, ⟨_, _, _, _, _, blk_alloc h1 _⟩, blk_alloc h2 _, ?_⟩; simp only [World.size_drew, World.size_alloc] at h3 ⊢; omega) | (obtain ⟨h0, ⟨v0, v1, v2, v3, v4, h1⟩, h2, h3⟩ := hHeld; with_reducible exact ⟨below_step h0 hbx.out, ⟨_, _, _, _, _, blk_below h1 hbx.out⟩, blk_below h2 hbx.out, Nat.le_trans h3 hbx.out.size⟩)))
    try clear hHeld
    intro hHeld
    clear hK K
    try simp only [pS]
    refine tkT 10 (some 20) (v := ?_) rfl rfl (.inl ⟨by rfl, ?_⟩) ?_
    rotate_left
    · (intro w hSw; (try dsimp only at hSw); go_simp; with_reducible rfl)
    try simp only [pS]
    refine wpAnyH_ready (rs := [11]) (by kernel_rfl) (by simp) ?_
    refine AllReadyH.cons (o := { dst := none, op := Op.store 35 (Operand.tmp 4) (Operand.tmp 20), type := 0, pos := "outright.go:16", after := #[{ on := 10, ground := Ground.data }, { on := 2, ground := Ground.chain }, { on := 0, ground := Ground.phase }, { on := 1, ground := Ground.phase }, { on := 2, ground := Ground.phase }, { on := 3, ground := Ground.phase }, { on := 4, ground := Ground.phase }, { on := 5, ground := Ground.phase }, { on := 6, ground := Ground.phase }, { on := 7, ground := Ground.phase }, { on := 8, ground := Ground.phase }, { on := 9, ground := Ground.phase }, { on := 10, ground := Ground.phase }], guard := none }) rfl (fun K hK => ?_) ?_
    go_simp
    ((first | (go_at_call 86; refine (posserlaw04_between.calls _ _ _ _ _ rfl).mono ?_; rintro e wx ⟨rfl, hbx⟩; have HZX := Aside0.mk (Nat.le_trans hHeld.2.2.2 hbx.size); replace hbx := Aside0.mk hbx) | (obtain ⟨W5, hW5, h0, ⟨v0, v1, v2, v3, v4, h1⟩, h2, h3⟩ : ∃ W5, W5 = _ ∧ Below w.heap.size w W5 ∧ (∃ v0 v1 v2 v3 v4, W5.heap[w.heap.size]? = some (.cells #[v0, v1, v2, v3, v4] 35 (0, 0))) ∧ W5.heap[w.heap.size + 1]? = some (.cells #[.int .i64 1, .int .i64 35, .bool true, .int .i64 1, .int .i64 34, .bool false, .int .i64 1, .int .i64 36, .bool false] 140 (0, 0)) ∧ w.heap.size + 2 ≤ W5.heap.size := ⟨_, rfl, hHeld⟩; simp only [← hW5]; have HB5 := Aside0.mk h0; have HK5 := Aside0.mk h1; have HL5 := Aside0.mk h2; have HW5 := Aside0.mk hW5; have c0 : W5.cell? ⟨w.heap.size, 0, none⟩ = some v0 := (blk_cell h1 0).trans rfl; have c1 : W5.cell? ⟨w.heap.size, 1, none⟩ = some v1 := (blk_cell h1 1).trans rfl; have c2 : W5.cell? ⟨w.heap.size, 2, none⟩ = some v2 := (blk_cell h1 2).trans rfl; have c3 : W5.cell? ⟨w.heap.size, 3, none⟩ = some v3 := (blk_cell h1 3).trans rfl; have c4 : W5.cell? ⟨w.heap.size, 4, none⟩ = some v4 := (blk_cell h1 4).trans rfl; have f0 := blk_frozen h1 0; have f1 := blk_frozen h1 1; have f2 := blk_frozen h1 2; have f3 := blk_frozen h1 3; have f4 := blk_frozen h1 4; clear h0 h1 h2 h3 hW5 hHeld; go_simp)))
    refine hK.out _ _ ?_ ?_
    · ((try dsimp only); (first | (with_reducible refine ⟨below_drew (below_alloc HB1.out _), ⟨_, _, _, _, _, blk_drew (blk_alloc HR1.out _)⟩, blk_drew (blk_alloc HL1.out _), ?_⟩; simp only [World.size_drew, World.size_alloc]; omega) | with_reducible exact two_store HB5.out HK5.out HL5.out | (obtain ⟨h0, ⟨v0, v1, v2, v3, v4, h1⟩, h2, h3⟩ := hHeld; with_reducible refine ⟨below_alloc h0 _, ⟨_, _, _, _, _, blk_alloc h1 _⟩, blk_alloc h2 _, ?_⟩; simp only [World.size_drew, World.size_alloc] at h3 ⊢; omega) | (obtain ⟨h0, ⟨v0, v1, v2, v3, v4, h1⟩, h2, h3⟩ := hHeld; with_reducible exact ⟨below_step h0 hbx.out, ⟨_, _, _, _, _, blk_below h1 hbx.out⟩, blk_below h2 hbx.out, Nat.le_trans h3 hbx.out.size⟩)))
    try clear hHeld
    intro hHeld
    clear hK K
    try simp only [pS]
    refine wpAnyH_done (by kernel_rfl) ?_ _
    rotate_left
    exact AllReadyH.nil
    exact AllReadyH.nil
    exact AllReadyH.nil
    exact AllReadyH.nil
    exact AllReadyH.nil
  all_goals
    go_wp2_with fail
    refine bodyPost_ret (results_cell_row rfl _ _ w.heap.size 35 _ (0, 0) _ rfl (blk_put (blk_put (blk_put (blk_put (blk_put HK5.out 0 _ rfl) 1 _ rfl) 2 _ rfl) 3 _ rfl) 4 _ rfl) Try.underlying35 rfl (by kernel_rfl)) rfl ?_
    have hZ := HZX.out
    refine two_end hn rfl hHeld.1 hHeld.2.2.1 ?_ ?_
    all_goals
      iterate 5 refine blk_far ?_ (by first | (simp; done) | (simp; omega) | exact Nat.ne_of_gt (Nat.lt_of_lt_of_le (Nat.lt_add_of_pos_right (by decide : 0 < 2)) (Aside0.out (by assumption)))) _
      rw [HW5.out]
      repeat (first | (with_reducible refine blk_new_ ?_; simp; done) | (with_reducible refine blk_new_ ?_; omega) | with_reducible refine blk_alloc ?_ _ | with_reducible refine blk_drew ?_ | with_reducible refine blk_below ?_ (Aside0.out (by assumption)))
end Go.Proofs.Ytokhmghgghjmhaa.Q
namespace Go.Proofs.Ytokhmghgghjmhaa.Q
open Go.RowKit Go.Proofs.YtokhmghgghjmhaaW.PrintWords Go.Proofs.YtokhmghgghjmhaaW.PrintLast Go.Proofs.YtokhmghgghjmhaaW.PrintMore
set_option linter.unusedVariables false
set_option maxRecDepth 100000
theorem play_ex : playR 3 60 (hs2 4) hung2 (looks2.take 0) [0, 1] [21, 33] = ([25, 36], 0) := by kernel_rfl
theorem right_ex : rightR 3 60 (hs2 4) hung2 (looks2.take 0) [0, 1] 0 25 = (3, 0) := by kernel_rfl
theorem good_ex : goodR 3 60 (hs2 4) hung2 (looks2.take 0) [0, 1] 1 = (36, 37, 0) := by kernel_rfl
theorem best_ex : bestR 3 60 (hs2 4) hung2 (looks2.take 0) = ([0, 2], 33, 0) := by kernel_rfl
theorem stuck_ex : stuckR 3 60 (hs2 2) hung2 (looks2.take 0) [0, 2] = (1, 0) := by kernel_rfl
theorem ask_ex : askR 3 60 (hs2 4) hung2 (looks2.take 0) = (1, 34, 6, 0) := by kernel_rfl
theorem first_ex : firstR 3 60 (hs2 4) hung2 (looks2.take 3) = (2, 0) := by kernel_rfl
theorem leave_ex : leaveR 3 60 (hs2 4) hung2 (looks2.take 3) = ([2], 0) := by kernel_rfl
/-- The closets of the examples, as1 they lie in memory. -/
def Two (w : World) (A2 A3 A4 : Option Addr) (c2 c3 c4 n2 n3 n4 : Nat) (n : Nat) (gr : Int) : Prop :=
  n2 = (hs2 gr).length ∧ n3 = hung2.length ∧ n4 = (looks2.take n).length ∧ Mem w A2 A3 A4 c2 c3 c4 (hs2 gr) hung2 (looks2.take n)
theorem Two.later {w w' : World} {A2 A3 A4 : Option Addr} {c2 c3 c4 n2 n3 n4 n : Nat} {gr : Int} (h : Two w A2 A3 A4 c2 c3 c4 n2 n3 n4 n gr) (hb : Below w.heap.size w w') : Two w' A2 A3 A4 c2 c3 c4 n2 n3 n4 n gr := ⟨h.1, h.2.1, h.2.2.1, h.2.2.2.later hb⟩
theorem two_q (n : Nat) (gr : Int) (w : World) (hn : n ≤ 3) :
    Calls Try.prog 83 #[.int .i64 n, .int .i64 gr] w fun e w' => ∃ A2 A3 A4 c2 c3 c4 n2 n3 n4, e = .returned (.agg #[.int .i64 3, .int .i64 60, .slice A2 n2 c2, .slice A3 n3 c3, .slice A4 n4 c4]) ∧ Two w' A2 A3 A4 c2 c3 c4 n2 n3 n4 n gr ∧ Below w.heap.size w w' :=
  (two_calls n gr w hn).mono fun e w' ⟨A2, A3, A4, c2, c3, c4, he, hM, hb⟩ => ⟨A2, A3, A4, c2, c3, c4, _, _, _, he, ⟨rfl, rfl, rfl, hM⟩, hb⟩
/-- Two numbers, as1 they lie in memory. -/
def Ints2 (w : World) (A : Option Addr) (c : Nat) (a b : Int) : Prop := Kd.C (Kd.int .i64) w A [a, b].length [a, b] ∧ 2 ≤ c
theorem Ints2.later {w w' : World} {A : Option Addr} {c : Nat} {a b : Int} (h : Ints2 w A c a b) (hb : Below w.heap.size w w') : Ints2 w' A c a b := ⟨Kd.C_below h.1 hb, h.2⟩
set_option maxHeartbeats 400000 in
theorem beside_q (w : World) : Calls Try.prog 84 #[] w fun e w' => ∃ A c, e = .returned (.slice A 2 c) ∧ Ints2 w' A c 0 1 ∧ Below w.heap.size w w' := by
  have HB := Aside0.mk (below_alloc (Below.refl w.heap.size w) (.cells #[.int .i64 0, .int .i64 1] 3))
  have HN := Aside0.mk (blk_new w (.cells #[.int .i64 0, .int .i64 1] 3))
  go_enter Try.func84, Try.ntmps84
  go_wp2_with fail
  go_ret
  exact ⟨_, _, rfl, ⟨ints2_C HN.out, Nat.le_refl 2⟩, HB.out⟩
set_option maxHeartbeats 400000 in
theorem apart_q (w : World) : Calls Try.prog 85 #[] w fun e w' => ∃ A c, e = .returned (.slice A 2 c) ∧ Ints2 w' A c 0 2 ∧ Below w.heap.size w w' := by
  have HB := Aside0.mk (below_alloc (Below.refl w.heap.size w) (.cells #[.int .i64 0, .int .i64 2] 3))
  have HN := Aside0.mk (blk_new w (.cells #[.int .i64 0, .int .i64 2] 3))
  go_enter Try.func85, Try.ntmps85
  go_wp2_with fail
  go_ret
  exact ⟨_, _, rfl, ⟨ints2_C HN.out, Nat.le_refl 2⟩, HB.out⟩
theorem R_C {w : World} {b : Nat} {v : Value} {xs : List Int} (h : Kd.R (Kd.int .i64) 3 w b (fun _ => True) v xs) : ∃ A c, v = .slice A xs.length c ∧ Kd.C (Kd.int .i64) w A xs.length xs ∧ xs.length ≤ c := by
  obtain ⟨A, c, rfl⟩ := Kd.R_slice h
  have h2 := Kd.R_reads' h
  exact ⟨A, c, rfl, h2.2.2, by have := h2.2.1; simpa using this⟩
section
variable {w : World} {A2 A3 A4 A A' : Option Addr} {c2 c3 c4 n2 n3 n4 c5 c6 : Nat}
theorem ex_play (T : Two w A2 A3 A4 c2 c3 c4 n2 n3 n4 0 4) (h1 : Ints2 w A c5 0 1) (h2 : Ints2 w A' c6 21 33) : Calls Try.prog 48 #[.agg #[.int .i64 3, .int .i64 60, .slice A2 n2 c2, .slice A3 n3 c3, .slice A4 n4 c4], .slice A 2 c5, .slice A' 2 c6] w
    fun e w' => ∃ A c, e = .returned (.tuple #[.slice A 2 c, .int .i64 0]) ∧ Ints2 w' A c 25 36 ∧ Below w.heap.size w w' := by
  obtain ⟨rfl, rfl, rfl, M⟩ := T
  refine (playX_calls 3 60 M h1.1 h1.2 h2.1 h2.2).mono ?_
  rw [play_ex]
  rintro e w' ⟨v, rfl, hR, hb⟩
  obtain ⟨A, c, rfl, h3, h4⟩ := R_C hR
  exact ⟨A, c, rfl, ⟨h3, h4⟩, hb⟩
theorem ex_right (T : Two w A2 A3 A4 c2 c3 c4 n2 n3 n4 0 4) (h1 : Ints2 w A c5 0 1) : Calls Try.prog 71 #[.agg #[.int .i64 3, .int .i64 60, .slice A2 n2 c2, .slice A3 n3 c3, .slice A4 n4 c4], .slice A 2 c5, .int .i64 0, .int .i64 25] w
    fun e w' => e = .returned (.tuple #[.int .i64 3, .int .i64 0]) ∧ Below w.heap.size w w' := by
  obtain ⟨rfl, rfl, rfl, M⟩ := T
  have := rightX_calls 3 60 0 25 M h1.1 h1.2 (by decide)
  rw [right_ex] at this
  exact this
theorem ex_good (T : Two w A2 A3 A4 c2 c3 c4 n2 n3 n4 0 4) (h1 : Ints2 w A c5 0 1) : Calls Try.prog 54 #[.agg #[.int .i64 3, .int .i64 60, .slice A2 n2 c2, .slice A3 n3 c3, .slice A4 n4 c4], .slice A 2 c5, .int .i64 1] w
    fun e w' => e = .returned (.tuple #[.agg #[.int .i64 36, .int .i64 37], .int .i64 0]) ∧ Below w.heap.size w w' := by
  obtain ⟨rfl, rfl, rfl, M⟩ := T
  have := goodX_calls 3 60 1 M h1.1 h1.2 (by decide)
  rw [good_ex] at this
  exact this
theorem ex_best (T : Two w A2 A3 A4 c2 c3 c4 n2 n3 n4 0 4) : Calls Try.prog 49 #[.agg #[.int .i64 3, .int .i64 60, .slice A2 n2 c2, .slice A3 n3 c3, .slice A4 n4 c4]] w
    fun e w' => ∃ A c, e = .returned (.tuple #[.slice A 2 c, .int .i64 33, .int .i64 0]) ∧ Ints2 w' A c 0 2 ∧ Below w.heap.size w w' := by
  obtain ⟨rfl, rfl, rfl, M⟩ := T
  refine (bestX_calls 3 60 M).mono ?_
  rw [best_ex]
  rintro e w' ⟨v, rfl, hR, hb⟩
  obtain ⟨A, c, rfl, h3, h4⟩ := R_C hR
  exact ⟨A, c, rfl, ⟨h3, h4⟩, hb⟩
theorem ex_stuck (T : Two w A2 A3 A4 c2 c3 c4 n2 n3 n4 0 2) (h1 : Ints2 w A c5 0 2) : Calls Try.prog 25 #[.agg #[.int .i64 3, .int .i64 60, .slice A2 n2 c2, .slice A3 n3 c3, .slice A4 n4 c4], .slice A 2 c5] w
    fun e w' => e = .returned (.tuple #[.int .i64 1, .int .i64 0]) ∧ Below w.heap.size w w' := by
  obtain ⟨rfl, rfl, rfl, M⟩ := T
  have := stuck_calls 3 60 M h1.1 h1.2 (by decide)
  rw [stuck_ex] at this
  exact this
theorem ex_ask (T : Two w A2 A3 A4 c2 c3 c4 n2 n3 n4 0 4) : Calls Try.prog 31 #[.agg #[.int .i64 3, .int .i64 60, .slice A2 n2 c2, .slice A3 n3 c3, .slice A4 n4 c4]] w
    fun e w' => e = .returned (.tuple #[.int .i64 1, .int .i64 34, .int .i64 6, .int .i64 0]) ∧ Below w.heap.size w w' := by
  obtain ⟨rfl, rfl, rfl, M⟩ := T
  have := askX_calls 3 60 M
  rw [ask_ex] at this
  exact this
theorem ex_first (T : Two w A2 A3 A4 c2 c3 c4 n2 n3 n4 3 4) : Calls Try.prog 34 #[.agg #[.int .i64 3, .int .i64 60, .slice A2 n2 c2, .slice A3 n3 c3, .slice A4 n4 c4]] w
    fun e w' => e = .returned (.tuple #[.int .i64 2, .int .i64 0]) ∧ Below w.heap.size w w' := by
  obtain ⟨rfl, rfl, rfl, M⟩ := T
  have := firstX_calls 3 60 M
  rw [first_ex] at this
  exact this
theorem ex_leave (T : Two w A2 A3 A4 c2 c3 c4 n2 n3 n4 3 4) : Calls Try.prog 35 #[.agg #[.int .i64 3, .int .i64 60, .slice A2 n2 c2, .slice A3 n3 c3, .slice A4 n4 c4]] w
    fun e w' => ∃ A c, e = .returned (.tuple #[.slice A 1 c, .int .i64 0]) ∧ (Kd.C (Kd.int .i64) w' A [(2 : Int)].length [2] ∧ 1 ≤ c) ∧ Below w.heap.size w w' := by
  obtain ⟨rfl, rfl, rfl, M⟩ := T
  refine (leaveX_calls 3 60 M).mono ?_
  rw [leave_ex]
  rintro e w' ⟨v, rfl, hR, hb⟩
  obtain ⟨A, c, rfl, h3, h4⟩ := R_C hR
  exact ⟨A, c, rfl, ⟨h3, h4⟩, hb⟩
end
end Go.Proofs.Ytokhmghgghjmhaa.Q
namespace Go.Proofs.Ytokhmghgghjmhaa.Q
open Go.RowKit Go.Proofs.YtokhmghgghjmhaaW.PrintWords Go.Proofs.YtokhmghgghjmhaaW.PrintLast Go.Proofs.YtokhmghgghjmhaaW.PrintMore
set_option linter.unusedVariables false
set_option maxRecDepth 100000 in
theorem eq61 (a b : Int) (w : World) : (Op.equalIn 10000 61 (.agg #[.int .i64 a, .int .i64 b]) (.agg #[.int .i64 a, .int .i64 b])).run Try.prog w = .ok true w := by
  have hu61 := Try.underlying61
  have hu3 := Try.underlying3
  refine eqA_of hu61 (by kernel_rfl) ?_
  refine eqf_cons (r := true) (s := true) (a := .int .i64 a) (b := .int .i64 a) (by kernel_rfl) (by kernel_rfl) (by kernel_rfl) ?_ (eqf_last (a := .int .i64 b) (b := .int .i64 b) (by kernel_rfl) (by kernel_rfl) (by kernel_rfl) ?_)
  · exact (run_equalIn_int w 9998 3 .i64 .i64 a a hu3).trans (by rw [beq_self_eq_true])
  · exact (run_equalIn_int w 9998 3 .i64 .i64 b b hu3).trans (by rw [beq_self_eq_true])
theorem ints1_C {w' : World} {g : Nat} {a : Int} (hw : w'.heap[g]? = some (.cells #[.int .i64 a] 3 (0, 0))) : Kd.C (Kd.int .i64) w' (some ⟨g, 0, none⟩) [a].length [a] := by
  refine C_blk [a] (fun x => [.int .i64 x]) (fun x _ => ⟨rfl, rfl⟩) hw (by simp) ?_
  intro j p hj i u hu
  have hj2 : j = 0 := by
    have := (List.getElem?_eq_some_iff.1 hj).1
    simp only [List.length_cons, List.length_nil] at this
    omega
  have hi4 : i = 0 := by
    have := (List.getElem?_eq_some_iff.1 hu).1
    simp only [List.length_cons, List.length_nil] at this
    omega
  subst hi4 hj2
  cases hj
  exact hu
theorem Ints2.of_blk {w' : World} {g : Nat} {a b : Int} (hw : w'.heap[g]? = some (.cells #[.int .i64 a, .int .i64 b] 3 (0, 0))) : Ints2 w' (some ⟨g, 0, none⟩) 2 a b := ⟨ints2_C hw, Nat.le_refl 2⟩
theorem ints1_of {w' : World} {g : Nat} {a : Int} (hw : w'.heap[g]? = some (.cells #[.int .i64 a] 3 (0, 0))) : Kd.C (Kd.int .i64) w' (some ⟨g, 0, none⟩) [a].length [a] ∧ 1 ≤ 1 := ⟨ints1_C hw, Nat.le_refl 1⟩
theorem ints1_later {w w' : World} {A : Option Addr} {c : Nat} {a : Int} (h : Kd.C (Kd.int .i64) w A [a].length [a] ∧ 1 ≤ c) (hb : Below w.heap.size w w') : Kd.C (Kd.int .i64) w' A [a].length [a] ∧ 1 ≤ c := ⟨Kd.C_below h.1 hb, h.2⟩
theorem same_yes (w : World) {A A' : Option Addr} {c c' : Nat} {a b : Int} (h : Ints2 w A c a b) (h' : Ints2 w A' c' a b) : Calls Try.prog 38 #[.slice A 2 c, .slice A' 2 c'] w fun e w' => e = .returned (.bool true) ∧ Below w.heap.size w w' := by
  have hf : posserlaw04_same.f 5 [a, b] [a, b] = some true := by
    simp [posserlaw04_same.f, posserlaw04_same.l0, rd, wrap64]
  exact (posserlaw04_same.calls 5 A c [a, b] A' c' [a, b] true w h.1 h.2 h'.1 h'.2 hf).mono fun e w' h => ⟨h.1, by obtain ⟨m, rfl⟩ := h.2.out; exact pw_below_drewN (Below.refl _ _) m⟩
theorem same_yes1 (w : World) {A A' : Option Addr} {c c' : Nat} {a : Int} (h : Kd.C (Kd.int .i64) w A [a].length [a] ∧ 1 ≤ c) (h' : Kd.C (Kd.int .i64) w A' [a].length [a] ∧ 1 ≤ c') : Calls Try.prog 38 #[.slice A 1 c, .slice A' 1 c'] w fun e w' => e = .returned (.bool true) ∧ Below w.heap.size w w' := by
  have hf : posserlaw04_same.f 5 [a] [a] = some true := by
    simp [posserlaw04_same.f, posserlaw04_same.l0, rd, wrap64]
  exact (posserlaw04_same.calls 5 A c [a] A' c' [a] true w h.1 h.2 h'.1 h'.2 hf).mono fun e w' h => ⟨h.1, by obtain ⟨m, rfl⟩ := h.2.out; exact pw_below_drewN (Below.refl _ _) m⟩
set_option maxHeartbeats 4000000 in
set_option maxRecDepth 100000 in
theorem awake_calls (w : World) : Calls Try.prog 24 #[] w fun e w' => e = .returned (.bool true) ∧ Below w.heap.size w w' := by
  have HB0 := Aside0.mk (Below.refl w.heap.size w)
  go_enter Try.func24, Try.ntmps24
  go_wp2_with fail
  refine (two_q 0 4 _ (by omega)).mono ?_
  rintro e u1 ⟨A2, A3, A4, c2, c3, c4, n2, n3, n4, rfl, hT, hb⟩
  have HT1 := Aside0.mk hT
  have HB1 := Aside0.mk (below_step HB0.out hb)
  clear hT hb
  go_wp2_with fail
  refine (beside_q _).mono ?_
  rintro e u2 ⟨A, c, rfl, hI, hb⟩
  have HI := Aside0.mk hI
  have HB2 := Aside0.mk (below_step HB1.out hb)
  have HT := Aside0.mk (HT1.out.later hb)
  clear hI hb
  go_wp2_with fail
  refine (ex_play (HT.out.later (below_alloc (Below.refl _ _) _)) (HI.out.later (below_alloc (Below.refl _ _) _)) ⟨ints2_C (blk_new _ _), Nat.le_refl 2⟩).mono ?_
  rintro e u3 ⟨A, c, rfl, hI, hb⟩
  have HP3 := Aside0.mk hI
  have HB3 := Aside0.mk (below_step (below_alloc HB2.out _) hb)
  clear hI hb HT HI
  go_wp2_with fail
  refine (two_q 0 4 _ (by omega)).mono ?_
  rintro e u4 ⟨A2, A3, A4, c2, c3, c4, n2, n3, n4, rfl, hT, hb⟩
  have HP4 := Aside0.mk (HP3.out.later hb)
  have HT4 := Aside0.mk hT
  have HB4 := Aside0.mk (below_step HB3.out hb)
  clear hT hb
  go_wp2_with fail
  refine (beside_q _).mono ?_
  rintro e u5 ⟨A, c, rfl, hI, hb⟩
  have HI := Aside0.mk hI
  have HB5 := Aside0.mk (below_step HB4.out hb)
  have HT := Aside0.mk (HT4.out.later hb)
  have HP5 := Aside0.mk (HP4.out.later hb)
  clear hI hb
  go_wp2_with fail
  refine (ex_right HT.out HI.out).mono ?_
  rintro e u6 ⟨rfl, hb⟩
  have HB6 := Aside0.mk (below_step HB5.out hb)
  have HP6 := Aside0.mk (HP5.out.later hb)
  clear hb HT HI
  go_wp2_with fail
  refine (two_q 0 4 _ (by omega)).mono ?_
  rintro e u7 ⟨A2, A3, A4, c2, c3, c4, n2, n3, n4, rfl, hT, hb⟩
  have HP7 := Aside0.mk (HP6.out.later hb)
  have HT7 := Aside0.mk hT
  have HB7 := Aside0.mk (below_step HB6.out hb)
  clear hT hb
  go_wp2_with fail
  refine (beside_q _).mono ?_
  rintro e u8 ⟨A, c, rfl, hI, hb⟩
  have HI := Aside0.mk hI
  have HB8 := Aside0.mk (below_step HB7.out hb)
  have HT := Aside0.mk (HT7.out.later hb)
  have HP8 := Aside0.mk (HP7.out.later hb)
  clear hI hb
  go_wp2_with fail
  refine (ex_good HT.out HI.out).mono ?_
  rintro e u9 ⟨rfl, hb⟩
  have HB9 := Aside0.mk (below_step HB8.out hb)
  have HP9 := Aside0.mk (HP8.out.later hb)
  clear hb HT HI
  obtain ⟨W9, hW9⟩ : ∃ W9, u9.alloc (.cells #[.int .i64 36, .int .i64 37] 61) = W9 := ⟨_, rfl⟩
  go_wp2_with fail
  try rw [hW9]
  have HBW9 := Aside0.mk (show Below u9.heap.size u9 W9 from by rw [← hW9]; exact below_alloc (Below.refl _ _) _)
  have HK9b := Aside0.mk (show W9.heap[u9.heap.size]? = some (.cells #[.int .i64 36, .int .i64 37] 61 (0, 0)) from by rw [← hW9]; exact blk_new _ _)
  have HB9b := Aside0.mk (below_step HB9.out HBW9.out)
  have HP9b := Aside0.mk (HP9.out.later HBW9.out)
  clear hW9
  refine (two_q 0 4 _ (by omega)).mono ?_
  rintro e u10 ⟨A2, A3, A4, c2, c3, c4, n2, n3, n4, rfl, hT, hb⟩
  have HT := Aside0.mk hT
  have HB10 := Aside0.mk (below_step HB9b.out hb)
  have HP10 := Aside0.mk (HP9b.out.later hb)
  have HK10 := Aside0.mk (blk_below HK9b.out hb)
  clear hT hb
  go_wp2_with fail
  refine (ex_best HT.out).mono ?_
  rintro e u11 ⟨A, c, rfl, hI, hb⟩
  have HQ11 := Aside0.mk hI
  have HB11 := Aside0.mk (below_step HB10.out hb)
  have HP11 := Aside0.mk (HP10.out.later hb)
  have HK11 := Aside0.mk (blk_below HK10.out hb)
  clear hI hb HT
  go_wp2_with fail
  refine (two_q 0 2 _ (by omega)).mono ?_
  rintro e u12 ⟨A2, A3, A4, c2, c3, c4, n2, n3, n4, rfl, hT, hb⟩
  have HT := Aside0.mk hT
  have HB12 := Aside0.mk (below_step HB11.out hb)
  have HP12 := Aside0.mk (HP11.out.later hb)
  have HK12 := Aside0.mk (blk_below HK11.out hb)
  have HQ12 := Aside0.mk (HQ11.out.later hb)
  clear hT hb
  go_wp2_with fail
  refine (apart_q _).mono ?_
  rintro e u13 ⟨A, c, rfl, hI, hb⟩
  have HI := Aside0.mk hI
  have HB13 := Aside0.mk (below_step HB12.out hb)
  replace HT := Aside0.mk (HT.out.later hb)
  have HP13 := Aside0.mk (HP12.out.later hb)
  have HK13 := Aside0.mk (blk_below HK12.out hb)
  have HQ13 := Aside0.mk (HQ12.out.later hb)
  clear hI hb
  go_wp2_with fail
  refine (ex_stuck HT.out HI.out).mono ?_
  rintro e u14 ⟨rfl, hb⟩
  have HB14 := Aside0.mk (below_step HB13.out hb)
  have HP14 := Aside0.mk (HP13.out.later hb)
  have HK14 := Aside0.mk (blk_below HK13.out hb)
  have HQ14 := Aside0.mk (HQ13.out.later hb)
  clear hb HT HI
  go_wp2_with fail
  refine (two_q 0 4 _ (by omega)).mono ?_
  rintro e u15 ⟨A2, A3, A4, c2, c3, c4, n2, n3, n4, rfl, hT, hb⟩
  have HT := Aside0.mk hT
  have HB15 := Aside0.mk (below_step HB14.out hb)
  have HP15 := Aside0.mk (HP14.out.later hb)
  have HK15 := Aside0.mk (blk_below HK14.out hb)
  have HQ15 := Aside0.mk (HQ14.out.later hb)
  clear hT hb
  go_wp2_with fail
  refine (ex_ask HT.out).mono ?_
  rintro e u16 ⟨rfl, hb⟩
  have HB16 := Aside0.mk (below_step HB15.out hb)
  have HP16 := Aside0.mk (HP15.out.later hb)
  have HK16 := Aside0.mk (blk_below HK15.out hb)
  have HQ16 := Aside0.mk (HQ15.out.later hb)
  clear hb HT
  go_wp2_with fail
  refine (two_q 3 4 _ (by omega)).mono ?_
  rintro e u17 ⟨A2, A3, A4, c2, c3, c4, n2, n3, n4, rfl, hT, hb⟩
  have HT := Aside0.mk hT
  have HB17 := Aside0.mk (below_step HB16.out hb)
  have HP17 := Aside0.mk (HP16.out.later hb)
  have HK17 := Aside0.mk (blk_below HK16.out hb)
  have HQ17 := Aside0.mk (HQ16.out.later hb)
  clear hT hb
  go_wp2_with fail
  refine (ex_first HT.out).mono ?_
  rintro e u18 ⟨rfl, hb⟩
  have HB18 := Aside0.mk (below_step HB17.out hb)
  have HP18 := Aside0.mk (HP17.out.later hb)
  have HK18 := Aside0.mk (blk_below HK17.out hb)
  have HQ18 := Aside0.mk (HQ17.out.later hb)
  clear hb HT
  go_wp2_with fail
  refine (two_q 3 4 _ (by omega)).mono ?_
  rintro e u19 ⟨A2, A3, A4, c2, c3, c4, n2, n3, n4, rfl, hT, hb⟩
  have HT := Aside0.mk hT
  have HB19 := Aside0.mk (below_step HB18.out hb)
  have HP19 := Aside0.mk (HP18.out.later hb)
  have HK19 := Aside0.mk (blk_below HK18.out hb)
  have HQ19 := Aside0.mk (HQ18.out.later hb)
  clear hT hb
  go_wp2_with fail
  refine (ex_leave HT.out).mono ?_
  rintro e u20 ⟨A, c, rfl, hI, hb⟩
  have HL20 := Aside0.mk hI
  have HB20 := Aside0.mk (below_step HB19.out hb)
  have HP20 := Aside0.mk (HP19.out.later hb)
  have HK20 := Aside0.mk (blk_below HK19.out hb)
  have HQ20 := Aside0.mk (HQ19.out.later hb)
  clear hI hb HT
  go_wp2_with fail
  have k0 : u20.cell? ⟨u9.heap.size, 0, none⟩ = some (.int .i64 36) := (blk_cell HK20.out 0).trans rfl
  have k1 : u20.cell? ⟨u9.heap.size, 1, none⟩ = some (.int .i64 37) := (blk_cell HK20.out 1).trans rfl
  have K0 := Aside0.mk k0
  have K1 := Aside0.mk k1
  have hEQ := eq61 36 37
  simp only [List.append_eq, List.cons_append, List.nil_append]
  go_region_held3 (fun W' => Below u20.heap.size u20 W' ∧ W'.cell? ⟨u9.heap.size, 0, none⟩ = some (.int .i64 36) ∧ W'.cell? ⟨u9.heap.size, 1, none⟩ = some (.int .i64 37))
    (first
      | exact ⟨below_drew (Below.refl _ _), k0, k1⟩
      | (with_reducible refine ⟨below_drew (below_alloc (Below.refl _ _) _), ?_, ?_⟩
         · exact later (below_drew (below_alloc (Below.refl _ _) _)) K0.out
         · exact later (below_drew (below_alloc (Below.refl _ _) _)) K1.out)
      | (go_split_ands; with_reducible exact ⟨below_step (by assumption) hbx.out, later hbx.out (by assumption), later hbx.out (by assumption)⟩)
      | (go_split_ands
         with_reducible refine ⟨below_alloc (by assumption) _, ?_, ?_⟩
         · exact later (below_alloc (Below.refl _ _) _) (by assumption)
         · exact later (below_alloc (Below.refl _ _) _) (by assumption)))
    ((first
      | (go_at_call 38; go_split_ands; with_reducible refine (same_yes _ (HP20.out.later (by assumption)) (Ints2.of_blk (blk_drew (blk_new _ _)))).mono ?_; rintro e wx ⟨rfl, hbx⟩; replace hbx := Aside0.mk hbx)
      | (go_at_call 38; go_split_ands; with_reducible refine (same_yes _ (HQ20.out.later (by assumption)) HIX.out).mono ?_; rintro e wx ⟨rfl, hbx⟩; replace hbx := Aside0.mk hbx)
      | (go_at_call 38; go_split_ands; with_reducible refine (same_yes1 _ (ints1_later HL20.out (by assumption)) (ints1_of (blk_new _ _))).mono ?_; rintro e wx ⟨rfl, hbx⟩; replace hbx := Aside0.mk hbx)
      | (go_at_call 85; go_split_ands; with_reducible refine (apart_q _).mono ?_; rintro e wx ⟨A, c, rfl, hI, hbx⟩; have HIX := Aside0.mk hI; clear hI; replace hbx := Aside0.mk hbx)
      | (go_at_call 86; go_split_ands; with_reducible refine (posserlaw04_between.calls _ _ _ _ _ rfl).mono ?_; rintro e wx ⟨rfl, hbx⟩; replace hbx := Aside0.mk hbx)))
  all_goals
    go_wp2_with fail
    go_ret
    go_split_ands
    exact ⟨rfl, below_step HB20.out (by assumption)⟩
end Go.Proofs.Ytokhmghgghjmhaa.Q
