/- Part L13x1 of the proof (LW): contracts of functions, and plain lemmas about what they compute. -/
import Derived.Test.YtokhmghgghjmhaaA0
import Derived.Test.YtokhmghgghjmhaaA1
import Derived.Test.YtokhmghgghjmhaaA2
import Derived.Test.YtokhmghgghjmhaaA3
import Derived.Test.YtokhmghgghjmhaaA4
import Derived.Test.YtokhmghgghjmhaaB0
import Derived.Test.YtokhmghgghjmhaaB1
import Derived.Test.YtokhmghgghjmhaaB2
import Derived.Test.YtokhmghgghjmhaaB3
import Derived.Test.YtokhmghgghjmhaaB4
import Derived.Test.YtokhmghgghjmhaaB5
import Derived.Test.YtokhmghgghjmhaaB6
import Derived.Test.YtokhmghgghjmhaaB7
import Derived.Test.YtokhmghgghjmhaaL13x0
namespace Go.Proofs.Ytokhmghgghjmhaa.Q
open Go.RowKit Go.Proofs.YtokhmghgghjmhaaW.PrintWords Go.Proofs.YtokhmghgghjmhaaW.PrintLast Go.Proofs.YtokhmghgghjmhaaW.PrintMore
set_option linter.unusedVariables false
set_option linter.unusedSimpArgs false
set_option maxHeartbeats 4000000 in
set_option maxRecDepth 100000 in
theorem plays_walk {cs cl : Int} {A2 A3 A4 : Option Addr} {c2 c3 c4 : Nat} {hs : List S68} {hung : List Int} {looks : List S84} {A A' : Option Addr} {c c' : Nat} {p dn : List Int} {w : World} (M : Ref w A2 A3 A4 c2 c3 c4 hs hung looks) (hP : Ls .i64 w A c p) (hD : Ls .i64 w A' c' dn) :
    Calls Try.prog 13 #[.agg #[.int .i64 cs, .int .i64 cl, .slice A2 hs.length c2, .slice A3 hung.length c3, .slice A4 looks.length c4], .slice A p.length c, .slice A' dn.length c'] w fun e w' => e = .returned (.bool true) ∧ Below w.heap.size w w' := by
  have HM := Aside0.mk M
  have HP := Aside0.mk hP
  have HD := Aside0.mk hD
  clear M hP hD
  obtain ⟨W0, hW0⟩ : ∃ W0, w.alloc (.cells #[.int .i64 cs, .int .i64 cl, .slice A2 hs.length c2, .slice A3 hung.length c3, .slice A4 looks.length c4] 26) = W0 := ⟨_, rfl⟩
  have HB := Aside0.mk (Box.new hW0).2
  have HK := Aside0.mk (Box.new hW0).1
  have b0 := HK.out.at0
  have b1 := HK.out.at1
  have b2 := HK.out.at2
  have b3 := HK.out.at3
  have b4 := HK.out.at4
  go_enter Try.func13, Try.ntmps13
  go_wp2_with fail
  try rw [hW0]
  clear hW0
  obtain ⟨th, hth⟩ : ∃ th, decide (hs.length ≤ 30 ∧ hung.length ≤ 30 ∧ looks.length ≤ 30) = th := ⟨_, rfl⟩
  have HTH := Aside0.mk hth
  have HF := Aside0.mk (show posserlaw04_Thin.f cs cl hs hung looks = some th from by rw [thin_f, hth])
  clear hth
  refine (posserlaw04_Thin.calls cs cl A2 c2 hs A3 c3 hung A4 c4 looks th _ (HM.out.later HB.out).h2 HM.out.l2 (HM.out.later HB.out).h3 HM.out.l3 (HM.out.later HB.out).h4 HM.out.l4 HF.out).mono ?_
  rintro e w1 ⟨rfl, hb⟩
  replace HB := Aside0.mk (below_step HB.out hb)
  replace HK := Aside0.mk (HK.out.later hb)
  replace b0 := HK.out.at0
  replace b1 := HK.out.at1
  replace b2 := HK.out.at2
  replace b3 := HK.out.at3
  replace b4 := HK.out.at4
  clear hb
  cases th with
  | false =>
    go_wp2_with fail
    refine (awake_calls _).mono ?_
    rintro e w2 ⟨rfl, hb⟩
    replace HB := Aside0.mk (below_step HB.out hb)
    clear hb
    go_wp2_with fail
    go_ret
    exact ⟨rfl, HB.out⟩
  | true =>
  by_cases hpl : (p.length : Int) > 30
  · skip
    go_wp2_with fail
    refine (awake_calls _).mono ?_
    rintro e w3 ⟨rfl, hb⟩
    replace HB := Aside0.mk (below_step HB.out hb)
    clear hb
    go_wp2_with fail
    go_ret
    exact ⟨rfl, HB.out⟩
  by_cases hdl : (dn.length : Int) > 30
  · skip
    go_wp2_with fail
    refine (awake_calls _).mono ?_
    rintro e w4 ⟨rfl, hb⟩
    replace HB := Aside0.mk (below_step HB.out hb)
    clear hb
    go_wp2_with fail
    go_ret
    exact ⟨rfl, HB.out⟩
  have HT := Aside0.mk (of_decide_eq_true HTH.out)
  have HPL := Aside0.mk (show p.length ≤ 1000 from by omega)
  have HDL := Aside0.mk (show dn.length ≤ 1000 from by omega)
  go_wp2_with fail
  refine (refcl_q (HM.out.later HB.out) (by have := HT.out; omega) (by have := HT.out; omega) (by have := HT.out; omega)).mono ?_
  rintro e w5 ⟨B21, B31, B41, d21, d31, d41, n21, n31, n41, rfl, hcl, hb⟩
  replace HB := Aside0.mk (below_step HB.out hb)
  replace HK := Aside0.mk (HK.out.later hb)
  replace b0 := HK.out.at0
  replace b1 := HK.out.at1
  replace b2 := HK.out.at2
  replace b3 := HK.out.at3
  replace b4 := HK.out.at4
  clear hb
  have HCL := Aside0.mk hcl
  clear hcl
  go_wp2_with fail
  refine (list_qq (HP.out.later HB.out) HPL.out).mono ?_
  rintro e w6 ⟨Bx1, dx1, rfl, hlj, hb⟩
  replace HB := Aside0.mk (below_step HB.out hb)
  replace HK := Aside0.mk (HK.out.later hb)
  replace HCL := Aside0.mk (HCL.out.later hb)
  replace b0 := HK.out.at0
  replace b1 := HK.out.at1
  replace b2 := HK.out.at2
  replace b3 := HK.out.at3
  replace b4 := HK.out.at4
  clear hb
  have HLJ := Aside0.mk hlj
  clear hlj
  go_wp2_with fail
  refine (list_qq (HD.out.later HB.out) HDL.out).mono ?_
  rintro e w7 ⟨Bx2, dx2, rfl, hlk, hb⟩
  replace HB := Aside0.mk (below_step HB.out hb)
  replace HK := Aside0.mk (HK.out.later hb)
  replace HCL := Aside0.mk (HCL.out.later hb)
  replace HLJ := Aside0.mk (HLJ.out.later hb)
  replace b0 := HK.out.at0
  replace b1 := HK.out.at1
  replace b2 := HK.out.at2
  replace b3 := HK.out.at3
  replace b4 := HK.out.at4
  clear hb
  have HLK := Aside0.mk hlk
  clear hlk
  obtain ⟨pr, hpr⟩ : ∃ pr, playR cs cl (hs.map toH) hung (looks.map toL) p dn = pr := ⟨_, rfl⟩
  have HPR := Aside0.mk hpr
  clear hpr
  go_wp2_with fail
  refine (play_q HCL.out HLJ.out HLK.out HPR.out).mono ?_
  rintro e w8 ⟨BB, bB, rfl, hx, hb⟩
  replace HB := Aside0.mk (below_step HB.out hb)
  replace HK := Aside0.mk (HK.out.later hb)
  replace b0 := HK.out.at0
  replace b1 := HK.out.at1
  replace b2 := HK.out.at2
  replace b3 := HK.out.at3
  replace b4 := HK.out.at4
  clear hb
  have HX := Aside0.mk (show Ls .i64 w8 BB bB pr.1 from hx)
  clear hx
  go_wp2_with fail
  refine (refcl_q (HM.out.later HB.out) (by have := HT.out; omega) (by have := HT.out; omega) (by have := HT.out; omega)).mono ?_
  rintro e w9 ⟨B22, B32, B42, d22, d32, d42, n22, n32, n42, rfl, hcl, hb⟩
  replace HB := Aside0.mk (below_step HB.out hb)
  replace HK := Aside0.mk (HK.out.later hb)
  replace HX := Aside0.mk (HX.out.later hb)
  replace b0 := HK.out.at0
  replace b1 := HK.out.at1
  replace b2 := HK.out.at2
  replace b3 := HK.out.at3
  replace b4 := HK.out.at4
  clear hb
  have HCL := Aside0.mk hcl
  clear hcl
  go_wp2_with fail
  refine (list_qq (HD.out.later HB.out) HDL.out).mono ?_
  rintro e w10 ⟨Bx3, dx3, rfl, hlk, hb⟩
  replace HB := Aside0.mk (below_step HB.out hb)
  replace HK := Aside0.mk (HK.out.later hb)
  replace HX := Aside0.mk (HX.out.later hb)
  replace HCL := Aside0.mk (HCL.out.later hb)
  replace b0 := HK.out.at0
  replace b1 := HK.out.at1
  replace b2 := HK.out.at2
  replace b3 := HK.out.at3
  replace b4 := HK.out.at4
  clear hb
  have HLK := Aside0.mk hlk
  clear hlk
  obtain ⟨is, his⟩ : ∃ is, proveTR cs cl (hs.map toH) hung (looks.map toL) dn = is := ⟨_, rfl⟩
  have HIS := Aside0.mk his
  clear his
  go_wp2_with fail
  refine (truth_q HCL.out HLK.out HIS.out).mono ?_
  rintro e w11 ⟨rfl, hb⟩
  replace HB := Aside0.mk (below_step HB.out hb)
  replace HK := Aside0.mk (HK.out.later hb)
  replace HX := Aside0.mk (HX.out.later hb)
  replace b0 := HK.out.at0
  replace b1 := HK.out.at1
  replace b2 := HK.out.at2
  replace b3 := HK.out.at3
  replace b4 := HK.out.at4
  clear hb
  obtain ⟨code, hcode⟩ : ∃ code, checkB cs cl (hs.map toH) hung (looks.map toL) = code := ⟨_, rfl⟩
  have HCODE := Aside0.mk hcode
  clear hcode
  go_wp2_with fail
  refine (posserlaw04_fault.calls cs cl A2 c2 hs A3 c3 hung A4 c4 looks code _ (HM.out.later HB.out).h2 HM.out.l2 (HM.out.later HB.out).h3 HM.out.l3 (HM.out.later HB.out).h4 HM.out.l4 (by unfold posserlaw04_fault.f posserref04_Fault.f faultB; rw [HCODE.out]; rfl)).mono ?_
  rintro e w12 ⟨rfl, hb⟩
  replace HB := Aside0.mk (below_step HB.out hb)
  replace HK := Aside0.mk (HK.out.later hb)
  replace HX := Aside0.mk (HX.out.later hb)
  replace b0 := HK.out.at0
  replace b1 := HK.out.at1
  replace b2 := HK.out.at2
  replace b3 := HK.out.at3
  replace b4 := HK.out.at4
  clear hb
  go_wp2_with fail
  refine (refcl_q (HM.out.later HB.out) (by have := HT.out; omega) (by have := HT.out; omega) (by have := HT.out; omega)).mono ?_
  rintro e w13 ⟨B23, B33, B43, d23, d33, d43, n23, n33, n43, rfl, hcl, hb⟩
  replace HB := Aside0.mk (below_step HB.out hb)
  replace HK := Aside0.mk (HK.out.later hb)
  replace HX := Aside0.mk (HX.out.later hb)
  replace b0 := HK.out.at0
  replace b1 := HK.out.at1
  replace b2 := HK.out.at2
  replace b3 := HK.out.at3
  replace b4 := HK.out.at4
  clear hb
  have HCL := Aside0.mk hcl
  clear hcl
  go_wp2_with fail
  refine (check_q HCL.out HCODE.out).mono ?_
  rintro e w14 ⟨rfl, hb⟩
  replace HB := Aside0.mk (below_step HB.out hb)
  replace HK := Aside0.mk (HK.out.later hb)
  replace HX := Aside0.mk (HX.out.later hb)
  replace b0 := HK.out.at0
  replace b1 := HK.out.at1
  replace b2 := HK.out.at2
  replace b3 := HK.out.at3
  replace b4 := HK.out.at4
  clear hb
  have hcc : (code != code) = false := by simp
  rcases plays_cases p dn HCODE.out with ⟨h1, h2, h3⟩ | ⟨h1, h2, h3⟩ | ⟨h1, h2, h3, h4⟩ | ⟨h1, h2, h3, hPl, hdl2, hlb, h4⟩
  · rw [HPR.out] at h2
    rw [HIS.out] at h3
    subst h2 h3
    have h5 : (code != 0) = true := bne_iff_ne.2 h1
    have h6 : (code == 0) = false := beq_eq_false_iff_ne.2 h1
    clear h1
    go_wp2_with fail
    refine (awake_calls _).mono ?_
    rintro e w15 ⟨rfl, hb⟩
    replace HB := Aside0.mk (below_step HB.out hb)
    clear hb
    go_wp2_with fail
    go_ret
    exact ⟨rfl, HB.out⟩
  · rw [HPR.out] at h3
    have HIP := Aside0.mk h2
    subst h3 h1
    clear h2
    go_wp2_with fail
    refine (posserref04_IsTruth.calls 4000 cs cl A2 c2 hs A3 c3 hung A4 c4 looks A' c' dn is _ (HM.out.later HB.out).h2 HM.out.l2 (HM.out.later HB.out).h3 HM.out.l3 (HM.out.later HB.out).h4 HM.out.l4 (HD.out.later HB.out).1 HD.out.2 (by rw [isTruth_f HCODE.out dn 4000 (Nat.le_refl _), HIS.out])).mono ?_
    rintro e w16 ⟨rfl, hb⟩
    replace HB := Aside0.mk (below_step HB.out hb)
    replace HK := Aside0.mk (HK.out.later hb)
    replace HX := Aside0.mk (HX.out.later hb)
    replace b0 := HK.out.at0
    replace b1 := HK.out.at1
    replace b2 := HK.out.at2
    replace b3 := HK.out.at3
    replace b4 := HK.out.at4
    clear hb
    have hii : (is != is) = false := by cases is <;> rfl
    go_wp2_with fail
    refine (posserref04_IsPlace.calls 20000 cs cl A2 c2 hs A3 c3 hung A4 c4 looks A c p false _ (HM.out.later HB.out).h2 HM.out.l2 (HM.out.later HB.out).h3 HM.out.l3 (HM.out.later HB.out).h4 HM.out.l4 (HP.out.later HB.out).1 HP.out.2 (by rw [isPlace_f cs cl hs hung looks p (by have := HT.out; omega) 20000 (Nat.le_refl _), HIP.out])).mono ?_
    rintro e w17 ⟨rfl, hb⟩
    replace HB := Aside0.mk (below_step HB.out hb)
    replace HK := Aside0.mk (HK.out.later hb)
    replace HX := Aside0.mk (HX.out.later hb)
    replace b0 := HK.out.at0
    replace b1 := HK.out.at1
    replace b2 := HK.out.at2
    replace b3 := HK.out.at3
    replace b4 := HK.out.at4
    clear hb
    go_wp2_with fail
    refine (awake_calls _).mono ?_
    rintro e w18 ⟨rfl, hb⟩
    replace HB := Aside0.mk (below_step HB.out hb)
    clear hb
    go_wp2_with fail
    go_ret
    exact ⟨rfl, HB.out⟩
  · rw [HPR.out] at h4
    have HIP := Aside0.mk h2
    have HAN := Aside0.mk h3
    subst h4 h1
    clear h2 h3
    go_wp2_with fail
    refine (posserref04_IsTruth.calls 4000 cs cl A2 c2 hs A3 c3 hung A4 c4 looks A' c' dn is _ (HM.out.later HB.out).h2 HM.out.l2 (HM.out.later HB.out).h3 HM.out.l3 (HM.out.later HB.out).h4 HM.out.l4 (HD.out.later HB.out).1 HD.out.2 (by rw [isTruth_f HCODE.out dn 4000 (Nat.le_refl _), HIS.out])).mono ?_
    rintro e w19 ⟨rfl, hb⟩
    replace HB := Aside0.mk (below_step HB.out hb)
    replace HK := Aside0.mk (HK.out.later hb)
    replace HX := Aside0.mk (HX.out.later hb)
    replace b0 := HK.out.at0
    replace b1 := HK.out.at1
    replace b2 := HK.out.at2
    replace b3 := HK.out.at3
    replace b4 := HK.out.at4
    clear hb
    have hii : (is != is) = false := by cases is <;> rfl
    go_wp2_with fail
    refine (posserref04_IsPlace.calls 20000 cs cl A2 c2 hs A3 c3 hung A4 c4 looks A c p true _ (HM.out.later HB.out).h2 HM.out.l2 (HM.out.later HB.out).h3 HM.out.l3 (HM.out.later HB.out).h4 HM.out.l4 (HP.out.later HB.out).1 HP.out.2 (by rw [isPlace_f cs cl hs hung looks p (by have := HT.out; omega) 20000 (Nat.le_refl _), HIP.out])).mono ?_
    rintro e w20 ⟨rfl, hb⟩
    replace HB := Aside0.mk (below_step HB.out hb)
    replace HK := Aside0.mk (HK.out.later hb)
    replace HX := Aside0.mk (HX.out.later hb)
    replace b0 := HK.out.at0
    replace b1 := HK.out.at1
    replace b2 := HK.out.at2
    replace b3 := HK.out.at3
    replace b4 := HK.out.at4
    clear hb
    go_wp2_with fail
    refine (posserref04_AreNumbers.calls 4000 cs cl A2 c2 hs A3 c3 hung A4 c4 looks A' c' dn false _ (HM.out.later HB.out).h2 HM.out.l2 (HM.out.later HB.out).h3 HM.out.l3 (HM.out.later HB.out).h4 HM.out.l4 (HD.out.later HB.out).1 HD.out.2 (by rw [areN_f (by have := HT.out; omega) dn 4000 (by omega), HAN.out])).mono ?_
    rintro e w21 ⟨rfl, hb⟩
    replace HB := Aside0.mk (below_step HB.out hb)
    replace HK := Aside0.mk (HK.out.later hb)
    replace HX := Aside0.mk (HX.out.later hb)
    replace b0 := HK.out.at0
    replace b1 := HK.out.at1
    replace b2 := HK.out.at2
    replace b3 := HK.out.at3
    replace b4 := HK.out.at4
    clear hb
    go_wp2_with fail
    refine (awake_calls _).mono ?_
    rintro e w22 ⟨rfl, hb⟩
    replace HB := Aside0.mk (below_step HB.out hb)
    clear hb
    go_wp2_with fail
    go_ret
    exact ⟨rfl, HB.out⟩
  · rw [HPR.out] at h4
    have HIP := Aside0.mk h2
    have HAN := Aside0.mk h3
    have HPP := Aside0.mk hPl
    have HLB := Aside0.mk hlb
    have HDD := Aside0.mk hdl2
    have HV := Aside0.mk (valid_of (HCODE.out.trans h1))
    subst h4 h1
    clear h2 h3 hPl hlb hdl2
    go_wp2_with fail
    refine (posserref04_IsTruth.calls 4000 cs cl A2 c2 hs A3 c3 hung A4 c4 looks A' c' dn is _ (HM.out.later HB.out).h2 HM.out.l2 (HM.out.later HB.out).h3 HM.out.l3 (HM.out.later HB.out).h4 HM.out.l4 (HD.out.later HB.out).1 HD.out.2 (by rw [isTruth_f HCODE.out dn 4000 (Nat.le_refl _), HIS.out])).mono ?_
    rintro e w23 ⟨rfl, hb⟩
    replace HB := Aside0.mk (below_step HB.out hb)
    replace HK := Aside0.mk (HK.out.later hb)
    replace HX := Aside0.mk (HX.out.later hb)
    replace b0 := HK.out.at0
    replace b1 := HK.out.at1
    replace b2 := HK.out.at2
    replace b3 := HK.out.at3
    replace b4 := HK.out.at4
    clear hb
    have hii : (is != is) = false := by cases is <;> rfl
    go_wp2_with fail
    refine (posserref04_IsPlace.calls 20000 cs cl A2 c2 hs A3 c3 hung A4 c4 looks A c p true _ (HM.out.later HB.out).h2 HM.out.l2 (HM.out.later HB.out).h3 HM.out.l3 (HM.out.later HB.out).h4 HM.out.l4 (HP.out.later HB.out).1 HP.out.2 (by rw [isPlace_f cs cl hs hung looks p (by have := HT.out; omega) 20000 (Nat.le_refl _), HIP.out])).mono ?_
    rintro e w24 ⟨rfl, hb⟩
    replace HB := Aside0.mk (below_step HB.out hb)
    replace HK := Aside0.mk (HK.out.later hb)
    replace HX := Aside0.mk (HX.out.later hb)
    replace b0 := HK.out.at0
    replace b1 := HK.out.at1
    replace b2 := HK.out.at2
    replace b3 := HK.out.at3
    replace b4 := HK.out.at4
    clear hb
    go_wp2_with fail
    refine (posserref04_AreNumbers.calls 4000 cs cl A2 c2 hs A3 c3 hung A4 c4 looks A' c' dn true _ (HM.out.later HB.out).h2 HM.out.l2 (HM.out.later HB.out).h3 HM.out.l3 (HM.out.later HB.out).h4 HM.out.l4 (HD.out.later HB.out).1 HD.out.2 (by rw [areN_f (by have := HT.out; omega) dn 4000 (by omega), HAN.out])).mono ?_
    rintro e w25 ⟨rfl, hb⟩
    replace HB := Aside0.mk (below_step HB.out hb)
    replace HK := Aside0.mk (HK.out.later hb)
    replace HX := Aside0.mk (HX.out.later hb)
    replace b0 := HK.out.at0
    replace b1 := HK.out.at1
    replace b2 := HK.out.at2
    replace b3 := HK.out.at3
    replace b4 := HK.out.at4
    clear hb
    obtain ⟨L, hL⟩ : ∃ L, firstL (mins (hs.map toH) p (nums dn)) hs.length = L := ⟨_, rfl⟩
    have hLl : L.length = hs.length := by rw [← hL]; simp [firstL]
    have HLL := Aside0.mk hLl
    have HRL := Aside0.mk (fun i hi => rd_firstL (mins (hs.map toH) p (nums dn)) hs.length i hi)
    rw [hL] at HRL HX
    have hll : ((L.length : Int) != (hs.length : Int)) = false := by rw [hLl]; simp
    rw [hL]
    clear hL hLl
    go_wp2_with fail
    go_loopg [11] hs.length (fun kq v11 wr => ∃ i : Nat, v11 = .int .i64 i ∧ Aside0 (i + kq = hs.length) ∧ Aside0 (Below w.heap.size w wr) ∧ Aside0 (Box wr w.heap.size cs cl A2 A3 A4 hs.length hung.length looks.length c2 c3 c4) ∧ Aside0 (Ls .i64 wr BB bB L))
    case atStart => exact ⟨0, rfl, ⟨by omega⟩, HB, HK, HX⟩
    case round =>
      clear b0 b1 b2 b3 b4 HB HK HX
      obtain ⟨i, rfl, HN, HB, HK, HX⟩ := hrel
      have b0 := HK.out.at0
      have b1 := HK.out.at1
      have b2 := HK.out.at2
      have b3 := HK.out.at3
      have b4 := HK.out.at4
      by_cases hlt : i < hs.length
      · obtain ⟨kq, rfl⟩ : ∃ kq, gk = kq + 1 := ⟨gk - 1, by have := HN.out; omega⟩
        have h1 : (i : Int) < (L.length : Int) := by have := HLL.out; omega
        have h0 : (0 : Int) ≤ (i : Int) := by omega
        have hn30 : hs.length ≤ 30 := HT.out.1
        obtain ⟨ad, rfl, hx⟩ := at_n HX.out.1 i (by omega)
        obtain ⟨m, hm⟩ : ∃ m, mins (hs.map toH) p (nums dn) i = m := ⟨_, rfl⟩
        rw [HRL.out i hlt, hm] at hx
        have HMI := Aside0.mk hm
        have HLT := Aside0.mk hlt
        clear hm hlt
        go_wp2_with fail
        go_region_held3 (fun W' => Below w.heap.size w W' ∧ Box W' w.heap.size cs cl A2 A3 A4 hs.length hung.length looks.length c2 c3 c4 ∧ Ls .i64 W' (some ad) bB L ∧ W'.cell? ⟨w.heap.size, 0, none⟩ = some (.int .i64 cs) ∧ W'.cell? ⟨w.heap.size, 1, none⟩ = some (.int .i64 cl) ∧ W'.cell? ⟨w.heap.size, 2, none⟩ = some (.slice A2 hs.length c2) ∧ W'.cell? ⟨w.heap.size, 3, none⟩ = some (.slice A3 hung.length c3) ∧ W'.cell? ⟨w.heap.size, 4, none⟩ = some (.slice A4 looks.length c4) ∧ W'.cell? (ad.add i) = some (.int .i64 m)) (first | exact ⟨below_drew HB.out, HK.out, HX.out, b0, b1, b2, b3, b4, hx⟩ | (go_split_ands; with_reducible exact ⟨below_step (by assumption) hbx.out, Box.later (by assumption) hbx.out, Ls.later (by assumption) hbx.out, later hbx.out (by assumption), later hbx.out (by assumption), later hbx.out (by assumption), later hbx.out (by assumption), later hbx.out (by assumption), later hbx.out (by assumption)⟩)) ((first | (go_at_call 55; go_split_ands; refine (minute_q (HM.out.later (by assumption)) (HP.out.later (by assumption)) (HD.out.later (by assumption)) HV.out HPP.out HDD.out HLB.out i HLT.out HMI.out).mono ?_; rintro e wx ⟨rfl, hbx⟩; replace hbx := Aside0.mk hbx)))
        go_split_ands
        replace HB : Aside0 (Below w.heap.size w wx) := ⟨by assumption⟩
        replace HK : Aside0 (Box wx w.heap.size cs cl A2 A3 A4 hs.length hung.length looks.length c2 c3 c4) := ⟨by assumption⟩
        replace HX : Aside0 (Ls .i64 wx (some ad) bB L) := ⟨by assumption⟩
        replace b0 := HK.out.at0
        replace b1 := HK.out.at1
        replace b2 := HK.out.at2
        replace b3 := HK.out.at3
        replace b4 := HK.out.at4
        have hmm : (m != m) = false := by simp
        go_wp2_with fail
        go_roundg kq
        case measure => omega
        case rel => exact ⟨i + 1, by have := HLL.out; congr 1; unfold wrap64; omega, ⟨by have := HN.out; omega⟩, HB, HK, HX⟩
      · have h1 : ¬ (i : Int) < (L.length : Int) := by have := HLL.out; omega
        clear hlt
        go_wp2_with fail
        refine (awake_calls _).mono ?_
        rintro e w26 ⟨rfl, hb⟩
        replace HB := Aside0.mk (below_step HB.out hb)
        clear hb
        go_wp2_with fail
        go_ret
        exact ⟨rfl, HB.out⟩
end Go.Proofs.Ytokhmghgghjmhaa.Q
