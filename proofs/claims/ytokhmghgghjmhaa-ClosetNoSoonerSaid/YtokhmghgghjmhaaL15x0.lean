/- Part L15x0 of the proof (Q0, WB, WT, BW, PN, NW): contracts of functions, and plain lemmas about what they compute. -/
import Derived.Test.YtokhmghgghjmhaaProg
import Derived.Below
import Derived.Deep.Draws
import Derived.Deep.AppendLies
import Derived.Maps.AppendAt
import Derived.OwnWalk
import Derived.Laws.BytesArg
import Derived.Laws.MakeOwn
import Derived.Laws.OwnMore
import Derived.Deep.OwnRows
import Derived.Tactics
import Derived.Lib.ConvBytes
import Derived.Laws.Slices
import Derived.WalkKit
import Derived.KernelRfl
import Derived.RowKit3
import Derived.Deep.LoopGhost
import Derived.Deep.QuietTactic
import Derived.BigQuiet
import Derived.WideLaws
import Derived.Deep.DeepCutAuto
import Derived.Deep.CutBlock
import Derived.Deep.RegionHeld3
import Derived.Laws.Rows
import Derived.Lib.AppendStr
import Derived.ArgAppend
import Derived.Laws.IdiomCopy
import Derived.OrdersHeld
import Derived.Laws.BitsLemmas
import Derived.RowKit
import Derived.Test.YtokhmghgghjmhaaA0
import Derived.Test.YtokhmghgghjmhaaA1
import Derived.Test.YtokhmghgghjmhaaA2
import Derived.Test.YtokhmghgghjmhaaA3
import Derived.Test.YtokhmghgghjmhaaA4
import Derived.Test.YtokhmghgghjmhaaB0
import Derived.Test.YtokhmghgghjmhaaB1
import Derived.Test.YtokhmghgghjmhaaB2
import Derived.Test.YtokhmghgghjmhaaB3
import Derived.Test.YtokhmghgghjmhaaB4
import Derived.Test.YtokhmghgghjmhaaB5
import Derived.Test.YtokhmghgghjmhaaB6
import Derived.Test.YtokhmghgghjmhaaB7
namespace Go.Proofs.Ytokhmghgghjmhaa.Q
open Go.RowKit Go.Proofs.YtokhmghgghjmhaaW.PrintWords Go.Proofs.YtokhmghgghjmhaaW.PrintLast Go.Proofs.YtokhmghgghjmhaaW.PrintMore
attribute [local go_sem] max2_int min2_int max_two min_two max_three min_three max_four min_four   -- for this text's walks alone
set_option linter.unusedVariables false
set_option linter.unusedSimpArgs false
def rd_L9 (xs : List (List Int)) (i : Int) : (List Int) := xs.getD i.toNat ([] : List Int)
theorem at_L9 {w : World} {A : Option Addr} {n : Nat} {xs : List (List Int)} (h : Kd.C (Kd.slice 3 (Kd.int .i64)) w A n xs) (i : Int) (h0 : 0 ≤ i) (h1 : i < n) : ∃ ad A0 c0, A = some ad ∧ w.cell? (ad.add i.toNat) = some (.slice A0 (rd_L9 xs i).length c0) ∧ (rd_L9 xs i).length ≤ c0 ∧ (Kd.int .i64).C w A0 (rd_L9 xs i).length (rd_L9 xs i) := by
  obtain ⟨ad, c, e, _, hK, hc0⟩ := Kd.C_get h ([] : List Int) i h0 h1
  have hc : ∀ j u, c[j]? = some u → w.cell? (ad.add (i.toNat * 1 + j)) = some u := hc0
  obtain ⟨A0, c0, rfl, l0, g0⟩ := hK
  exact ⟨ad, A0, c0, e, by have hq := hc 0 _ rfl; rwa [Nat.mul_one, Nat.add_zero] at hq, l0, g0⟩
end Go.Proofs.Ytokhmghgghjmhaa.Q
namespace Go.Proofs.Ytokhmghgghjmhaa.Q
open Go.RowKit Go.Proofs.YtokhmghgghjmhaaW.PrintWords Go.Proofs.YtokhmghgghjmhaaW.PrintLast Go.Proofs.YtokhmghgghjmhaaW.PrintMore
set_option linter.unusedVariables false
/-- Ranges that lie in memory. -/
def Bd (w : World) (A : Option Addr) (c : Nat) (l : List S61) : Prop := Kd.C k61 w A l.length l ∧ l.length ≤ c
theorem Bd.later {w w' : World} {A : Option Addr} {c : Nat} {l : List S61} (h : Bd w A c l) (hb : Below w.heap.size w w') : Bd w' A c l := ⟨Kd.C_below h.1 hb, h.2⟩
end Go.Proofs.Ytokhmghgghjmhaa.Q
namespace Go.Proofs.Ytokhmghgghjmhaa.Q
open Go.RowKit Go.Proofs.YtokhmghgghjmhaaW.PrintWords Go.Proofs.YtokhmghgghjmhaaW.PrintLast Go.Proofs.YtokhmghgghjmhaaW.PrintMore
set_option linter.unusedVariables false
/-- Truths that lie in memory. -/
def Tr (w : World) (A : Option Addr) (c : Nat) (L : List (List Int)) : Prop := Kd.C (Kd.slice 3 (Kd.int .i64)) w A L.length L ∧ L.length ≤ c
theorem Tr.later {w w' : World} {A : Option Addr} {c : Nat} {L : List (List Int)} (h : Tr w A c L) (hb : Below w.heap.size w w') : Tr w' A c L := ⟨Kd.C_below h.1 hb, h.2⟩
theorem Tr.at {w : World} {A : Option Addr} {c : Nat} {L : List (List Int)} (h : Tr w A c L) (i : Nat) (hi : i < L.length) : ∃ ad A0 c0, A = some ad ∧ w.cell? (ad.add i) = some (.slice A0 (rd_L9 L i).length c0) ∧ Ls .i64 w A0 c0 (rd_L9 L i) := by
  obtain ⟨ad, A0, c0, h1, h2, h3, h4⟩ := at_L9 h.1 i (by omega) (by omega)
  exact ⟨ad, A0, c0, h1, by rwa [Int.toNat_natCast] at h2, h4, h3⟩
end Go.Proofs.Ytokhmghgghjmhaa.Q
namespace Go.Proofs.Ytokhmghgghjmhaa.Q
open Go.RowKit Go.Proofs.YtokhmghgghjmhaaW.PrintWords Go.Proofs.YtokhmghgghjmhaaW.PrintLast Go.Proofs.YtokhmghgghjmhaaW.PrintMore
set_option linter.unusedVariables false
set_option linter.unusedSimpArgs false
/-- Is a list before another one, from a place on, of so many places that both have? -/
def befF (a b : List Int) : Nat → Nat → Bool
  | 0, _ => decide (a.length < b.length)
  | d + 1, i => if rd a i = rd b i then befF a b d (i + 1) else decide (rd a i < rd b i)
def beforeB (a b : List Int) : Bool := befF a b (min a.length b.length) 0
theorem befF_not (a b : List Int) (h : b.length ≤ a.length) : ∀ (d i : Nat), i + d = min a.length b.length → (∀ k : Nat, i ≤ k → k < i + d → rd a k = rd b k) ∨ (∃ k : Nat, i ≤ k ∧ k < i + d ∧ (∀ j : Nat, i ≤ j → j < k → rd b j = rd a j) ∧ rd b k < rd a k) → befF a b d i = false
  | 0, i, _, _ => by simp only [befF]; exact decide_eq_false (by omega)
  | d + 1, i, hd, hc => by
    simp only [befF]
    by_cases e : rd a i = rd b i
    · rw [if_pos e]
      refine befF_not a b h d (i + 1) (by omega) ?_
      rcases hc with hc | ⟨k, h1, h2, h3, h4⟩
      · exact .inl fun k h1 h2 => hc k (by omega) (by omega)
      · have : k ≠ i := fun hk => by subst hk; omega
        exact .inr ⟨k, by omega, by omega, fun j h5 h6 => h3 j (by omega) h6, h4⟩
    · rw [if_neg e]
      rcases hc with hc | ⟨k, h1, h2, h3, h4⟩
      · exact absurd (hc i (Nat.le_refl _) (by omega)) e
      · by_cases hk : k = i
        · subst hk; exact decide_eq_false (by omega)
        · exact absurd (h3 i (Nat.le_refl _) (by omega)).symm e
theorem before_no {a b : List Int} (h : a.length = b.length) (hc : a = b ∨ lexlt b a) : beforeB a b = false := by
  refine befF_not a b (by omega) _ 0 (by omega) ?_
  rcases hc with rfl | ⟨k, h1, h2, h3, h4⟩
  · exact .inl fun _ _ _ => rfl
  · exact .inr ⟨k, Nat.zero_le _, by omega, fun j _ h5 => h3 j h5, h4⟩
set_option maxHeartbeats 4000000 in
set_option maxRecDepth 100000 in
theorem before_q {w : World} {A A' : Option Addr} {c c' : Nat} {a b : List Int} (hA : Ls .i64 w A c a) (hB : Ls .i64 w A' c' b) (hl : a.length ≤ 1000) (hl' : b.length ≤ 1000) :
    Calls Try.prog 69 #[.slice A a.length c, .slice A' b.length c'] w fun e w' => e = .returned (.bool (beforeB a b)) ∧ Below w.heap.size w w' := by
  have HA := Aside0.mk hA
  have HB' := Aside0.mk hB
  clear hA hB
  go_enter Try.func69, Try.ntmps69
  go_wp2_with fail
  go_loopg [5] (min a.length b.length) (fun kq v5 wr => ∃ i : Nat, v5 = .int .i64 i ∧ Aside0 (i + kq = min a.length b.length) ∧ Aside0 (befF a b kq i = beforeB a b) ∧ Aside0 (Below w.heap.size w wr))
  case atStart => exact ⟨0, rfl, ⟨by omega⟩, ⟨rfl⟩, ⟨by first | exact Below.refl _ _ | exact below_drew (Below.refl _ _) | exact pw_below_drewN (Below.refl _ _) _⟩⟩
  case round =>
    obtain ⟨i, rfl, HN, HF, HB⟩ := hrel
    cases gk with
    | zero =>
      have HR : Aside0 (decide (a.length < b.length) = beforeB a b) := ⟨by rw [← HF.out]; rfl⟩
      have hlt : decide ((a.length : Int) < (b.length : Int)) = decide (a.length < b.length) := decide_eq_decide.2 (by omega)
      by_cases h1 : (i : Int) < (a.length : Int)
      · have h2 : ¬ (i : Int) < (b.length : Int) := by have := HN.out; omega
        go_wp2_with fail
        go_ret
        exact ⟨by rw [← HR.out]; simp, HB.out⟩
      · go_wp2_with fail
        go_ret
        exact ⟨by rw [← HR.out]; simp, HB.out⟩
    | succ kq =>
      have HL : Aside0 ((if rd a i = rd b i then befF a b kq (i + 1) else decide (rd a i < rd b i)) = beforeB a b) := ⟨by rw [← HF.out]; rfl⟩
      have h1 : (i : Int) < (a.length : Int) := by have := HN.out; omega
      have h2 : (i : Int) < (b.length : Int) := by have := HN.out; omega
      obtain ⟨ad, rfl, hx⟩ := at_n (Kd.C_below HA.out.1 HB.out) i (by omega)
      obtain ⟨ad', rfl, hx'⟩ := at_n (Kd.C_below HB'.out.1 HB.out) i (by omega)
      have h0 : (0 : Int) ≤ (i : Int) := by omega
      obtain ⟨x, hxe⟩ : ∃ x, rd a i = x := ⟨_, rfl⟩
      obtain ⟨y, hye⟩ : ∃ y, rd b i = y := ⟨_, rfl⟩
      rw [hxe] at hx HL
      rw [hye] at hx' HL
      clear hxe hye HF
      go_wp2_with fail
      go_region_held3 (fun W' => Below w.heap.size w W' ∧ W'.cell? (ad.add i) = some (.int .i64 x) ∧ W'.cell? (ad'.add i) = some (.int .i64 y)) (exact ⟨below_drew HB.out, hx, hx'⟩) (fail)
      rename_i hHeld
      by_cases e : x = y
      · have HL2 : Aside0 (befF a b kq (i + 1) = beforeB a b) := ⟨by have := HL.out; rwa [if_pos e] at this⟩
        have e1 : (x != y) = false := by rw [e]; simp
        clear HL e
        have HB2 := Aside0.mk hHeld.1
        clear hHeld
        go_wp2_with fail
        go_roundg kq
        case measure => omega
        case rel => exact ⟨i + 1, by go_num, ⟨by have := HN.out; omega⟩, HL2, HB2⟩
      · have HL2 : Aside0 (decide (x < y) = beforeB a b) := ⟨by have := HL.out; rwa [if_neg e] at this⟩
        have e1 : (x != y) = true := bne_iff_ne.2 e
        clear HL e
        go_wp2_with fail
        go_region_held3 (fun W' => Below w.heap.size w W' ∧ W'.cell? (ad.add i) = some (.int .i64 x) ∧ W'.cell? (ad'.add i) = some (.int .i64 y)) (exact ⟨below_drew hHeld.1, hHeld.2.1, hHeld.2.2⟩) (fail)
        rename_i hHeld2
        go_wp2_with fail
        go_ret
        exact ⟨by rw [← HL2.out]; simp, hHeld2.1⟩
end Go.Proofs.Ytokhmghgghjmhaa.Q
namespace Go.Proofs.Ytokhmghgghjmhaa.Q
open Go.RowKit Go.Proofs.YtokhmghgghjmhaaW.PrintWords Go.Proofs.YtokhmghgghjmhaaW.PrintLast Go.Proofs.YtokhmghgghjmhaaW.PrintMore
set_option linter.unusedVariables false
section
variable {cs cl : Int} {hs : List S68} {hung : List Int} {looks : List S84} {p : List Int}
theorem prove_ok (hc : checkB cs cl (hs.map toH) hung (looks.map toL) = 0) (P : Pl cs hs.length p) (hT : truthsT (hs.map toH) hung (looks.map toL) ≠ []) (t : Int) :
    provePR cs cl (hs.map toH) hung (looks.map toL) p t = true ↔ okP cl (hs.map toH) (truthsT (hs.map toH) hung (looks.map toL)) p ∧ vP cl (hs.map toH) (truthsT (hs.map toH) hung (looks.map toL)) p ≤ t := by
  have hz : askCode cs cl (hs.map toH) hung (looks.map toL) (fineB cs (hs.map toH) p) = 0 := ask_zero.2 ⟨hc, (fine_pl (valid_of hc)).2 (by rw [List.length_map]; exact P), hT⟩
  unfold provePR okP vP
  rw [if_neg (by simp [hz]), Bool.and_eq_true, beq_iff_eq, decide_eq_true_eq]
theorem vP_bd (V : Valid cs cl (hs.map toH) hung (looks.map toL)) (hT : truthsT (hs.map toH) hung (looks.map toL) ≠ []) (h : okP cl (hs.map toH) (truthsT (hs.map toH) hung (looks.map toL)) p) :
    0 ≤ vP cl (hs.map toH) (truthsT (hs.map toH) hung (looks.map toL)) p ∧ vP cl (hs.map toH) (truthsT (hs.map toH) hung (looks.map toL)) p ≤ 99 := by
  have h0 := V.k0
  have h9 := V.k99
  have h1 := (vP_le cl (hs.map toH) _ p _ h).1 (Int.le_refl _)
  have h2 := (vP_le cl (hs.map toH) (truthsT (hs.map toH) hung (looks.map toL)) p cl h).2 ⟨h0, fun j hj => by
    have := (okP_iff cl (hs.map toH) _ p).1 h j hj
    have := ((le_hi (cl := cl) (hs := hs.map toH) (p := p) hT j _).1 (Int.le_refl _)).1
    omega⟩
  omega
/-- The plain law of ClosetNoSooner. -/
theorem nos_cases (hc : checkB cs cl (hs.map toH) hung (looks.map toL) = 0) (P : Pl cs hs.length p) (n : Int) :
    (((bestR cs cl (hs.map toH) hung (looks.map toL)).2.2 = 10 ∨ (bestR cs cl (hs.map toH) hung (looks.map toL)).2.2 = 11) ∧ provePR cs cl (hs.map toH) hung (looks.map toL) p n = false) ∨
    ∃ x m, bestR cs cl (hs.map toH) hung (looks.map toL) = (x, m, 0) ∧ 0 ≤ m ∧ m ≤ 99 ∧ Pl cs hs.length x ∧ provePR cs cl (hs.map toH) hung (looks.map toL) x m = true ∧ provePR cs cl (hs.map toH) hung (looks.map toL) x (m - 1) = false ∧
      (provePR cs cl (hs.map toH) hung (looks.map toL) p n = true → n ≥ m) ∧ (provePR cs cl (hs.map toH) hung (looks.map toL) p m = true → beforeB p x = false) ∧ provePR cs cl (hs.map toH) hung (looks.map toL) p (m - 1) = false := by
  have V := valid_of hc
  by_cases hT : truthsT (hs.map toH) hung (looks.map toL) = []
  · left
    have hz : ∀ b, askCode cs cl (hs.map toH) hung (looks.map toL) b ≠ 0 := fun b h => (ask_zero.1 h).2.2 hT
    constructor
    · right
      have : askCode cs cl (hs.map toH) hung (looks.map toL) true = 11 := by unfold askCode; rw [if_neg (by simp [hc]), if_neg (by simp), if_pos hT]
      unfold bestR
      rw [this, if_pos (by decide)]
    · unfold provePR
      rw [if_pos (hz _)]
  · have hno : ∀ (q : List Int) (t : Int), Pl cs hs.length q → ¬ (okP cl (hs.map toH) (truthsT (hs.map toH) hung (looks.map toL)) q ∧ vP cl (hs.map toH) (truthsT (hs.map toH) hung (looks.map toL)) q ≤ t) → provePR cs cl (hs.map toH) hung (looks.map toL) q t = false := by
      intro q t hq h
      rw [← Bool.not_eq_true, prove_ok hc hq hT]
      exact h
    rcases best_code hc hT with ⟨h1, h2, h3, h4⟩ | ⟨h1, h2, h3, h4, h5⟩
    · left
      refine ⟨.inl h1, hno p n P fun h => ?_⟩
      exact h4 p (by rw [List.length_map]; exact P) h.1
    · right
      have hb := vP_bd V hT h3
      rw [List.length_map] at h2 h5
      generalize hB : bestR cs cl (hs.map toH) hung (looks.map toL) = B at h1 h2 h3 h4 h5 hb
      obtain ⟨x, m, e⟩ := B
      obtain rfl : e = 0 := h1
      have h2 : Pl cs hs.length x := h2
      have h3 : okP cl (hs.map toH) (truthsT (hs.map toH) hung (looks.map toL)) x := h3
      have hb : 0 ≤ vP cl (hs.map toH) (truthsT (hs.map toH) hung (looks.map toL)) x ∧ vP cl (hs.map toH) (truthsT (hs.map toH) hung (looks.map toL)) x ≤ 99 := hb
      have h4 : m = vP cl (hs.map toH) (truthsT (hs.map toH) hung (looks.map toL)) x := h4
      have h5 : ∀ q, Pl cs hs.length q → okP cl (hs.map toH) (truthsT (hs.map toH) hung (looks.map toL)) q → m < vP cl (hs.map toH) (truthsT (hs.map toH) hung (looks.map toL)) q ∨ (m = vP cl (hs.map toH) (truthsT (hs.map toH) hung (looks.map toL)) q ∧ (q = x ∨ lexlt x q)) := h5
      have hge : ∀ q, Pl cs hs.length q → okP cl (hs.map toH) (truthsT (hs.map toH) hung (looks.map toL)) q → m ≤ vP cl (hs.map toH) (truthsT (hs.map toH) hung (looks.map toL)) q := fun q hq hok => by rcases h5 q hq hok with h | ⟨h, _⟩ <;> omega
      rw [← h4] at hb
      refine ⟨x, m, rfl, hb.1, hb.2, h2, (prove_ok hc h2 hT m).2 ⟨h3, by omega⟩, hno x _ h2 (fun h => by have := h.2; omega), fun h => ?_, fun h => ?_, hno p _ P (fun h => by have := hge p P h.1; omega)⟩
      · have h := (prove_ok hc P hT n).1 h
        have := hge p P h.1
        omega
      · have h := (prove_ok hc P hT m).1 h
        rcases h5 p P h.1 with h6 | ⟨_, h6⟩
        · omega
        · exact before_no (P.len.trans h2.len.symm) h6
end
end Go.Proofs.Ytokhmghgghjmhaa.Q
namespace Go.Proofs.Ytokhmghgghjmhaa.Q
open Go.RowKit Go.Proofs.YtokhmghgghjmhaaW.PrintWords Go.Proofs.YtokhmghgghjmhaaW.PrintLast Go.Proofs.YtokhmghgghjmhaaW.PrintMore
set_option linter.unusedVariables false
set_option linter.unusedSimpArgs false
set_option maxHeartbeats 4000000 in
set_option maxRecDepth 100000 in
theorem nos_walk {cs cl : Int} {A2 A3 A4 : Option Addr} {c2 c3 c4 : Nat} {hs : List S68} {hung : List Int} {looks : List S84} {A : Option Addr} {c : Nat} {words : List Int} {dn : Int} {w : World} (M : Ref w A2 A3 A4 c2 c3 c4 hs hung looks) (hW : Ls .u16 w A c words) (hwd : Words words) (hdn : 0 ≤ dn ∧ dn ≤ 255) :
    Calls Try.prog 15 #[.agg #[.int .i64 cs, .int .i64 cl, .slice A2 hs.length c2, .slice A3 hung.length c3, .slice A4 looks.length c4], .slice A words.length c, .int .u8 dn] w fun e w' => e = .returned (.bool true) ∧ Below w.heap.size w w' := by
  have HM := Aside0.mk M
  have HW := Aside0.mk hW
  have HWD := Aside0.mk hwd
  have HDN := Aside0.mk hdn
  clear M hW hwd hdn
  obtain ⟨W0, hW0⟩ : ∃ W0, w.alloc (.cells #[.int .i64 cs, .int .i64 cl, .slice A2 hs.length c2, .slice A3 hung.length c3, .slice A4 looks.length c4] 26) = W0 := ⟨_, rfl⟩
  have HB := Aside0.mk (Box.new hW0).2
  have HK := Aside0.mk (Box.new hW0).1
  have b0 := HK.out.at0
  have b1 := HK.out.at1
  have b2 := HK.out.at2
  have b3 := HK.out.at3
  have b4 := HK.out.at4
  go_enter Try.func15, Try.ntmps15
  go_wp2_with fail
  try rw [hW0]
  clear hW0
  obtain ⟨rdy, hrd⟩ : ∃ rdy, decide ((hs.length ≤ 30 ∧ hung.length ≤ 30 ∧ looks.length ≤ 30) ∧ checkB cs cl (hs.map toH) hung (looks.map toL) = 0) = rdy := ⟨_, rfl⟩
  have HRD := Aside0.mk hrd
  clear hrd
  refine (ready_q (HM.out.later HB.out) HRD.out).mono ?_
  rintro e w1 ⟨rfl, hb⟩
  replace HB := Aside0.mk (below_step HB.out hb)
  replace HK := Aside0.mk (HK.out.later hb)
  replace b0 := HK.out.at0
  replace b1 := HK.out.at1
  replace b2 := HK.out.at2
  replace b3 := HK.out.at3
  replace b4 := HK.out.at4
  clear hb
  cases rdy with
  | false =>
    go_wp2_with fail
    refine (awake_calls _).mono ?_
    rintro e w2 ⟨rfl, hb⟩
    replace HB := Aside0.mk (below_step HB.out hb)
    clear hb
    go_wp2_with fail
    go_ret
    exact ⟨rfl, HB.out⟩
  | true =>
  have HT := Aside0.mk (of_decide_eq_true HRD.out).1
  have HC := Aside0.mk (of_decide_eq_true HRD.out).2
  have HV := Aside0.mk (valid_of HC.out)
  obtain ⟨p, hp, hP⟩ := placedw_f (hung := hung) (looks := looks) (cl := cl) HWD.out HV.out 3000 (Nat.le_refl _)
  have HP := Aside0.mk hP
  have HPF := Aside0.mk hp
  have HPL := Aside0.mk (show p.length ≤ 1000 from by have := hP.len; have := (of_decide_eq_true HRD.out).1; omega)
  clear hp hP
  go_wp2_with fail
  refine (placedw_q (HM.out.later HB.out) (HW.out.later HB.out) HPF.out).mono ?_
  rintro e w3 ⟨B, d, rfl, hli, hb⟩
  replace HB := Aside0.mk (below_step HB.out hb)
  replace HK := Aside0.mk (HK.out.later hb)
  replace b0 := HK.out.at0
  replace b1 := HK.out.at1
  replace b2 := HK.out.at2
  replace b3 := HK.out.at3
  replace b4 := HK.out.at4
  clear hb
  have HLI := Aside0.mk hli
  clear hli
  obtain ⟨n, hn⟩ : ∃ n, Int.tmod dn 100 = n := ⟨_, rfl⟩
  have hnw : IntKind.i64.wrap dn = dn := IntWalk.i64_in _ (by have := HDN.out; omega)
  obtain ⟨bst, hbst⟩ : ∃ bst, bestR cs cl (hs.map toH) hung (looks.map toL) = bst := ⟨_, rfl⟩
  have HBS := Aside0.mk hbst
  have HN := Aside0.mk hn
  clear hbst
  go_wp2_with fail
  refine (refcl_q (HM.out.later HB.out) (by have := HT.out; omega) (by have := HT.out; omega) (by have := HT.out; omega)).mono ?_
  rintro e w4 ⟨B21, B31, B41, d21, d31, d41, n21, n31, n41, rfl, hcl, hb⟩
  replace HB := Aside0.mk (below_step HB.out hb)
  replace HK := Aside0.mk (HK.out.later hb)
  replace HLI := Aside0.mk (HLI.out.later hb)
  replace b0 := HK.out.at0
  replace b1 := HK.out.at1
  replace b2 := HK.out.at2
  replace b3 := HK.out.at3
  replace b4 := HK.out.at4
  clear hb
  have HCL := Aside0.mk hcl
  clear hcl
  go_wp2_with fail
  refine (best_q HCL.out HBS.out).mono ?_
  rintro e w5 ⟨BB, bB, rfl, hx, hb⟩
  replace HB := Aside0.mk (below_step HB.out hb)
  replace HK := Aside0.mk (HK.out.later hb)
  replace HLI := Aside0.mk (HLI.out.later hb)
  replace b0 := HK.out.at0
  replace b1 := HK.out.at1
  replace b2 := HK.out.at2
  replace b3 := HK.out.at3
  replace b4 := HK.out.at4
  clear hb
  have HX := Aside0.mk (show Ls .i64 w5 BB bB bst.1 from hx)
  clear hx
  go_wp2_with fail
  refine (refcl_q (HM.out.later HB.out) (by have := HT.out; omega) (by have := HT.out; omega) (by have := HT.out; omega)).mono ?_
  rintro e w6 ⟨B22, B32, B42, d22, d32, d42, n22, n32, n42, rfl, hcl, hb⟩
  replace HB := Aside0.mk (below_step HB.out hb)
  replace HK := Aside0.mk (HK.out.later hb)
  replace HLI := Aside0.mk (HLI.out.later hb)
  replace HX := Aside0.mk (HX.out.later hb)
  replace b0 := HK.out.at0
  replace b1 := HK.out.at1
  replace b2 := HK.out.at2
  replace b3 := HK.out.at3
  replace b4 := HK.out.at4
  clear hb
  have HCL := Aside0.mk hcl
  clear hcl
  go_wp2_with fail
  refine (list_qq HLI.out HPL.out).mono ?_
  rintro e w7 ⟨Bx2, dx2, rfl, hlj, hb⟩
  replace HB := Aside0.mk (below_step HB.out hb)
  replace HK := Aside0.mk (HK.out.later hb)
  replace HLI := Aside0.mk (HLI.out.later hb)
  replace HX := Aside0.mk (HX.out.later hb)
  replace HCL := Aside0.mk (HCL.out.later hb)
  replace b0 := HK.out.at0
  replace b1 := HK.out.at1
  replace b2 := HK.out.at2
  replace b3 := HK.out.at3
  replace b4 := HK.out.at4
  clear hb
  have HLJ := Aside0.mk hlj
  clear hlj
  obtain ⟨is, his⟩ : ∃ is, provePR cs cl (hs.map toH) hung (looks.map toL) p n = is := ⟨_, rfl⟩
  have HIS := Aside0.mk his
  clear his
  go_wp2_with fail
  try rw [hn]
  refine (place_q HCL.out HLJ.out (by have := HT.out; omega) HIS.out).mono ?_
  rintro e w8 ⟨rfl, hb⟩
  replace HB := Aside0.mk (below_step HB.out hb)
  replace HK := Aside0.mk (HK.out.later hb)
  replace HLI := Aside0.mk (HLI.out.later hb)
  replace HX := Aside0.mk (HX.out.later hb)
  replace b0 := HK.out.at0
  replace b1 := HK.out.at1
  replace b2 := HK.out.at2
  replace b3 := HK.out.at3
  replace b4 := HK.out.at4
  clear hb
  rcases nos_cases (hung := hung) (looks := looks) (cl := cl) HC.out HP.out n with ⟨h1, h2⟩ | ⟨x, m, hbb, hm0, hm9, hxp, c1, c2', c3', c4', c5⟩
  · obtain rfl : false = is := by rw [← HIS.out, h2]
    rw [HBS.out] at h1
    obtain ⟨bp, bm, be⟩ := bst
    rcases h1 with h1 | h1
    all_goals
      obtain rfl : be = _ := h1
      clear h2
      go_wp2_with fail
      refine (awake_calls _).mono ?_
      rintro e w9 ⟨rfl, hb⟩
      replace HB := Aside0.mk (below_step HB.out hb)
      clear hb
      go_wp2_with fail
      go_ret
      exact ⟨rfl, HB.out⟩
  · obtain rfl : (x, m, 0) = bst := by rw [← HBS.out, hbb]
    have HXP := Aside0.mk hxp
    have HXL := Aside0.mk (show x.length ≤ 1000 from by have := hxp.len; have := HT.out; omega)
    have HC1 := Aside0.mk c1
    have HC2 := Aside0.mk c2'
    have HC3 := Aside0.mk c3'
    have HC4 := Aside0.mk c4'
    have HC5 := Aside0.mk c5
    have HIP : Aside0 (posserref04_IsPlace.f 20000 cs cl hs hung looks x = some true) := ⟨by rw [isPlace_f cs cl hs hung looks x (by have := HT.out; omega) 20000 (Nat.le_refl _)]; have := (fine_pl HV.out).2 (show Pl cs (hs.map toH).length x by rw [List.length_map]; exact HXP.out); unfold fineB at this; rw [List.length_map] at this; rw [this]⟩
    clear hxp c1 c2' c3' c4' c5 hbb
    go_wp2_with fail
    refine (posserref04_IsPlace.calls 20000 cs cl A2 c2 hs A3 c3 hung A4 c4 looks BB bB x true _ (HM.out.later HB.out).h2 HM.out.l2 (HM.out.later HB.out).h3 HM.out.l3 (HM.out.later HB.out).h4 HM.out.l4 HX.out.1 HX.out.2 HIP.out).mono ?_
    rintro e w10 ⟨rfl, hb⟩
    replace HB := Aside0.mk (below_step HB.out hb)
    replace HK := Aside0.mk (HK.out.later hb)
    replace HLI := Aside0.mk (HLI.out.later hb)
    replace HX := Aside0.mk (HX.out.later hb)
    replace b0 := HK.out.at0
    replace b1 := HK.out.at1
    replace b2 := HK.out.at2
    replace b3 := HK.out.at3
    replace b4 := HK.out.at4
    clear hb
    go_wp2_with fail
    refine (refcl_q (HM.out.later HB.out) (by have := HT.out; omega) (by have := HT.out; omega) (by have := HT.out; omega)).mono ?_
    rintro e w11 ⟨B23, B33, B43, d23, d33, d43, n23, n33, n43, rfl, hcl, hb⟩
    replace HB := Aside0.mk (below_step HB.out hb)
    replace HK := Aside0.mk (HK.out.later hb)
    replace HLI := Aside0.mk (HLI.out.later hb)
    replace HX := Aside0.mk (HX.out.later hb)
    replace b0 := HK.out.at0
    replace b1 := HK.out.at1
    replace b2 := HK.out.at2
    replace b3 := HK.out.at3
    replace b4 := HK.out.at4
    clear hb
    have HCL := Aside0.mk hcl
    clear hcl
    go_wp2_with fail
    refine (list_qq HX.out HXL.out).mono ?_
    rintro e w12 ⟨Bx3, dx3, rfl, hlj, hb⟩
    replace HB := Aside0.mk (below_step HB.out hb)
    replace HK := Aside0.mk (HK.out.later hb)
    replace HLI := Aside0.mk (HLI.out.later hb)
    replace HX := Aside0.mk (HX.out.later hb)
    replace HCL := Aside0.mk (HCL.out.later hb)
    replace b0 := HK.out.at0
    replace b1 := HK.out.at1
    replace b2 := HK.out.at2
    replace b3 := HK.out.at3
    replace b4 := HK.out.at4
    clear hb
    have HLJ := Aside0.mk hlj
    clear hlj
    go_wp2_with fail
    refine (place_q HCL.out HLJ.out (by have := HT.out; omega) HC1.out).mono ?_
    rintro e w13 ⟨rfl, hb⟩
    replace HB := Aside0.mk (below_step HB.out hb)
    replace HK := Aside0.mk (HK.out.later hb)
    replace HLI := Aside0.mk (HLI.out.later hb)
    replace HX := Aside0.mk (HX.out.later hb)
    replace b0 := HK.out.at0
    replace b1 := HK.out.at1
    replace b2 := HK.out.at2
    replace b3 := HK.out.at3
    replace b4 := HK.out.at4
    clear hb
    go_wp2_with fail
    refine (refcl_q (HM.out.later HB.out) (by have := HT.out; omega) (by have := HT.out; omega) (by have := HT.out; omega)).mono ?_
    rintro e w14 ⟨B24, B34, B44, d24, d34, d44, n24, n34, n44, rfl, hcl, hb⟩
    replace HB := Aside0.mk (below_step HB.out hb)
    replace HK := Aside0.mk (HK.out.later hb)
    replace HLI := Aside0.mk (HLI.out.later hb)
    replace HX := Aside0.mk (HX.out.later hb)
    replace b0 := HK.out.at0
    replace b1 := HK.out.at1
    replace b2 := HK.out.at2
    replace b3 := HK.out.at3
    replace b4 := HK.out.at4
    clear hb
    have HCL := Aside0.mk hcl
    clear hcl
    go_wp2_with fail
    refine (list_qq HX.out HXL.out).mono ?_
    rintro e w15 ⟨Bx4, dx4, rfl, hlj, hb⟩
    replace HB := Aside0.mk (below_step HB.out hb)
    replace HK := Aside0.mk (HK.out.later hb)
    replace HLI := Aside0.mk (HLI.out.later hb)
    replace HX := Aside0.mk (HX.out.later hb)
    replace HCL := Aside0.mk (HCL.out.later hb)
    replace b0 := HK.out.at0
    replace b1 := HK.out.at1
    replace b2 := HK.out.at2
    replace b3 := HK.out.at3
    replace b4 := HK.out.at4
    clear hb
    have HLJ := Aside0.mk hlj
    clear hlj
    go_wp2_with fail
    refine (place_q HCL.out HLJ.out (by have := HT.out; omega) HC2.out).mono ?_
    rintro e w16 ⟨rfl, hb⟩
    replace HB := Aside0.mk (below_step HB.out hb)
    replace HK := Aside0.mk (HK.out.later hb)
    replace HLI := Aside0.mk (HLI.out.later hb)
    replace HX := Aside0.mk (HX.out.later hb)
    replace b0 := HK.out.at0
    replace b1 := HK.out.at1
    replace b2 := HK.out.at2
    replace b3 := HK.out.at3
    replace b4 := HK.out.at4
    clear hb
    cases is with
    | true =>
      have hge : n ≥ m := HC3.out HIS.out
      go_wp2_with fail
      refine (refcl_q (HM.out.later HB.out) (by have := HT.out; omega) (by have := HT.out; omega) (by have := HT.out; omega)).mono ?_
      rintro e w17 ⟨B25, B35, B45, d25, d35, d45, n25, n35, n45, rfl, hcl, hb⟩
      replace HB := Aside0.mk (below_step HB.out hb)
      replace HK := Aside0.mk (HK.out.later hb)
      replace HLI := Aside0.mk (HLI.out.later hb)
      replace HX := Aside0.mk (HX.out.later hb)
      replace b0 := HK.out.at0
      replace b1 := HK.out.at1
      replace b2 := HK.out.at2
      replace b3 := HK.out.at3
      replace b4 := HK.out.at4
      clear hb
      have HCL := Aside0.mk hcl
      clear hcl
      go_wp2_with fail
      refine (list_qq HLI.out HPL.out).mono ?_
      rintro e w18 ⟨Bx5, dx5, rfl, hlj, hb⟩
      replace HB := Aside0.mk (below_step HB.out hb)
      replace HK := Aside0.mk (HK.out.later hb)
      replace HLI := Aside0.mk (HLI.out.later hb)
      replace HX := Aside0.mk (HX.out.later hb)
      replace HCL := Aside0.mk (HCL.out.later hb)
      replace b0 := HK.out.at0
      replace b1 := HK.out.at1
      replace b2 := HK.out.at2
      replace b3 := HK.out.at3
      replace b4 := HK.out.at4
      clear hb
      have HLJ := Aside0.mk hlj
      clear hlj
      obtain ⟨pm, hpm⟩ : ∃ pm, provePR cs cl (hs.map toH) hung (looks.map toL) p m = pm := ⟨_, rfl⟩
      have HPM := Aside0.mk hpm
      clear hpm
      go_wp2_with fail
      refine (place_q HCL.out HLJ.out (by have := HT.out; omega) HPM.out).mono ?_
      rintro e w19 ⟨rfl, hb⟩
      replace HB := Aside0.mk (below_step HB.out hb)
      replace HK := Aside0.mk (HK.out.later hb)
      replace HLI := Aside0.mk (HLI.out.later hb)
      replace HX := Aside0.mk (HX.out.later hb)
      replace b0 := HK.out.at0
      replace b1 := HK.out.at1
      replace b2 := HK.out.at2
      replace b3 := HK.out.at3
      replace b4 := HK.out.at4
      clear hb
      cases pm with
      | true =>
        have HBF := Aside0.mk (HC4.out HPM.out)
        go_wp2_with fail
        refine (before_q HLI.out HX.out HPL.out HXL.out).mono ?_
        rintro e w20 ⟨rfl, hb⟩
        replace HB := Aside0.mk (below_step HB.out hb)
        replace HK := Aside0.mk (HK.out.later hb)
        replace HLI := Aside0.mk (HLI.out.later hb)
        replace HX := Aside0.mk (HX.out.later hb)
        replace b0 := HK.out.at0
        replace b1 := HK.out.at1
        replace b2 := HK.out.at2
        replace b3 := HK.out.at3
        replace b4 := HK.out.at4
        clear hb
        rw [HBF.out]
        go_wp2_with fail
        refine (refcl_q (HM.out.later HB.out) (by have := HT.out; omega) (by have := HT.out; omega) (by have := HT.out; omega)).mono ?_
        rintro e w21 ⟨B26, B36, B46, d26, d36, d46, n26, n36, n46, rfl, hcl, hb⟩
        replace HB := Aside0.mk (below_step HB.out hb)
        replace HK := Aside0.mk (HK.out.later hb)
        replace HLI := Aside0.mk (HLI.out.later hb)
        replace HX := Aside0.mk (HX.out.later hb)
        replace b0 := HK.out.at0
        replace b1 := HK.out.at1
        replace b2 := HK.out.at2
        replace b3 := HK.out.at3
        replace b4 := HK.out.at4
        clear hb
        have HCL := Aside0.mk hcl
        clear hcl
        go_wp2_with fail
        refine (list_qq HLI.out HPL.out).mono ?_
        rintro e w22 ⟨Bx6, dx6, rfl, hlj, hb⟩
        replace HB := Aside0.mk (below_step HB.out hb)
        replace HK := Aside0.mk (HK.out.later hb)
        replace HLI := Aside0.mk (HLI.out.later hb)
        replace HX := Aside0.mk (HX.out.later hb)
        replace HCL := Aside0.mk (HCL.out.later hb)
        replace b0 := HK.out.at0
        replace b1 := HK.out.at1
        replace b2 := HK.out.at2
        replace b3 := HK.out.at3
        replace b4 := HK.out.at4
        clear hb
        have HLJ := Aside0.mk hlj
        clear hlj
        go_wp2_with fail
        refine (place_q HCL.out HLJ.out (by have := HT.out; omega) HC5.out).mono ?_
        rintro e w23 ⟨rfl, hb⟩
        replace HB := Aside0.mk (below_step HB.out hb)
        replace HK := Aside0.mk (HK.out.later hb)
        replace HLI := Aside0.mk (HLI.out.later hb)
        replace HX := Aside0.mk (HX.out.later hb)
        replace b0 := HK.out.at0
        replace b1 := HK.out.at1
        replace b2 := HK.out.at2
        replace b3 := HK.out.at3
        replace b4 := HK.out.at4
        clear hb
        go_wp2_with fail
        refine (awake_calls _).mono ?_
        rintro e w24 ⟨rfl, hb⟩
        replace HB := Aside0.mk (below_step HB.out hb)
        clear hb
        go_wp2_with fail
        go_ret
        exact ⟨rfl, HB.out⟩
      | false =>
        go_wp2_with fail
        refine (refcl_q (HM.out.later HB.out) (by have := HT.out; omega) (by have := HT.out; omega) (by have := HT.out; omega)).mono ?_
        rintro e w25 ⟨B26, B36, B46, d26, d36, d46, n26, n36, n46, rfl, hcl, hb⟩
        replace HB := Aside0.mk (below_step HB.out hb)
        replace HK := Aside0.mk (HK.out.later hb)
        replace HLI := Aside0.mk (HLI.out.later hb)
        replace HX := Aside0.mk (HX.out.later hb)
        replace b0 := HK.out.at0
        replace b1 := HK.out.at1
        replace b2 := HK.out.at2
        replace b3 := HK.out.at3
        replace b4 := HK.out.at4
        clear hb
        have HCL := Aside0.mk hcl
        clear hcl
        go_wp2_with fail
        refine (list_qq HLI.out HPL.out).mono ?_
        rintro e w26 ⟨Bx6, dx6, rfl, hlj, hb⟩
        replace HB := Aside0.mk (below_step HB.out hb)
        replace HK := Aside0.mk (HK.out.later hb)
        replace HLI := Aside0.mk (HLI.out.later hb)
        replace HX := Aside0.mk (HX.out.later hb)
        replace HCL := Aside0.mk (HCL.out.later hb)
        replace b0 := HK.out.at0
        replace b1 := HK.out.at1
        replace b2 := HK.out.at2
        replace b3 := HK.out.at3
        replace b4 := HK.out.at4
        clear hb
        have HLJ := Aside0.mk hlj
        clear hlj
        go_wp2_with fail
        refine (place_q HCL.out HLJ.out (by have := HT.out; omega) HC5.out).mono ?_
        rintro e w27 ⟨rfl, hb⟩
        replace HB := Aside0.mk (below_step HB.out hb)
        replace HK := Aside0.mk (HK.out.later hb)
        replace HLI := Aside0.mk (HLI.out.later hb)
        replace HX := Aside0.mk (HX.out.later hb)
        replace b0 := HK.out.at0
        replace b1 := HK.out.at1
        replace b2 := HK.out.at2
        replace b3 := HK.out.at3
        replace b4 := HK.out.at4
        clear hb
        go_wp2_with fail
        refine (awake_calls _).mono ?_
        rintro e w28 ⟨rfl, hb⟩
        replace HB := Aside0.mk (below_step HB.out hb)
        clear hb
        go_wp2_with fail
        go_ret
        exact ⟨rfl, HB.out⟩
    | false =>
      go_wp2_with fail
      refine (refcl_q (HM.out.later HB.out) (by have := HT.out; omega) (by have := HT.out; omega) (by have := HT.out; omega)).mono ?_
      rintro e w29 ⟨B25, B35, B45, d25, d35, d45, n25, n35, n45, rfl, hcl, hb⟩
      replace HB := Aside0.mk (below_step HB.out hb)
      replace HK := Aside0.mk (HK.out.later hb)
      replace HLI := Aside0.mk (HLI.out.later hb)
      replace HX := Aside0.mk (HX.out.later hb)
      replace b0 := HK.out.at0
      replace b1 := HK.out.at1
      replace b2 := HK.out.at2
      replace b3 := HK.out.at3
      replace b4 := HK.out.at4
      clear hb
      have HCL := Aside0.mk hcl
      clear hcl
      go_wp2_with fail
      refine (list_qq HLI.out HPL.out).mono ?_
      rintro e w30 ⟨Bx5, dx5, rfl, hlj, hb⟩
      replace HB := Aside0.mk (below_step HB.out hb)
      replace HK := Aside0.mk (HK.out.later hb)
      replace HLI := Aside0.mk (HLI.out.later hb)
      replace HX := Aside0.mk (HX.out.later hb)
      replace HCL := Aside0.mk (HCL.out.later hb)
      replace b0 := HK.out.at0
      replace b1 := HK.out.at1
      replace b2 := HK.out.at2
      replace b3 := HK.out.at3
      replace b4 := HK.out.at4
      clear hb
      have HLJ := Aside0.mk hlj
      clear hlj
      obtain ⟨pm, hpm⟩ : ∃ pm, provePR cs cl (hs.map toH) hung (looks.map toL) p m = pm := ⟨_, rfl⟩
      have HPM := Aside0.mk hpm
      clear hpm
      go_wp2_with fail
      refine (place_q HCL.out HLJ.out (by have := HT.out; omega) HPM.out).mono ?_
      rintro e w31 ⟨rfl, hb⟩
      replace HB := Aside0.mk (below_step HB.out hb)
      replace HK := Aside0.mk (HK.out.later hb)
      replace HLI := Aside0.mk (HLI.out.later hb)
      replace HX := Aside0.mk (HX.out.later hb)
      replace b0 := HK.out.at0
      replace b1 := HK.out.at1
      replace b2 := HK.out.at2
      replace b3 := HK.out.at3
      replace b4 := HK.out.at4
      clear hb
      cases pm with
      | true =>
        have HBF := Aside0.mk (HC4.out HPM.out)
        go_wp2_with fail
        refine (before_q HLI.out HX.out HPL.out HXL.out).mono ?_
        rintro e w32 ⟨rfl, hb⟩
        replace HB := Aside0.mk (below_step HB.out hb)
        replace HK := Aside0.mk (HK.out.later hb)
        replace HLI := Aside0.mk (HLI.out.later hb)
        replace HX := Aside0.mk (HX.out.later hb)
        replace b0 := HK.out.at0
        replace b1 := HK.out.at1
        replace b2 := HK.out.at2
        replace b3 := HK.out.at3
        replace b4 := HK.out.at4
        clear hb
        rw [HBF.out]
        go_wp2_with fail
        refine (refcl_q (HM.out.later HB.out) (by have := HT.out; omega) (by have := HT.out; omega) (by have := HT.out; omega)).mono ?_
        rintro e w33 ⟨B26, B36, B46, d26, d36, d46, n26, n36, n46, rfl, hcl, hb⟩
        replace HB := Aside0.mk (below_step HB.out hb)
        replace HK := Aside0.mk (HK.out.later hb)
        replace HLI := Aside0.mk (HLI.out.later hb)
        replace HX := Aside0.mk (HX.out.later hb)
        replace b0 := HK.out.at0
        replace b1 := HK.out.at1
        replace b2 := HK.out.at2
        replace b3 := HK.out.at3
        replace b4 := HK.out.at4
        clear hb
        have HCL := Aside0.mk hcl
        clear hcl
        go_wp2_with fail
        refine (list_qq HLI.out HPL.out).mono ?_
        rintro e w34 ⟨Bx6, dx6, rfl, hlj, hb⟩
        replace HB := Aside0.mk (below_step HB.out hb)
        replace HK := Aside0.mk (HK.out.later hb)
        replace HLI := Aside0.mk (HLI.out.later hb)
        replace HX := Aside0.mk (HX.out.later hb)
        replace HCL := Aside0.mk (HCL.out.later hb)
        replace b0 := HK.out.at0
        replace b1 := HK.out.at1
        replace b2 := HK.out.at2
        replace b3 := HK.out.at3
        replace b4 := HK.out.at4
        clear hb
        have HLJ := Aside0.mk hlj
        clear hlj
        go_wp2_with fail
        refine (place_q HCL.out HLJ.out (by have := HT.out; omega) HC5.out).mono ?_
        rintro e w35 ⟨rfl, hb⟩
        replace HB := Aside0.mk (below_step HB.out hb)
        replace HK := Aside0.mk (HK.out.later hb)
        replace HLI := Aside0.mk (HLI.out.later hb)
        replace HX := Aside0.mk (HX.out.later hb)
        replace b0 := HK.out.at0
        replace b1 := HK.out.at1
        replace b2 := HK.out.at2
        replace b3 := HK.out.at3
        replace b4 := HK.out.at4
        clear hb
        go_wp2_with fail
        refine (awake_calls _).mono ?_
        rintro e w36 ⟨rfl, hb⟩
        replace HB := Aside0.mk (below_step HB.out hb)
        clear hb
        go_wp2_with fail
        go_ret
        exact ⟨rfl, HB.out⟩
      | false =>
        go_wp2_with fail
        refine (refcl_q (HM.out.later HB.out) (by have := HT.out; omega) (by have := HT.out; omega) (by have := HT.out; omega)).mono ?_
        rintro e w37 ⟨B26, B36, B46, d26, d36, d46, n26, n36, n46, rfl, hcl, hb⟩
        replace HB := Aside0.mk (below_step HB.out hb)
        replace HK := Aside0.mk (HK.out.later hb)
        replace HLI := Aside0.mk (HLI.out.later hb)
        replace HX := Aside0.mk (HX.out.later hb)
        replace b0 := HK.out.at0
        replace b1 := HK.out.at1
        replace b2 := HK.out.at2
        replace b3 := HK.out.at3
        replace b4 := HK.out.at4
        clear hb
        have HCL := Aside0.mk hcl
        clear hcl
        go_wp2_with fail
        refine (list_qq HLI.out HPL.out).mono ?_
        rintro e w38 ⟨Bx6, dx6, rfl, hlj, hb⟩
        replace HB := Aside0.mk (below_step HB.out hb)
        replace HK := Aside0.mk (HK.out.later hb)
        replace HLI := Aside0.mk (HLI.out.later hb)
        replace HX := Aside0.mk (HX.out.later hb)
        replace HCL := Aside0.mk (HCL.out.later hb)
        replace b0 := HK.out.at0
        replace b1 := HK.out.at1
        replace b2 := HK.out.at2
        replace b3 := HK.out.at3
        replace b4 := HK.out.at4
        clear hb
        have HLJ := Aside0.mk hlj
        clear hlj
        go_wp2_with fail
        refine (place_q HCL.out HLJ.out (by have := HT.out; omega) HC5.out).mono ?_
        rintro e w39 ⟨rfl, hb⟩
        replace HB := Aside0.mk (below_step HB.out hb)
        replace HK := Aside0.mk (HK.out.later hb)
        replace HLI := Aside0.mk (HLI.out.later hb)
        replace HX := Aside0.mk (HX.out.later hb)
        replace b0 := HK.out.at0
        replace b1 := HK.out.at1
        replace b2 := HK.out.at2
        replace b3 := HK.out.at3
        replace b4 := HK.out.at4
        clear hb
        go_wp2_with fail
        refine (awake_calls _).mono ?_
        rintro e w40 ⟨rfl, hb⟩
        replace HB := Aside0.mk (below_step HB.out hb)
        clear hb
        go_wp2_with fail
        go_ret
        exact ⟨rfl, HB.out⟩
end Go.Proofs.Ytokhmghgghjmhaa.Q
