/- Part L9x0 of the proof (WWords, Q0, QC, P2, P3, QL, YD, YT, PL, YN, PT, YM, TW, YH): contracts of functions, and plain lemmas about what they compute. -/
import Derived.Below
import Derived.Deep.Draws
import Derived.Deep.AppendLies
import Derived.Maps.AppendAt
import Derived.OwnWalk
import Derived.Laws.BytesArg
import Derived.Laws.MakeOwn
import Derived.Laws.OwnMore
import Derived.Deep.OwnRows
import Derived.Tactics
import Derived.Lib.ConvBytes
import Derived.Laws.Slices
import Derived.WalkKit
import Derived.KernelRfl
import Derived.RowKit3
import Derived.Deep.LoopGhost
import Derived.Deep.QuietTactic
import Derived.BigQuiet
import Derived.WideLaws
import Derived.Deep.DeepCutAuto
import Derived.Deep.CutBlock
import Derived.Deep.RegionHeld3
import Derived.Laws.Rows
import Derived.Lib.AppendStr
import Derived.ArgAppend
import Derived.Laws.IdiomCopy
import Derived.RowKit
import Derived.Test.YtokhmghgghjmhaaProg
import Derived.OrdersHeld
import Derived.Laws.BitsLemmas
import Derived.Test.YtokhmghgghjmhaaA0
import Derived.Test.YtokhmghgghjmhaaA1
import Derived.Test.YtokhmghgghjmhaaA2
import Derived.Test.YtokhmghgghjmhaaA3
import Derived.Test.YtokhmghgghjmhaaA4
import Derived.Test.YtokhmghgghjmhaaB0
import Derived.Test.YtokhmghgghjmhaaB1
import Derived.Test.YtokhmghgghjmhaaB2
import Derived.Test.YtokhmghgghjmhaaB3
import Derived.Test.YtokhmghgghjmhaaB4
import Derived.Test.YtokhmghgghjmhaaB5
import Derived.Test.YtokhmghgghjmhaaB6
import Derived.Test.YtokhmghgghjmhaaB7
set_option linter.unusedVariables false
set_option linter.unusedSimpArgs false
namespace Go.Proofs.YtokhmghgghjmhaaW.PrintWords
open Go.RowKit
theorem add_plain (g j : Nat) : (⟨g, 0, none⟩ : Addr).add j = ⟨g, j, none⟩ := by unfold Addr.add; split <;> simp_all
namespace Kd
end Kd
namespace Kd
end Kd
namespace Kd
end Kd
namespace Kd
section
variable {α β : Type} {d : Kd α} {d' : Kd β} {e e' : Nat} {w w1 W : World} {base b b' : Nat} {ok ok' okv oku : Nat → Prop} {v u : Value} {xs : List α} {ys : List β}
theorem R_form (h : d.R e w base ok v xs) (hp : 0 < xs.length) : ∃ g cap, v = .slice (some ⟨g, 0, none⟩) xs.length cap ∧ base ≤ g ∧ g < w.heap.size ∧ ∃ cells, w.heap[g]? = some (.cells cells e (0, 0)) := by
  obtain ⟨inner, ho⟩ := R_own h
  obtain ⟨g, cap, he, hb, hl⟩ := ho.form hp
  obtain ⟨cells, hc⟩ := own_typed ho g (by rw [he]; simp [Value.ownBlock])
  exact ⟨g, cap, he, hb, hl, cells, hc⟩
end
end Kd
section
variable {w w1 : World} {base n size : Nat} {e : TypeId} {v : Value} {xs : List Value}
/-- What a run of cells written leaves. -/
theorem setCells_far {g : Nat} : ∀ (vs : List Value) (o : Nat) {w : World} (k : Nat), k ≠ g → (w.setCells g o vs).heap[k]? = w.heap[k]?
  | [], _, _, _, _ => rfl
  | v :: r, o, w, k, hk => by
    rw [World.setCells, setCells_far r (o + 1) k hk]
    exact Below.heap_setCell w ⟨g, o, none⟩ v k hk
theorem setCells_same (g : Nat) : ∀ (vs : List Value) (o : Nat) (w : World), (w.setCells g o vs).os = w.os ∧ (w.setCells g o vs).tape = w.tape ∧ (w.setCells g o vs).output = w.output ∧ (w.setCells g o vs).heap.size = w.heap.size
  | [], _, _ => ⟨rfl, rfl, rfl, rfl⟩
  | v :: r, o, w => by
    obtain ⟨h1, h2, h3, h4⟩ := setCells_same g r (o + 1) (w.setCell ⟨g, o, none⟩ v)
    rw [World.setCells]
    exact ⟨h1, h2, h3, by rw [h4]; simp [World.setCell]⟩
theorem setCells_row {g : Nat} {e : TypeId} : ∀ (vs : List Value) (o : Nat) (w : World) (cur : Array Value), w.heap[g]? = some (.cells cur e (0, 0)) → o + vs.length ≤ cur.size →
    ∃ cur', (w.setCells g o vs).heap[g]? = some (.cells cur' e (0, 0)) ∧ cur'.size = cur.size ∧ cur'.toList = cur.toList.take o ++ vs ++ cur.toList.drop (o + vs.length)
  | [], o, w, cur, h, _ => ⟨cur, h, rfl, by simp⟩
  | v :: r, o, w, cur, h, hl => by
    have h2 := blk_set h o v
    simp only [List.length_cons] at hl
    obtain ⟨cur', h3, h4, h5⟩ := setCells_row r (o + 1) (w.setCell ⟨g, o, none⟩ v) _ h2 (by simp; omega)
    refine ⟨cur', h3, by rw [h4]; simp, ?_⟩
    rw [h5, Array.toList_setIfInBounds]
    have ho : o < cur.toList.length := by rw [Array.length_toList]; omega
    rw [List.take_set, List.drop_set_of_lt (by omega)]
    simp only [List.length_cons]
    rw [show o + 1 + r.length = o + (r.length + 1) by omega]
    congr 1
    rw [List.take_succ_eq_append_getElem ho, List.set_append_right _ _ (by rw [List.length_take]; omega)]
    have ho' : o < cur.size := by omega
    simp [Nat.min_eq_left (Nat.le_of_lt ho')]
end
namespace Kd
end Kd
namespace Kd
end Kd
theorem seg_get {α : Type} (a seg : List α) (o : Nat) (h : o + seg.length ≤ a.length) (q : Nat) :
    (a.take o ++ seg ++ a.drop (o + seg.length))[q]? = if q < o then a[q]? else if q < o + seg.length then seg[q - o]? else a[q]? := by
  have hl : (a.take o).length = o := by rw [List.length_take]; omega
  rw [List.append_assoc]
  by_cases h1 : q < o
  · rw [if_pos h1, List.getElem?_append_left (by omega), List.getElem?_take, if_pos h1]
  · rw [if_neg h1, List.getElem?_append_right (by omega), hl]
    by_cases h2 : q < o + seg.length
    · rw [if_pos h2, List.getElem?_append_left (by omega)]
    · rw [if_neg h2, List.getElem?_append_right (by omega), List.getElem?_drop]
      congr 1
      omega
namespace Kd
section
variable {α : Type} {d : Kd α} {e base g n cap : Nat} {ok okp : Nat → Prop} {W : World} {xs : List α}
/-- Element i of a row of one's own: its cells. -/
theorem R_elem (h : d.R e W base ok (.slice (some ⟨g, 0, none⟩) n cap) xs) (z : α) (i : Int) (h0 : 0 ≤ i) (h1 : i < n) :
    ∃ c, c.length = d.sz ∧ d.M W base (fun k => ok k ∧ k ≠ g) (xs.getD i.toNat z) c ∧ (∀ j u, c[j]? = some u → W.cell? ⟨g, i.toNat * d.sz + j, none⟩ = some u) ∧ ∀ j, W.frozen? ⟨g, i.toNat * d.sz + j, none⟩ = false := by
  obtain ⟨hn, hnc, hC⟩ := R_reads' h
  obtain ⟨_, inner, ho, hr⟩ := h
  have hil : i.toNat < xs.length := by omega
  have hseg : i.toNat * d.sz + d.sz ≤ inner.length := by rw [hr.1, ← Nat.succ_mul]; exact Nat.mul_le_mul_right _ hil
  have hM := hr.2 i.toNat _ (List.getElem?_eq_getElem hil)
  refine ⟨(inner.drop (i.toNat * d.sz)).take d.sz, by rw [List.length_take, List.length_drop]; omega, ?_, fun j u hu => ?_, fun j => ?_⟩
  · rw [List.getD_eq_getElem?_getD, List.getElem?_eq_getElem hil]
    exact d.M_mono (fun k hk => ⟨hk.1, fun he => hk.2 (by rw [he]; simp [Value.ownBlock])⟩) hM
  · rw [List.getElem?_take] at hu
    split at hu
    · rw [List.getElem?_drop] at hu
      have := ho.cells (g := g) (by simp [Value.ownBlock]) _ u hu
      rwa [add_plain] at this
    · cases hu
  · obtain ⟨cells, hc⟩ := own_typed ho g (by simp [Value.ownBlock])
    exact blk_frozen hc _
/-- A run of cells of element i is written: element i is x' then. c: the element's cells before (R_elem). -/
theorem R_seg (h : d.R e W base ok (.slice (some ⟨g, 0, none⟩) n cap) xs) (i : Int) (h0 : 0 ≤ i) (h1 : i < n) {c seg : List Value} {j : Nat} (hcl : c.length = d.sz) (hcc : ∀ j u, c[j]? = some u → W.cell? ⟨g, i.toNat * d.sz + j, none⟩ = some u)
    (hj : j + seg.length ≤ d.sz) {x' : α} (hM : d.M W base okp x' (c.take j ++ seg ++ c.drop (j + seg.length))) (hokp : ∀ k, okp k → ok k ∧ k ≠ g) :
    d.R e (W.setCells g (i.toNat * d.sz + j) seg) base ok (.slice (some ⟨g, 0, none⟩) n cap) (xs.set i.toNat x') ∧ W.grownBy (W.setCells g (i.toNat * d.sz + j) seg) (some g) := by
  obtain ⟨hn, hnc, _⟩ := R_reads' h
  obtain ⟨hok, inner, ho, hr⟩ := h
  have hil : i.toNat < xs.length := by omega
  have hseg : i.toNat * d.sz + d.sz ≤ inner.length := by rw [hr.1, ← Nat.succ_mul]; exact Nat.mul_le_mul_right _ hil
  have hin : inner.length = n * d.sz := by rw [hr.1, hn]
  obtain ⟨ho1, ho2⟩ := ho
  rcases ho2 with ⟨hv, _⟩ | ⟨g', cap', cur, hv, hb, hh, hnc', hcm, hcs, ht⟩
  · cases hv
  injection hv with ha _ hc
  injection ha with ha
  injection ha with hg
  subst hg; subst hc
  have hfit : i.toNat * d.sz + j + seg.length ≤ cur.size := by
    have : n * d.sz ≤ cap * d.sz := Nat.mul_le_mul_right _ hnc
    omega
  obtain ⟨cur', h3, h4, h5⟩ := setCells_row seg (i.toNat * d.sz + j) W cur hh hfit
  obtain ⟨s1, s2, s3, s4⟩ := setCells_same g seg (i.toNat * d.sz + j) W
  have hfar : ∀ k, k ≠ g → (W.setCells g (i.toNat * d.sz + j) seg).heap[k]? = W.heap[k]? := fun k hk => setCells_far seg _ k hk
  -- the element's cells before are what was read
  have hcin : ∀ q, q < d.sz → c[q]? = inner[i.toNat * d.sz + q]? := by
    intro q hq
    have hq' : q < c.length := by omega
    have h6 := hcc q _ (List.getElem?_eq_getElem hq')
    rw [cell_of_row W g _ cur e (0, 0) hh] at h6
    rw [List.getElem?_eq_getElem hq', ← h6, ← ht, List.getElem?_take, if_pos (by rw [← hn]; omega), Array.getElem?_toList]
  refine ⟨⟨hok, inner.take (i.toNat * d.sz + j) ++ seg ++ inner.drop (i.toNat * d.sz + j + seg.length), ⟨?_, .inr ⟨g, cap, cur', by rw [List.length_set, hn], hb, h3, by rw [List.length_set, ← hn]; exact hnc, hcm, by rw [h4, hcs], ?_⟩⟩, ?_⟩,
    ⟨s1, s2, s3, by rw [s4]; exact Nat.le_refl _, fun k _ hk => hfar k (fun he => hk (by rw [he]))⟩⟩
  · rw [List.length_set]
    simp only [List.length_append, List.length_take, List.length_drop]
    rw [hr.1] at hseg ⊢
    omega
  · rw [List.length_set, ← hn]
    apply List.ext_getElem?
    intro q
    rw [List.getElem?_take, h5]
    rw [seg_get cur.toList seg (i.toNat * d.sz + j) (by rw [Array.length_toList]; omega) q, seg_get inner seg (i.toNat * d.sz + j) (by omega) q]
    have hcur : ∀ q, q < n * d.sz → cur.toList[q]? = inner[q]? := by
      intro q hq
      rw [← ht, List.getElem?_take, if_pos (by rw [← hn]; exact hq)]
    by_cases hq : q < n * d.sz
    · rw [if_pos hq, hcur q hq]
    · rw [if_neg hq, if_neg (by omega), if_neg (by omega), List.getElem?_eq_none (by omega)]
  · refine ⟨?_, fun m p hm => ?_⟩
    · rw [List.length_set]
      simp only [List.length_append, List.length_take, List.length_drop]
      rw [hr.1] at hseg ⊢
      omega
    · have hml : m < xs.length := by
        have := (List.getElem?_eq_some_iff.1 hm).1
        rwa [List.length_set] at this
      have hmfit : m * d.sz + d.sz ≤ inner.length := by rw [hr.1, ← Nat.succ_mul]; exact Nat.mul_le_mul_right _ hml
      have hgo : some g = (Value.slice (some ⟨g, 0, none⟩) n cap).ownBlock := by simp [Value.ownBlock]
      by_cases hmi : m = i.toNat
      · subst hmi
        rw [List.getElem?_set_self (by omega)] at hm
        injection hm with hm
        subst hm
        have hcells : ((inner.take (i.toNat * d.sz + j) ++ seg ++ inner.drop (i.toNat * d.sz + j + seg.length)).drop (i.toNat * d.sz)).take d.sz = c.take j ++ seg ++ c.drop (j + seg.length) := by
          apply List.ext_getElem?
          intro q
          rw [List.getElem?_take, List.getElem?_drop, seg_get inner seg _ (by omega), seg_get c seg j (by omega) q]
          by_cases hq : q < d.sz
          · rw [if_pos hq, hcin q hq]
            by_cases hq1 : q < j
            · rw [if_pos (by omega), if_pos hq1]
            · rw [if_neg (by omega), if_neg hq1]
              by_cases hq2 : q < j + seg.length
              · rw [if_pos (by omega), if_pos hq2]
                congr 1
                omega
              · rw [if_neg (by omega), if_neg hq2]
          · rw [if_neg hq, if_neg (by omega), if_neg (by omega), List.getElem?_eq_none (by omega)]
        rw [hcells]
        refine d.M_mono (fun k hk => ?_) (d.M_move (w1 := W.setCells g (i.toNat * d.sz + j) seg) (fun k hk => hfar k (hokp k hk).2) hM)
        exact ⟨(hokp k hk).1, fun he => (hokp k hk).2 (by rw [← hgo] at he; injection he)⟩
      · rw [List.getElem?_set_ne (by omega)] at hm
        have hold := hr.2 m p hm
        have hcells : ((inner.take (i.toNat * d.sz + j) ++ seg ++ inner.drop (i.toNat * d.sz + j + seg.length)).drop (m * d.sz)).take d.sz = (inner.drop (m * d.sz)).take d.sz := by
          apply List.ext_getElem?
          intro q
          rw [List.getElem?_take, List.getElem?_take, List.getElem?_drop, List.getElem?_drop, seg_get inner seg _ (by omega)]
          by_cases hq : q < d.sz
          · rw [if_pos hq, if_pos hq]
            rcases Nat.lt_or_gt_of_ne hmi with hlt | hgt
            · have : m * d.sz + d.sz ≤ i.toNat * d.sz := by rw [← Nat.succ_mul]; exact Nat.mul_le_mul_right _ hlt
              rw [if_pos (by omega)]
            · have : i.toNat * d.sz + d.sz ≤ m * d.sz := by rw [← Nat.succ_mul]; exact Nat.mul_le_mul_right _ hgt
              rw [if_neg (by omega), if_neg (by omega)]
          · rw [if_neg hq, if_neg hq]
        rw [hcells]
        refine d.M_move (fun k hk => hfar k (fun he => hk.2 (by rw [he]; exact hgo))) hold
end
end Kd
namespace Kd
end Kd
namespace Kd
end Kd
namespace Kd
end Kd
namespace Kd
end Kd
namespace Kd
end Kd
namespace Kd
end Kd
namespace Kd
end Kd
namespace Kd
end Kd
section
variable {P : Program} {ops : Array Oper} {o : Oper} {a : Act} {Q : Exit → Act → World → Prop} {Kc : Act → World → Prop}
namespace Kd
variable {α : Type}
end Kd
end
namespace Kd
end Kd
end Go.Proofs.YtokhmghgghjmhaaW.PrintWords
namespace Go.Proofs.Ytokhmghgghjmhaa.Q
open Go.RowKit Go.Proofs.YtokhmghgghjmhaaW.PrintWords Go.Proofs.YtokhmghgghjmhaaW.PrintLast Go.Proofs.YtokhmghgghjmhaaW.PrintMore
attribute [local go_sem] max2_int min2_int max_two min_two max_three min_three max_four min_four   -- for this text's walks alone
set_option linter.unusedVariables false
set_option linter.unusedSimpArgs false
theorem k66_openM {w : World} {base : Nat} {ok : Nat → Prop} {x : S66} {cs : List Value} (h : k66.M w base ok x cs) : cs = [.int .i64 x.f0, .int .i64 x.f1] := by
  obtain ⟨_, _, rfl, rfl, rfl⟩ := h
  exact rfl
theorem k66_mkM (w : World) (base : Nat) (ok : Nat → Prop) (x : S66)  : k66.M w base ok x [.int .i64 x.f0, .int .i64 x.f1] := ⟨[.int .i64 x.f0], [.int .i64 x.f1], rfl, rfl, rfl⟩
theorem k68_openM {w : World} {base : Nat} {ok : Nat → Prop} {x : S68} {cs : List Value} (h : k68.M w base ok x cs) : cs = [.int .i64 x.f0.f0, .int .i64 x.f0.f1, .int .i64 x.f1, .int .i64 x.f2] := by
  obtain ⟨_, _, rfl, s0, ⟨_, _, rfl, rfl, rfl⟩⟩ := h
  obtain rfl := k66_openM s0
  exact rfl
theorem k68_mkM (w : World) (base : Nat) (ok : Nat → Prop) (x : S68)  : k68.M w base ok x [.int .i64 x.f0.f0, .int .i64 x.f0.f1, .int .i64 x.f1, .int .i64 x.f2] := ⟨[.int .i64 x.f0.f0, .int .i64 x.f0.f1], [.int .i64 x.f1, .int .i64 x.f2], rfl, (k66_mkM w base ok x.f0 ), ⟨[.int .i64 x.f1], [.int .i64 x.f2], rfl, rfl, rfl⟩⟩
def rd_L9 (xs : List (List Int)) (i : Int) : (List Int) := xs.getD i.toNat ([] : List Int)
theorem at_L9 {w : World} {A : Option Addr} {n : Nat} {xs : List (List Int)} (h : Kd.C (Kd.slice 3 (Kd.int .i64)) w A n xs) (i : Int) (h0 : 0 ≤ i) (h1 : i < n) : ∃ ad A0 c0, A = some ad ∧ w.cell? (ad.add i.toNat) = some (.slice A0 (rd_L9 xs i).length c0) ∧ (rd_L9 xs i).length ≤ c0 ∧ (Kd.int .i64).C w A0 (rd_L9 xs i).length (rd_L9 xs i) := by
  obtain ⟨ad, c, e, _, hK, hc0⟩ := Kd.C_get h ([] : List Int) i h0 h1
  have hc : ∀ j u, c[j]? = some u → w.cell? (ad.add (i.toNat * 1 + j)) = some u := hc0
  obtain ⟨A0, c0, rfl, l0, g0⟩ := hK
  exact ⟨ad, A0, c0, e, by have hq := hc 0 _ rfl; rwa [Nat.mul_one, Nat.add_zero] at hq, l0, g0⟩
end Go.Proofs.Ytokhmghgghjmhaa.Q
namespace Go.Proofs.Ytokhmghgghjmhaa.Q
open Go.RowKit Go.Proofs.YtokhmghgghjmhaaW.PrintWords Go.Proofs.YtokhmghgghjmhaaW.PrintLast Go.Proofs.YtokhmghgghjmhaaW.PrintMore
attribute [local go_sem] max2_int min2_int max_two min_two max_three min_three max_four min_four   -- for this text's walks alone
set_option linter.unusedVariables false
set_option linter.unusedSimpArgs false
def posserref04_Nth.l0 : Nat → Int → List Int → Int → Int → Int → List (S68) → List Int → List (S84) → Option (List Int)
  | 0, _, _, _, _, _, _, _, _ => none
  | k + 1, x1, x5, x6, x155000, x155001, x155002, x155003, x155004 => if x6 < (x155002.length : Int) then (if 0 ≤ x6 then ((posserref04_Size.f ((rd_T68 x155002 x6).f0.f0) ((rd_T68 x155002 x6).f0.f1)).bind fun t157 => (if t157 = 0 then (none) else (if x5.length < 17592186044416 then ((posserref04_Size.f ((rd_T68 x155002 x6).f0.f0) ((rd_T68 x155002 x6).f0.f1)).bind fun t161 => (if t161 = 0 then (none) else (posserref04_Nth.l0 k (wrap64 (Int.tdiv x1 t161)) (x5 ++ [wrap64 (((rd_T68 x155002 x6).f0.f0) + (Int.tmod x1 t157))]) (wrap64 (x6 + 1)) x155000 x155001 x155002 x155003 x155004))) else (none)))) else (none)) else (some x5)
def posserref04_Nth.f (k : Nat) (a0_0 : Int) (a0_1 : Int) (l0_2 : List (S68)) (l0_3 : List Int) (l0_4 : List (S84)) (a1 : Int) : Option (List Int) := posserref04_Nth.l0 k a1 ([] : List Int) 0 a0_0 a0_1 l0_2 l0_3 l0_4
def posserref04_Nth.T6 : Bool × List (List Nat × List Nat) := (true, [([], []), ([], []), ([1], [1]), ([], []), ([], []), ([4], [4]), ([3, 5], [3, 5]), ([2, 6], [2, 6]), ([7], [7]), ([0, 8, 5], [0, 8]), ([9, 9, 0, 1, 2, 3, 4, 5, 6, 7, 8, 9], [0, 9])])
def posserref04_Nth.B6 : List Nat := [0, 0, 2, 0, 0, 16, 56, 126, 254, 511, 1023]
theorem posserref04_Nth.tab6 : rtab .any (opsOf Try.f46 6) = posserref04_Nth.T6 := by kernel_rfl
theorem posserref04_Nth.bits6 : waitsOk posserref04_Nth.T6.2 posserref04_Nth.B6 = true := by kernel_rfl
set_option maxHeartbeats 8000000 in
set_option maxRecDepth 100000 in
theorem posserref04_Nth.calls (k : Nat) (a0_0 : Int) (a0_1 : Int) (A0_2 : Option Addr) (c0_2 : Nat) (l0_2 : List (S68)) (A0_3 : Option Addr) (c0_3 : Nat) (l0_3 : List Int) (A0_4 : Option Addr) (c0_4 : Nat) (l0_4 : List (S84)) (a1 : Int) (r : List Int) (w : World) (hr0_2 : Kd.C k68 w A0_2 l0_2.length l0_2) (hc0_2 : l0_2.length ≤ c0_2) (hr0_3 : Kd.C (Kd.int .i64) w A0_3 l0_3.length l0_3) (hc0_3 : l0_3.length ≤ c0_3) (hr0_4 : Kd.C k84 w A0_4 l0_4.length l0_4) (hc0_4 : l0_4.length ≤ c0_4) (h : posserref04_Nth.f k a0_0 a0_1 l0_2 l0_3 l0_4 a1 = some r) :
    Calls Try.prog 46 #[.agg #[.int .i64 a0_0, .int .i64 a0_1, .slice A0_2 l0_2.length c0_2, .slice A0_3 l0_3.length c0_3, .slice A0_4 l0_4.length c0_4], .int .i64 a1] w fun e w' => ∃ v0_ : Value, e = .returned (v0_) ∧ Kd.R (Kd.int .i64) 3 w' w.heap.size (fun _ => True) v0_ r ∧ Below w.heap.size w w' := by
  have hu26 := Try.underlying26
  have hu66 := Try.underlying66
  have HR0_2 := Aside0.mk hr0_2
  have HC0_2 := Aside0.mk hc0_2
  clear hr0_2 hc0_2
  have HR0_3 := Aside0.mk hr0_3
  have HC0_3 := Aside0.mk hc0_3
  clear hr0_3 hc0_3
  have HR0_4 := Aside0.mk hr0_4
  have HC0_4 := Aside0.mk hc0_4
  clear hr0_4 hc0_4
  have HB := Aside0.mk (Below.refl w.heap.size w)
  have H : (posserref04_Nth.l0 k a1 ([] : List Int) 0 a0_0 a0_1 l0_2 l0_3 l0_4) = some r := h
  clear h
  have H' := Aside0.mk H
  clear H
  go_enter Try.func46, Try.ntmps46
  go_wp2_with (first | ((with_reducible refine gate_dst (N := 2) rfl ?_); refine box_event ?hg (N := 2) ?hd (cs := #[.int .i64 a0_0, .int .i64 a0_1, .slice A0_2 l0_2.length c0_2, .slice A0_3 l0_3.length c0_3, .slice A0_4 l0_4.length c0_4]) (t := 26) ?hr ?_; (case hd => rfl); (case hg => rfl); (case hr => first | (go_simp; done) | (go_simp; rfl)); intro gb154 hg w3 hbox hb; have n0_ := Aside0.mk (below_step (by repeat (first | (with_reducible first | exact HB.out | apply below_alloc | apply pw_below_drewN | apply below_drew1) | exact HB.out)) hb); have n1_ := Aside0.mk (hbox); have n2_ := Aside0.mk ((by rw [hg]; exact (below_size (by repeat (first | (with_reducible first | exact HB.out | apply below_alloc | apply pw_below_drewN | apply below_drew1) | exact HB.out))) : w.heap.size ≤ gb154)); have n3_ := Aside0.mk ((by rw [hg]; exact (below_size (by repeat (first | (with_reducible first | exact HB.out | apply below_alloc | apply pw_below_drewN | apply below_drew1) | exact HB.out))) : w.heap.size ≤ gb154)); clear HB; have HB := n0_; have BK154 := n1_; have GW154 := n2_; have GE154 := n3_; clear n0_ n1_ n2_ n3_; clear hb hbox hg))
  go_loopg [1, 5, 6] k (fun kq v1 v5 v6 w' => ∃ (x1_1 : Int) (x5_1 : List Int) (x6_1 : Int), v1 = .int .i64 x1_1 ∧ v6 = .int .i64 x6_1 ∧ Aside0 (posserref04_Nth.l0 kq x1_1 x5_1 x6_1 a0_0 a0_1 l0_2 l0_3 l0_4 = some r) ∧ Aside0 (kq ≤ k) ∧ Aside0 (Kd.R (Kd.int .i64) 3 w' w.heap.size (fun _ => True) v5 x5_1) ∧ Aside0 (w'.heap[gb154]? = some (.cells #[.int .i64 a0_0, .int .i64 a0_1, (.slice A0_2 l0_2.length c0_2), (.slice A0_3 l0_3.length c0_3), (.slice A0_4 l0_4.length c0_4)] 26 (0, 0))) ∧ Aside0 (Below w.heap.size w w'))
  case atStart => exact ⟨(a1), (([] : List Int)), (0), (by first | rfl | (simp; done) | (simp [*]; done)), (by first | rfl | (simp; done) | (simp [*]; done)), H', ⟨Nat.le_refl _⟩, ⟨by first | exact Kd.R_nil _ _ _ _ _ | exact Kd.N_nil _ _ _ _ _ | exact Kd.V_nil _ _ _ _ _ | exact Kd.Q_nil _ _ _ _ _ | exact Kd.S_nil _ _ _ _ _⟩, ⟨by (with_reducible repeat (first | refine blk_drewN ?_ _ | refine blk_drew ?_ | refine blk_alloc ?_ _)); exact BK154.out⟩, ⟨by repeat (first | (with_reducible first | exact HB.out | apply below_alloc | apply pw_below_drewN | apply below_drew1 | refine below_set ?_ GE154.out) | exact HB.out)⟩⟩
  case round =>
    clear H'
    try clear p2
    obtain ⟨x1_1, x5_1, x6_1, rfl, rfl, HA, HK1, HO_5, BK154, HB⟩ := hrel
    cases gk with
    | zero => exact absurd HA.out (by simp [posserref04_Nth.l0])
    | succ k1 =>
      have H := HA.out
      clear HA
      simp only [posserref04_Nth.l0] at H
      by_cases c4 : x6_1 < (l0_2.length : Int)
      · rw [if_pos c4] at H
        have c4b0 : decide (x6_1 < (l0_2.length : Int)) = true := decide_eq_true c4
        clear c4
        by_cases c5 : 0 ≤ x6_1
        · rw [if_pos c5] at H
          have c5b0 : decide (0 ≤ x6_1) = true := decide_eq_true c5
          clear c5
          replace H := Option.bind_eq_some_iff.mp H
          obtain ⟨t157, A60, H⟩ := H
          replace H : (if t157 = 0 then (none) else (if x5_1.length < 17592186044416 then ((posserref04_Size.f ((rd_T68 l0_2 x6_1).f0.f0) ((rd_T68 l0_2 x6_1).f0.f1)).bind fun t161 => (if t161 = 0 then (none) else (posserref04_Nth.l0 k1 (wrap64 (Int.tdiv x1_1 t161)) (x5_1 ++ [wrap64 (((rd_T68 l0_2 x6_1).f0.f0) + (Int.tmod x1_1 t157))]) (wrap64 (x6_1 + 1)) a0_0 a0_1 l0_2 l0_3 l0_4))) else (none))) = some r := H
          have A6 := Aside0.mk A60
          clear A60
          by_cases c7 : t157 = 0
          · rw [if_pos c7] at H
            exact absurd H (by simp)
          · rw [if_neg c7] at H
            have c7b0 : (t157 == 0) = false := beq_eq_false_iff_ne.mpr c7
            have c7b1 : (t157 != 0) = true := bne_iff_ne.mpr c7
            by_cases c8 : x5_1.length < 17592186044416
            · rw [if_pos c8] at H
              have LMc8 := Aside0.mk c8
              clear c8
              obtain ⟨y158, hy158⟩ : ∃ y_ : List Int, y_ = (x5_1 ++ [wrap64 (((rd_T68 l0_2 x6_1).f0.f0) + (Int.tmod x1_1 t157))]) := ⟨_, rfl⟩
              replace H : ((posserref04_Size.f ((rd_T68 l0_2 x6_1).f0.f0) ((rd_T68 l0_2 x6_1).f0.f1)).bind fun t161 => (if t161 = 0 then (none) else (posserref04_Nth.l0 k1 (wrap64 (Int.tdiv x1_1 t161)) y158 (wrap64 (x6_1 + 1)) a0_0 a0_1 l0_2 l0_3 l0_4))) = some r := by first | (rw [hy158]; with_reducible exact H) | (have H2_ := (Option.bind_some _ _).symm.trans H; rw [hy158]; with_reducible exact H2_) | (have H2_ := (Option.bind_some _ _).symm.trans H; with_reducible exact H2_) | with_reducible exact H | (rw [hy158]; exact H) | exact H
              have Ny158 := Aside0.mk hy158
              clear hy158
              replace H := Option.bind_eq_some_iff.mp H
              obtain ⟨t161, A90, H⟩ := H
              replace H : (if t161 = 0 then (none) else (posserref04_Nth.l0 k1 (wrap64 (Int.tdiv x1_1 t161)) y158 (wrap64 (x6_1 + 1)) a0_0 a0_1 l0_2 l0_3 l0_4)) = some r := H
              have A9 := Aside0.mk A90
              clear A90
              by_cases c10 : t161 = 0
              · rw [if_pos c10] at H
                exact absurd H (by simp)
              · rw [if_neg c10] at H
                have c10b0 : (t161 == 0) = false := beq_eq_false_iff_ne.mpr c10
                have c10b1 : (t161 != 0) = true := bne_iff_ne.mpr c10
                have H' := Aside0.mk H
                clear H
                have hcz11_0 : wr.cell? ⟨gb154, 0, none⟩ = some (.int .i64 a0_0) := (blk_cell BK154.out 0).trans rfl
                have hcz11_1 : wr.cell? ⟨gb154, 1, none⟩ = some (.int .i64 a0_1) := (blk_cell BK154.out 1).trans rfl
                have hcz11_2 : wr.cell? ⟨gb154, 2, none⟩ = some (.slice A0_2 l0_2.length c0_2) := (blk_cell BK154.out 2).trans rfl
                have hcz11_3 : wr.cell? ⟨gb154, 3, none⟩ = some (.slice A0_3 l0_3.length c0_3) := (blk_cell BK154.out 3).trans rfl
                have hcz11_4 : wr.cell? ⟨gb154, 4, none⟩ = some (.slice A0_4 l0_4.length c0_4) := (blk_cell BK154.out 4).trans rfl
                have hfz11_0 := blk_frozen BK154.out 0
                have hfz11_1 := blk_frozen BK154.out 1
                have hfz11_2 := blk_frozen BK154.out 2
                have hfz11_3 := blk_frozen BK154.out 3
                have hfz11_4 := blk_frozen BK154.out 4
                have p155 : 0 ≤ (x6_1 : Int) := of_decide_eq_true (by first | (with_reducible assumption) | assumption)
                have q155 : x6_1 < (l0_2.length : Int) := of_decide_eq_true (by first | (with_reducible assumption) | assumption)
                obtain ⟨ad155, e155, hx155_0, hx155_1, hx155_2, hx155_3⟩ := at_T68 HR0_2.out x6_1 p155 q155
                cases e155
                replace hx155_0 := (HB.out.cell (World.block_lt_of_cell? w _ hx155_0)).trans hx155_0
                replace hx155_1 := (HB.out.cell (World.block_lt_of_cell? w _ hx155_1)).trans hx155_1
                replace hx155_2 := (HB.out.cell (World.block_lt_of_cell? w _ hx155_2)).trans hx155_2
                replace hx155_3 := (HB.out.cell (World.block_lt_of_cell? w _ hx155_3)).trans hx155_3
                replace p155 := eq_true p155
                replace q155 := eq_true q155
                try go_wp2_with (first | ((with_reducible refine gate_dst (N := 7) rfl ?_); refine box_event ?hg (N := 7) ?hd (cs := #[.int .i64 0, .int .i64 0]) (t := 66) ?hr ?_; (case hd => rfl); (case hg => rfl); (case hr => first | (go_simp; done) | (go_simp; rfl)); intro gb156 hg w12 hbox hb; have n0_ := Aside0.mk (Kd.R_below (by (with_reducible repeat (first | apply Kd.R_alloc | apply Kd.R_drewN | apply Kd.R_drew)); exact HO_5.out) hb); have n1_ := Aside0.mk (blk_below (g := gb154) (o := .cells #[.int .i64 a0_0, .int .i64 a0_1, .slice (some ad155) l0_2.length c0_2, .slice A0_3 l0_3.length c0_3, .slice A0_4 l0_4.length c0_4] 26 (0, 0)) (by (with_reducible repeat (first | refine blk_drewN ?_ _ | refine blk_drew ?_ | refine blk_alloc ?_ _)); exact BK154.out) hb); have n2_ := Aside0.mk (below_step (by repeat (first | (with_reducible first | exact HB.out | apply below_alloc | apply pw_below_drewN | apply below_drew1 | refine below_set ?_ GE154.out) | exact HB.out)) hb); have n3_ := Aside0.mk (hbox); have n4_ := Aside0.mk ((by rw [hg]; exact (below_size (by repeat (first | (with_reducible first | exact HB.out | apply below_alloc | apply pw_below_drewN | apply below_drew1 | refine below_set ?_ GE154.out) | exact HB.out))) : w.heap.size ≤ gb156)); have n5_ := Aside0.mk ((by rw [hg]; exact (below_size (by repeat (first | (with_reducible first | exact HB.out | apply below_alloc | apply pw_below_drewN | apply below_drew1 | refine below_set ?_ GE154.out) | exact HB.out))) : w.heap.size ≤ gb156)); have n6_ := Aside0.mk ((by rw [hg]; exact Nat.ne_of_lt (blk_lt (g := gb154) (o := .cells #[.int .i64 a0_0, .int .i64 a0_1, .slice (some ad155) l0_2.length c0_2, .slice A0_3 l0_3.length c0_3, .slice A0_4 l0_4.length c0_4] 26 (0, 0)) (by (with_reducible repeat (first | refine blk_drewN ?_ _ | refine blk_drew ?_ | refine blk_alloc ?_ _)); exact BK154.out)) : gb154 ≠ gb156)); have n7_ := Aside0.mk ((by rw [hg]; exact Nat.ne_of_gt (blk_lt (g := gb154) (o := .cells #[.int .i64 a0_0, .int .i64 a0_1, .slice (some ad155) l0_2.length c0_2, .slice A0_3 l0_3.length c0_3, .slice A0_4 l0_4.length c0_4] 26 (0, 0)) (by (with_reducible repeat (first | refine blk_drewN ?_ _ | refine blk_drew ?_ | refine blk_alloc ?_ _)); exact BK154.out)) : gb156 ≠ gb154)); clear HO_5; clear BK154; clear HB; have HO_5 := n0_; have BK154 := n1_; have HB := n2_; have BK156 := n3_; have GW156 := n4_; have GE156 := n5_; have NB154_156 := n6_; have NB156_154 := n7_; clear n0_ n1_ n2_ n3_ n4_ n5_ n6_ n7_; clear hb hbox hg; have hnb13 := NB156_154.out; have hnc13 := NB154_156.out; have hcz14_0 : w12.cell? ⟨gb156, 0, none⟩ = some (.int .i64 0) := (blk_cell BK156.out 0).trans rfl; have hcz14_1 : w12.cell? ⟨gb156, 1, none⟩ = some (.int .i64 0) := (blk_cell BK156.out 1).trans rfl; have hfz14_0 := blk_frozen BK156.out 0; have hfz14_1 := blk_frozen BK156.out 1))
                have n0_ : Aside0 (Kd.R (Kd.int .i64) 3 ((w12.setCell ⟨gb156, 0, none⟩ (.int .i64 ((rd_T68 l0_2 x6_1).f0.f0))).setCell ⟨gb156, 1, none⟩ (.int .i64 ((rd_T68 l0_2 x6_1).f0.f1))) w.heap.size (fun _ => True) u5 x5_1) := ⟨by (with_reducible repeat (first | apply Kd.R_alloc | apply Kd.R_drewN | apply Kd.R_drew)); exact Kd.R_mono (Kd.R_far (p := ⟨gb156, 1, none⟩) (Kd.R_far (p := ⟨gb156, 0, none⟩) (Kd.R_types HO_5.out BK156.out (by decide)) (fun _ hk => hk.2) (.int .i64 ((rd_T68 l0_2 x6_1).f0.f0))) (fun _ hk => hk.2) (.int .i64 ((rd_T68 l0_2 x6_1).f0.f1))) (fun _ hk => trivial)⟩
                have n1_ : Aside0 (((w12.setCell ⟨gb156, 0, none⟩ (.int .i64 ((rd_T68 l0_2 x6_1).f0.f0))).setCell ⟨gb156, 1, none⟩ (.int .i64 ((rd_T68 l0_2 x6_1).f0.f1))).heap[gb154]? = some (.cells #[.int .i64 a0_0, .int .i64 a0_1, .slice (some ad155) l0_2.length c0_2, .slice A0_3 l0_3.length c0_3, .slice A0_4 l0_4.length c0_4] 26 (0, 0))) := ⟨by (with_reducible repeat (first | refine blk_drewN ?_ _ | refine blk_drew ?_ | refine blk_alloc ?_ _)); refine blk_far ?_ NB154_156.out _; (with_reducible repeat (first | refine blk_drewN ?_ _ | refine blk_drew ?_ | refine blk_alloc ?_ _)); refine blk_far ?_ NB154_156.out _; (with_reducible repeat (first | refine blk_drewN ?_ _ | refine blk_drew ?_ | refine blk_alloc ?_ _)); exact BK154.out⟩
                have n2_ : Aside0 (((w12.setCell ⟨gb156, 0, none⟩ (.int .i64 ((rd_T68 l0_2 x6_1).f0.f0))).setCell ⟨gb156, 1, none⟩ (.int .i64 ((rd_T68 l0_2 x6_1).f0.f1))).heap[gb156]? = some (.cells #[.int .i64 ((rd_T68 l0_2 x6_1).f0.f0), .int .i64 ((rd_T68 l0_2 x6_1).f0.f1)] 66 (0, 0))) := ⟨by (with_reducible repeat (first | refine blk_drewN ?_ _ | refine blk_drew ?_ | refine blk_alloc ?_ _)); refine blk_put (cs := #[.int .i64 ((rd_T68 l0_2 x6_1).f0.f0), .int .i64 0]) ?_ 1 _ rfl; (with_reducible repeat (first | refine blk_drewN ?_ _ | refine blk_drew ?_ | refine blk_alloc ?_ _)); refine blk_put (cs := #[.int .i64 0, .int .i64 0]) ?_ 0 _ rfl; (with_reducible repeat (first | refine blk_drewN ?_ _ | refine blk_drew ?_ | refine blk_alloc ?_ _)); exact BK156.out⟩
                have n3_ : Aside0 (Below w.heap.size w ((w12.setCell ⟨gb156, 0, none⟩ (.int .i64 ((rd_T68 l0_2 x6_1).f0.f0))).setCell ⟨gb156, 1, none⟩ (.int .i64 ((rd_T68 l0_2 x6_1).f0.f1)))) := ⟨by repeat (first | (with_reducible first | exact HB.out | apply below_alloc | apply pw_below_drewN | apply below_drew1 | refine below_set ?_ GE154.out | refine below_set ?_ GE156.out) | exact HB.out)⟩
                (try clear HO_5)
                (try clear BK154)
                (try clear BK156)
                (try clear HB)
                generalize ((w12.setCell ⟨gb156, 0, none⟩ (.int .i64 ((rd_T68 l0_2 x6_1).f0.f0))).setCell ⟨gb156, 1, none⟩ (.int .i64 ((rd_T68 l0_2 x6_1).f0.f1))) = w15 at n0_ n1_ n2_ n3_ ⊢
                have HO_5 := n0_
                have BK154 := n1_
                have BK156 := n2_
                have HB := n3_
                clear n0_ n1_ n2_ n3_
                have n0_ := Aside0.mk (Kd.R_drew HO_5.out)
                have n1_ := Aside0.mk (blk_drew BK154.out)
                have n2_ := Aside0.mk (blk_drew BK156.out)
                have n3_ := Aside0.mk (below_drew1 HB.out)
                clear HO_5
                clear BK154
                clear BK156
                clear HB
                have HO_5 := n0_
                have BK154 := n1_
                have BK156 := n2_
                have HB := n3_
                clear n0_ n1_ n2_ n3_
                refine start_ (n := 11) (S := fun w' => w'.cell? ⟨gb156, 0, none⟩ = some (.int .i64 ((rd_T68 l0_2 x6_1).f0.f0)) ∧ w'.cell? ⟨gb156, 1, none⟩ = some (.int .i64 ((rd_T68 l0_2 x6_1).f0.f1))) (ds := []) #[false, false, false, false, false, false, false, false, false, false, false] (by kernel_rfl) rfl rfl ⟨(blk_cell BK156.out 0).trans rfl, (blk_cell BK156.out 1).trans rfl⟩ (fun hHeld => ?_); refine with_tabW posserref04_Nth.tab6 posserref04_Nth.bits6 (fun HT_ HW_ => ?_)
                generalize w15.drew = w16 at HO_5 BK154 BK156 HB hHeld ⊢
                refine pure_ (i := 0) (N := some 21) (v := ?_) (a' := ?_) #[true, false, false, false, false, false, false, false, false, false, false] rfl rfl (any_of HT_.out (by kernel_rfl)) (fun _ _ _ h => h) (Or.inl ⟨by rfl, ?_⟩) ?_ ?_
                rotate_left
                · intro w'
                  go_simp
                  with_reducible rfl
                rotate_left
                · simp only [Act.put, List.setIfInBounds_toArray, List.set_cons_zero, List.set_cons_succ, i64_w, i32_w]
                  rfl
                refine pure_ (i := 1) (N := some 22) (v := ?_) (a' := ?_) #[true, true, false, false, false, false, false, false, false, false, false] rfl rfl (any_of HT_.out (by kernel_rfl)) (fun _ _ _ h => h) (Or.inl ⟨by rfl, ?_⟩) ?_ ?_
                rotate_left
                · intro w'
                  go_simp
                  with_reducible rfl
                rotate_left
                · simp only [Act.put, List.setIfInBounds_toArray, List.set_cons_zero, List.set_cons_succ, i64_w, i32_w]
                  rfl
                refine pure_ (i := 3) (N := some 24) (v := ?_) (a' := ?_) #[true, true, false, true, false, false, false, false, false, false, false] rfl rfl (any_of HT_.out (by kernel_rfl)) (fun _ _ _ h => h) (Or.inl ⟨by rfl, ?_⟩) ?_ ?_
                rotate_left
                · intro w'
                  go_simp
                  with_reducible rfl
                rotate_left
                · simp only [Act.put, List.setIfInBounds_toArray, List.set_cons_zero, List.set_cons_succ, i64_w, i32_w]
                  rfl
                refine take_ (i := 2) (N := some 23) (v := ?_) (a' := ?_) #[true, true, true, true, false, false, false, false, false, false, false] rfl rfl (take_ofW HT_.out HW_.out (by kernel_rfl)) (fun _ _ _ h => h) (Or.inl ⟨by rfl, ?_⟩) hHeld ?_ ?_
                rotate_left
                · rintro w' ⟨s0, s1⟩
                  go_simp
                  with_reducible rfl
                rotate_left
                · simp only [Act.put, List.setIfInBounds_toArray, List.set_cons_zero, List.set_cons_succ, i64_w, i32_w]
                  rfl
                refine take_ (i := 4) (N := some 25) (v := ?_) (a' := ?_) #[true, true, true, true, true, false, false, false, false, false, false] rfl rfl (take_ofW HT_.out HW_.out (by kernel_rfl)) (fun _ _ _ h => h) (Or.inl ⟨by rfl, ?_⟩) hHeld ?_ ?_
                rotate_left
                · rintro w' ⟨s0, s1⟩
                  go_simp
                  with_reducible rfl
                rotate_left
                · simp only [Act.put, List.setIfInBounds_toArray, List.set_cons_zero, List.set_cons_succ, i64_w, i32_w]
                  rfl
                refine one_ (i := 5) (N := some 26) #[true, true, true, true, true, true, false, false, false, false, false] rfl rfl (one_of HT_.out (by kernel_rfl)) (by decide) (fun K hK => ?_)
                refine goes_ Try.func97 (by kernel_rfl) rfl #[.agg #[.int .i64 ((rd_T68 l0_2 x6_1).f0.f0), .int .i64 ((rd_T68 l0_2 x6_1).f0.f1)]] (by rfl) rfl rfl (by (try simp only [List.map_toArray, List.map_cons, List.map_nil]); first | done | rfl | (simp only [List.length_drop, List.length_take]; rfl)) ?_
                with_reducible refine (posserref04_Size.calls ((rd_T68 l0_2 x6_1).f0.f0) ((rd_T68 l0_2 x6_1).f0.f1) t157 _ A6.out).mono ?_
                rintro e w17 ⟨rfl, hb⟩
                refine ⟨_, rfl, ?_⟩
                have n0_ := Aside0.mk (Kd.R_below (by (with_reducible repeat (first | apply Kd.R_alloc | apply Kd.R_drewN | apply Kd.R_drew)); exact HO_5.out) hb)
                have n1_ := Aside0.mk (blk_below (g := gb154) (o := .cells #[.int .i64 a0_0, .int .i64 a0_1, .slice (some ad155) l0_2.length c0_2, .slice A0_3 l0_3.length c0_3, .slice A0_4 l0_4.length c0_4] 26 (0, 0)) (by (with_reducible repeat (first | refine blk_drewN ?_ _ | refine blk_drew ?_ | refine blk_alloc ?_ _)); exact BK154.out) hb)
                have n2_ := Aside0.mk (blk_below (g := gb156) (o := .cells #[.int .i64 ((rd_T68 l0_2 x6_1).f0.f0), .int .i64 ((rd_T68 l0_2 x6_1).f0.f1)] 66 (0, 0)) (by (with_reducible repeat (first | refine blk_drewN ?_ _ | refine blk_drew ?_ | refine blk_alloc ?_ _)); exact BK156.out) hb)
                have n3_ := Aside0.mk (below_step (by repeat (first | (with_reducible first | exact HB.out | apply below_alloc | apply pw_below_drewN | apply below_drew1 | refine below_set ?_ GE154.out | refine below_set ?_ GE156.out) | exact HB.out)) hb)
                clear HO_5
                clear BK154
                clear BK156
                clear HB
                have HO_5 := n0_
                have BK154 := n1_
                have BK156 := n2_
                have HB := n3_
                clear n0_ n1_ n2_ n3_
                (try clear hb)
                (try clear hb2)
                (try clear hk)
                (try clear hi)
                refine hK.out _ _ ⟨(blk_cell BK156.out 0).trans rfl, (blk_cell BK156.out 1).trans rfl⟩ (fun hHeld => ?_)
                clear hK K
                refine norm_ (a' := ?_) ?_ ?_
                rotate_left
                · show Act.put _ (some 26) _ = _
                  simp only [Act.put, List.setIfInBounds_toArray, List.set_cons_zero, List.set_cons_succ, i64_w, i32_w]
                  rfl
                refine pure_ (i := 6) (N := some 27) (v := ?_) (a' := ?_) #[true, true, true, true, true, true, true, false, false, false, false] rfl rfl (any_of HT_.out (by kernel_rfl)) (fun _ _ _ h => h) (Or.inl ⟨by rfl, ?_⟩) ?_ ?_
                rotate_left
                · intro w'
                  go_simp
                  with_reducible rfl
                rotate_left
                · simp only [Act.put, List.setIfInBounds_toArray, List.set_cons_zero, List.set_cons_succ, i64_w, i32_w]
                  rfl
                refine pure_ (i := 7) (N := some 28) (v := ?_) (a' := ?_) #[true, true, true, true, true, true, true, true, false, false, false] rfl rfl (any_of HT_.out (by kernel_rfl)) (fun _ _ _ h => h) (Or.inl ⟨by rfl, ?_⟩) ?_ ?_
                rotate_left
                · intro w'
                  go_simp
                  with_reducible rfl
                rotate_left
                · simp only [Act.put, List.setIfInBounds_toArray, List.set_cons_zero, List.set_cons_succ, i64_w, i32_w]
                  rfl
                refine one_ (i := 8) (N := some 29) #[true, true, true, true, true, true, true, true, true, false, false] rfl rfl (one_of HT_.out (by kernel_rfl)) (by decide) (fun K hK => ?_)
                refine value_ (w1 := ?_) (v := ?_) (by rfl) rfl ?_ ?_
                rotate_left 2
                · go_simp
                  constructor
                  · rfl
                  · rfl
                refine hK.out _ _ ⟨(blk_cell (blk_alloc BK156.out _) 0).trans rfl, (blk_cell (blk_alloc BK156.out _) 1).trans rfl⟩ (fun hHeld => ?_)
                clear hK K
                refine norm_ (a' := ?_) ?_ ?_
                rotate_left
                · show Act.put _ (some 29) _ = _
                  simp only [Act.put, List.setIfInBounds_toArray, List.set_cons_zero, List.set_cons_succ, i64_w, i32_w]
                  rfl
                refine one_ (i := 9) (N := some 30) #[true, true, true, true, true, true, true, true, true, true, false] rfl rfl (one_of HT_.out (by kernel_rfl)) (by decide) (fun K hK => ?_)
                refine Kd.R_append_step (Kd.int .i64) (w0 := w) w.heap.size (by rfl) (.tmp 21) (.tmp 29) 23 3 (.int .i64 0) 8 rfl Try.underlying23 info3 rfl (by decide) (by omega) u5 x5_1 (wrap64 (((rd_T68 l0_2 x6_1).f0.f0) + (Int.tmod x1_1 t157))) [.int .i64 (wrap64 (((rd_T68 l0_2 x6_1).f0.f0) + (Int.tmod x1_1 t157)))] (fun _ => True) (fun _ => False) rfl rfl ?aP (fun _ hk => hk.elim) ?aF ?aO ?aB ?aS ?aL ?_
                (case aP => exact rfl)
                (case aB => exact (by repeat (first | (with_reducible first | exact HB.out | apply below_alloc | apply pw_below_drewN | apply below_drew1 | refine below_set ?_ GE154.out | refine below_set ?_ GE156.out) | exact HB.out)))
                (case aF => exact (fun _ _ => trivial))
                (case aO => exact (by (with_reducible repeat (first | apply Kd.R_alloc | apply Kd.R_drewN | apply Kd.R_drew)); exact HO_5.out))
                (case aS => exact (below_size (by repeat (first | (with_reducible first | exact HB.out | apply below_alloc | apply pw_below_drewN | apply below_drew1 | refine below_set ?_ GE154.out | refine below_set ?_ GE156.out) | exact HB.out))))
                (case aL => have := LMc8.out; omega)
                intro v159 w18 ho hb hg hat
                rw [← Ny158.out] at ho
                have n0_ := Aside0.mk (blk_grown (g := gb154) (o := .cells #[.int .i64 a0_0, .int .i64 a0_1, .slice (some ad155) l0_2.length c0_2, .slice A0_3 l0_3.length c0_3, .slice A0_4 l0_4.length c0_4] 26 (0, 0)) (by (with_reducible repeat (first | refine blk_drewN ?_ _ | refine blk_drew ?_ | refine blk_alloc ?_ _)); exact BK154.out) hg (Kd.R_ne HO_5.out BK154.out (by decide)))
                have n1_ := Aside0.mk (blk_grown (g := gb156) (o := .cells #[.int .i64 ((rd_T68 l0_2 x6_1).f0.f0), .int .i64 ((rd_T68 l0_2 x6_1).f0.f1)] 66 (0, 0)) (by (with_reducible repeat (first | refine blk_drewN ?_ _ | refine blk_drew ?_ | refine blk_alloc ?_ _)); exact BK156.out) hg (Kd.R_ne HO_5.out BK156.out (by decide)))
                have n2_ := Aside0.mk (hb)
                have n3_ := Aside0.mk (ho)
                clear BK154
                clear BK156
                clear HB
                clear HO_5
                have BK154 := n0_
                have BK156 := n1_
                have HB := n2_
                have HO160 := n3_
                clear n0_ n1_ n2_ n3_
                clear ho hb hg hat
                refine hK.out _ _ ⟨(blk_cell BK156.out 0).trans rfl, (blk_cell BK156.out 1).trans rfl⟩ (fun hHeld => ?_)
                clear hK K
                refine norm_ (a' := ?_) ?_ ?_
                rotate_left
                · show Act.put _ (some 30) _ = _
                  simp only [Act.put, List.setIfInBounds_toArray, List.set_cons_zero, List.set_cons_succ, i64_w, i32_w]
                  rfl
                refine pure_ (i := 10) (N := some 5) (v := ?_) (a' := ?_) #[true, true, true, true, true, true, true, true, true, true, true] rfl rfl (any_of HT_.out (by kernel_rfl)) (fun _ _ _ h => h) (Or.inl ⟨by rfl, ?_⟩) ?_ ?_
                rotate_left
                · intro w'
                  go_simp
                  with_reducible rfl
                rotate_left
                · simp only [Act.put, List.setIfInBounds_toArray, List.set_cons_zero, List.set_cons_succ, i64_w, i32_w]
                  rfl
                refine done_ (done_of HT_.out (by kernel_rfl)) ?_
                have hcz19_0 : w18.cell? ⟨gb156, 0, none⟩ = some (.int .i64 ((rd_T68 l0_2 x6_1).f0.f0)) := (blk_cell BK156.out 0).trans rfl
                have hcz19_1 : w18.cell? ⟨gb156, 1, none⟩ = some (.int .i64 ((rd_T68 l0_2 x6_1).f0.f1)) := (blk_cell BK156.out 1).trans rfl
                have hfz19_0 := blk_frozen BK156.out 0
                have hfz19_1 := blk_frozen BK156.out 1
                try go_wp2_with (first | ((with_reducible refine gate_callee (f := 97) rfl ?_); refine goesL_ (some 33) rfl rfl Try.func97 (by kernel_rfl) rfl #[.agg #[.int .i64 ((rd_T68 l0_2 x6_1).f0.f0), .int .i64 ((rd_T68 l0_2 x6_1).f0.f1)]] rfl (by (try simp only [List.map_toArray, List.map_cons, List.map_nil]); first | done | rfl | (simp only [List.length_drop, List.length_take]; rfl)) ?_; (with_reducible refine (posserref04_Size.calls ((rd_T68 l0_2 x6_1).f0.f0) ((rd_T68 l0_2 x6_1).f0.f1) t161 _ A9.out).mono ?_); rintro e w20 ⟨rfl, hb⟩; refine ⟨_, rfl, ?_⟩; have n0_ := Aside0.mk (Kd.R_below (by (with_reducible repeat (first | apply Kd.R_alloc | apply Kd.R_drewN | apply Kd.R_drew)); exact HO160.out) hb); have n1_ := Aside0.mk (blk_below (g := gb154) (o := .cells #[.int .i64 a0_0, .int .i64 a0_1, .slice (some ad155) l0_2.length c0_2, .slice A0_3 l0_3.length c0_3, .slice A0_4 l0_4.length c0_4] 26 (0, 0)) (by (with_reducible repeat (first | refine blk_drewN ?_ _ | refine blk_drew ?_ | refine blk_alloc ?_ _)); exact BK154.out) hb); have n2_ := Aside0.mk (blk_below (g := gb156) (o := .cells #[.int .i64 ((rd_T68 l0_2 x6_1).f0.f0), .int .i64 ((rd_T68 l0_2 x6_1).f0.f1)] 66 (0, 0)) (by (with_reducible repeat (first | refine blk_drewN ?_ _ | refine blk_drew ?_ | refine blk_alloc ?_ _)); exact BK156.out) hb); have n3_ := Aside0.mk (below_step (by repeat (first | (with_reducible first | exact HB.out | apply below_alloc | apply pw_below_drewN | apply below_drew1 | refine below_set ?_ GE154.out | refine below_set ?_ GE156.out) | exact HB.out)) hb); clear HO160; clear BK154; clear BK156; clear HB; have HO160 := n0_; have BK154 := n1_; have BK156 := n2_; have HB := n3_; clear n0_ n1_ n2_ n3_; (try clear hb); (try clear hb2); (try clear hk); (try clear hi)))
                go_roundg k1
                case measure => have := HK1.out; omega
                case rel => exact ⟨(wrap64 (Int.tdiv x1_1 t161)), (y158), (wrap64 (x6_1 + 1)), (by first | rfl | (simp; done) | (simp [*]; done)), (by first | rfl | (simp; done) | (simp [*]; done)), H', ⟨by have := HK1.out; omega⟩, ⟨by (with_reducible repeat (first | apply Kd.R_alloc | apply Kd.R_drewN | apply Kd.R_drew)); exact HO160.out⟩, ⟨by (with_reducible repeat (first | refine blk_drewN ?_ _ | refine blk_drew ?_ | refine blk_alloc ?_ _)); exact BK154.out⟩, ⟨by repeat (first | (with_reducible first | exact HB.out | apply below_alloc | apply pw_below_drewN | apply below_drew1 | refine below_set ?_ GE154.out | refine below_set ?_ GE156.out) | exact HB.out)⟩⟩
            · rw [if_neg c8] at H
              exact absurd H (by simp)
        · rw [if_neg c5] at H
          exact absurd H (by simp)
      · rw [if_neg c4] at H
        have c4b0 : decide (x6_1 < (l0_2.length : Int)) = false := decide_eq_false c4
        clear c4
        obtain rfl := Option.some.inj H
        have hcz21_0 : wr.cell? ⟨gb154, 0, none⟩ = some (.int .i64 a0_0) := (blk_cell BK154.out 0).trans rfl
        have hcz21_1 : wr.cell? ⟨gb154, 1, none⟩ = some (.int .i64 a0_1) := (blk_cell BK154.out 1).trans rfl
        have hcz21_2 : wr.cell? ⟨gb154, 2, none⟩ = some (.slice A0_2 l0_2.length c0_2) := (blk_cell BK154.out 2).trans rfl
        have hcz21_3 : wr.cell? ⟨gb154, 3, none⟩ = some (.slice A0_3 l0_3.length c0_3) := (blk_cell BK154.out 3).trans rfl
        have hcz21_4 : wr.cell? ⟨gb154, 4, none⟩ = some (.slice A0_4 l0_4.length c0_4) := (blk_cell BK154.out 4).trans rfl
        have hfz21_0 := blk_frozen BK154.out 0
        have hfz21_1 := blk_frozen BK154.out 1
        have hfz21_2 := blk_frozen BK154.out 2
        have hfz21_3 := blk_frozen BK154.out 3
        have hfz21_4 := blk_frozen BK154.out 4
        go_wp2
        go_ret
        exact ⟨_, by first | rfl | (simp [errW_none, errW_some] <;> rfl) | (simp [*, errW_none, errW_some] <;> rfl), by (with_reducible repeat (first | apply Kd.R_alloc | apply Kd.R_drewN | apply Kd.R_drew)); exact HO_5.out, by repeat (first | (with_reducible first | exact HB.out | apply below_alloc | apply pw_below_drewN | apply below_drew1 | refine below_set ?_ GE154.out) | exact HB.out)⟩
end Go.Proofs.Ytokhmghgghjmhaa.Q
namespace Go.Proofs.Ytokhmghgghjmhaa.Q
open Go.RowKit Go.Proofs.YtokhmghgghjmhaaW.PrintWords Go.Proofs.YtokhmghgghjmhaaW.PrintLast Go.Proofs.YtokhmghgghjmhaaW.PrintMore
set_option linter.unusedVariables false
def nthF (hs : List S139) : Nat → Nat → Nat → List Int
  | 0, _, _ => []
  | d + 1, i, n => ((rd_T139 hs i).f0.f0 + ((n % szN hs i : Nat) : Int)) :: nthF hs d (i + 1) (n / szN hs i)
/-- Each horse's dry numbers are some, and few. -/
def Dries (hs : List S139) : Prop := ∀ i : Nat, i < hs.length → 1 ≤ (rd_T139 hs i).f0.f0 ∧ (rd_T139 hs i).f0.f0 ≤ (rd_T139 hs i).f0.f1 ∧ (rd_T139 hs i).f0.f1 ≤ 60
theorem sz_ok {hs : List S139} (D : Dries hs) (i : Nat) (hi : i < hs.length) : (szN hs i : Int) = (rd_T139 hs i).f0.f1 + 1 - (rd_T139 hs i).f0.f0 ∧ 1 ≤ szN hs i ∧ szN hs i ≤ 60 := by
  have := D i hi
  unfold szN
  omega
theorem nthF_len (hs : List S139) : ∀ (d i n : Nat), (nthF hs d i n).length = d
  | 0, _, _ => rfl
  | d + 1, i, n => by simp only [nthF, List.length_cons, nthF_len hs d (i + 1)]
theorem rd_cons0 (a : Int) (l : List Int) : rd (a :: l) ((0 : Nat) : Int) = a := by rw [rd_nn]; rfl
theorem rd_cons (a : Int) (l : List Int) (j : Nat) : rd (a :: l) ((j + 1 : Nat) : Int) = rd l j := by rw [rd_nn, rd_nn]; rfl
theorem nthF_box {hs : List S139} (D : Dries hs) : ∀ (d i n j : Nat), i + d = hs.length → j < d → (rd_T139 hs (i + j : Nat)).f0.f0 ≤ rd (nthF hs d i n) j ∧ rd (nthF hs d i n) j ≤ (rd_T139 hs (i + j : Nat)).f0.f1
  | 0, i, n, j, _, hj => by omega
  | d + 1, i, n, 0, h, hj => by
    have h1 := sz_ok D i (by omega)
    have h2 := Nat.mod_lt n h1.2.1
    simp only [nthF, Nat.add_zero]
    rw [rd_cons0]
    omega
  | d + 1, i, n, j + 1, h, hj => by
    have ih := nthF_box D d (i + 1) (n / szN hs i) j (by omega) (by omega)
    simp only [nthF]
    rw [rd_cons, show i + (j + 1) = i + 1 + j from by omega]
    exact ih
end Go.Proofs.Ytokhmghgghjmhaa.Q
namespace Go.Proofs.Ytokhmghgghjmhaa.Q
open Go.RowKit Go.Proofs.YtokhmghgghjmhaaW.PrintWords Go.Proofs.YtokhmghgghjmhaaW.PrintLast Go.Proofs.YtokhmghgghjmhaaW.PrintMore
set_option linter.unusedVariables false
section
variable {cs cl : Int} {hs : List S68} {hung : List Int} {looks : List S84}
theorem nth_l0 (D : Dries (hs.map toH)) (h4 : hs.length ≤ 4) : ∀ (d i n k : Nat) (acc : List Int), i + d = hs.length → d < k → n ≤ 12960000 → acc.length ≤ i →
    posserref04_Nth.l0 k n acc i cs cl hs hung looks = some (acc ++ nthF (hs.map toH) d i n)
  | 0, i, n, k, acc, h, hk, hn, ha => by
    obtain ⟨k, rfl⟩ : ∃ m, k = m + 1 := ⟨k - 1, by omega⟩
    simp only [posserref04_Nth.l0, nthF, List.append_nil]
    rw [if_neg (by omega)]
  | d + 1, i, n, k, acc, h, hk, hn, ha => by
    obtain ⟨k, rfl⟩ : ∃ m, k = m + 1 := ⟨k - 1, by omega⟩
    have hs1 := sz_ok D i (by simpa using (by omega : i < hs.length))
    have hD := D i (by simpa using (by omega : i < hs.length))
    have e1 := rd_toH hs i
    rw [e1] at hs1 hD
    simp only [toH] at hs1 hD
    have hw : wrap64 (wrap64 ((rd_T68 hs i).f0.f1 - (rd_T68 hs i).f0.f0) + 1) = (szN (hs.map toH) i : Int) := by unfold wrap64; omega
    have hdiv : n / szN (hs.map toH) i ≤ n := Nat.div_le_self _ _
    have hmod := Nat.mod_lt n hs1.2.1
    have ih := nth_l0 D h4 d (i + 1) (n / szN (hs.map toH) i) k (acc ++ [(rd_T68 hs i).f0.f0 + ((n % szN (hs.map toH) i : Nat) : Int)]) (by omega) (by omega) (by omega) (by simp only [List.length_append, List.length_singleton]; omega)
    simp only [posserref04_Nth.l0, posserref04_Size.f, Option.bind_some]
    rw [if_pos (by omega), if_pos (by omega), hw, if_neg (by omega), if_pos (by omega), if_neg (by omega)]
    rw [show Int.tdiv (n : Int) (szN (hs.map toH) i : Int) = ((n / szN (hs.map toH) i : Nat) : Int) from rfl, show Int.tmod (n : Int) (szN (hs.map toH) i : Int) = ((n % szN (hs.map toH) i : Nat) : Int) from rfl]
    rw [wrap_small (Nat.le_trans hdiv hn), show wrap64 ((rd_T68 hs i).f0.f0 + ((n % szN (hs.map toH) i : Nat) : Int)) = (rd_T68 hs i).f0.f0 + ((n % szN (hs.map toH) i : Nat) : Int) from by unfold wrap64; omega,
      show wrap64 ((i : Int) + 1) = ((i + 1 : Nat) : Int) from by unfold wrap64; omega, ih]
    simp only [nthF, e1, toH, List.append_assoc, List.singleton_append]
theorem nth_f (D : Dries (hs.map toH)) (h4 : hs.length ≤ 4) (n k : Nat) (hk : 1000 < k) (hn : n ≤ 12960000) : posserref04_Nth.f k cs cl hs hung looks n = some (nthF (hs.map toH) hs.length 0 n) := by
  unfold posserref04_Nth.f
  have := nth_l0 (cs := cs) (cl := cl) (hung := hung) (looks := looks) D h4 hs.length 0 n k [] (by omega) (by omega) hn (Nat.le_refl _)
  rw [List.nil_append] at this
  exact this
theorem many_ok (hc : checkB cs cl (hs.map toH) hung (looks.map toL) = 0) : manyN hs hs.length = (prN (hs.map toH) hs.length 0 : Nat) ∧ prN (hs.map toH) hs.length 0 ≤ 2000 := by
  have V := valid_of hc
  have h4 := V.n4
  simp only [List.length_map] at h4
  have hall : allH (hs.map toH) = true := by
    unfold checkB at hc
    split at hc
    · omega
    split at hc
    · omega
    rename_i h1 h2
    cases e : allH (hs.map toH)
    · exact absurd (.inr (.inr (.inl e))) h2
    · rfl
  obtain ⟨h1, h2, _⟩ := many_prod hs h4 hall hs.length (Nat.le_refl _)
  have h3 : ¬ prodH (hs.map toH) (hs.map toH).length > 2000 := by
    unfold checkB at hc
    split at hc
    · omega
    split at hc
    · omega
    split at hc
    · omega
    · assumption
  rw [List.length_map, h2] at h3
  have h5 := pl_pr (hs.map toH) hs.length 0
  simp only [plN, Nat.one_mul, Nat.zero_add] at h5
  rw [h1, h5]
  unfold mn
  split <;> omega
end
end Go.Proofs.Ytokhmghgghjmhaa.Q
namespace Go.Proofs.Ytokhmghgghjmhaa.Q
open Go.RowKit Go.Proofs.YtokhmghgghjmhaaW.PrintWords Go.Proofs.YtokhmghgghjmhaaW.PrintLast Go.Proofs.YtokhmghgghjmhaaW.PrintMore
attribute [local go_sem] max2_int min2_int max_two min_two max_three min_three max_four min_four   -- for this text's walks alone
set_option linter.unusedVariables false
set_option linter.unusedSimpArgs false
def posserlaw04_mirrored.l0 : Nat → List Int → List Int → Int → Int → Int → List (S68) → List Int → List (S84) → Option (List Int)
  | 0, _, _, _, _, _, _, _, _ => none
  | k + 1, x1, x5, x6, x581000, x581001, x581002, x581003, x581004 => if x6 < (x1.length : Int) then (if 0 ≤ x6 then (if x5.length < 17592186044416 then (posserlaw04_mirrored.l0 k x1 (x5 ++ [wrap64 ((wrap64 (x581000 - 1)) - (rd x1 x6))]) (wrap64 (x6 + 1)) x581000 x581001 x581002 x581003 x581004) else (none)) else (none)) else (some x5)
def posserlaw04_mirrored.f (k : Nat) (a0_0 : Int) (a0_1 : Int) (l0_2 : List (S68)) (l0_3 : List Int) (l0_4 : List (S84)) (l1 : List Int) : Option (List Int) := posserlaw04_mirrored.l0 k l1 ([] : List Int) 0 a0_0 a0_1 l0_2 l0_3 l0_4
def posserlaw04_mirrored.T5 : Bool × List (List Nat × List Nat) := (true, [([], []), ([], []), ([1], [1]), ([2], [2]), ([], []), ([], []), ([4, 5], [4, 5]), ([6], [6]), ([3, 7], [3, 7]), ([8], [8]), ([0, 9], [0, 9]), ([10, 10, 0, 1, 2, 3, 4, 5, 6, 7, 8, 9, 10], [0, 10])])
def posserlaw04_mirrored.B5 : List Nat := [0, 0, 2, 6, 0, 0, 48, 112, 254, 510, 1023, 2047]
theorem posserlaw04_mirrored.tab5 : rtab .any (opsOf Try.f52 5) = posserlaw04_mirrored.T5 := by kernel_rfl
theorem posserlaw04_mirrored.bits5 : waitsOk posserlaw04_mirrored.T5.2 posserlaw04_mirrored.B5 = true := by kernel_rfl
set_option maxHeartbeats 8000000 in
set_option maxRecDepth 100000 in
theorem posserlaw04_mirrored.calls (k : Nat) (a0_0 : Int) (a0_1 : Int) (A0_2 : Option Addr) (c0_2 : Nat) (l0_2 : List (S68)) (A0_3 : Option Addr) (c0_3 : Nat) (l0_3 : List Int) (A0_4 : Option Addr) (c0_4 : Nat) (l0_4 : List (S84)) (A1 : Option Addr) (c1 : Nat) (l1 : List Int) (r : List Int) (w : World) (hr0_2 : Kd.C k68 w A0_2 l0_2.length l0_2) (hc0_2 : l0_2.length ≤ c0_2) (hr0_3 : Kd.C (Kd.int .i64) w A0_3 l0_3.length l0_3) (hc0_3 : l0_3.length ≤ c0_3) (hr0_4 : Kd.C k84 w A0_4 l0_4.length l0_4) (hc0_4 : l0_4.length ≤ c0_4) (hr1 : Kd.C (Kd.int .i64) w A1 l1.length l1) (hc1 : l1.length ≤ c1) (h : posserlaw04_mirrored.f k a0_0 a0_1 l0_2 l0_3 l0_4 l1 = some r) :
    Calls Try.prog 52 #[.agg #[.int .i64 a0_0, .int .i64 a0_1, .slice A0_2 l0_2.length c0_2, .slice A0_3 l0_3.length c0_3, .slice A0_4 l0_4.length c0_4], .slice A1 l1.length c1] w fun e w' => ∃ v0_ : Value, e = .returned (v0_) ∧ Kd.R (Kd.int .i64) 3 w' w.heap.size (fun _ => True) v0_ r ∧ Below w.heap.size w w' := by
  have hu26 := Try.underlying26
  have HR0_2 := Aside0.mk hr0_2
  have HC0_2 := Aside0.mk hc0_2
  clear hr0_2 hc0_2
  have HR0_3 := Aside0.mk hr0_3
  have HC0_3 := Aside0.mk hc0_3
  clear hr0_3 hc0_3
  have HR0_4 := Aside0.mk hr0_4
  have HC0_4 := Aside0.mk hc0_4
  clear hr0_4 hc0_4
  have HR1 := Aside0.mk hr1
  have HC1 := Aside0.mk hc1
  clear hr1 hc1
  have HB := Aside0.mk (Below.refl w.heap.size w)
  have H : (posserlaw04_mirrored.l0 k l1 ([] : List Int) 0 a0_0 a0_1 l0_2 l0_3 l0_4) = some r := h
  clear h
  have H' := Aside0.mk H
  clear H
  go_enter Try.func52, Try.ntmps52
  go_wp2_with (first | ((with_reducible refine gate_dst (N := 2) rfl ?_); refine box_event ?hg (N := 2) ?hd (cs := #[.int .i64 a0_0, .int .i64 a0_1, .slice A0_2 l0_2.length c0_2, .slice A0_3 l0_3.length c0_3, .slice A0_4 l0_4.length c0_4]) (t := 26) ?hr ?_; (case hd => rfl); (case hg => rfl); (case hr => first | (go_simp; done) | (go_simp; rfl)); intro gb580 hg w3 hbox hb; have n0_ := Aside0.mk (below_step (by repeat (first | (with_reducible first | exact HB.out | apply below_alloc | apply pw_below_drewN | apply below_drew1) | exact HB.out)) hb); have n1_ := Aside0.mk (hbox); have n2_ := Aside0.mk ((by rw [hg]; exact (below_size (by repeat (first | (with_reducible first | exact HB.out | apply below_alloc | apply pw_below_drewN | apply below_drew1) | exact HB.out))) : w.heap.size ≤ gb580)); have n3_ := Aside0.mk ((by rw [hg]; exact (below_size (by repeat (first | (with_reducible first | exact HB.out | apply below_alloc | apply pw_below_drewN | apply below_drew1) | exact HB.out))) : w.heap.size ≤ gb580)); clear HB; have HB := n0_; have BK580 := n1_; have GW580 := n2_; have GE580 := n3_; clear n0_ n1_ n2_ n3_; clear hb hbox hg))
  go_loopg [5, 6] k (fun kq v5 v6 w' => ∃ (x5_1 : List Int) (x6_1 : Int), v6 = .int .i64 x6_1 ∧ Aside0 (posserlaw04_mirrored.l0 kq l1 x5_1 x6_1 a0_0 a0_1 l0_2 l0_3 l0_4 = some r) ∧ Aside0 (kq ≤ k) ∧ Aside0 (Kd.R (Kd.int .i64) 3 w' w.heap.size (fun _ => True) v5 x5_1) ∧ Aside0 (w'.heap[gb580]? = some (.cells #[.int .i64 a0_0, .int .i64 a0_1, (.slice A0_2 l0_2.length c0_2), (.slice A0_3 l0_3.length c0_3), (.slice A0_4 l0_4.length c0_4)] 26 (0, 0))) ∧ Aside0 (Below w.heap.size w w'))
  case atStart => exact ⟨(([] : List Int)), (0), (by first | rfl | (simp; done) | (simp [*]; done)), H', ⟨Nat.le_refl _⟩, ⟨by first | exact Kd.R_nil _ _ _ _ _ | exact Kd.N_nil _ _ _ _ _ | exact Kd.V_nil _ _ _ _ _ | exact Kd.Q_nil _ _ _ _ _ | exact Kd.S_nil _ _ _ _ _⟩, ⟨by (with_reducible repeat (first | refine blk_drewN ?_ _ | refine blk_drew ?_ | refine blk_alloc ?_ _)); exact BK580.out⟩, ⟨by repeat (first | (with_reducible first | exact HB.out | apply below_alloc | apply pw_below_drewN | apply below_drew1 | refine below_set ?_ GE580.out) | exact HB.out)⟩⟩
  case round =>
    clear H'
    try clear c1
    try clear p2
    obtain ⟨x5_1, x6_1, rfl, HA, HK1, HO_5, BK580, HB⟩ := hrel
    cases gk with
    | zero => exact absurd HA.out (by simp [posserlaw04_mirrored.l0])
    | succ k1 =>
      have H := HA.out
      clear HA
      simp only [posserlaw04_mirrored.l0] at H
      by_cases c4 : x6_1 < (l1.length : Int)
      · rw [if_pos c4] at H
        have c4b0 : decide (x6_1 < (l1.length : Int)) = true := decide_eq_true c4
        clear c4
        by_cases c5 : 0 ≤ x6_1
        · rw [if_pos c5] at H
          have c5b0 : decide (0 ≤ x6_1) = true := decide_eq_true c5
          clear c5
          by_cases c6 : x5_1.length < 17592186044416
          · rw [if_pos c6] at H
            have LMc6 := Aside0.mk c6
            clear c6
            obtain ⟨y582, hy582⟩ : ∃ y_ : List Int, y_ = (x5_1 ++ [wrap64 ((wrap64 (a0_0 - 1)) - (rd l1 x6_1))]) := ⟨_, rfl⟩
            replace H : (posserlaw04_mirrored.l0 k1 l1 y582 (wrap64 (x6_1 + 1)) a0_0 a0_1 l0_2 l0_3 l0_4) = some r := by first | (rw [hy582]; with_reducible exact H) | (have H2_ := (Option.bind_some _ _).symm.trans H; rw [hy582]; with_reducible exact H2_) | (have H2_ := (Option.bind_some _ _).symm.trans H; with_reducible exact H2_) | with_reducible exact H | (rw [hy582]; exact H) | exact H
            have Ny582 := Aside0.mk hy582
            clear hy582
            have H' := Aside0.mk H
            clear H
            try go_wp2
            have n0_ := Aside0.mk (Kd.R_drew HO_5.out)
            have n1_ := Aside0.mk (blk_drew BK580.out)
            have n2_ := Aside0.mk (below_drew1 HB.out)
            clear HO_5
            clear BK580
            clear HB
            have HO_5 := n0_
            have BK580 := n1_
            have HB := n2_
            clear n0_ n1_ n2_
            have p581 : 0 ≤ (x6_1 : Int) := of_decide_eq_true (by first | (with_reducible assumption) | assumption)
            have q581 : x6_1 < (l1.length : Int) := of_decide_eq_true (by first | (with_reducible assumption) | assumption)
            obtain ⟨ad581, e581, hx581_0⟩ := Kd.at_int HR1.out x6_1 p581 q581
            have hw581_0 := hx581_0
            cases e581
            replace hx581_0 := (HB.out.cell (World.block_lt_of_cell? w _ hx581_0)).trans hx581_0
            replace p581 := eq_true p581
            replace q581 := eq_true q581
            refine start_ (n := 12) (S := fun w' => w'.cell? ⟨gb580, 0, none⟩ = some (.int .i64 a0_0) ∧ w'.cell? ⟨gb580, 1, none⟩ = some (.int .i64 a0_1) ∧ w'.cell? ⟨gb580, 2, none⟩ = some (.slice A0_2 l0_2.length c0_2) ∧ w'.cell? ⟨gb580, 3, none⟩ = some (.slice A0_3 l0_3.length c0_3) ∧ w'.cell? ⟨gb580, 4, none⟩ = some (.slice A0_4 l0_4.length c0_4) ∧ w'.cell? (ad581.add (x6_1).toNat) = some (.int .i64 (rd l1 x6_1))) (ds := []) #[false, false, false, false, false, false, false, false, false, false, false, false] (by kernel_rfl) rfl rfl ⟨(blk_cell BK580.out 0).trans rfl, (blk_cell BK580.out 1).trans rfl, (blk_cell BK580.out 2).trans rfl, (blk_cell BK580.out 3).trans rfl, (blk_cell BK580.out 4).trans rfl, ((HB.out.cell (World.block_lt_of_cell? w _ hw581_0)).trans hw581_0)⟩ (fun hHeld => ?_); refine with_tabW posserlaw04_mirrored.tab5 posserlaw04_mirrored.bits5 (fun HT_ HW_ => ?_)
            generalize wr.drew = w7 at HO_5 BK580 HB hx581_0 hHeld ⊢
            refine pure_ (i := 0) (N := some 13) (v := ?_) (a' := ?_) #[true, false, false, false, false, false, false, false, false, false, false, false] rfl rfl (any_of HT_.out (by kernel_rfl)) (fun _ _ _ h => h) (Or.inl ⟨by rfl, ?_⟩) ?_ ?_
            rotate_left
            · intro w'
              go_simp
              with_reducible rfl
            rotate_left
            · simp only [Act.put, List.setIfInBounds_toArray, List.set_cons_zero, List.set_cons_succ, i64_w, i32_w]
              rfl
            refine pure_ (i := 1) (N := some 14) (v := ?_) (a' := ?_) #[true, true, false, false, false, false, false, false, false, false, false, false] rfl rfl (any_of HT_.out (by kernel_rfl)) (fun _ _ _ h => h) (Or.inl ⟨by rfl, ?_⟩) ?_ ?_
            rotate_left
            · intro w'
              go_simp
              with_reducible rfl
            rotate_left
            · simp only [Act.put, List.setIfInBounds_toArray, List.set_cons_zero, List.set_cons_succ, i64_w, i32_w]
              rfl
            refine pure_ (i := 4) (N := some 17) (v := ?_) (a' := ?_) #[true, true, false, false, true, false, false, false, false, false, false, false] rfl rfl (any_of HT_.out (by kernel_rfl)) (fun _ _ _ h => h) (Or.inl ⟨by rfl, ?_⟩) ?_ ?_
            rotate_left
            · intro w'
              go_simp
              with_reducible rfl
            rotate_left
            · simp only [Act.put, List.setIfInBounds_toArray, List.set_cons_zero, List.set_cons_succ, i64_w, i32_w]
              rfl
            refine pure_ (i := 5) (N := some 18) (v := ?_) (a' := ?_) #[true, true, false, false, true, true, false, false, false, false, false, false] rfl rfl (any_of HT_.out (by kernel_rfl)) (fun _ _ _ h => h) (Or.inl ⟨by rfl, ?_⟩) ?_ ?_
            rotate_left
            · intro w'
              go_simp
              with_reducible rfl
            rotate_left
            · simp only [Act.put, List.setIfInBounds_toArray, List.set_cons_zero, List.set_cons_succ, i64_w, i32_w]
              rfl
            refine pure_ (i := 6) (N := some 19) (v := ?_) (a' := ?_) #[true, true, false, false, true, true, true, false, false, false, false, false] rfl rfl (any_of HT_.out (by kernel_rfl)) (fun _ _ _ h => h) (Or.inl ⟨by rfl, ?_⟩) ?_ ?_
            rotate_left
            · intro w'
              go_simp
              with_reducible rfl
            rotate_left
            · simp only [Act.put, List.setIfInBounds_toArray, List.set_cons_zero, List.set_cons_succ, i64_w, i32_w]
              rfl
            refine take_ (i := 2) (N := some 15) (v := ?_) (a' := ?_) #[true, true, true, false, true, true, true, false, false, false, false, false] rfl rfl (take_ofW HT_.out HW_.out (by kernel_rfl)) (fun _ _ _ h => h) (Or.inl ⟨by rfl, ?_⟩) hHeld ?_ ?_
            rotate_left
            · rintro w' ⟨s0, s1, s2, s3, s4, s5⟩
              go_simp
              with_reducible rfl
            rotate_left
            · simp only [Act.put, List.setIfInBounds_toArray, List.set_cons_zero, List.set_cons_succ, i64_w, i32_w]
              rfl
            refine pure_ (i := 3) (N := some 16) (v := ?_) (a' := ?_) #[true, true, true, true, true, true, true, false, false, false, false, false] rfl rfl (any_of HT_.out (by kernel_rfl)) (fun _ _ _ h => h) (Or.inl ⟨by rfl, ?_⟩) ?_ ?_
            rotate_left
            · intro w'
              go_simp
              with_reducible rfl
            rotate_left
            · simp only [Act.put, List.setIfInBounds_toArray, List.set_cons_zero, List.set_cons_succ, i64_w, i32_w]
              rfl
            refine take_ (i := 7) (N := some 20) (v := ?_) (a' := ?_) #[true, true, true, true, true, true, true, true, false, false, false, false] rfl rfl (take_ofW HT_.out HW_.out (by kernel_rfl)) (fun _ _ _ h => h) (Or.inl ⟨by rfl, ?_⟩) hHeld ?_ ?_
            rotate_left
            · rintro w' ⟨s0, s1, s2, s3, s4, s5⟩
              go_simp
              with_reducible rfl
            rotate_left
            · simp only [Act.put, List.setIfInBounds_toArray, List.set_cons_zero, List.set_cons_succ, i64_w, i32_w]
              rfl
            refine pure_ (i := 8) (N := some 21) (v := ?_) (a' := ?_) #[true, true, true, true, true, true, true, true, true, false, false, false] rfl rfl (any_of HT_.out (by kernel_rfl)) (fun _ _ _ h => h) (Or.inl ⟨by rfl, ?_⟩) ?_ ?_
            rotate_left
            · intro w'
              go_simp
              with_reducible rfl
            rotate_left
            · simp only [Act.put, List.setIfInBounds_toArray, List.set_cons_zero, List.set_cons_succ, i64_w, i32_w]
              rfl
            refine one_ (i := 9) (N := some 22) #[true, true, true, true, true, true, true, true, true, true, false, false] rfl rfl (one_of HT_.out (by kernel_rfl)) (by decide) (fun K hK => ?_)
            refine value_ (w1 := ?_) (v := ?_) (by rfl) rfl ?_ ?_
            rotate_left 2
            · go_simp
              constructor
              · rfl
              · rfl
            refine hK.out _ _ ⟨(blk_cell (blk_alloc BK580.out _) 0).trans rfl, (blk_cell (blk_alloc BK580.out _) 1).trans rfl, (blk_cell (blk_alloc BK580.out _) 2).trans rfl, (blk_cell (blk_alloc BK580.out _) 3).trans rfl, (blk_cell (blk_alloc BK580.out _) 4).trans rfl, (World.cell?_alloc_lt _ _ _ (World.block_lt_of_cell? _ _ (((HB.out.cell (World.block_lt_of_cell? w _ hw581_0)).trans hw581_0)))).trans (((HB.out.cell (World.block_lt_of_cell? w _ hw581_0)).trans hw581_0))⟩ (fun hHeld => ?_)
            clear hK K
            refine norm_ (a' := ?_) ?_ ?_
            rotate_left
            · show Act.put _ (some 22) _ = _
              simp only [Act.put, List.setIfInBounds_toArray, List.set_cons_zero, List.set_cons_succ, i64_w, i32_w]
              rfl
            refine one_ (i := 10) (N := some 23) #[true, true, true, true, true, true, true, true, true, true, true, false] rfl rfl (one_of HT_.out (by kernel_rfl)) (by decide) (fun K hK => ?_)
            refine Kd.R_append_step (Kd.int .i64) (w0 := w) w.heap.size (by rfl) (.tmp 13) (.tmp 22) 23 3 (.int .i64 0) 8 rfl Try.underlying23 info3 rfl (by decide) (by omega) u5 x5_1 (wrap64 ((wrap64 (a0_0 - 1)) - (rd l1 x6_1))) [.int .i64 (wrap64 ((wrap64 (a0_0 - 1)) - (rd l1 x6_1)))] (fun _ => True) (fun _ => False) rfl rfl ?aP (fun _ hk => hk.elim) ?aF ?aO ?aB ?aS ?aL ?_
            (case aP => exact rfl)
            (case aB => exact (by repeat (first | (with_reducible first | exact HB.out | apply below_alloc | apply pw_below_drewN | apply below_drew1 | refine below_set ?_ GE580.out) | exact HB.out)))
            (case aF => exact (fun _ _ => trivial))
            (case aO => exact (by (with_reducible repeat (first | apply Kd.R_alloc | apply Kd.R_drewN | apply Kd.R_drew)); exact HO_5.out))
            (case aS => exact (below_size (by repeat (first | (with_reducible first | exact HB.out | apply below_alloc | apply pw_below_drewN | apply below_drew1 | refine below_set ?_ GE580.out) | exact HB.out))))
            (case aL => have := LMc6.out; omega)
            intro v583 w8 ho hb hg hat
            rw [← Ny582.out] at ho
            have n0_ := Aside0.mk (blk_grown (g := gb580) (o := .cells #[.int .i64 a0_0, .int .i64 a0_1, .slice A0_2 l0_2.length c0_2, .slice A0_3 l0_3.length c0_3, .slice A0_4 l0_4.length c0_4] 26 (0, 0)) (by (with_reducible repeat (first | refine blk_drewN ?_ _ | refine blk_drew ?_ | refine blk_alloc ?_ _)); exact BK580.out) hg (Kd.R_ne HO_5.out BK580.out (by decide)))
            have n1_ := Aside0.mk (hb)
            have n2_ := Aside0.mk (ho)
            clear BK580
            clear HB
            clear HO_5
            have BK580 := n0_
            have HB := n1_
            have HO584 := n2_
            clear n0_ n1_ n2_
            clear ho hb hg hat
            refine hK.out _ _ ⟨(blk_cell BK580.out 0).trans rfl, (blk_cell BK580.out 1).trans rfl, (blk_cell BK580.out 2).trans rfl, (blk_cell BK580.out 3).trans rfl, (blk_cell BK580.out 4).trans rfl, ((HB.out.cell (World.block_lt_of_cell? w _ hw581_0)).trans hw581_0)⟩ (fun hHeld => ?_)
            clear hK K
            refine norm_ (a' := ?_) ?_ ?_
            rotate_left
            · show Act.put _ (some 23) _ = _
              simp only [Act.put, List.setIfInBounds_toArray, List.set_cons_zero, List.set_cons_succ, i64_w, i32_w]
              rfl
            refine pure_ (i := 11) (N := some 5) (v := ?_) (a' := ?_) #[true, true, true, true, true, true, true, true, true, true, true, true] rfl rfl (any_of HT_.out (by kernel_rfl)) (fun _ _ _ h => h) (Or.inl ⟨by rfl, ?_⟩) ?_ ?_
            rotate_left
            · intro w'
              go_simp
              with_reducible rfl
            rotate_left
            · simp only [Act.put, List.setIfInBounds_toArray, List.set_cons_zero, List.set_cons_succ, i64_w, i32_w]
              rfl
            refine done_ (done_of HT_.out (by kernel_rfl)) ?_
            try go_wp2
            go_roundg k1
            case measure => have := HK1.out; omega
            case rel => exact ⟨(y582), (wrap64 (x6_1 + 1)), (by first | rfl | (simp; done) | (simp [*]; done)), H', ⟨by have := HK1.out; omega⟩, ⟨by (with_reducible repeat (first | apply Kd.R_alloc | apply Kd.R_drewN | apply Kd.R_drew)); exact HO584.out⟩, ⟨by (with_reducible repeat (first | refine blk_drewN ?_ _ | refine blk_drew ?_ | refine blk_alloc ?_ _)); exact BK580.out⟩, ⟨by repeat (first | (with_reducible first | exact HB.out | apply below_alloc | apply pw_below_drewN | apply below_drew1 | refine below_set ?_ GE580.out) | exact HB.out)⟩⟩
          · rw [if_neg c6] at H
            exact absurd H (by simp)
        · rw [if_neg c5] at H
          exact absurd H (by simp)
      · rw [if_neg c4] at H
        have c4b0 : decide (x6_1 < (l1.length : Int)) = false := decide_eq_false c4
        clear c4
        obtain rfl := Option.some.inj H
        go_wp2
        go_ret
        exact ⟨_, by first | rfl | (simp [errW_none, errW_some] <;> rfl) | (simp [*, errW_none, errW_some] <;> rfl), by (with_reducible repeat (first | apply Kd.R_alloc | apply Kd.R_drewN | apply Kd.R_drew)); exact HO_5.out, by repeat (first | (with_reducible first | exact HB.out | apply below_alloc | apply pw_below_drewN | apply below_drew1 | refine below_set ?_ GE580.out) | exact HB.out)⟩
end Go.Proofs.Ytokhmghgghjmhaa.Q
namespace Go.Proofs.Ytokhmghgghjmhaa.Q
open Go.RowKit Go.Proofs.YtokhmghgghjmhaaW.PrintWords Go.Proofs.YtokhmghgghjmhaaW.PrintLast Go.Proofs.YtokhmghgghjmhaaW.PrintMore
set_option linter.unusedVariables false
/-- Ranges that lie in memory. -/
def Bd (w : World) (A : Option Addr) (c : Nat) (l : List S61) : Prop := Kd.C k61 w A l.length l ∧ l.length ≤ c
theorem Bd.later {w w' : World} {A : Option Addr} {c : Nat} {l : List S61} (h : Bd w A c l) (hb : Below w.heap.size w w') : Bd w' A c l := ⟨Kd.C_below h.1 hb, h.2⟩
end Go.Proofs.Ytokhmghgghjmhaa.Q
namespace Go.Proofs.Ytokhmghgghjmhaa.Q
open Go.RowKit Go.Proofs.YtokhmghgghjmhaaW.PrintWords Go.Proofs.YtokhmghgghjmhaaW.PrintLast Go.Proofs.YtokhmghgghjmhaaW.PrintMore
set_option linter.unusedVariables false
/-- Truths that lie in memory. -/
def Tr (w : World) (A : Option Addr) (c : Nat) (L : List (List Int)) : Prop := Kd.C (Kd.slice 3 (Kd.int .i64)) w A L.length L ∧ L.length ≤ c
theorem Tr.later {w w' : World} {A : Option Addr} {c : Nat} {L : List (List Int)} (h : Tr w A c L) (hb : Below w.heap.size w w') : Tr w' A c L := ⟨Kd.C_below h.1 hb, h.2⟩
theorem Tr.at {w : World} {A : Option Addr} {c : Nat} {L : List (List Int)} (h : Tr w A c L) (i : Nat) (hi : i < L.length) : ∃ ad A0 c0, A = some ad ∧ w.cell? (ad.add i) = some (.slice A0 (rd_L9 L i).length c0) ∧ Ls .i64 w A0 c0 (rd_L9 L i) := by
  obtain ⟨ad, A0, c0, h1, h2, h3, h4⟩ := at_L9 h.1 i (by omega) (by omega)
  exact ⟨ad, A0, c0, h1, by rwa [Int.toNat_natCast] at h2, h4, h3⟩
end Go.Proofs.Ytokhmghgghjmhaa.Q
namespace Go.Proofs.Ytokhmghgghjmhaa.Q
open Go.RowKit Go.Proofs.YtokhmghgghjmhaaW.PrintWords Go.Proofs.YtokhmghgghjmhaaW.PrintLast Go.Proofs.YtokhmghgghjmhaaW.PrintMore
set_option linter.unusedVariables false
section
variable {cs cl : Int} {hs : List S68} {hung : List Int} {looks : List S84} {p d : List Int}
theorem rd_firstL (f : Nat → Int) (n i : Nat) (h : i < n) : rd (firstL f n) i = f i := by
  rw [rd_nn, List.getD_eq_getElem?_getD]; simp [firstL, h]
end
end Go.Proofs.Ytokhmghgghjmhaa.Q
namespace Go.Proofs.Ytokhmghgghjmhaa.Q
open Go.RowKit Go.Proofs.YtokhmghgghjmhaaW.PrintWords Go.Proofs.YtokhmghgghjmhaaW.PrintLast Go.Proofs.YtokhmghgghjmhaaW.PrintMore
set_option linter.unusedVariables false
theorem prN_pos {hs : List S139} (D : Dries hs) : ∀ d i : Nat, i + d = hs.length → 1 ≤ prN hs d i
  | 0, _, _ => Nat.le_refl 1
  | d + 1, i, h => by
    have h1 := (sz_ok D i (by omega)).2.1
    have h2 := prN_pos D d (i + 1) (by omega)
    simp only [prN]
    exact Nat.mul_pos h1 h2
section
variable {cs cl : Int} {A2 A3 A4 A : Option Addr} {c2 c3 c4 c : Nat} {hs : List S68} {hung : List Int} {looks : List S84} {w : World}
/-- How many dry numbers there are. -/
theorem many_pos (hc : checkB cs cl (hs.map toH) hung (looks.map toL) = 0) : 1 ≤ prN (hs.map toH) hs.length 0 ∧ prN (hs.map toH) hs.length 0 ≤ 2000 :=
  ⟨prN_pos (valid_of hc).dry hs.length 0 (by rw [List.length_map]; omega), (many_ok hc).2⟩
theorem many_q (M : Ref w A2 A3 A4 c2 c3 c4 hs hung looks) (hc : checkB cs cl (hs.map toH) hung (looks.map toL) = 0) {m : Nat} (hm : prN (hs.map toH) hs.length 0 = m) :
    Calls Try.prog 47 #[.agg #[.int .i64 cs, .int .i64 cl, .slice A2 hs.length c2, .slice A3 hung.length c3, .slice A4 looks.length c4]] w fun e w' => e = .returned (.int .i64 (m : Int)) ∧ Below w.heap.size w w' := by
  have h4 := (valid_of hc).n4
  rw [List.length_map] at h4
  refine posserref04_Many.calls 2000 cs cl A2 c2 hs A3 c3 hung A4 c4 looks m w M.h2 M.l2 M.h3 M.l3 M.h4 M.l4 ?_
  rw [many_f cs cl hs hung looks (by omega) 2000 (Nat.le_refl _), (many_ok hc).1, hm]
theorem nth_q (M : Ref w A2 A3 A4 c2 c3 c4 hs hung looks) (hc : checkB cs cl (hs.map toH) hung (looks.map toL) = 0) {x : Int} {n : Nat} (hx : x = n) (hn : n ≤ 2000) {l : List Int} (hl : nthF (hs.map toH) hs.length 0 n = l) :
    Calls Try.prog 46 #[.agg #[.int .i64 cs, .int .i64 cl, .slice A2 hs.length c2, .slice A3 hung.length c3, .slice A4 looks.length c4], .int .i64 x] w
      fun e w' => ∃ B d, e = .returned (.slice B l.length d) ∧ Ls .i64 w' B d l ∧ Below w.heap.size w w' := by
  have V := valid_of hc
  have h4 := V.n4
  rw [List.length_map] at h4
  subst hx
  refine (posserref04_Nth.calls 2000 cs cl A2 c2 hs A3 c3 hung A4 c4 looks n l w M.h2 M.l2 M.h3 M.l3 M.h4 M.l4 (by rw [nth_f V.dry h4 n 2000 (by omega) (by omega), hl])).mono ?_
  rintro e w' ⟨v, rfl, hR, hb⟩
  obtain ⟨B, d, rfl, h1, h2⟩ := R_C hR
  exact ⟨B, d, rfl, ⟨h1, h2⟩, hb⟩
theorem used_q {l : List Int} (hC : Ls .i64 w A c l) (hl : l.length ≤ 1000) {x : Int} {b : Bool} (hb : l.contains x = b) :
    Calls Try.prog 53 #[.slice A l.length c, .int .i64 x] w fun e w' => e = .returned (.bool b) ∧ Below w.heap.size w w' := by
  refine (posserlaw04_used.calls 2000 A c l x b w hC.1 hC.2 (by rw [used_f l x hl 2000 (by omega), hb])).mono ?_
  rintro e w' ⟨rfl, hd⟩
  exact ⟨rfl, by obtain ⟨k, rfl⟩ := hd.out; exact pw_below_drewN (Below.refl _ _) k⟩
end
theorem mod_nat {x : Int} {m : Nat} (h0 : 0 ≤ x) (hm : 1 ≤ m) : ∃ n : Nat, Int.tmod x (m : Int) = n ∧ n < m := by
  have h1 := Int.emod_nonneg x (show (m : Int) ≠ 0 by omega)
  have h2 := Int.emod_lt_of_pos x (show 0 < (m : Int) by omega)
  exact ⟨(x % m).toNat, by rw [Int.tmod_eq_emod_of_nonneg h0]; omega, by omega⟩
end Go.Proofs.Ytokhmghgghjmhaa.Q
namespace Go.Proofs.Ytokhmghgghjmhaa.Q
open Go.RowKit Go.Proofs.YtokhmghgghjmhaaW.PrintWords Go.Proofs.YtokhmghgghjmhaaW.PrintLast Go.Proofs.YtokhmghgghjmhaaW.PrintMore
set_option linter.unusedVariables false
theorem list_ext_rd {a b : List Int} (hl : a.length = b.length) (h : ∀ i : Nat, i < a.length → rd a i = rd b i) : a = b := by
  refine List.ext_getElem hl fun i h1 h2 => ?_
  rw [← rd_get a i h1, ← rd_get b i h2]
  exact h i h1
theorem same_l0 (a b : List Int) (hl : a.length = b.length) (h3 : a.length ≤ 1000) : ∀ (d i k : Nat), i + d = a.length → d < k → (∀ j : Nat, j < i → rd a j = rd b j) → posserlaw04_same.l0 k a b i = some (decide (a = b))
  | 0, i, k, h, hk, hp => by
    obtain ⟨k, rfl⟩ : ∃ m, k = m + 1 := ⟨k - 1, by omega⟩
    simp only [posserlaw04_same.l0]
    rw [if_neg (by omega), decide_eq_true (list_ext_rd hl fun j hj => hp j (by omega))]
  | d + 1, i, k, h, hk, hp => by
    obtain ⟨k, rfl⟩ : ∃ m, k = m + 1 := ⟨k - 1, by omega⟩
    simp only [posserlaw04_same.l0]
    rw [if_pos (by omega), if_pos (by omega), if_pos (by omega)]
    by_cases e : rd a (i : Int) = rd b (i : Int)
    · rw [if_pos e, show wrap64 ((i : Int) + 1) = ((i + 1 : Nat) : Int) from by unfold wrap64; omega]
      refine same_l0 a b hl h3 d (i + 1) k (by omega) (by omega) fun j hj => ?_
      by_cases e2 : j = i
      · subst e2; exact e
      · exact hp j (by omega)
    · rw [if_neg e, decide_eq_false (fun h => e (by rw [h]))]
theorem same_f (a b : List Int) (h3 : a.length ≤ 1000) (h4 : b.length ≤ 1000) (k : Nat) (hk : 1000 < k) : posserlaw04_same.f k a b = some (decide (a = b)) := by
  unfold posserlaw04_same.f
  by_cases h : a.length = b.length
  · rw [if_pos (by omega)]; exact same_l0 a b h h3 a.length 0 k (by omega) (by omega) (fun j hj => by omega)
  · rw [if_neg (by omega), decide_eq_false (fun e => h (by rw [e]))]
/-- A placement the other way. -/
def mirL (cs : Int) (p : List Int) : List Int := p.map fun x => cs - 1 - x
theorem rd_mir (cs : Int) (p : List Int) (i : Nat) (h : i < p.length) : rd (mirL cs p) i = cs - 1 - rd p i := by
  rw [rd_get _ i (by simp [mirL, h]), rd_get p i h]; simp [mirL]
section
variable {cs cl : Int} {hs : List S68} {hung : List Int} {looks : List S84} {p : List Int} {n : Nat}
theorem mir_pl (P : Pl cs n p) : Pl cs n (mirL cs p) := by
  refine ⟨by simp [mirL, P.len], fun i hi => ?_, fun i j hi hj hne => ?_⟩
  · have hi : i < p.length := by simpa [mirL] using hi
    have := P.inside i hi
    rw [rd_mir cs p i hi]; omega
  · have hi : i < p.length := by simpa [mirL] using hi
    have hj : j < p.length := by simpa [mirL] using hj
    have := P.apart i j hi hj hne
    rw [rd_mir cs p i hi, rd_mir cs p j hj]; omega
theorem mirrored_l0 (hcs : 1 ≤ cs ∧ cs ≤ 4) (P : Pl cs n p) (hn : n ≤ 1000) : ∀ (d i k : Nat), i + d = p.length → d < k → posserlaw04_mirrored.l0 k p ((mirL cs p).take i) i cs cl hs hung looks = some (mirL cs p)
  | 0, i, k, h, hk => by
    obtain ⟨k, rfl⟩ : ∃ m, k = m + 1 := ⟨k - 1, by omega⟩
    simp only [posserlaw04_mirrored.l0]
    rw [if_neg (by omega), List.take_of_length_le (by simp [mirL]; omega)]
  | d + 1, i, k, h, hk => by
    obtain ⟨k, rfl⟩ : ∃ m, k = m + 1 := ⟨k - 1, by omega⟩
    have hpl := P.len
    have hin := P.inside i (by omega)
    have hl : i < (mirL cs p).length := by simp [mirL]; omega
    have ih := mirrored_l0 hcs P hn d (i + 1) k (by omega) (by omega)
    rw [List.take_succ_eq_append_getElem hl, ← rd_get _ i hl, rd_mir cs p i (by omega)] at ih
    simp only [posserlaw04_mirrored.l0]
    rw [if_pos (by omega), if_pos (by omega), if_pos (by rw [List.length_take]; omega), show wrap64 ((i : Int) + 1) = ((i + 1 : Nat) : Int) from by unfold wrap64; omega,
      show wrap64 (wrap64 (cs - 1) - rd p (i : Int)) = cs - 1 - rd p i from by unfold wrap64; omega]
    exact ih
theorem mirrored_f (hcs : 1 ≤ cs ∧ cs ≤ 4) (P : Pl cs n p) (hn : n ≤ 1000) : posserlaw04_mirrored.f 3000 cs cl hs hung looks p = some (mirL cs p) := by
  have := mirrored_l0 (cl := cl) (hs := hs) (hung := hung) (looks := looks) hcs P hn p.length 0 3000 (by omega) (by have := P.len; omega)
  exact this
theorem wet_mir (H : List S139) (cs : Int) (p : List Int) (i k : Nat) (hi : i < p.length) (hk : k < p.length) : wet H (mirL cs p) i k = wet H p i k := by
  unfold wet
  rw [rd_mir cs p i hi, rd_mir cs p k hk]
  by_cases h : rd p i - rd p k = 1 ∨ rd p i - rd p k = -1
  · rw [if_pos h, if_pos (by omega)]
  · rw [if_neg h, if_neg (by omega)]
theorem adds_mir (H : List S139) (cs : Int) (p : List Int) (i : Nat) (hi : i < p.length) : ∀ k, k ≤ p.length → adds H (mirL cs p) i k = adds H p i k
  | 0, _ => rfl
  | k + 1, hk => by simp only [adds]; rw [adds_mir H cs p i hi k (by omega), wet_mir H cs p i k hi (by omega)]
theorem mins_mir (H : List S139) (cs : Int) (p : List Int) (d : Nat → Int) : mins H (mirL cs p) d = mins H p d := by
  funext i
  unfold mins
  have e : (mirL cs p).length = p.length := by simp [mirL]
  rw [e]
  by_cases h : i < p.length
  · rw [if_pos h, if_pos h, adds_mir H cs p i h _ (Nat.le_refl _)]
  · rw [if_neg h, if_neg h]
theorem play_ok (hc : checkB cs cl (hs.map toH) hung (looks.map toL) = 0) (P : Pl cs hs.length p) {t : List Int} (ht : listedB (hs.map toH) t = true) :
    playR cs cl (hs.map toH) hung (looks.map toL) p t = (firstL (mins (hs.map toH) p (nums t)) hs.length, 0) := by
  have hf : fineB cs (hs.map toH) p = true := (fine_pl (valid_of hc)).2 (by rw [List.length_map]; exact P)
  unfold playR
  rw [if_neg (by simp [hc]), if_pos ⟨ht, hf⟩, List.length_map]
/-- The good minutes are the same the other way; and what errors there may be. -/
theorem good_mir (hc : checkB cs cl (hs.map toH) hung (looks.map toL) = 0) (P : Pl cs hs.length p) (i : Nat) (hi : i < hs.length) :
    ∃ a b e : Int, goodR cs cl (hs.map toH) hung (looks.map toL) p i = (a, b, e) ∧ goodR cs cl (hs.map toH) hung (looks.map toL) (mirL cs p) i = (a, b, e) ∧ (e = 0 ∨ e = 10 ∨ e = 11) := by
  have V := valid_of hc
  have P1 : Pl cs (hs.map toH).length p := by rw [List.length_map]; exact P
  have P2 := mir_pl P1
  have hi' : i < (hs.map toH).length := by rw [List.length_map]; exact hi
  by_cases hT : truthsT (hs.map toH) hung (looks.map toL) = []
  · have hz : ∀ q, Pl cs (hs.map toH).length q → goodR cs cl (hs.map toH) hung (looks.map toL) q i = (0, 0, 11) := by
      intro q hq
      have h4 := V.n4
      have : askCode cs cl (hs.map toH) hung (looks.map toL) (fineB cs (hs.map toH) q && horseB (hs.map toH).length (i : Int)) = 11 := by
        rw [(fine_pl V).2 hq, horse_ok hi' (by omega)]
        unfold askCode; rw [if_neg (by simp [hc]), if_neg (by simp), if_pos hT]
      unfold goodR
      rw [this, if_pos (by decide)]
    exact ⟨0, 0, 11, hz p P1, hz _ P2, .inr (.inr rfl)⟩
  · have e1 : goodLo (hs.map toH) (mirL cs p) (truthsT (hs.map toH) hung (looks.map toL)) i = goodLo (hs.map toH) p (truthsT (hs.map toH) hung (looks.map toL)) i := by
      unfold goodLo; congr 2; funext d; unfold qv; rw [mins_mir]
    have e2 : goodHi cl (hs.map toH) (mirL cs p) (truthsT (hs.map toH) hung (looks.map toL)) i = goodHi cl (hs.map toH) p (truthsT (hs.map toH) hung (looks.map toL)) i := by
      unfold goodHi; congr 3; funext d; unfold qv; rw [mins_mir]
    have g1 := goodR_ok hc P1 hT i hi'
    have g2 := goodR_ok hc P2 hT i hi'
    rw [e1, e2] at g2
    by_cases h : goodLo (hs.map toH) p (truthsT (hs.map toH) hung (looks.map toL)) i > goodHi cl (hs.map toH) p (truthsT (hs.map toH) hung (looks.map toL)) i
    · rw [if_pos h] at g1 g2
      exact ⟨0, 0, 10, g1, g2, .inr (.inl rfl)⟩
    · rw [if_neg h] at g1 g2
      exact ⟨_, _, 0, g1, g2, .inl rfl⟩
/-- Is nobody in the next closet of the first so many? -/
def aloneB (p : List Int) (n : Nat) : Bool := decide (∀ j : Nat, j < n → p.contains (rd p j + 1) = false)
theorem alone_succ (p : List Int) (n : Nat) : aloneB p (n + 1) = (aloneB p n && !p.contains (rd p n + 1)) := by
  unfold aloneB
  cases h : p.contains (rd p n + 1)
  · simp only [Bool.not_false, Bool.and_true]
    refine decide_eq_decide.2 ⟨fun g j hj => g j (by omega), fun g j hj => ?_⟩
    by_cases e : j = n
    · subst e; exact h
    · exact g j (by omega)
  · simp only [Bool.not_true, Bool.and_false]
    exact decide_eq_false fun g => by have := g n (by omega); rw [h] at this; cases this
theorem alone_mins (H : List S139) (d : Nat → Int) (h : aloneB p p.length = true) : mins H p d = d := by
  have h := of_decide_eq_true h
  have hno : ∀ i j : Nat, i < p.length → j < p.length → ¬ rd p j = rd p i + 1 := by
    intro i j hi hj e
    have := h i hi
    rw [← e, rd_get p j hj] at this
    have hm : p[j] ∈ p := List.getElem_mem hj
    rw [List.contains_iff_mem.2 hm] at this
    cases this
  have hw : ∀ i k : Nat, i < p.length → k < p.length → wet H p i k = 0 := by
    intro i k hi hk
    unfold wet
    rw [if_neg]
    rintro (e | e)
    · exact hno k i hk hi (by omega)
    · exact hno i k hi hk (by omega)
  have ha : ∀ i : Nat, i < p.length → ∀ k, k ≤ p.length → adds H p i k = 0 := by
    intro i hi k
    induction k with
    | zero => intro _; rfl
    | succ k ih => intro hk; simp only [adds]; rw [ih (by omega), hw i k hi (by omega)]; rfl
  funext i
  unfold mins
  split
  · rename_i hi; rw [ha i hi _ (Nat.le_refl _)]; omega
  · rfl
theorem firstL_nums (t : List Int) : firstL (nums t) t.length = t := by
  refine list_ext_rd (by simp [firstL]) fun i hi => ?_
  rw [rd_firstL _ _ _ (by simpa [firstL] using hi)]; rfl
/-- The dry numbers with a number are dry numbers. -/
theorem nth_listed (D : Dries (hs.map toH)) (n : Nat) : listedB (hs.map toH) (nthF (hs.map toH) hs.length 0 n) = true := by
  refine decide_eq_true ⟨by rw [nthF_len, List.length_map], fun i hi => ?_⟩
  rw [nthF_len] at hi
  have := nthF_box D hs.length 0 n i (by rw [List.length_map]; omega) hi
  rwa [Nat.zero_add] at this
end
end Go.Proofs.Ytokhmghgghjmhaa.Q
namespace Go.Proofs.Ytokhmghgghjmhaa.Q
open Go.RowKit Go.Proofs.YtokhmghgghjmhaaW.PrintWords Go.Proofs.YtokhmghgghjmhaaW.PrintLast Go.Proofs.YtokhmghgghjmhaaW.PrintMore
set_option linter.unusedVariables false
theorem same_q {w : World} {A A' : Option Addr} {c c' : Nat} {a b : List Int} (h : Ls .i64 w A c a) (h' : Ls .i64 w A' c' b) (ha : a.length ≤ 1000) (hb : b.length ≤ 1000) {r : Bool} (hr : decide (a = b) = r) :
    Calls Try.prog 38 #[.slice A a.length c, .slice A' b.length c'] w fun e w' => e = .returned (.bool r) ∧ Below w.heap.size w w' := by
  refine (posserlaw04_same.calls 2000 A c a A' c' b r w h.1 h.2 h'.1 h'.2 (by rw [same_f a b ha hb 2000 (by omega), hr])).mono ?_
  rintro e w' ⟨rfl, hd⟩
  exact ⟨rfl, by obtain ⟨k, rfl⟩ := hd.out; exact pw_below_drewN (Below.refl _ _) k⟩
theorem mirrored_q {cs cl : Int} {A2 A3 A4 A : Option Addr} {c2 c3 c4 c : Nat} {hs : List S68} {hung : List Int} {looks : List S84} {p : List Int} {w : World} (M : Ref w A2 A3 A4 c2 c3 c4 hs hung looks) (hC : Ls .i64 w A c p) (hcs : 1 ≤ cs ∧ cs ≤ 4) (P : Pl cs hs.length p) (hn : hs.length ≤ 1000) {q : List Int} (hq : mirL cs p = q) :
    Calls Try.prog 52 #[.agg #[.int .i64 cs, .int .i64 cl, .slice A2 hs.length c2, .slice A3 hung.length c3, .slice A4 looks.length c4], .slice A p.length c] w
      fun e w' => ∃ B d, e = .returned (.slice B q.length d) ∧ Ls .i64 w' B d q ∧ Below w.heap.size w w' := by
  refine (posserlaw04_mirrored.calls 3000 cs cl A2 c2 hs A3 c3 hung A4 c4 looks A c p q w M.h2 M.l2 M.h3 M.l3 M.h4 M.l4 hC.1 hC.2 (by rw [mirrored_f hcs P hn, hq])).mono ?_
  rintro e w' ⟨v, rfl, hR, hb⟩
  obtain ⟨B, d, rfl, h1, h2⟩ := R_C hR
  exact ⟨B, d, rfl, ⟨h1, h2⟩, hb⟩
end Go.Proofs.Ytokhmghgghjmhaa.Q
namespace Go.Proofs.Ytokhmghgghjmhaa.Q
open Go.RowKit Go.Proofs.YtokhmghgghjmhaaW.PrintWords Go.Proofs.YtokhmghgghjmhaaW.PrintLast Go.Proofs.YtokhmghgghjmhaaW.PrintMore
set_option linter.unusedVariables false
set_option linter.unusedSimpArgs false
set_option maxHeartbeats 4000000 in
set_option maxRecDepth 100000 in
theorem turned_walk {cs cl : Int} {A2 A3 A4 : Option Addr} {c2 c3 c4 : Nat} {hs : List S68} {hung : List Int} {looks : List S84} {A : Option Addr} {c : Nat} {words : List Int} {hh : Int} {w : World} (M : Ref w A2 A3 A4 c2 c3 c4 hs hung looks) (hW : Ls .u16 w A c words) (hwd : Words words) (hdn : 0 ≤ hh ∧ hh ≤ 65535) :
    Calls Try.prog 9 #[.agg #[.int .i64 cs, .int .i64 cl, .slice A2 hs.length c2, .slice A3 hung.length c3, .slice A4 looks.length c4], .int .u16 hh, .slice A words.length c] w fun e w' => e = .returned (.bool true) ∧ Below w.heap.size w w' := by
  have HM := Aside0.mk M
  have HW := Aside0.mk hW
  have HWD := Aside0.mk hwd
  have HDN := Aside0.mk hdn
  clear M hW hwd hdn
  obtain ⟨W0, hW0⟩ : ∃ W0, w.alloc (.cells #[.int .i64 cs, .int .i64 cl, .slice A2 hs.length c2, .slice A3 hung.length c3, .slice A4 looks.length c4] 26) = W0 := ⟨_, rfl⟩
  have HB := Aside0.mk (Box.new hW0).2
  have HK := Aside0.mk (Box.new hW0).1
  have b0 := HK.out.at0
  have b1 := HK.out.at1
  have b2 := HK.out.at2
  have b3 := HK.out.at3
  have b4 := HK.out.at4
  go_enter Try.func9, Try.ntmps9
  go_wp2_with fail
  try rw [hW0]
  clear hW0
  obtain ⟨rdy, hrd⟩ : ∃ rdy, decide ((hs.length ≤ 30 ∧ hung.length ≤ 30 ∧ looks.length ≤ 30) ∧ checkB cs cl (hs.map toH) hung (looks.map toL) = 0) = rdy := ⟨_, rfl⟩
  have HRD := Aside0.mk hrd
  clear hrd
  refine (ready_q (HM.out.later HB.out) HRD.out).mono ?_
  rintro e w1 ⟨rfl, hb⟩
  replace HB := Aside0.mk (below_step HB.out hb)
  replace HK := Aside0.mk (HK.out.later hb)
  replace b0 := HK.out.at0
  replace b1 := HK.out.at1
  replace b2 := HK.out.at2
  replace b3 := HK.out.at3
  replace b4 := HK.out.at4
  clear hb
  cases rdy with
  | false =>
    go_wp2_with fail
    refine (awake_calls _).mono ?_
    rintro e w2 ⟨rfl, hb⟩
    replace HB := Aside0.mk (below_step HB.out hb)
    clear hb
    go_wp2_with fail
    go_ret
    exact ⟨rfl, HB.out⟩
  | true =>
  have HT := Aside0.mk (of_decide_eq_true HRD.out).1
  have HC := Aside0.mk (of_decide_eq_true HRD.out).2
  have HV := Aside0.mk (valid_of HC.out)
  obtain ⟨p, hp, hP⟩ := placedw_f (hung := hung) (looks := looks) (cl := cl) HWD.out HV.out 3000 (Nat.le_refl _)
  have HP := Aside0.mk hP
  have HPF := Aside0.mk hp
  have HPL := Aside0.mk (show p.length ≤ 1000 from by have := hP.len; have := (of_decide_eq_true HRD.out).1; omega)
  clear hp hP
  have hmp := many_pos HC.out
  obtain ⟨mm, hmm⟩ : ∃ mm, prN (hs.map toH) hs.length 0 = mm := ⟨_, rfl⟩
  have HMM := Aside0.mk hmm
  rw [hmm] at hmp
  obtain ⟨k, hk, hkl⟩ := mod_nat HDN.out.1 hmp.1
  have HKL := Aside0.mk (show k ≤ 2000 from by omega)
  have HKE := Aside0.mk hk
  obtain ⟨t, ht⟩ : ∃ t, nthF (hs.map toH) hs.length 0 k = t := ⟨_, rfl⟩
  have HTE := Aside0.mk ht
  have HTL := Aside0.mk (show listedB (hs.map toH) t = true from ht ▸ nth_listed HV.out.dry k)
  have HTN := Aside0.mk (show t.length = hs.length from by rw [← ht, nthF_len])
  have HTN2 := Aside0.mk (show t.length ≤ 1000 from by rw [HTN.out]; have := HT.out; omega)
  have hhw : IntKind.i64.wrap hh = hh := IntWalk.i64_in _ (by have := HDN.out; omega)
  have hz3 : ¬ (mm : Int) = 0 := by omega
  have hz5 : ¬ mm = 0 := by omega
  have hz' : ((mm : Int) == 0) = false := beq_eq_false_iff_ne.2 hz3
  clear ht hmm hk
  go_wp2_with fail
  go_region_held3 (fun W' => Below w.heap.size w W' ∧ Box W' w.heap.size cs cl A2 A3 A4 hs.length hung.length looks.length c2 c3 c4 ∧ W'.cell? ⟨w.heap.size, 0, none⟩ = some (.int .i64 cs) ∧ W'.cell? ⟨w.heap.size, 1, none⟩ = some (.int .i64 cl) ∧ W'.cell? ⟨w.heap.size, 2, none⟩ = some (.slice A2 hs.length c2) ∧ W'.cell? ⟨w.heap.size, 3, none⟩ = some (.slice A3 hung.length c3) ∧ W'.cell? ⟨w.heap.size, 4, none⟩ = some (.slice A4 looks.length c4)) (first | exact ⟨below_drew HB.out, HK.out, b0, b1, b2, b3, b4⟩ | (go_split_ands; with_reducible exact ⟨below_step (by assumption) hbx.out, Box.later (by assumption) hbx.out, later hbx.out (by assumption), later hbx.out (by assumption), later hbx.out (by assumption), later hbx.out (by assumption), later hbx.out (by assumption)⟩)) ((first | (go_at_call 47; go_split_ands; refine (many_q (HM.out.later (by assumption)) HC.out HMM.out).mono ?_; rintro e wx ⟨rfl, hbx⟩; replace hbx := Aside0.mk hbx) | (go_at_call 46; go_split_ands; refine (nth_q (HM.out.later (by assumption)) HC.out HKE.out HKL.out HTE.out).mono ?_; rintro e wx ⟨Bt, dt, rfl, hlt0, hbx⟩; replace hbx := Aside0.mk hbx; have HLT := Aside0.mk hlt0; clear hlt0) | (go_at_call 42; go_split_ands; refine (placedw_q (HM.out.later (by assumption)) (HW.out.later (by assumption)) HPF.out).mono ?_; rintro e wx ⟨B, d, rfl, hli, hbx⟩; replace hbx := Aside0.mk hbx; have HLI := Aside0.mk hli; clear hli)))
  go_split_ands
  replace HB : Aside0 (Below w.heap.size w wx) := ⟨by assumption⟩
  replace HK : Aside0 (Box wx w.heap.size cs cl A2 A3 A4 hs.length hung.length looks.length c2 c3 c4) := ⟨by assumption⟩
  replace HLT : Aside0 (Ls .i64 wx Bt dt t) := ⟨by first | exact HLT.out | exact HLT.out.later hbx.out⟩
  replace HLI : Aside0 (Ls .i64 wx B d p) := ⟨by first | exact HLI.out | exact HLI.out.later hbx.out⟩
  replace b0 := HK.out.at0
  replace b1 := HK.out.at1
  replace b2 := HK.out.at2
  replace b3 := HK.out.at3
  replace b4 := HK.out.at4
  clear hhw hz3 hz5 hz' hkl
  go_wp2_with fail
  refine (refcl_q (HM.out.later HB.out) (by have := HT.out; omega) (by have := HT.out; omega) (by have := HT.out; omega)).mono ?_
  rintro e w3 ⟨B21, B31, B41, d21, d31, d41, n21, n31, n41, rfl, hcl, hb⟩
  replace HB := Aside0.mk (below_step HB.out hb)
  replace HK := Aside0.mk (HK.out.later hb)
  replace HLT := Aside0.mk (HLT.out.later hb)
  replace HLI := Aside0.mk (HLI.out.later hb)
  replace b0 := HK.out.at0
  replace b1 := HK.out.at1
  replace b2 := HK.out.at2
  replace b3 := HK.out.at3
  replace b4 := HK.out.at4
  clear hb
  have HCL := Aside0.mk hcl
  clear hcl
  go_wp2_with fail
  refine (list_qq HLI.out HPL.out).mono ?_
  rintro e w4 ⟨Bx1, dx1, rfl, hlj, hb⟩
  replace HB := Aside0.mk (below_step HB.out hb)
  replace HK := Aside0.mk (HK.out.later hb)
  replace HLT := Aside0.mk (HLT.out.later hb)
  replace HLI := Aside0.mk (HLI.out.later hb)
  replace HCL := Aside0.mk (HCL.out.later hb)
  replace b0 := HK.out.at0
  replace b1 := HK.out.at1
  replace b2 := HK.out.at2
  replace b3 := HK.out.at3
  replace b4 := HK.out.at4
  clear hb
  have HLJ := Aside0.mk hlj
  clear hlj
  go_wp2_with fail
  refine (list_qq HLT.out HTN2.out).mono ?_
  rintro e w5 ⟨Bx2, dx2, rfl, hlk, hb⟩
  replace HB := Aside0.mk (below_step HB.out hb)
  replace HK := Aside0.mk (HK.out.later hb)
  replace HLT := Aside0.mk (HLT.out.later hb)
  replace HLI := Aside0.mk (HLI.out.later hb)
  replace HCL := Aside0.mk (HCL.out.later hb)
  replace HLJ := Aside0.mk (HLJ.out.later hb)
  replace b0 := HK.out.at0
  replace b1 := HK.out.at1
  replace b2 := HK.out.at2
  replace b3 := HK.out.at3
  replace b4 := HK.out.at4
  clear hb
  have HLK := Aside0.mk hlk
  clear hlk
  obtain ⟨l, hl⟩ : ∃ l, firstL (mins (hs.map toH) p (nums t)) hs.length = l := ⟨_, rfl⟩
  have HLE := Aside0.mk hl
  have HLL := Aside0.mk (show l.length = hs.length from by rw [← hl]; simp [firstL])
  have HLL2 := Aside0.mk (show l.length ≤ 1000 from by rw [HLL.out]; have := HT.out; omega)
  clear hl
  go_wp2_with fail
  refine (play_q HCL.out HLJ.out HLK.out (by rw [play_ok HC.out HP.out HTL.out, HLE.out])).mono ?_
  rintro e w6 ⟨BB, bB, rfl, hx, hb⟩
  replace HB := Aside0.mk (below_step HB.out hb)
  replace HK := Aside0.mk (HK.out.later hb)
  replace HLT := Aside0.mk (HLT.out.later hb)
  replace HLI := Aside0.mk (HLI.out.later hb)
  replace b0 := HK.out.at0
  replace b1 := HK.out.at1
  replace b2 := HK.out.at2
  replace b3 := HK.out.at3
  replace b4 := HK.out.at4
  clear hb
  have HX := Aside0.mk (show Ls .i64 w6 BB bB l from hx)
  clear hx
  obtain ⟨q, hq⟩ : ∃ q, mirL cs p = q := ⟨_, rfl⟩
  have HQ := Aside0.mk hq
  have HQP := Aside0.mk (show Pl cs hs.length q from hq ▸ mir_pl HP.out)
  have HQL := Aside0.mk (show q.length ≤ 1000 from by rw [HQP.out.len]; have := HT.out; omega)
  have HQE := Aside0.mk (show firstL (mins (hs.map toH) q (nums t)) hs.length = l from by rw [← HLE.out, ← hq, mins_mir])
  clear hq
  go_wp2_with fail
  go_region_held3 (fun W' => Below w.heap.size w W' ∧ Box W' w.heap.size cs cl A2 A3 A4 hs.length hung.length looks.length c2 c3 c4 ∧ Ls .i64 W' Bt dt t ∧ Ls .i64 W' B d p ∧ Ls .i64 W' BB bB l ∧ W'.cell? ⟨w.heap.size, 0, none⟩ = some (.int .i64 cs) ∧ W'.cell? ⟨w.heap.size, 1, none⟩ = some (.int .i64 cl) ∧ W'.cell? ⟨w.heap.size, 2, none⟩ = some (.slice A2 hs.length c2) ∧ W'.cell? ⟨w.heap.size, 3, none⟩ = some (.slice A3 hung.length c3) ∧ W'.cell? ⟨w.heap.size, 4, none⟩ = some (.slice A4 looks.length c4)) (first | exact ⟨below_drew HB.out, HK.out, HLT.out, HLI.out, HX.out, b0, b1, b2, b3, b4⟩ | (go_split_ands; with_reducible exact ⟨below_step (by assumption) hbx.out, Box.later (by assumption) hbx.out, Ls.later (by assumption) hbx.out, Ls.later (by assumption) hbx.out, Ls.later (by assumption) hbx.out, later hbx.out (by assumption), later hbx.out (by assumption), later hbx.out (by assumption), later hbx.out (by assumption), later hbx.out (by assumption)⟩)) ((first | (go_at_call 26; go_split_ands; refine (refcl_q (HM.out.later (by assumption)) (by have := HT.out; omega) (by have := HT.out; omega) (by have := HT.out; omega)).mono ?_; rintro e wx ⟨B25, B35, B45, d25, d35, d45, n25, n35, n45, rfl, hcl, hbx⟩; replace hbx := Aside0.mk hbx; have HCL := Aside0.mk hcl; clear hcl) | (go_at_call 52; go_split_ands; refine (mirrored_q (HM.out.later (by assumption)) (show Ls .i64 _ B d p from by assumption) ⟨HV.out.c1, HV.out.c4⟩ HP.out (by have := HT.out; omega) HQ.out).mono ?_; rintro e wx ⟨Bq, dq, rfl, hlq, hbx⟩; replace HCL := Aside0.mk (HCL.out.later hbx); replace hbx := Aside0.mk hbx; have HLQ := Aside0.mk hlq; clear hlq) | (go_at_call 27; go_split_ands; refine (list_qq (show Ls .i64 _ Bt dt t from by assumption) HTN2.out).mono ?_; rintro e wx ⟨Bx5, dx5, rfl, hlk, hbx⟩; replace HCL := Aside0.mk (HCL.out.later hbx); replace HLQ := Aside0.mk (HLQ.out.later hbx); replace hbx := Aside0.mk hbx; have HLK := Aside0.mk hlk; clear hlk) | (go_at_call 48; go_split_ands; refine (play_q HCL.out HLQ.out HLK.out (by rw [play_ok HC.out HQP.out HTL.out, HQE.out])).mono ?_; rintro e wx ⟨BC, bC, rfl, hxx, hbx⟩; have hxy : Ls .i64 wx BC bC l := hxx; clear hxx; replace hbx := Aside0.mk hbx; have HY := Aside0.mk hxy; clear hxy)))
  go_split_ands
  replace HB : Aside0 (Below w.heap.size w wx) := ⟨by assumption⟩
  replace HK : Aside0 (Box wx w.heap.size cs cl A2 A3 A4 hs.length hung.length looks.length c2 c3 c4) := ⟨by assumption⟩
  replace HLT : Aside0 (Ls .i64 wx Bt dt t) := ⟨by assumption⟩
  replace HLI : Aside0 (Ls .i64 wx B d p) := ⟨by assumption⟩
  replace HX : Aside0 (Ls .i64 wx BB bB l) := ⟨by assumption⟩
  replace b0 := HK.out.at0
  replace b1 := HK.out.at1
  replace b2 := HK.out.at2
  replace b3 := HK.out.at3
  replace b4 := HK.out.at4
  clear HCL HLQ HLK
  go_wp2_with fail
  refine (same_q HX.out HY.out HLL2.out HLL2.out (decide_eq_true rfl)).mono ?_
  rintro e w7 ⟨rfl, hb⟩
  replace HB := Aside0.mk (below_step HB.out hb)
  replace HK := Aside0.mk (HK.out.later hb)
  replace HLT := Aside0.mk (HLT.out.later hb)
  replace HLI := Aside0.mk (HLI.out.later hb)
  replace HX := Aside0.mk (HX.out.later hb)
  replace b0 := HK.out.at0
  replace b1 := HK.out.at1
  replace b2 := HK.out.at2
  replace b3 := HK.out.at3
  replace b4 := HK.out.at4
  clear hb
  go_wp2_with fail
  go_loopg [13, 14] p.length (fun kq v13 v14 wr => ∃ (i : Nat) (al : Bool), v14 = .int .i64 i ∧ v13 = .bool al ∧ Aside0 (i + kq = p.length) ∧ Aside0 (aloneB p i = al) ∧ Aside0 (Below w.heap.size w wr) ∧ Aside0 (Box wr w.heap.size cs cl A2 A3 A4 hs.length hung.length looks.length c2 c3 c4) ∧ Aside0 (Ls .i64 wr B d p) ∧ Aside0 (Ls .i64 wr Bt dt t) ∧ Aside0 (Ls .i64 wr BB bB l))
  case atStart => exact ⟨0, true, rfl, rfl, ⟨by omega⟩, ⟨rfl⟩, HB, HK, HLI, HLT, HX⟩
  case round =>
    clear b0 b1 b2 b3 b4 HB HK HLI HLT HX
    obtain ⟨i, al, rfl, rfl, HN, HAL, HB, HK, HLI, HLT, HX⟩ := hrel
    have b0 := HK.out.at0
    have b1 := HK.out.at1
    have b2 := HK.out.at2
    have b3 := HK.out.at3
    have b4 := HK.out.at4
    by_cases hlt : i < p.length
    · obtain ⟨kq, rfl⟩ : ∃ kq, gk = kq + 1 := ⟨gk - 1, by have := HN.out; omega⟩
      have h1 : (i : Int) < (p.length : Int) := by omega
      have h0 : (0 : Int) ≤ (i : Int) := by omega
      have hp1 : p.length ≤ 1000 := HPL.out
      obtain ⟨ad, rfl, hx⟩ := at_n HLI.out.1 i hlt
      obtain ⟨x, hxe⟩ : ∃ x, rd p i = x := ⟨_, rfl⟩
      have hxb : 0 ≤ x ∧ x ≤ 3 := by have := HP.out.inside i hlt; have := HV.out.c4; rw [← hxe]; omega
      have hx0 := hxb.1
      have hx3 := hxb.2
      obtain ⟨u, hu⟩ : ∃ u, p.contains (x + 1) = u := ⟨_, rfl⟩
      have HU := Aside0.mk hu
      have HAL2 : Aside0 (aloneB p (i + 1) = (al && !u)) := ⟨by rw [alone_succ, HAL.out, hxe, hu]⟩
      rw [hxe] at hx
      clear hxe hu hxb HAL
      go_wp2_with fail
      refine (used_q HLI.out HPL.out HU.out).mono ?_
      rintro e w8 ⟨rfl, hb⟩
      replace HB := Aside0.mk (below_step HB.out hb)
      replace HK := Aside0.mk (HK.out.later hb)
      replace HLI := Aside0.mk (HLI.out.later hb)
      replace HLT := Aside0.mk (HLT.out.later hb)
      replace HX := Aside0.mk (HX.out.later hb)
      replace b0 := HK.out.at0
      replace b1 := HK.out.at1
      replace b2 := HK.out.at2
      replace b3 := HK.out.at3
      replace b4 := HK.out.at4
      clear hb
      clear hx
      cases u with
      | true =>
        go_wp2_with fail
        go_roundg kq
        case measure => omega
        case rel => exact ⟨i + 1, false, by first | go_num | (congr 1; unfold wrap64; omega), rfl, ⟨by have := HN.out; omega⟩, ⟨by rw [HAL2.out]; simp⟩, HB, HK, HLI, HLT, HX⟩
      | false =>
        go_wp2_with fail
        go_roundg kq
        case measure => omega
        case rel => exact ⟨i + 1, al, by first | go_num | (congr 1; unfold wrap64; omega), rfl, ⟨by have := HN.out; omega⟩, ⟨by rw [HAL2.out]; simp⟩, HB, HK, HLI, HLT, HX⟩
    · have h1 : ¬ (i : Int) < (p.length : Int) := by omega
      have hi' : i = p.length := by have := HN.out; omega
      subst hi'
      clear hlt HN
      cases al
      case' true =>
        have HSE := Aside0.mk (show decide (l = t) = true from decide_eq_true (by rw [← HLE.out, alone_mins _ _ HAL.out, ← HTN.out, firstL_nums]))
        go_wp2_with fail
        refine (same_q HX.out HLT.out HLL2.out HTN2.out HSE.out).mono ?_
        rintro e w9 ⟨rfl, hb⟩
        replace HB := Aside0.mk (below_step HB.out hb)
        replace HK := Aside0.mk (HK.out.later hb)
        replace HLI := Aside0.mk (HLI.out.later hb)
        replace HLT := Aside0.mk (HLT.out.later hb)
        replace HX := Aside0.mk (HX.out.later hb)
        replace b0 := HK.out.at0
        replace b1 := HK.out.at1
        replace b2 := HK.out.at2
        replace b3 := HK.out.at3
        replace b4 := HK.out.at4
        clear hb
      all_goals
        go_wp2_with fail
        go_loopg [15] p.length (fun kq v15 wr => ∃ i : Nat, v15 = .int .i64 i ∧ Aside0 (i + kq = p.length) ∧ Aside0 (Below w.heap.size w wr) ∧ Aside0 (Box wr w.heap.size cs cl A2 A3 A4 hs.length hung.length looks.length c2 c3 c4) ∧ Aside0 (Ls .i64 wr B d p))
        case atStart => exact ⟨0, rfl, ⟨by omega⟩, HB, HK, HLI⟩
        case round =>
          clear b0 b1 b2 b3 b4 HB HK HLI HLT HX
          obtain ⟨i, rfl, HN, HB, HK, HLI⟩ := hrel
          have b0 := HK.out.at0
          have b1 := HK.out.at1
          have b2 := HK.out.at2
          have b3 := HK.out.at3
          have b4 := HK.out.at4
          by_cases hlt : i < p.length
          · obtain ⟨kq, rfl⟩ : ∃ kq, gk = kq + 1 := ⟨gk - 1, by have := HN.out; omega⟩
            have h1 : (i : Int) < (p.length : Int) := by omega
            have hp1 : p.length ≤ 1000 := HPL.out
            obtain ⟨a, b, e0, hg1, hg2, he0⟩ := good_mir (hung := hung) (looks := looks) (cl := cl) HC.out HP.out i (by have := HP.out.len; omega)
            rw [HQ.out] at hg2
            have HG1 := Aside0.mk hg1
            have HG2 := Aside0.mk hg2
            clear hg1 hg2
            go_wp2_with fail
            refine (refcl_q (HM.out.later HB.out) (by have := HT.out; omega) (by have := HT.out; omega) (by have := HT.out; omega)).mono ?_
            rintro e w10 ⟨B26, B36, B46, d26, d36, d46, n26, n36, n46, rfl, hcl, hb⟩
            replace HB := Aside0.mk (below_step HB.out hb)
            replace HK := Aside0.mk (HK.out.later hb)
            replace HLI := Aside0.mk (HLI.out.later hb)
            replace b0 := HK.out.at0
            replace b1 := HK.out.at1
            replace b2 := HK.out.at2
            replace b3 := HK.out.at3
            replace b4 := HK.out.at4
            clear hb
            have HCL := Aside0.mk hcl
            clear hcl
            go_wp2_with fail
            refine (list_qq HLI.out HPL.out).mono ?_
            rintro e w11 ⟨Bx6, dx6, rfl, hlj, hb⟩
            replace HB := Aside0.mk (below_step HB.out hb)
            replace HK := Aside0.mk (HK.out.later hb)
            replace HLI := Aside0.mk (HLI.out.later hb)
            replace HCL := Aside0.mk (HCL.out.later hb)
            replace b0 := HK.out.at0
            replace b1 := HK.out.at1
            replace b2 := HK.out.at2
            replace b3 := HK.out.at3
            replace b4 := HK.out.at4
            clear hb
            have HLJ := Aside0.mk hlj
            clear hlj
            go_wp2_with fail
            refine (good_q HCL.out HLJ.out (by have := HT.out; omega) HG1.out).mono ?_
            rintro e w12 ⟨rfl, hb⟩
            replace HB := Aside0.mk (below_step HB.out hb)
            replace HK := Aside0.mk (HK.out.later hb)
            replace HLI := Aside0.mk (HLI.out.later hb)
            replace b0 := HK.out.at0
            replace b1 := HK.out.at1
            replace b2 := HK.out.at2
            replace b3 := HK.out.at3
            replace b4 := HK.out.at4
            clear hb
            obtain ⟨W9, hW9⟩ : ∃ W9, w12.alloc (.cells #[.int .i64 a, .int .i64 b] 61) = W9 := ⟨_, rfl⟩
            have hb : Below w12.heap.size w12 W9 := by rw [← hW9]; exact below_alloc (Below.refl _ _) _
            have HG9 := Aside0.mk (show W9.heap[w12.heap.size]? = some (.cells #[.int .i64 a, .int .i64 b] 61 (0, 0)) from by rw [← hW9]; exact blk_new _ _)
            go_wp2_with (rw [hW9])
            try rw [hW9]
            clear hW9
            replace HB := Aside0.mk (below_step HB.out hb)
            replace HK := Aside0.mk (HK.out.later hb)
            replace HLI := Aside0.mk (HLI.out.later hb)
            replace b0 := HK.out.at0
            replace b1 := HK.out.at1
            replace b2 := HK.out.at2
            replace b3 := HK.out.at3
            replace b4 := HK.out.at4
            clear hb
            generalize hg8 : w12.heap.size = g8 at HG9 ⊢
            go_wp2_with fail
            refine wp_region_held_drew (S := fun W' => Below W9.heap.size W9 W' ∧ W'.cell? ⟨w.heap.size, 0, none⟩ = some (.int .i64 cs) ∧ W'.cell? ⟨w.heap.size, 1, none⟩ = some (.int .i64 cl) ∧ W'.cell? ⟨w.heap.size, 2, none⟩ = some (.slice A2 hs.length c2) ∧ W'.cell? ⟨w.heap.size, 3, none⟩ = some (.slice A3 hung.length c3) ∧ W'.cell? ⟨w.heap.size, 4, none⟩ = some (.slice A4 looks.length c4)) (by kernel_rfl) ?hS (fun hHeld => ?_)
            case hS => exact ⟨below_drew (Below.refl _ _), b0, b1, b2, b3, b4⟩
            generalize W9.drew = wx at hHeld ⊢
            refine tkT 0 (some 103) (v := ?_) rfl rfl (.inl ⟨by rfl, ?_⟩) ?_
            rotate_left
            · (intro w hSw; (try dsimp only at hSw); go_simp; with_reducible rfl)
            try simp only [pS]
            refine tkT 2 (some 105) (v := ?_) rfl rfl (.inl ⟨by rfl, ?_⟩) ?_
            rotate_left
            · (intro w hSw; (try dsimp only at hSw); go_simp; with_reducible rfl)
            try simp only [pS]
            refine tkT 3 (some 106) (v := ?_) rfl rfl (.inl ⟨by rfl, ?_⟩) ?_
            rotate_left
            · (intro w hSw; (try dsimp only at hSw); go_simp; with_reducible rfl)
            try simp only [pS]
            refine tkT 5 (some 108) (v := ?_) rfl rfl (.inl ⟨by rfl, ?_⟩) ?_
            rotate_left
            · (intro w hSw; (try dsimp only at hSw); go_simp; with_reducible rfl)
            try simp only [pS]
            refine wpAnyH_ready (rs := [1, 10]) (by kernel_rfl) (by simp) ?_
            refine AllReadyH.cons (o := { dst := some 104, op := Op.call { callee := Callee.value (Operand.func 26), args := #[Operand.tmp 103], argTypes := #[26] }, type := 35, pos := "outright.go:343", after := #[{ on := 0, ground := Ground.data }], guard := none }) rfl (fun K hK => ?_) (AllReadyH.cons (o := { dst := some 18, op := Op.alloc 61, type := 0, pos := "outright.go:343", after := #[], guard := none }) rfl (fun K hK => ?_) (AllReadyH.nil))
            focus
              go_simp
              refine (refcl_q (HM.out.later (below_step HB.out hHeld.1)) (by have := HT.out; omega) (by have := HT.out; omega) (by have := HT.out; omega)).mono ?_
              rintro e wx ⟨B27, B37, B47, d27, d37, d47, n27, n37, n47, rfl, hcl, hbx⟩
              replace hbx := Aside0.mk hbx
              try replace HCL := Aside0.mk (HCL.out.later hbx.out)
              try replace HLQ := Aside0.mk (HLQ.out.later hbx.out)
              try replace HG := Aside0.mk (blk_below HG.out hbx.out)
              have HCL := Aside0.mk hcl
              clear hcl
              go_wp2_with fail
              refine hK.out _ _ ?_ ?_
              · ((try dsimp only); exact ⟨below_step hHeld.1 hbx.out, later (below_step hHeld.1 hbx.out) b0, later (below_step hHeld.1 hbx.out) b1, later (below_step hHeld.1 hbx.out) b2, later (below_step hHeld.1 hbx.out) b3, later (below_step hHeld.1 hbx.out) b4⟩)
              try clear hHeld
              intro hHeld
              clear hK K
              try simp only [pS]
              refine wpAnyH_ready (rs := [4, 10]) (by kernel_rfl) (by simp) ?_
              refine AllReadyH.cons (o := { dst := some 107, op := Op.call { callee := Callee.value (Operand.func 52), args := #[Operand.tmp 105, Operand.tmp 106], argTypes := #[26, 23] }, type := 23, pos := "outright.go:343", after := #[{ on := 2, ground := Ground.data }, { on := 3, ground := Ground.data }, { on := 1, ground := Ground.chain }], guard := none }) rfl (fun K hK => ?_) (AllReadyH.cons (o := { dst := some 18, op := Op.alloc 61, type := 0, pos := "outright.go:343", after := #[], guard := none }) rfl (fun K hK => ?_) (AllReadyH.nil))
              focus
                go_simp
                refine (mirrored_q (HM.out.later (below_step HB.out hHeld.1)) (HLI.out.later hHeld.1) ⟨HV.out.c1, HV.out.c4⟩ HP.out (by have := HT.out; omega) HQ.out).mono ?_
                rintro e wx ⟨Bq7, dq7, rfl, hlq, hbx⟩
                replace hbx := Aside0.mk hbx
                try replace HCL := Aside0.mk (HCL.out.later hbx.out)
                try replace HLQ := Aside0.mk (HLQ.out.later hbx.out)
                try replace HG := Aside0.mk (blk_below HG.out hbx.out)
                have HLQ := Aside0.mk hlq
                clear hlq
                go_wp2_with fail
                refine hK.out _ _ ?_ ?_
                · ((try dsimp only); exact ⟨below_step hHeld.1 hbx.out, later (below_step hHeld.1 hbx.out) b0, later (below_step hHeld.1 hbx.out) b1, later (below_step hHeld.1 hbx.out) b2, later (below_step hHeld.1 hbx.out) b3, later (below_step hHeld.1 hbx.out) b4⟩)
                try clear hHeld
                intro hHeld
                clear hK K
                try simp only [pS]
                refine wpAnyH_ready (rs := [6, 10]) (by kernel_rfl) (by simp) ?_
                refine AllReadyH.cons (o := { dst := some 109, op := Op.call { callee := Callee.value (Operand.func 54), args := #[Operand.tmp 104, Operand.tmp 107, Operand.tmp 108], argTypes := #[35, 23, 3] }, type := 79, pos := "outright.go:343", after := #[{ on := 1, ground := Ground.data }, { on := 4, ground := Ground.data }, { on := 5, ground := Ground.data }, { on := 4, ground := Ground.chain }], guard := none }) rfl (fun K hK => ?_) (AllReadyH.cons (o := { dst := some 18, op := Op.alloc 61, type := 0, pos := "outright.go:343", after := #[], guard := none }) rfl (fun K hK => ?_) (AllReadyH.nil))
                focus
                  go_simp
                  refine (good_q HCL.out HLQ.out (by have := HT.out; omega) HG2.out).mono ?_
                  rintro e wx ⟨rfl, hbx⟩
                  replace hbx := Aside0.mk hbx
                  try replace HCL := Aside0.mk (HCL.out.later hbx.out)
                  try replace HLQ := Aside0.mk (HLQ.out.later hbx.out)
                  try replace HG := Aside0.mk (blk_below HG.out hbx.out)
                  go_wp2_with fail
                  refine hK.out _ _ ?_ ?_
                  · ((try dsimp only); exact ⟨below_step hHeld.1 hbx.out, later (below_step hHeld.1 hbx.out) b0, later (below_step hHeld.1 hbx.out) b1, later (below_step hHeld.1 hbx.out) b2, later (below_step hHeld.1 hbx.out) b3, later (below_step hHeld.1 hbx.out) b4⟩)
                  try clear hHeld
                  intro hHeld
                  clear hK K
                  try simp only [pS]
                  refine tkT 7 (some 102) (v := ?_) rfl rfl (.inl ⟨by rfl, ?_⟩) ?_
                  rotate_left
                  · (intro w hSw; (try dsimp only at hSw); go_simp; with_reducible rfl)
                  try simp only [pS]
                  refine tkT 8 (some 110) (v := ?_) rfl rfl (.inl ⟨by rfl, ?_⟩) ?_
                  rotate_left
                  · (intro w hSw; (try dsimp only at hSw); go_simp; with_reducible rfl)
                  try simp only [pS]
                  refine tkT 9 (some 111) (v := ?_) rfl rfl (.inl ⟨by rfl, ?_⟩) ?_
                  rotate_left
                  · (intro w hSw; (try dsimp only at hSw); go_simp; with_reducible rfl)
                  try simp only [pS]
                  refine wpAnyH_ready (rs := [10]) (by kernel_rfl) (by simp) ?_
                  refine AllReadyH.cons (o := { dst := some 18, op := Op.alloc 61, type := 0, pos := "outright.go:343", after := #[], guard := none }) rfl (fun K hK => ?_) (AllReadyH.nil)
                  go_simp
                  have hg9 := Aside0.mk (show W9.heap.size ≤ wx.heap.size from hHeld.1.size)
                  have hbx := Aside0.mk (below_alloc (Below.refl wx.heap.size wx) (.cells #[.int .i64 0, .int .i64 0] 61))
                  have HG := Aside0.mk (blk_new wx (.cells #[.int .i64 0, .int .i64 0] 61))
                  generalize hgz : wx.heap.size = g9 at hg9 HG ⊢
                  generalize wx.alloc (.cells #[.int .i64 0, .int .i64 0] 61) = wx at hbx HG ⊢
                  try replace HCL := Aside0.mk (HCL.out.later hbx.out)
                  try replace HLQ := Aside0.mk (HLQ.out.later hbx.out)
                  try replace HG := Aside0.mk (blk_below HG.out hbx.out)
                  refine hK.out _ _ ?_ ?_
                  · ((try dsimp only); exact ⟨below_step hHeld.1 hbx.out, later (below_step hHeld.1 hbx.out) b0, later (below_step hHeld.1 hbx.out) b1, later (below_step hHeld.1 hbx.out) b2, later (below_step hHeld.1 hbx.out) b3, later (below_step hHeld.1 hbx.out) b4⟩)
                  try clear hHeld
                  intro hHeld
                  clear hK K
                  try simp only [pS]
                  refine wpAnyH_ready (rs := [11]) (by kernel_rfl) (by simp) ?_
                  refine AllReadyH.cons (o := { dst := none, op := Op.store 61 (Operand.tmp 18) (Operand.tmp 110), type := 0, pos := "outright.go:343", after := #[{ on := 10, ground := Ground.data }, { on := 8, ground := Ground.data }, { on := 6, ground := Ground.chain }, { on := 0, ground := Ground.phase }, { on := 1, ground := Ground.phase }, { on := 2, ground := Ground.phase }, { on := 3, ground := Ground.phase }, { on := 4, ground := Ground.phase }, { on := 5, ground := Ground.phase }, { on := 6, ground := Ground.phase }, { on := 7, ground := Ground.phase }, { on := 8, ground := Ground.phase }, { on := 9, ground := Ground.textOnly Departure.lateStores }, { on := 10, ground := Ground.phase }], guard := none }) rfl (fun K hK => ?_) (AllReadyH.nil)
                  have rz9 := blk_lt HG.out
                  have rf0_ := blk_frozen HG.out 0
                  have rf1_ := blk_frozen HG.out 1
                  have r0_ : wx.cell? ⟨g9, 0, none⟩ = some (.int .i64 0) := (blk_cell HG.out 0).trans rfl
                  have r1_ : wx.cell? ⟨g9, 1, none⟩ = some (.int .i64 0) := (blk_cell HG.out 1).trans rfl
                  go_simp
                  have HS1 := Aside0.mk (blk_put (blk_put HG.out 0 (.int .i64 a) rfl) 1 (.int .i64 b) rfl)
                  have HS2 := Aside0.mk (show Below W9.heap.size W9 ((wx.setCell ⟨g9, 0, none⟩ (.int .i64 a)).setCell ⟨g9, 1, none⟩ (.int .i64 b)) from ((hHeld.1.setCell hg9.out (.int .i64 a)).setCell hg9.out (.int .i64 b)))
                  generalize ((wx.setCell ⟨g9, 0, none⟩ (.int .i64 a)).setCell ⟨g9, 1, none⟩ (.int .i64 b)) = wx at HS1 HS2 ⊢
                  refine hK.out _ _ ?_ ?_
                  · ((try dsimp only); exact ⟨HS2.out, later (HS2.out) b0, later (HS2.out) b1, later (HS2.out) b2, later (HS2.out) b3, later (HS2.out) b4⟩)
                  try clear hHeld
                  intro hHeld
                  clear hK K
                  try simp only [pS]
                  refine tkT 12 (some 19) (v := ?_) rfl rfl (.inl ⟨by rfl, ?_⟩) ?_
                  rotate_left
                  · (intro w hSw; (try dsimp only at hSw); go_simp; with_reducible rfl)
                  try simp only [pS]
                  refine wpAnyH_done (by kernel_rfl) ?_ _
                rotate_left 1
                focus
                  go_simp
                  have hg9 := Aside0.mk (show W9.heap.size ≤ wx.heap.size from hHeld.1.size)
                  have hbx := Aside0.mk (below_alloc (Below.refl wx.heap.size wx) (.cells #[.int .i64 0, .int .i64 0] 61))
                  have HG := Aside0.mk (blk_new wx (.cells #[.int .i64 0, .int .i64 0] 61))
                  generalize hgz : wx.heap.size = g9 at hg9 HG ⊢
                  generalize wx.alloc (.cells #[.int .i64 0, .int .i64 0] 61) = wx at hbx HG ⊢
                  try replace HCL := Aside0.mk (HCL.out.later hbx.out)
                  try replace HLQ := Aside0.mk (HLQ.out.later hbx.out)
                  try replace HG := Aside0.mk (blk_below HG.out hbx.out)
                  refine hK.out _ _ ?_ ?_
                  · ((try dsimp only); exact ⟨below_step hHeld.1 hbx.out, later (below_step hHeld.1 hbx.out) b0, later (below_step hHeld.1 hbx.out) b1, later (below_step hHeld.1 hbx.out) b2, later (below_step hHeld.1 hbx.out) b3, later (below_step hHeld.1 hbx.out) b4⟩)
                  try clear hHeld
                  intro hHeld
                  clear hK K
                  try simp only [pS]
                  refine wpAnyH_ready (rs := [6]) (by kernel_rfl) (by simp) ?_
                  refine AllReadyH.cons (o := { dst := some 109, op := Op.call { callee := Callee.value (Operand.func 54), args := #[Operand.tmp 104, Operand.tmp 107, Operand.tmp 108], argTypes := #[35, 23, 3] }, type := 79, pos := "outright.go:343", after := #[{ on := 1, ground := Ground.data }, { on := 4, ground := Ground.data }, { on := 5, ground := Ground.data }, { on := 4, ground := Ground.chain }], guard := none }) rfl (fun K hK => ?_) (AllReadyH.nil)
                  go_simp
                  refine (good_q HCL.out HLQ.out (by have := HT.out; omega) HG2.out).mono ?_
                  rintro e wx ⟨rfl, hbx⟩
                  replace hbx := Aside0.mk hbx
                  try replace HCL := Aside0.mk (HCL.out.later hbx.out)
                  try replace HLQ := Aside0.mk (HLQ.out.later hbx.out)
                  try replace HG := Aside0.mk (blk_below HG.out hbx.out)
                  go_wp2_with fail
                  refine hK.out _ _ ?_ ?_
                  · ((try dsimp only); exact ⟨below_step hHeld.1 hbx.out, later (below_step hHeld.1 hbx.out) b0, later (below_step hHeld.1 hbx.out) b1, later (below_step hHeld.1 hbx.out) b2, later (below_step hHeld.1 hbx.out) b3, later (below_step hHeld.1 hbx.out) b4⟩)
                  try clear hHeld
                  intro hHeld
                  clear hK K
                  try simp only [pS]
                  refine tkT 7 (some 102) (v := ?_) rfl rfl (.inl ⟨by rfl, ?_⟩) ?_
                  rotate_left
                  · (intro w hSw; (try dsimp only at hSw); go_simp; with_reducible rfl)
                  try simp only [pS]
                  refine tkT 8 (some 110) (v := ?_) rfl rfl (.inl ⟨by rfl, ?_⟩) ?_
                  rotate_left
                  · (intro w hSw; (try dsimp only at hSw); go_simp; with_reducible rfl)
                  try simp only [pS]
                  refine tkT 9 (some 111) (v := ?_) rfl rfl (.inl ⟨by rfl, ?_⟩) ?_
                  rotate_left
                  · (intro w hSw; (try dsimp only at hSw); go_simp; with_reducible rfl)
                  try simp only [pS]
                  refine wpAnyH_ready (rs := [11]) (by kernel_rfl) (by simp) ?_
                  refine AllReadyH.cons (o := { dst := none, op := Op.store 61 (Operand.tmp 18) (Operand.tmp 110), type := 0, pos := "outright.go:343", after := #[{ on := 10, ground := Ground.data }, { on := 8, ground := Ground.data }, { on := 6, ground := Ground.chain }, { on := 0, ground := Ground.phase }, { on := 1, ground := Ground.phase }, { on := 2, ground := Ground.phase }, { on := 3, ground := Ground.phase }, { on := 4, ground := Ground.phase }, { on := 5, ground := Ground.phase }, { on := 6, ground := Ground.phase }, { on := 7, ground := Ground.phase }, { on := 8, ground := Ground.phase }, { on := 9, ground := Ground.textOnly Departure.lateStores }, { on := 10, ground := Ground.phase }], guard := none }) rfl (fun K hK => ?_) (AllReadyH.nil)
                  have rz9 := blk_lt HG.out
                  have rf0_ := blk_frozen HG.out 0
                  have rf1_ := blk_frozen HG.out 1
                  have r0_ : wx.cell? ⟨g9, 0, none⟩ = some (.int .i64 0) := (blk_cell HG.out 0).trans rfl
                  have r1_ : wx.cell? ⟨g9, 1, none⟩ = some (.int .i64 0) := (blk_cell HG.out 1).trans rfl
                  go_simp
                  have HS1 := Aside0.mk (blk_put (blk_put HG.out 0 (.int .i64 a) rfl) 1 (.int .i64 b) rfl)
                  have HS2 := Aside0.mk (show Below W9.heap.size W9 ((wx.setCell ⟨g9, 0, none⟩ (.int .i64 a)).setCell ⟨g9, 1, none⟩ (.int .i64 b)) from ((hHeld.1.setCell hg9.out (.int .i64 a)).setCell hg9.out (.int .i64 b)))
                  generalize ((wx.setCell ⟨g9, 0, none⟩ (.int .i64 a)).setCell ⟨g9, 1, none⟩ (.int .i64 b)) = wx at HS1 HS2 ⊢
                  refine hK.out _ _ ?_ ?_
                  · ((try dsimp only); exact ⟨HS2.out, later (HS2.out) b0, later (HS2.out) b1, later (HS2.out) b2, later (HS2.out) b3, later (HS2.out) b4⟩)
                  try clear hHeld
                  intro hHeld
                  clear hK K
                  try simp only [pS]
                  refine tkT 12 (some 19) (v := ?_) rfl rfl (.inl ⟨by rfl, ?_⟩) ?_
                  rotate_left
                  · (intro w hSw; (try dsimp only at hSw); go_simp; with_reducible rfl)
                  try simp only [pS]
                  refine wpAnyH_done (by kernel_rfl) ?_ _
              rotate_left 2
              focus
                go_simp
                have hg9 := Aside0.mk (show W9.heap.size ≤ wx.heap.size from hHeld.1.size)
                have hbx := Aside0.mk (below_alloc (Below.refl wx.heap.size wx) (.cells #[.int .i64 0, .int .i64 0] 61))
                have HG := Aside0.mk (blk_new wx (.cells #[.int .i64 0, .int .i64 0] 61))
                generalize hgz : wx.heap.size = g9 at hg9 HG ⊢
                generalize wx.alloc (.cells #[.int .i64 0, .int .i64 0] 61) = wx at hbx HG ⊢
                try replace HCL := Aside0.mk (HCL.out.later hbx.out)
                try replace HLQ := Aside0.mk (HLQ.out.later hbx.out)
                try replace HG := Aside0.mk (blk_below HG.out hbx.out)
                refine hK.out _ _ ?_ ?_
                · ((try dsimp only); exact ⟨below_step hHeld.1 hbx.out, later (below_step hHeld.1 hbx.out) b0, later (below_step hHeld.1 hbx.out) b1, later (below_step hHeld.1 hbx.out) b2, later (below_step hHeld.1 hbx.out) b3, later (below_step hHeld.1 hbx.out) b4⟩)
                try clear hHeld
                intro hHeld
                clear hK K
                try simp only [pS]
                refine wpAnyH_ready (rs := [4]) (by kernel_rfl) (by simp) ?_
                refine AllReadyH.cons (o := { dst := some 107, op := Op.call { callee := Callee.value (Operand.func 52), args := #[Operand.tmp 105, Operand.tmp 106], argTypes := #[26, 23] }, type := 23, pos := "outright.go:343", after := #[{ on := 2, ground := Ground.data }, { on := 3, ground := Ground.data }, { on := 1, ground := Ground.chain }], guard := none }) rfl (fun K hK => ?_) (AllReadyH.nil)
                go_simp
                refine (mirrored_q (HM.out.later (below_step HB.out hHeld.1)) (HLI.out.later hHeld.1) ⟨HV.out.c1, HV.out.c4⟩ HP.out (by have := HT.out; omega) HQ.out).mono ?_
                rintro e wx ⟨Bq7, dq7, rfl, hlq, hbx⟩
                replace hbx := Aside0.mk hbx
                try replace HCL := Aside0.mk (HCL.out.later hbx.out)
                try replace HLQ := Aside0.mk (HLQ.out.later hbx.out)
                try replace HG := Aside0.mk (blk_below HG.out hbx.out)
                have HLQ := Aside0.mk hlq
                clear hlq
                go_wp2_with fail
                refine hK.out _ _ ?_ ?_
                · ((try dsimp only); exact ⟨below_step hHeld.1 hbx.out, later (below_step hHeld.1 hbx.out) b0, later (below_step hHeld.1 hbx.out) b1, later (below_step hHeld.1 hbx.out) b2, later (below_step hHeld.1 hbx.out) b3, later (below_step hHeld.1 hbx.out) b4⟩)
                try clear hHeld
                intro hHeld
                clear hK K
                try simp only [pS]
                refine wpAnyH_ready (rs := [6]) (by kernel_rfl) (by simp) ?_
                refine AllReadyH.cons (o := { dst := some 109, op := Op.call { callee := Callee.value (Operand.func 54), args := #[Operand.tmp 104, Operand.tmp 107, Operand.tmp 108], argTypes := #[35, 23, 3] }, type := 79, pos := "outright.go:343", after := #[{ on := 1, ground := Ground.data }, { on := 4, ground := Ground.data }, { on := 5, ground := Ground.data }, { on := 4, ground := Ground.chain }], guard := none }) rfl (fun K hK => ?_) (AllReadyH.nil)
                go_simp
                refine (good_q HCL.out HLQ.out (by have := HT.out; omega) HG2.out).mono ?_
                rintro e wx ⟨rfl, hbx⟩
                replace hbx := Aside0.mk hbx
                try replace HCL := Aside0.mk (HCL.out.later hbx.out)
                try replace HLQ := Aside0.mk (HLQ.out.later hbx.out)
                try replace HG := Aside0.mk (blk_below HG.out hbx.out)
                go_wp2_with fail
                refine hK.out _ _ ?_ ?_
                · ((try dsimp only); exact ⟨below_step hHeld.1 hbx.out, later (below_step hHeld.1 hbx.out) b0, later (below_step hHeld.1 hbx.out) b1, later (below_step hHeld.1 hbx.out) b2, later (below_step hHeld.1 hbx.out) b3, later (below_step hHeld.1 hbx.out) b4⟩)
                try clear hHeld
                intro hHeld
                clear hK K
                try simp only [pS]
                refine tkT 7 (some 102) (v := ?_) rfl rfl (.inl ⟨by rfl, ?_⟩) ?_
                rotate_left
                · (intro w hSw; (try dsimp only at hSw); go_simp; with_reducible rfl)
                try simp only [pS]
                refine tkT 8 (some 110) (v := ?_) rfl rfl (.inl ⟨by rfl, ?_⟩) ?_
                rotate_left
                · (intro w hSw; (try dsimp only at hSw); go_simp; with_reducible rfl)
                try simp only [pS]
                refine tkT 9 (some 111) (v := ?_) rfl rfl (.inl ⟨by rfl, ?_⟩) ?_
                rotate_left
                · (intro w hSw; (try dsimp only at hSw); go_simp; with_reducible rfl)
                try simp only [pS]
                refine wpAnyH_ready (rs := [11]) (by kernel_rfl) (by simp) ?_
                refine AllReadyH.cons (o := { dst := none, op := Op.store 61 (Operand.tmp 18) (Operand.tmp 110), type := 0, pos := "outright.go:343", after := #[{ on := 10, ground := Ground.data }, { on := 8, ground := Ground.data }, { on := 6, ground := Ground.chain }, { on := 0, ground := Ground.phase }, { on := 1, ground := Ground.phase }, { on := 2, ground := Ground.phase }, { on := 3, ground := Ground.phase }, { on := 4, ground := Ground.phase }, { on := 5, ground := Ground.phase }, { on := 6, ground := Ground.phase }, { on := 7, ground := Ground.phase }, { on := 8, ground := Ground.phase }, { on := 9, ground := Ground.textOnly Departure.lateStores }, { on := 10, ground := Ground.phase }], guard := none }) rfl (fun K hK => ?_) (AllReadyH.nil)
                have rz9 := blk_lt HG.out
                have rf0_ := blk_frozen HG.out 0
                have rf1_ := blk_frozen HG.out 1
                have r0_ : wx.cell? ⟨g9, 0, none⟩ = some (.int .i64 0) := (blk_cell HG.out 0).trans rfl
                have r1_ : wx.cell? ⟨g9, 1, none⟩ = some (.int .i64 0) := (blk_cell HG.out 1).trans rfl
                go_simp
                have HS1 := Aside0.mk (blk_put (blk_put HG.out 0 (.int .i64 a) rfl) 1 (.int .i64 b) rfl)
                have HS2 := Aside0.mk (show Below W9.heap.size W9 ((wx.setCell ⟨g9, 0, none⟩ (.int .i64 a)).setCell ⟨g9, 1, none⟩ (.int .i64 b)) from ((hHeld.1.setCell hg9.out (.int .i64 a)).setCell hg9.out (.int .i64 b)))
                generalize ((wx.setCell ⟨g9, 0, none⟩ (.int .i64 a)).setCell ⟨g9, 1, none⟩ (.int .i64 b)) = wx at HS1 HS2 ⊢
                refine hK.out _ _ ?_ ?_
                · ((try dsimp only); exact ⟨HS2.out, later (HS2.out) b0, later (HS2.out) b1, later (HS2.out) b2, later (HS2.out) b3, later (HS2.out) b4⟩)
                try clear hHeld
                intro hHeld
                clear hK K
                try simp only [pS]
                refine tkT 12 (some 19) (v := ?_) rfl rfl (.inl ⟨by rfl, ?_⟩) ?_
                rotate_left
                · (intro w hSw; (try dsimp only at hSw); go_simp; with_reducible rfl)
                try simp only [pS]
                refine wpAnyH_done (by kernel_rfl) ?_ _
            rotate_left 3
            focus
              go_simp
              have hg9 := Aside0.mk (show W9.heap.size ≤ wx.heap.size from hHeld.1.size)
              have hbx := Aside0.mk (below_alloc (Below.refl wx.heap.size wx) (.cells #[.int .i64 0, .int .i64 0] 61))
              have HG := Aside0.mk (blk_new wx (.cells #[.int .i64 0, .int .i64 0] 61))
              generalize hgz : wx.heap.size = g9 at hg9 HG ⊢
              generalize wx.alloc (.cells #[.int .i64 0, .int .i64 0] 61) = wx at hbx HG ⊢
              try replace HCL := Aside0.mk (HCL.out.later hbx.out)
              try replace HLQ := Aside0.mk (HLQ.out.later hbx.out)
              try replace HG := Aside0.mk (blk_below HG.out hbx.out)
              refine hK.out _ _ ?_ ?_
              · ((try dsimp only); exact ⟨below_step hHeld.1 hbx.out, later (below_step hHeld.1 hbx.out) b0, later (below_step hHeld.1 hbx.out) b1, later (below_step hHeld.1 hbx.out) b2, later (below_step hHeld.1 hbx.out) b3, later (below_step hHeld.1 hbx.out) b4⟩)
              try clear hHeld
              intro hHeld
              clear hK K
              try simp only [pS]
              refine wpAnyH_ready (rs := [1]) (by kernel_rfl) (by simp) ?_
              refine AllReadyH.cons (o := { dst := some 104, op := Op.call { callee := Callee.value (Operand.func 26), args := #[Operand.tmp 103], argTypes := #[26] }, type := 35, pos := "outright.go:343", after := #[{ on := 0, ground := Ground.data }], guard := none }) rfl (fun K hK => ?_) (AllReadyH.nil)
              go_simp
              refine (refcl_q (HM.out.later (below_step HB.out hHeld.1)) (by have := HT.out; omega) (by have := HT.out; omega) (by have := HT.out; omega)).mono ?_
              rintro e wx ⟨B27, B37, B47, d27, d37, d47, n27, n37, n47, rfl, hcl, hbx⟩
              replace hbx := Aside0.mk hbx
              try replace HCL := Aside0.mk (HCL.out.later hbx.out)
              try replace HLQ := Aside0.mk (HLQ.out.later hbx.out)
              try replace HG := Aside0.mk (blk_below HG.out hbx.out)
              have HCL := Aside0.mk hcl
              clear hcl
              go_wp2_with fail
              refine hK.out _ _ ?_ ?_
              · ((try dsimp only); exact ⟨below_step hHeld.1 hbx.out, later (below_step hHeld.1 hbx.out) b0, later (below_step hHeld.1 hbx.out) b1, later (below_step hHeld.1 hbx.out) b2, later (below_step hHeld.1 hbx.out) b3, later (below_step hHeld.1 hbx.out) b4⟩)
              try clear hHeld
              intro hHeld
              clear hK K
              try simp only [pS]
              refine wpAnyH_ready (rs := [4]) (by kernel_rfl) (by simp) ?_
              refine AllReadyH.cons (o := { dst := some 107, op := Op.call { callee := Callee.value (Operand.func 52), args := #[Operand.tmp 105, Operand.tmp 106], argTypes := #[26, 23] }, type := 23, pos := "outright.go:343", after := #[{ on := 2, ground := Ground.data }, { on := 3, ground := Ground.data }, { on := 1, ground := Ground.chain }], guard := none }) rfl (fun K hK => ?_) (AllReadyH.nil)
              go_simp
              refine (mirrored_q (HM.out.later (below_step HB.out hHeld.1)) (HLI.out.later hHeld.1) ⟨HV.out.c1, HV.out.c4⟩ HP.out (by have := HT.out; omega) HQ.out).mono ?_
              rintro e wx ⟨Bq7, dq7, rfl, hlq, hbx⟩
              replace hbx := Aside0.mk hbx
              try replace HCL := Aside0.mk (HCL.out.later hbx.out)
              try replace HLQ := Aside0.mk (HLQ.out.later hbx.out)
              try replace HG := Aside0.mk (blk_below HG.out hbx.out)
              have HLQ := Aside0.mk hlq
              clear hlq
              go_wp2_with fail
              refine hK.out _ _ ?_ ?_
              · ((try dsimp only); exact ⟨below_step hHeld.1 hbx.out, later (below_step hHeld.1 hbx.out) b0, later (below_step hHeld.1 hbx.out) b1, later (below_step hHeld.1 hbx.out) b2, later (below_step hHeld.1 hbx.out) b3, later (below_step hHeld.1 hbx.out) b4⟩)
              try clear hHeld
              intro hHeld
              clear hK K
              try simp only [pS]
              refine wpAnyH_ready (rs := [6]) (by kernel_rfl) (by simp) ?_
              refine AllReadyH.cons (o := { dst := some 109, op := Op.call { callee := Callee.value (Operand.func 54), args := #[Operand.tmp 104, Operand.tmp 107, Operand.tmp 108], argTypes := #[35, 23, 3] }, type := 79, pos := "outright.go:343", after := #[{ on := 1, ground := Ground.data }, { on := 4, ground := Ground.data }, { on := 5, ground := Ground.data }, { on := 4, ground := Ground.chain }], guard := none }) rfl (fun K hK => ?_) (AllReadyH.nil)
              go_simp
              refine (good_q HCL.out HLQ.out (by have := HT.out; omega) HG2.out).mono ?_
              rintro e wx ⟨rfl, hbx⟩
              replace hbx := Aside0.mk hbx
              try replace HCL := Aside0.mk (HCL.out.later hbx.out)
              try replace HLQ := Aside0.mk (HLQ.out.later hbx.out)
              try replace HG := Aside0.mk (blk_below HG.out hbx.out)
              go_wp2_with fail
              refine hK.out _ _ ?_ ?_
              · ((try dsimp only); exact ⟨below_step hHeld.1 hbx.out, later (below_step hHeld.1 hbx.out) b0, later (below_step hHeld.1 hbx.out) b1, later (below_step hHeld.1 hbx.out) b2, later (below_step hHeld.1 hbx.out) b3, later (below_step hHeld.1 hbx.out) b4⟩)
              try clear hHeld
              intro hHeld
              clear hK K
              try simp only [pS]
              refine tkT 7 (some 102) (v := ?_) rfl rfl (.inl ⟨by rfl, ?_⟩) ?_
              rotate_left
              · (intro w hSw; (try dsimp only at hSw); go_simp; with_reducible rfl)
              try simp only [pS]
              refine tkT 8 (some 110) (v := ?_) rfl rfl (.inl ⟨by rfl, ?_⟩) ?_
              rotate_left
              · (intro w hSw; (try dsimp only at hSw); go_simp; with_reducible rfl)
              try simp only [pS]
              refine tkT 9 (some 111) (v := ?_) rfl rfl (.inl ⟨by rfl, ?_⟩) ?_
              rotate_left
              · (intro w hSw; (try dsimp only at hSw); go_simp; with_reducible rfl)
              try simp only [pS]
              refine wpAnyH_ready (rs := [11]) (by kernel_rfl) (by simp) ?_
              refine AllReadyH.cons (o := { dst := none, op := Op.store 61 (Operand.tmp 18) (Operand.tmp 110), type := 0, pos := "outright.go:343", after := #[{ on := 10, ground := Ground.data }, { on := 8, ground := Ground.data }, { on := 6, ground := Ground.chain }, { on := 0, ground := Ground.phase }, { on := 1, ground := Ground.phase }, { on := 2, ground := Ground.phase }, { on := 3, ground := Ground.phase }, { on := 4, ground := Ground.phase }, { on := 5, ground := Ground.phase }, { on := 6, ground := Ground.phase }, { on := 7, ground := Ground.phase }, { on := 8, ground := Ground.phase }, { on := 9, ground := Ground.textOnly Departure.lateStores }, { on := 10, ground := Ground.phase }], guard := none }) rfl (fun K hK => ?_) (AllReadyH.nil)
              have rz9 := blk_lt HG.out
              have rf0_ := blk_frozen HG.out 0
              have rf1_ := blk_frozen HG.out 1
              have r0_ : wx.cell? ⟨g9, 0, none⟩ = some (.int .i64 0) := (blk_cell HG.out 0).trans rfl
              have r1_ : wx.cell? ⟨g9, 1, none⟩ = some (.int .i64 0) := (blk_cell HG.out 1).trans rfl
              go_simp
              have HS1 := Aside0.mk (blk_put (blk_put HG.out 0 (.int .i64 a) rfl) 1 (.int .i64 b) rfl)
              have HS2 := Aside0.mk (show Below W9.heap.size W9 ((wx.setCell ⟨g9, 0, none⟩ (.int .i64 a)).setCell ⟨g9, 1, none⟩ (.int .i64 b)) from ((hHeld.1.setCell hg9.out (.int .i64 a)).setCell hg9.out (.int .i64 b)))
              generalize ((wx.setCell ⟨g9, 0, none⟩ (.int .i64 a)).setCell ⟨g9, 1, none⟩ (.int .i64 b)) = wx at HS1 HS2 ⊢
              refine hK.out _ _ ?_ ?_
              · ((try dsimp only); exact ⟨HS2.out, later (HS2.out) b0, later (HS2.out) b1, later (HS2.out) b2, later (HS2.out) b3, later (HS2.out) b4⟩)
              try clear hHeld
              intro hHeld
              clear hK K
              try simp only [pS]
              refine tkT 12 (some 19) (v := ?_) rfl rfl (.inl ⟨by rfl, ?_⟩) ?_
              rotate_left
              · (intro w hSw; (try dsimp only at hSw); go_simp; with_reducible rfl)
              try simp only [pS]
              refine wpAnyH_done (by kernel_rfl) ?_ _
            all_goals
              replace HB := Aside0.mk (below_step HB.out hHeld.1)
              replace HK := Aside0.mk (HK.out.later hHeld.1)
              replace HLI := Aside0.mk (HLI.out.later hHeld.1)
              replace HG9 := Aside0.mk (blk_below HG9.out hHeld.1)
              replace b0 := HK.out.at0
              replace b1 := HK.out.at1
              replace b2 := HK.out.at2
              replace b3 := HK.out.at3
              replace b4 := HK.out.at4
              have q0 : wx.cell? ⟨g8, 0, none⟩ = some (.int .i64 a) := (blk_cell HG9.out 0).trans rfl
              have q1 : wx.cell? ⟨g8, 1, none⟩ = some (.int .i64 b) := (blk_cell HG9.out 1).trans rfl
              have q2 : wx.cell? ⟨g9, 0, none⟩ = some (.int .i64 a) := (blk_cell HS1.out 0).trans rfl
              have q3 : wx.cell? ⟨g9, 1, none⟩ = some (.int .i64 b) := (blk_cell HS1.out 1).trans rfl
              have hEQ := eq61 a b
              have hee : (e0 != e0) = false := by simp
              rcases he0 with rfl | rfl | rfl
              all_goals
                go_wp2_with fail
                go_roundg kq
                case measure => omega
                case rel => exact ⟨i + 1, by first | go_num | (congr 1; unfold wrap64; omega), ⟨by have := HN.out; omega⟩, HB, HK, HLI⟩
          · have h1 : ¬ (i : Int) < (p.length : Int) := by omega
            clear hlt
            go_wp2_with fail
            refine (awake_calls _).mono ?_
            rintro e w13 ⟨rfl, hb⟩
            replace HB := Aside0.mk (below_step HB.out hb)
            clear hb
            go_wp2_with fail
            go_ret
            exact ⟨rfl, HB.out⟩
end Go.Proofs.Ytokhmghgghjmhaa.Q
namespace Go.Proofs.Ytokhmghgghjmhaa.Q
open Go.RowKit Go.Proofs.YtokhmghgghjmhaaW.PrintWords Go.Proofs.YtokhmghgghjmhaaW.PrintLast Go.Proofs.YtokhmghgghjmhaaW.PrintMore
set_option linter.unusedVariables false
/-- Horses of a law's own: a row of a block that it made. -/
def Hr (w : World) (base : Nat) (A : Option Addr) (d : Nat) (hs : List S68) (ok : Nat → Prop) : Prop := Kd.R k68 68 w base ok (.slice A hs.length d) hs
theorem Hr.later {w w' : World} {base : Nat} {A : Option Addr} {d : Nat} {hs : List S68} {ok : Nat → Prop} (h : Hr w base A d hs ok) (hb : Below w.heap.size w w') : Hr w' base A d hs ok := Kd.R_below h hb
theorem Hr.reads {w : World} {base : Nat} {A : Option Addr} {d : Nat} {hs : List S68} {ok : Nat → Prop} (h : Hr w base A d hs ok) : Kd.C k68 w A hs.length hs ∧ hs.length ≤ d := by
  have h2 := Kd.R_reads' h
  exact ⟨h2.2.2, h2.2.1⟩
/-- A field of one horse is written. -/
theorem Hr.put {w : World} {base g d : Nat} {hs : List S68} {ok : Nat → Prop} (h : Hr w base (some ⟨g, 0, none⟩) d hs ok) (k : Nat) (hk : k < hs.length) (j : Nat) (hj : j < 4) (v : Int) (x : S68)
    (hx : ([.int .i64 (rd_T68 hs k).f0.f0, .int .i64 (rd_T68 hs k).f0.f1, .int .i64 (rd_T68 hs k).f1, .int .i64 (rd_T68 hs k).f2] : List Value).set j (.int .i64 v) = [.int .i64 x.f0.f0, .int .i64 x.f0.f1, .int .i64 x.f1, .int .i64 x.f2]) :
    Hr (w.setCell ⟨g, k * 4 + j, none⟩ (.int .i64 v)) base (some ⟨g, 0, none⟩) d (hs.set k x) ok := by
  obtain ⟨c, hcl, hM, hcc, hfr⟩ := Kd.R_elem h z68 (k : Int) (by omega) (by omega)
  rw [Int.toNat_natCast] at hM hcc
  have hc : c = [.int .i64 (rd_T68 hs k).f0.f0, .int .i64 (rd_T68 hs k).f0.f1, .int .i64 (rd_T68 hs k).f1, .int .i64 (rd_T68 hs k).f2] := by
    have := k68_openM hM
    exact this
  have e : c.take j ++ [.int .i64 v] ++ c.drop (j + 1) = [.int .i64 x.f0.f0, .int .i64 x.f0.f1, .int .i64 x.f1, .int .i64 x.f2] := by
    rw [← hx, hc]
    rcases j with _ | _ | _ | _ | j
    · rfl
    · rfl
    · rfl
    · rfl
    · omega
  have hs2 := (Kd.R_seg h (k : Int) (by omega) (by omega) (seg := [.int .i64 v]) (j := j) (by exact hcl) (by rw [Int.toNat_natCast]; exact hcc) (show j + 1 ≤ 4 by omega) (x' := x) (okp := fun k' => ok k' ∧ k' ≠ g) (by
    show k68.M w base _ x (c.take j ++ [.int .i64 v] ++ c.drop (j + 1))
    rw [e]; exact k68_mkM _ _ _ x) (fun _ hk => hk)).1
  rw [Int.toNat_natCast] at hs2
  unfold Hr
  rw [List.length_set]
  exact hs2
theorem Hr.at {w : World} {base g d : Nat} {hs : List S68} {ok : Nat → Prop} (h : Hr w base (some ⟨g, 0, none⟩) d hs ok) (k : Nat) (hk : k < hs.length) :
    w.cell? ⟨g, k * 4, none⟩ = some (.int .i64 (rd_T68 hs k).f0.f0) ∧ w.cell? ⟨g, k * 4 + 1, none⟩ = some (.int .i64 (rd_T68 hs k).f0.f1) ∧ w.cell? ⟨g, k * 4 + 2, none⟩ = some (.int .i64 (rd_T68 hs k).f1) ∧ w.cell? ⟨g, k * 4 + 3, none⟩ = some (.int .i64 (rd_T68 hs k).f2) ∧ ∀ j, w.frozen? ⟨g, k * 4 + j, none⟩ = false := by
  obtain ⟨c, hcl, hM, hcc, hfr⟩ := Kd.R_elem h z68 (k : Int) (by omega) (by omega)
  rw [Int.toNat_natCast] at hM hcc hfr
  obtain rfl := k68_openM hM
  exact ⟨hcc 0 _ rfl, hcc 1 _ rfl, hcc 2 _ rfl, hcc 3 _ rfl, hfr⟩
theorem Hr.form {w : World} {base : Nat} {A : Option Addr} {d : Nat} {hs : List S68} {ok : Nat → Prop} (h : Hr w base A d hs ok) (hp : 0 < hs.length) : ∃ g, A = some ⟨g, 0, none⟩ ∧ base ≤ g ∧ g < w.heap.size := by
  obtain ⟨g, cap, e, h1, h2, _⟩ := Kd.R_form h hp
  injection e with e1 e2 e3
  exact ⟨g, e1, h1, h2⟩
end Go.Proofs.Ytokhmghgghjmhaa.Q
