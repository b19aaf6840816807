/- Part A1 of the proof (C0, C1, C2, C3, C4, C5, C6, C7, C8, C9, C10, C11, C12, C13, C14): contracts of functions, and plain lemmas about what they compute. -/
import Derived.StillTailTactics
import Derived.Outline
import Derived.IntWalk
import Derived.RangeFuncNested
import Derived.RangeFuncBound
import Derived.RangeFuncLeaves
import Derived.Shelf.Abstract
import Derived.Shelf.RegionOpen
import Derived.OwnWalkIn
import Derived.TacticsInMore
import Derived.LoopIn
import Derived.Laws.EntriesVeiled
import Derived.Deep.RegionHeld3
import Derived.CallsIn
import Derived.OrdersIn
import Derived.ChangeKeysEq
import Derived.Test.YtokhmghgghjmhaaA0
namespace Go.Proofs.Ytokhmghgghjmhaa.Q
open Go.RowKit Go.Proofs.YtokhmghgghjmhaaW.PrintWords Go.Proofs.YtokhmghgghjmhaaW.PrintLast Go.Proofs.YtokhmghgghjmhaaW.PrintMore
def upd (d : Nat → Int) (i : Nat) (v : Int) : Nat → Int := fun j => if j = i then v else d j
theorem set4 (d : Nat → Int) (i : Nat) (v : Int) (h : i < 4) :
    (#[.int .i64 (d 0), .int .i64 (d 1), .int .i64 (d 2), .int .i64 (d 3)] : Array Value).setIfInBounds i (.int .i64 v) =
      #[.int .i64 (upd d i v 0), .int .i64 (upd d i v 1), .int .i64 (upd d i v 2), .int .i64 (upd d i v 3)] := by
  rcases i with _ | _ | _ | _ | i
  · rfl
  · rfl
  · rfl
  · rfl
  · omega
theorem get4 (d : Nat → Int) (i : Nat) (h : i < 4) :
    (#[.int .i64 (d 0), .int .i64 (d 1), .int .i64 (d 2), .int .i64 (d 3)] : Array Value)[i]? = some (.int .i64 (d i)) := by
  rcases i with _ | _ | _ | _ | i
  · rfl
  · rfl
  · rfl
  · rfl
  · omega
def wet (hs : List S139) (p : List Int) (i k : Nat) : Int :=
  if rd p i - rd p k = 1 ∨ rd p i - rd p k = -1 then (rd_T139 hs k).f1 else 0
def adds (hs : List S139) (p : List Int) (i : Nat) : Nat → Int
  | 0 => 0
  | k + 1 => adds hs p i k + wet hs p i k
def mins (hs : List S139) (p : List Int) (d : Nat → Int) : Nat → Int := fun i => if i < p.length then d i + adds hs p i p.length else d i
def Wets (hs : List S139) : Prop := ∀ i : Nat, i < hs.length → 0 ≤ (rd_T139 hs i).f1 ∧ (rd_T139 hs i).f1 ≤ 9
theorem wet_bd {hs : List S139} (hw : Wets hs) (p : List Int) (i k : Nat) (hk : k < hs.length) : 0 ≤ wet hs p i k ∧ wet hs p i k ≤ 9 := by
  unfold wet; have := hw k hk; split <;> omega
theorem adds_bd {hs : List S139} (hw : Wets hs) (p : List Int) (i k : Nat) (hk : k ≤ hs.length) : 0 ≤ adds hs p i k ∧ adds hs p i k ≤ 9 * k := by
  induction k with
  | zero => simp [adds]
  | succ k ih => have := wet_bd hw p i k (by omega); have := ih (by omega); simp only [adds]; omega
theorem blk_new_ {w : World} {o : Obj} {g : Nat} (h : g = w.heap.size) : (w.alloc o).heap[g]? = some o := h ▸ blk_new w o
theorem rd_nn (xs : List Int) (i : Nat) : rd xs (i : Int) = xs.getD i 0 := by simp [rd]
theorem at_n {w : World} {A : Option Addr} {n : Nat} {k : IntKind} {xs : List Int} (h : (Kd.int k).C w A n xs) (i : Nat) (h1 : i < n) : ∃ ad, A = some ad ∧ w.cell? (ad.add i) = some (.int k (rd xs i)) := by
  obtain ⟨ad, e, h⟩ := Kd.at_int h (i : Int) (by omega) (by omega)
  exact ⟨ad, e, by rwa [Int.toNat_natCast] at h⟩
theorem at_h {w : World} {A : Option Addr} {n : Nat} {xs : List S139} (h : Kd.C k139 w A n xs) (i : Nat) (h1 : i < n) : ∃ ad , A = some ad ∧ w.cell? (ad.add (i * 4)) = some (.int .i64 (rd_T139 xs i).f0.f0) ∧ w.cell? ⟨(ad.add (i * 4)).block, (ad.add (i * 4)).off + 1, none⟩ = some (.int .i64 (rd_T139 xs i).f0.f1) ∧ w.cell? ⟨(ad.add (i * 4)).block, (ad.add (i * 4)).off + 2, none⟩ = some (.int .i64 (rd_T139 xs i).f1) ∧ w.cell? ⟨(ad.add (i * 4)).block, (ad.add (i * 4)).off + 3, none⟩ = some (.int .i64 (rd_T139 xs i).f2) := by
  have h := at_T139 h (i : Int) (by omega) (by omega)
  rwa [Int.toNat_natCast] at h
theorem at_l {w : World} {A : Option Addr} {n : Nat} {xs : List S140} (h : Kd.C k140 w A n xs) (i : Nat) (h1 : i < n) : ∃ ad , A = some ad ∧ w.cell? (ad.add (i * 3)) = some (.int .i64 (rd_T140 xs i).f0) ∧ w.cell? ⟨(ad.add (i * 3)).block, (ad.add (i * 3)).off + 1, none⟩ = some (.int .i64 (rd_T140 xs i).f1) ∧ w.cell? ⟨(ad.add (i * 3)).block, (ad.add (i * 3)).off + 2, none⟩ = some (.bool (rd_T140 xs i).f2) := by
  have h := at_T140 h (i : Int) (by omega) (by omega)
  rwa [Int.toNat_natCast] at h
theorem later {w w1 : World} (hb : Below w.heap.size w w1) {a : Addr} {v : Value} (h : w.cell? a = some v) : w1.cell? a = some v := (hb.cell (World.block_lt_of_cell? w _ h)).trans h
structure Valid (cs cl : Int) (hs : List S139) (hung : List Int) (looks : List S140) : Prop where
  c1 : 1 ≤ cs
  c4 : cs ≤ 4
  k0 : 0 ≤ cl
  k99 : cl ≤ 99
  n4 : hs.length ≤ 4
  n5 : looks.length ≤ 5
  dry : ∀ i : Nat, i < hs.length → 1 ≤ (rd_T139 hs i).f0.f0 ∧ (rd_T139 hs i).f0.f0 ≤ (rd_T139 hs i).f0.f1 ∧ (rd_T139 hs i).f0.f1 ≤ 60
  wet : Wets hs
  grace : ∀ i : Nat, i < hs.length → 0 ≤ (rd_T139 hs i).f2 ∧ (rd_T139 hs i).f2 ≤ 30
  place : hung.length = hs.length
  inside : ∀ i : Nat, i < hung.length → 0 ≤ rd hung i ∧ rd hung i ≤ cs - 1
  apart : ∀ i j : Nat, i < hung.length → j < i → rd hung i ≠ rd hung j
  look : ∀ i : Nat, i < looks.length → 0 ≤ (rd_T140 looks i).f0 ∧ (rd_T140 looks i).f0 < hs.length ∧ 0 ≤ (rd_T140 looks i).f1 ∧ (rd_T140 looks i).f1 ≤ 99
structure Mem (w : World) (A2 A3 A4 : Option Addr) (c2 c3 c4 : Nat) (hs : List S139) (hung : List Int) (looks : List S140) : Prop where
  h2 : Kd.C k139 w A2 hs.length hs
  h3 : Kd.C (Kd.int .i64) w A3 hung.length hung
  h4 : Kd.C k140 w A4 looks.length looks
  l2 : hs.length ≤ c2
  l3 : hung.length ≤ c3
  l4 : looks.length ≤ c4
theorem Mem.later {w w1 : World} {A2 A3 A4 : Option Addr} {c2 c3 c4 : Nat} {hs : List S139} {hung : List Int} {looks : List S140}
    (m : Mem w A2 A3 A4 c2 c3 c4 hs hung looks) (hb : Below w.heap.size w w1) : Mem w1 A2 A3 A4 c2 c3 c4 hs hung looks :=
  ⟨Kd.C_below m.h2 hb, Kd.C_below m.h3 hb, Kd.C_below m.h4 hb, m.l2, m.l3, m.l4⟩
theorem index_has (l : List Int) (x : Int) (hl : l.length ≤ 100000) : ∀ (d i k : Nat), i + d = l.length → d < k →
    ∃ r, slices_Index_int_int.l0 k l x (l.length : Int) (i : Int) = some r ∧ (0 ≤ r ↔ x ∈ l.drop i) := by
  intro d
  induction d with
  | zero =>
    intro i k hi hk
    obtain ⟨k, rfl⟩ : ∃ m, k = m + 1 := ⟨k - 1, by omega⟩
    exact ⟨-1, by simp only [slices_Index_int_int.l0]; rw [if_neg (by omega)], by rw [List.drop_eq_nil_of_le (by omega)]; simp⟩
  | succ d ih =>
    intro i k hi hk
    obtain ⟨k, rfl⟩ : ∃ m, k = m + 1 := ⟨k - 1, by omega⟩
    have hlt : i < l.length := by omega
    have hrd : rd l (i : Int) = l[i] := by rw [rd_nn, List.getD_eq_getElem?_getD, List.getElem?_eq_getElem hlt]; rfl
    rw [List.drop_eq_getElem_cons hlt]
    by_cases e : x = l[i]
    · exact ⟨i, by simp only [slices_Index_int_int.l0]; rw [if_pos (by omega), if_pos (by omega), if_pos (by omega), if_pos (by rw [hrd]; exact e)], ⟨fun _ => by rw [List.mem_cons]; exact .inl e, fun _ => by omega⟩⟩
    · obtain ⟨r, hr, h⟩ := ih (i + 1) k (by omega) (by omega)
      refine ⟨r, ?_, by rw [h, List.mem_cons]; exact ⟨fun z => .inr z, fun z => z.elim (fun z => absurd z e) id⟩⟩
      simp only [slices_Index_int_int.l0]; rw [if_pos (by omega), if_pos (by omega), if_pos (by omega), if_neg (by rw [hrd]; exact e)]
      rw [show wrap64 ((i : Int) + 1) = ((i + 1 : Nat) : Int) from by unfold wrap64; omega]; exact hr
theorem contains_has (l : List Int) (x : Int) (hl : l.length ≤ 100000) : slices_Contains_int_int.f (l.length + 1) l x = some (l.contains x) := by
  obtain ⟨r, hr, h⟩ := index_has l x hl l.length 0 (l.length + 1) (by omega) (by omega)
  unfold slices_Contains_int_int.f slices_Index_int_int.f
  rw [show (0 : Int) = ((0 : Nat) : Int) from rfl, hr]
  simp only [Option.bind_some, Option.some.injEq]
  rw [List.drop_zero] at h
  by_cases hx : x ∈ l
  · have := h.2 hx; simp [hx]; omega
  · have : ¬ 0 ≤ r := fun h0 => hx (h.1 h0)
    simp [hx]; omega
theorem contains_q (A : Option Addr) (n c : Nat) (l : List Int) (x : Int) (w : World) (hn : l.length = n) (hr : Kd.C (Kd.int .i64) w A n l) (hc : n ≤ c) (hl : n ≤ 100000)
    {b : Bool} (hb : l.contains x = b) : Calls Try.prog 127 #[.slice A n c, .int .i64 x] w fun e w' => e = .returned (.bool b) ∧ ∃ m, w' = w.drewN m := by
  subst hn
  exact (slices_Contains_int_int.calls (l.length + 1) A c l x _ w hr hc (by rw [contains_has l x hl, hb])).mono fun _ _ h => ⟨h.1, h.2.out⟩
def lookOk (hs : List S139) (hung : List Int) (d : Nat → Int) (l : S140) : Bool := l.f2 == decide (mins hs hung d l.f0.toNat ≤ l.f1)
def rightB (hs : List S139) (hung : List Int) (looks : List S140) (d : Nat → Int) (out : List Int) : Bool :=
  decide (∀ i : Nat, i < looks.length → out.contains (i : Int) = true ∨ lookOk hs hung d (rd_T140 looks i) = true)
theorem mins_bd {hs : List S139} (hw : Wets hs) (p : List Int) (d : Nat → Int) (hl : p.length = hs.length) (h4 : hs.length ≤ 4) (hd : ∀ i, 0 ≤ d i ∧ d i ≤ 60) (i : Nat) : 0 ≤ mins hs p d i ∧ mins hs p d i ≤ 96 := by
  have h1 := hd i
  have h2 := adds_bd hw p i p.length (by omega)
  unfold mins
  split <;> omega
theorem take_C {w : World} {A : Option Addr} {k : IntKind} {xs : List Int} (h : (Kd.int k).C w A xs.length xs) (i : Nat) (hi : i ≤ xs.length) : (Kd.int k).C w A i (xs.take i) := by
  have hl : (xs.take i).length = i := by rw [List.length_take]; omega
  obtain ⟨i0, hi0, _, hsz, _⟩ := info_parts info3
  have h2 := (print_take_of (P := Try.prog) (Value.int k) 0 23 3 .i64 Try.underlying23 hi0 hsz A xs.length xs (i : Int) (by omega) (by omega) (Nat.le_refl _)).2.1 w (Kd.reads_of_C h)
  rw [Int.toNat_natCast, hl] at h2
  exact Kd.C_of_reads (h1 := fun _ => rfl) h2
/-- Is a list a placement of so many horses in closets up to a number? -/
def placeB (top : Int) (n : Nat) (p : List Int) : Bool := decide (p.length = n ∧ ∀ i : Nat, i < p.length → 0 ≤ rd p i ∧ rd p i ≤ top ∧ (p.take i).contains (rd p i) = false)
theorem within_f (a b c : Int) : closet_within.f a b c = some (decide (b ≤ a ∧ a ≤ c)) := by
  unfold closet_within.f
  by_cases h : b ≤ a
  · rw [if_pos h]; simp [h]
  · rw [if_neg h]; simp [h]
theorem closet_q (cs cl : Int) {A2 A3 A4 : Option Addr} {c2 c3 c4 : Nat} {hs : List S139} {hung : List Int} {looks : List S140} {w : World} (M : Mem w A2 A3 A4 c2 c3 c4 hs hung looks) (n : Int)
    {b : Bool} (hb : decide (0 ≤ n ∧ n ≤ wrap64 (cs - 1)) = b) :
    Calls Try.prog 126 #[.agg #[.int .i64 cs, .int .i64 cl, .slice A2 hs.length c2, .slice A3 hung.length c3, .slice A4 looks.length c4], .int .i64 n] w fun e w' => e = .returned (.bool b) ∧ Below w.heap.size w w' :=
  closet_Closet_closet.calls cs cl A2 c2 hs A3 c3 hung A4 c4 looks n b w M.h2 M.l2 M.h3 M.l3 M.h4 M.l4 (by unfold closet_Closet_closet.f; rw [within_f, hb]; rfl)
def kN : Kd (Nat → Int) := Kd.iso (Kd.pair (Kd.int .i64) (Kd.pair (Kd.int .i64) (Kd.pair (Kd.int .i64) (Kd.int .i64)))) (fun d : Nat → Int => (d 0, d 1, d 2, d 3))
theorem kN_open {w : World} {x : Nat → Int} {cs : List Value} (h : kN.K w x cs) : cs = [.int .i64 (x 0), .int .i64 (x 1), .int .i64 (x 2), .int .i64 (x 3)] := by
  obtain ⟨_, _, rfl, rfl, ⟨_, _, rfl, rfl, ⟨_, _, rfl, rfl, rfl⟩⟩⟩ := h
  exact rfl
theorem kN_mkM (w : World) (base : Nat) (ok : Nat → Prop) (x : Nat → Int) : kN.M w base ok x [.int .i64 (x 0), .int .i64 (x 1), .int .i64 (x 2), .int .i64 (x 3)] :=
  ⟨[.int .i64 (x 0)], _, rfl, rfl, ⟨[.int .i64 (x 1)], _, rfl, rfl, ⟨[.int .i64 (x 2)], [.int .i64 (x 3)], rfl, rfl, rfl⟩⟩⟩
def rdN (ts : List (Nat → Int)) (i : Nat) : Nat → Int := ts.getD i (fun _ => 0)
theorem at_N {w : World} {A : Option Addr} {n : Nat} {ts : List (Nat → Int)} (h : Kd.C kN w A n ts) (i : Nat) (h1 : i < n) : ∃ ad , A = some ad ∧ w.cell? (ad.add (i * 4)) = some (.int .i64 (rdN ts i 0)) ∧
    w.cell? ⟨(ad.add (i * 4)).block, (ad.add (i * 4)).off + 1, none⟩ = some (.int .i64 (rdN ts i 1)) ∧ w.cell? ⟨(ad.add (i * 4)).block, (ad.add (i * 4)).off + 2, none⟩ = some (.int .i64 (rdN ts i 2)) ∧
    w.cell? ⟨(ad.add (i * 4)).block, (ad.add (i * 4)).off + 3, none⟩ = some (.int .i64 (rdN ts i 3)) := by
  obtain ⟨ad, c, e, _, hK, hc0⟩ := Kd.C_get h (fun _ => (0 : Int)) (i : Int) (by omega) (by omega)
  rw [Int.toNat_natCast] at hc0 hK
  have hc : ∀ j u, c[j]? = some u → w.cell? (ad.add (i * 4 + j)) = some u := hc0
  obtain rfl := kN_open hK
  exact ⟨ad, e, hc 0 _ rfl, by rw [← add_field _ _ 1 (by omega)]; exact hc 1 _ rfl, by rw [← add_field _ _ 2 (by omega)]; exact hc 2 _ rfl, by rw [← add_field _ _ 3 (by omega)]; exact hc 3 _ rfl⟩
structure Work (w : World) (g : Nat) (r : Option Nat) (cs cl : Int) (A2 A3 A4 AT : Option Addr) (c2 c3 c4 cT : Nat) (hs : List S139) (hung : List Int) (looks : List S140) (ts : List (Nat → Int)) : Prop where
  blk : w.heap[g]? = some (.cells #[.int .i64 cs, .int .i64 cl, .slice A2 hs.length c2, .slice A3 hung.length c3, .slice A4 looks.length c4, .slice AT ts.length cT, .map r] 144 (0, 0))
  mem : Mem w A2 A3 A4 c2 c3 c4 hs hung looks
  tr : Kd.C kN w AT ts.length ts
  lt : ts.length ≤ cT
theorem Work.later {w w1 : World} {g : Nat} {r : Option Nat} {cs cl : Int} {A2 A3 A4 AT : Option Addr} {c2 c3 c4 cT : Nat} {hs : List S139} {hung : List Int} {looks : List S140} {ts : List (Nat → Int)}
    (h : Work w g r cs cl A2 A3 A4 AT c2 c3 c4 cT hs hung looks ts) (hb : Below w.heap.size w w1) : Work w1 g r cs cl A2 A3 A4 AT c2 c3 c4 cT hs hung looks ts :=
  ⟨blk_below h.blk hb, h.mem.later hb, Kd.C_below h.tr hb, h.lt⟩
theorem Work.cells {w : World} {g : Nat} {r : Option Nat} {cs cl : Int} {A2 A3 A4 AT : Option Addr} {c2 c3 c4 cT : Nat} {hs : List S139} {hung : List Int} {looks : List S140} {ts : List (Nat → Int)}
    (h : Work w g r cs cl A2 A3 A4 AT c2 c3 c4 cT hs hung looks ts) : w.cell? ⟨g, 0, none⟩ = some (.int .i64 cs) ∧ w.cell? ⟨g, 1, none⟩ = some (.int .i64 cl) ∧ w.cell? ⟨g, 2, none⟩ = some (.slice A2 hs.length c2) ∧
      w.cell? ⟨g, 3, none⟩ = some (.slice A3 hung.length c3) ∧ w.cell? ⟨g, 4, none⟩ = some (.slice A4 looks.length c4) ∧ w.cell? ⟨g, 5, none⟩ = some (.slice AT ts.length cT) ∧ w.cell? ⟨g, 6, none⟩ = some (.map r) :=
  ⟨(blk_cell h.blk 0).trans rfl, (blk_cell h.blk 1).trans rfl, (blk_cell h.blk 2).trans rfl, (blk_cell h.blk 3).trans rfl, (blk_cell h.blk 4).trans rfl, (blk_cell h.blk 5).trans rfl, (blk_cell h.blk 6).trans rfl⟩
/-- The least and the greatest of a value. -/
def bnd (v : (Nat → Int) → Int) : List (Nat → Int) → Int × Int
  | [] => (0, 0)
  | t :: r => r.foldl (fun p t => (mn p.1 (v t), mx p.2 (v t))) (v t, v t)
theorem bnd_snoc (v : (Nat → Int) → Int) (l : List (Nat → Int)) (t : Nat → Int) (h : l ≠ []) : bnd v (l ++ [t]) = (mn (bnd v l).1 (v t), mx (bnd v l).2 (v t)) := by
  cases l with
  | nil => exact absurd rfl h
  | cons a r => simp [bnd, List.foldl_append]
theorem take_snocN (l : List (Nat → Int)) (k : Nat) (h : k < l.length) : l.take (k + 1) = l.take k ++ [rdN l k] := by
  rw [List.take_succ_eq_append_getElem h]; unfold rdN; rw [List.getD_eq_getElem?_getD, List.getElem?_eq_getElem h]; rfl
/-- What is asked of a horse in a truth: its dry minute, or the last one in which it is not scorched. -/
def qv (b : Bool) (hs : List S139) (p : List Int) (k : Nat) (d : Nat → Int) : Int := if b then mins hs p d k + (rd_T139 hs k).f2 else mins hs p d k
def Small (ts : List (Nat → Int)) : Prop := ∀ i j, 0 ≤ rdN ts i j ∧ rdN ts i j ≤ 60
theorem index4 (d : Nat → Int) (k : Nat) (hk : k < 4) (W : World) :
    (Instr.index 152 (.agg #[.int .i64 (d 0), .int .i64 (d 1), .int .i64 (d 2), .int .i64 (d 3)]) (.int .i64 (k : Int))).run Try.prog W = .ok (.int .i64 (d k)) W := by
  rcases k with _ | _ | _ | _ | k
  · kernel_rfl
  · kernel_rfl
  · kernel_rfl
  · kernel_rfl
  · omega
theorem laterf {w w1 : World} (hb : Below w.heap.size w w1) {a : Addr} {v : Value} (h : w.cell? a = some v) (hf : w.frozen? a = false) : w1.frozen? a = false := (hb.frozen (World.block_lt_of_cell? w _ h)).trans hf
theorem later_set {w : World} {p a : Addr} {u v : Value} (hne : p.block ≠ a.block) (h : w.cell? a = some v) : (w.setCell p u).cell? a = some v := (World.cell?_setCell_far w p a u hne).trans h
theorem max2_mx (k k' : IntKind) (x y : Int) : Builtin.max2 (.int k x) (.int k' y) = pure (.int k (mx x y)) := max2_int k k' x y
theorem min2_mn (k k' : IntKind) (x y : Int) : Builtin.min2 (.int k x) (.int k' y) = pure (.int k (mn x y)) := min2_int k k' x y
end Go.Proofs.Ytokhmghgghjmhaa.Q
namespace Go.Proofs.Ytokhmghgghjmhaa.Q
open Go.RowKit Go.Proofs.YtokhmghgghjmhaaW.PrintWords Go.Proofs.YtokhmghgghjmhaaW.PrintLast Go.Proofs.YtokhmghgghjmhaaW.PrintMore
set_option maxHeartbeats 1000000 in
set_option maxRecDepth 100000 in
theorem minutes_calls (c cl : Int) (A2 A3 A4 A : Option Addr) (n3 n4 c2 c3 c4 c1 : Nat) (hs : List S139) (p : List Int) (d : Nat → Int) (w : World)
    (hr2 : Kd.C k139 w A2 hs.length hs) (hrp : Kd.C (Kd.int .i64) w A p.length p) (hl : p.length = hs.length) (h4 : hs.length ≤ 4)
    (hp : ∀ i : Nat, i < p.length → 0 ≤ rd p i ∧ rd p i ≤ 3) (hw : Wets hs) (hd : ∀ i, 0 ≤ d i ∧ d i ≤ 60) :
    Calls Try.prog 99 #[.agg #[.int .i64 c, .int .i64 cl, .slice A2 hs.length c2, .slice A3 n3 c3, .slice A4 n4 c4], .slice A p.length c1, .agg #[.int .i64 (d 0), .int .i64 (d 1), .int .i64 (d 2), .int .i64 (d 3)]] w
      fun e w' => e = .returned (.agg #[.int .i64 (mins hs p d 0), .int .i64 (mins hs p d 1), .int .i64 (mins hs p d 2), .int .i64 (mins hs p d 3)]) ∧ Below w.heap.size w w' := by
  have HR2 := Aside0.mk hr2
  have HRP := Aside0.mk hrp
  have HL := Aside0.mk hl
  have HP := Aside0.mk hp
  have HW := Aside0.mk hw
  have HD := Aside0.mk hd
  have hpl : p.length ≤ 4 := by omega
  clear hr2 hrp hl hp hw hd h4
  go_enter Try.func99, Try.ntmps99
  go_wp2_with fail
  go_loopg [16] p.length (fun k v wr => ∃ (n : Nat) (o : Nat → Int), v = .int .i64 n ∧ Aside0 (n + k = p.length) ∧ Aside0 (∀ j, o j = if j < n then d j + adds hs p j p.length else d j) ∧
    Aside0 (wr.heap[w.heap.size]? = some (.cells #[.int .i64 c, .int .i64 cl, .slice A2 hs.length c2, .slice A3 n3 c3, .slice A4 n4 c4] 35 (0, 0))) ∧
    Aside0 (wr.heap[w.heap.size + 1 + 1]? = some (.cells #[.int .i64 0, .int .i64 0, .int .i64 0, .int .i64 0] 152 (0, 0))) ∧
    Aside0 (wr.heap[w.heap.size + 1 + 1 + 1]? = some (.cells #[.int .i64 (o 0), .int .i64 (o 1), .int .i64 (o 2), .int .i64 (o 3)] 152 (0, 0))) ∧
    Aside0 (Below w.heap.size w wr))
  case atStart =>
    exact ⟨0, d, rfl, ⟨by omega⟩, ⟨fun j => by simp⟩, ⟨by repeat (first | (refine blk_new_ ?_; simp; done) | refine blk_alloc ?_ _)⟩, ⟨by repeat (first | (refine blk_new_ ?_; simp; done) | refine blk_alloc ?_ _)⟩, ⟨by repeat (first | (refine blk_new_ ?_; simp; done) | refine blk_alloc ?_ _)⟩, ⟨by repeat (first | exact Below.refl _ _ | apply below_alloc)⟩⟩
  case round =>
    obtain ⟨n, o, rfl, HN, HO, HC, HR, HT, HB⟩ := hrel
    by_cases hlt : n < p.length
    · have hlt' : (n : Int) < (p.length : Int) := by omega
      obtain ⟨ad, e, hca⟩ := at_n HRP.out n hlt
      have HRP' := HRP
      cases e
      replace hca := later HB.out hca
      go_wp2_with fail
      obtain ⟨wo, rfl⟩ : ∃ wo : World, wo = wr := ⟨_, rfl⟩
      go_loopg [23] p.length (fun k v wr => ∃ (m : Nat) (q : Nat → Int), v = .int .i64 m ∧ Aside0 (m + k = p.length) ∧ Aside0 (q = upd o n (d n + adds hs p n m)) ∧
        Aside0 (wr.heap[w.heap.size]? = some (.cells #[.int .i64 c, .int .i64 cl, .slice A2 hs.length c2, .slice A3 n3 c3, .slice A4 n4 c4] 35 (0, 0))) ∧
        Aside0 (wr.heap[w.heap.size + 1 + 1]? = some (.cells #[.int .i64 0, .int .i64 0, .int .i64 0, .int .i64 0] 152 (0, 0))) ∧
        Aside0 (wr.heap[w.heap.size + 1 + 1 + 1]? = some (.cells #[.int .i64 (q 0), .int .i64 (q 1), .int .i64 (q 2), .int .i64 (q 3)] 152 (0, 0))) ∧
        Aside0 (Below w.heap.size w wr))
      case atStart =>
        have e : upd o n (d n + adds hs p n 0) = o := by funext j; simp only [upd, adds]; split <;> simp_all [HO.out]
        exact ⟨0, o, rfl, ⟨by omega⟩, ⟨e.symm⟩, HC, HR, HT, HB⟩
      case round =>
        clear HC HR HT HB hca
        obtain ⟨m, q, rfl, HM, HQ, HC, HR, HT, HB⟩ := hrel
        by_cases hmt : m < p.length
        · have hmt' : (m : Int) < (p.length : Int) := by omega
          obtain ⟨ad', e', hcb⟩ := at_n HRP.out m hmt
          cases e'
          replace hcb := later HB.out hcb
          have hcl2 : wr.cell? ⟨w.heap.size, 2, none⟩ = some (.slice A2 hs.length c2) := (blk_cell HC.out 2).trans rfl
          have hon : wr.cell? ⟨w.heap.size + 1 + 1 + 1, n, none⟩ = some (.int .i64 (q n)) := (blk_cell HT.out n).trans (get4 q n (by omega))
          have hof := blk_frozen HT.out n
          have hmh : m < hs.length := by have := HL.out; omega
          obtain ⟨ad2, e2, hh0, hh1, hh2, hh3⟩ := at_h HR2.out m hmh
          cases e2
          replace hh2 := later HB.out hh2
          clear hh0 hh1 hh3
          have hmh' : (m : Int) < (hs.length : Int) := by omega
          have hn4 : n < 4 := by omega
          have hn4' : (n : Int) < 4 := by omega
          have hn0 : (0 : Int) ≤ (n : Int) := by omega
          have hm0 : (0 : Int) ≤ (m : Int) := by omega
          have hqn : 0 ≤ q n ∧ q n ≤ 96 := by
            rw [HQ.out]; simp only [upd, if_pos]
            have := HD.out n; have := adds_bd HW.out p n m (by omega); omega
          have hwm := HW.out m hmh
          obtain ⟨hq0, hq1⟩ := hqn
          obtain ⟨hw0, hw1⟩ := hwm
          have hwr : IntKind.i64.wrap (q n + (rd_T139 hs (m : Int)).f1) = q n + (rd_T139 hs (m : Int)).f1 := IntWalk.i64_in _ (by omega)
          have hx : rd p n - rd p m = 1 ∨ rd p n - rd p m = -1 ∨ ¬ (rd p n - rd p m = 1 ∨ rd p n - rd p m = -1) := by omega
          have hpn := HP.out n hlt
          have hpm := HP.out m hmt
          obtain ⟨hpn0, hpn1⟩ := hpn
          obtain ⟨hpm0, hpm1⟩ := hpm
          rcases hx with hx | hx | hx
          · have HX := Aside0.mk hx
            go_wp2_with fail
            go_still_tail 10, (by kernel_rfl)
            change wpList _ _ _ _ _ wr.drew
            go_wp2_with fail
            go_roundg (p.length - (m + 1))
            case measure => have := HM.out; omega
            case rel =>
              have ew : wet hs p n m = (rd_T139 hs (m : Int)).f1 := by unfold wet; rw [if_pos (by first | exact .inl HX.out | exact .inr HX.out)]
              refine ⟨m + 1, upd q n (q n + (rd_T139 hs (m : Int)).f1), by go_num, ⟨by have := HM.out; omega⟩, ⟨?_⟩, ⟨?_⟩, ⟨?_⟩, ⟨?_⟩, ⟨?_⟩⟩
              · rw [HQ.out]; funext j; simp only [upd, adds, ew]; by_cases hj : j = n
                · subst hj; simp; omega
                · simp [hj]
              · exact blk_far (blk_drew HC.out) (by simp; omega) _
              · exact blk_far (blk_drew HR.out) (by simp) _
              · exact blk_put (blk_drew HT.out) n _ (set4 q n _ hn4)
              · exact (below_drew HB.out).setCell (by simp; omega) _
          · have HX := Aside0.mk hx
            go_wp2_with fail
            go_still_tail 10, (by kernel_rfl)
            change wpList _ _ _ _ _ wr.drew
            go_wp2_with fail
            go_roundg (p.length - (m + 1))
            case measure => have := HM.out; omega
            case rel =>
              have ew : wet hs p n m = (rd_T139 hs (m : Int)).f1 := by unfold wet; rw [if_pos (by first | exact .inl HX.out | exact .inr HX.out)]
              refine ⟨m + 1, upd q n (q n + (rd_T139 hs (m : Int)).f1), by go_num, ⟨by have := HM.out; omega⟩, ⟨?_⟩, ⟨?_⟩, ⟨?_⟩, ⟨?_⟩, ⟨?_⟩⟩
              · rw [HQ.out]; funext j; simp only [upd, adds, ew]; by_cases hj : j = n
                · subst hj; simp; omega
                · simp [hj]
              · exact blk_far (blk_drew HC.out) (by simp; omega) _
              · exact blk_far (blk_drew HR.out) (by simp) _
              · exact blk_put (blk_drew HT.out) n _ (set4 q n _ hn4)
              · exact (below_drew HB.out).setCell (by simp; omega) _
          · have HX := Aside0.mk hx
            have hxa : ((rd p n - rd p m == 1) = false) := by rw [beq_eq_false_iff_ne]; omega
            have hxb : ((rd p n - rd p m == -1) = false) := by rw [beq_eq_false_iff_ne]; omega
            clear hx
            go_wp2_with fail
            go_roundg (p.length - (m + 1))
            case measure => have := HM.out; omega
            case rel =>
              have ew : wet hs p n m = 0 := by unfold wet; rw [if_neg HX.out]
              exact ⟨m + 1, q, by go_num, ⟨by have := HM.out; omega⟩, ⟨by rw [HQ.out]; funext j; simp only [upd, adds, ew, Int.add_zero]⟩, HC, HR, HT, HB⟩
        · go_wp2_with fail
          go_roundg (p.length - (n + 1))
          case measure => have := HN.out; omega
          case rel =>
            have em : m = p.length := by have := HM.out; omega
            refine ⟨n + 1, q, by go_num, ⟨by have := HN.out; omega⟩, ⟨?_⟩, HC, HR, HT, HB⟩
            intro j
            rw [HQ.out, em]
            simp only [upd]
            by_cases hj : j = n
            · subst hj; simp
            · rw [if_neg hj, HO.out j]
              by_cases hjn : j < n
              · rw [if_pos hjn, if_pos (by omega)]
              · rw [if_neg hjn, if_neg (by omega)]
    · have hen : n = p.length := by have := HN.out; omega
      have ho : o = mins hs p d := by
        funext j; rw [HO.out j, hen]; rfl
      subst ho
      have hc0 : wr.cell? ⟨w.heap.size + 1 + 1 + 1, 0, none⟩ = some (.int .i64 (mins hs p d 0)) := (blk_cell HT.out 0).trans rfl
      have hc1 : wr.cell? ⟨w.heap.size + 1 + 1 + 1, 1, none⟩ = some (.int .i64 (mins hs p d 1)) := (blk_cell HT.out 1).trans rfl
      have hc2 : wr.cell? ⟨w.heap.size + 1 + 1 + 1, 2, none⟩ = some (.int .i64 (mins hs p d 2)) := (blk_cell HT.out 2).trans rfl
      have hc3 : wr.cell? ⟨w.heap.size + 1 + 1 + 1, 3, none⟩ = some (.int .i64 (mins hs p d 3)) := (blk_cell HT.out 3).trans rfl
      have hd0 : wr.cell? ⟨w.heap.size + 1 + 1, 0, none⟩ = some (.int .i64 0) := (blk_cell HR.out 0).trans rfl
      have hd1 : wr.cell? ⟨w.heap.size + 1 + 1, 1, none⟩ = some (.int .i64 0) := (blk_cell HR.out 1).trans rfl
      have hd2 : wr.cell? ⟨w.heap.size + 1 + 1, 2, none⟩ = some (.int .i64 0) := (blk_cell HR.out 2).trans rfl
      have hd3 : wr.cell? ⟨w.heap.size + 1 + 1, 3, none⟩ = some (.int .i64 0) := (blk_cell HR.out 3).trans rfl
      have hf0 := blk_frozen HR.out 0
      have hf1 := blk_frozen HR.out 1
      have hf2 := blk_frozen HR.out 2
      have hf3 := blk_frozen HR.out 3
      clear hen
      go_wp2_with fail
      refine bodyPost_ret (results_cell_row rfl _ _ (w.heap.size + 1 + 1) 152 _ (0, 0) _ rfl (blk_put (blk_put (blk_put (blk_put HR.out 0 _ rfl) 1 _ rfl) 2 _ rfl) 3 _ rfl) Try.underlying152 rfl (by kernel_rfl)) rfl ⟨rfl, ?_⟩
      exact (((HB.out.setCell (by simp; omega) _).setCell (by simp; omega) _).setCell (by simp; omega) _).setCell (by simp; omega) _
end Go.Proofs.Ytokhmghgghjmhaa.Q
namespace Go.Proofs.Ytokhmghgghjmhaa.Q
open Go.RowKit Go.Proofs.YtokhmghgghjmhaaW.PrintWords Go.Proofs.YtokhmghgghjmhaaW.PrintLast Go.Proofs.YtokhmghgghjmhaaW.PrintMore
set_option linter.unusedVariables false
set_option maxHeartbeats 1000000 in
set_option maxRecDepth 100000 in
theorem right_calls (cs cl : Int) (A2 A3 A4 A : Option Addr) (c2 c3 c4 c5 : Nat) (hs : List S139) (hung : List Int) (looks : List S140) (d : Nat → Int) (out : List Int) (w : World)
    (V : Valid cs cl hs hung looks) (M : Mem w A2 A3 A4 c2 c3 c4 hs hung looks) (hro : Kd.C (Kd.int .i64) w A out.length out) (hco : out.length ≤ c5) (ho : out.length ≤ 1000) (hd : ∀ i, 0 ≤ d i ∧ d i ≤ 60) :
    Calls Try.prog 109 #[.agg #[.int .i64 cs, .int .i64 cl, .slice A2 hs.length c2, .slice A3 hung.length c3, .slice A4 looks.length c4], .agg #[.int .i64 (d 0), .int .i64 (d 1), .int .i64 (d 2), .int .i64 (d 3)], .slice A out.length c5] w
      fun e w' => e = .returned (.bool (rightB hs hung looks d out)) ∧ Below w.heap.size w w' := by
  have HV := Aside0.mk V
  have HM := Aside0.mk M
  have HRO := Aside0.mk hro
  have HCO := Aside0.mk hco
  have HO := Aside0.mk ho
  have HD := Aside0.mk hd
  have hn5 := V.n5
  clear V M hro hco ho hd
  go_enter Try.func109, Try.ntmps109
  go_wp2_with fail
  refine (minutes_calls cs cl A2 A3 A4 A3 hung.length looks.length c2 c3 c4 c3 hs hung d _ ?s1 ?s2 HV.out.place HV.out.n4 ?s3 HV.out.wet HD.out).mono ?_
  case s1 => exact Kd.C_below HM.out.h2 (by repeat (first | exact Below.refl _ _ | apply below_alloc))
  case s2 => exact Kd.C_below HM.out.h3 (by repeat (first | exact Below.refl _ _ | apply below_alloc))
  case s3 => intro i hi; have := HV.out.inside i hi; have := HV.out.c4; omega
  rintro e w1 ⟨rfl, hb⟩
  have BKC := Aside0.mk (blk_below (g := w.heap.size) (o := .cells #[.int .i64 cs, .int .i64 cl, .slice A2 hs.length c2, .slice A3 hung.length c3, .slice A4 looks.length c4] 35 (0, 0)) (by repeat (first | (refine blk_new_ ?_; simp; done) | refine blk_alloc ?_ _)) hb)
  have HB1 := Aside0.mk (below_step (by repeat (first | exact Below.refl _ _ | apply below_alloc)) hb : Below w.heap.size w w1)
  clear hb
  have hc4 : w1.cell? ⟨w.heap.size, 4, none⟩ = some (.slice A4 looks.length c4) := (blk_cell BKC.out 4).trans rfl
  have hz1 : w.heap.size < w1.heap.size := blk_lt BKC.out
  go_wp2_with fail
  go_loopg [18] looks.length (fun k v wr => ∃ n : Nat, v = .int .i64 n ∧ Aside0 (n + k = looks.length) ∧
    Aside0 (∀ i : Nat, i < n → out.contains (i : Int) = true ∨ lookOk hs hung d (rd_T140 looks i) = true) ∧
    Aside0 (wr.heap[w1.heap.size]? = some (.cells #[.int .i64 (mins hs hung d 0), .int .i64 (mins hs hung d 1), .int .i64 (mins hs hung d 2), .int .i64 (mins hs hung d 3)] 152 (0, 0))) ∧
    Aside0 (Below w.heap.size w wr))
  case atStart => exact ⟨0, rfl, ⟨by omega⟩, ⟨fun i hi => absurd hi (by omega)⟩, ⟨by refine blk_new_ ?_; simp⟩, ⟨below_alloc HB1.out _⟩⟩
  case round =>
    clear hc4 BKC
    obtain ⟨n, rfl, HN, HA, HT, HB⟩ := hrel
    by_cases hlt : n < looks.length
    · obtain ⟨ad, e, h0, h1, h2⟩ := at_l HM.out.h4 n hlt
      cases e
      replace h0 := later HB.out h0
      replace h1 := later HB.out h1
      replace h2 := later HB.out h2
      have hv := HV.out.look n hlt
      generalize hlk : rd_T140 looks (n : Int) = lk at *
      obtain ⟨f0, f1, f2⟩ := lk
      obtain ⟨hv0, hv1, hv2, hv3⟩ := hv
      simp only at h0 h1 h2 hv0 hv1 hv2 hv3
      obtain ⟨h, rfl⟩ := Int.eq_ofNat_of_zero_le hv0
      have hh4 : h < 4 := by have := HV.out.n4; omega
      have hh4' : (h : Int) < 4 := by omega
      have HLK := Aside0.mk hlk
      clear hlk hv0 hv1
      have hmc : wr.cell? ⟨w1.heap.size, h, none⟩ = some (.int .i64 (mins hs hung d h)) := (blk_cell HT.out h).trans (get4 (mins hs hung d) h hh4)
      have hz2 : w1.heap.size < wr.heap.size := blk_lt HT.out
      cases hcn : out.contains (n : Int) with
      | true =>
        have HCN := Aside0.mk hcn
        clear hcn
        go_wp2_with fail
        go_quiet ((go_at_call 127; exact Calls.quiet_of (contains_q A _ c5 out n _ rfl (Kd.C_drewN (Kd.C_alloc (Kd.C_below HRO.out HB.out) _) _) HCO.out (by have := HO.out; omega) HCN.out)))
        go_wp2_with fail
        go_roundg (looks.length - (n + 1))
        case measure => have := HN.out; omega
        case rel =>
          refine ⟨n + 1, by go_num, ⟨by have := HN.out; omega⟩, ⟨fun i hi => ?_⟩, ⟨blk_drewN (blk_alloc HT.out _) _⟩, ⟨pw_below_drewN (below_alloc HB.out _) _⟩⟩
          by_cases hin : i < n
          · exact HA.out i hin
          · obtain rfl : i = n := by omega
            exact .inl HCN.out
      | false =>
        have HCN := Aside0.mk hcn
        clear hcn
        go_wp2_with fail
        go_quiet ((go_at_call 127; exact Calls.quiet_of (contains_q A _ c5 out n _ rfl (Kd.C_drewN (Kd.C_alloc (Kd.C_below HRO.out HB.out) _) _) HCO.out (by have := HO.out; omega) HCN.out)))
        go_wp2_with fail
        · have hx : (!f2 == decide (mins hs hung d h ≤ f1)) = true := by assumption
          go_ret
          refine ⟨?_, pw_below_drewN (below_alloc HB.out _) _⟩
          have hr : rightB hs hung looks d out = false := by
            unfold rightB
            refine decide_eq_false fun hall => ?_
            rcases hall n hlt with hc | hc
            · rw [HCN.out] at hc; cases hc
            · rw [HLK.out] at hc
              simp only [lookOk, Int.toNat_natCast] at hc
              rw [hc] at hx
              cases hx
          rw [hr]; rfl
        have hx : (!f2 == decide (mins hs hung d h ≤ f1)) = false := by assumption
        go_roundg (looks.length - (n + 1))
        case measure => have := HN.out; omega
        case rel =>
          refine ⟨n + 1, by go_num, ⟨by have := HN.out; omega⟩, ⟨fun i hi => ?_⟩, ⟨blk_drewN (blk_alloc HT.out _) _⟩, ⟨pw_below_drewN (below_alloc HB.out _) _⟩⟩
          by_cases hin : i < n
          · exact HA.out i hin
          · obtain rfl : i = n := by omega
            right
            rw [HLK.out]
            simp only [lookOk, Int.toNat_natCast]
            rwa [Bool.not_eq_false'] at hx
    · go_wp2_with fail
      go_ret
      have hr : rightB hs hung looks d out = true := by
        unfold rightB
        exact decide_eq_true fun i hi => HA.out i (by have := HN.out; omega)
      exact ⟨by rw [hr]; rfl, HB.out⟩
set_option maxHeartbeats 1000000 in
set_option maxRecDepth 100000 in
theorem isPlace_calls (cs cl : Int) (A2 A3 A4 A : Option Addr) (c2 c3 c4 c5 : Nat) (hs : List S139) (hung : List Int) (looks : List S140) (p : List Int) (w : World)
    (M : Mem w A2 A3 A4 c2 c3 c4 hs hung looks) (hrp : Kd.C (Kd.int .i64) w A p.length p) (hcp : p.length ≤ c5) (hp : p.length ≤ 1000) (hn : hs.length ≤ 1000) :
    Calls Try.prog 88 #[.agg #[.int .i64 cs, .int .i64 cl, .slice A2 hs.length c2, .slice A3 hung.length c3, .slice A4 looks.length c4], .slice A p.length c5] w
      fun e w' => e = .returned (.bool (placeB (wrap64 (cs - 1)) hs.length p)) ∧ Below w.heap.size w w' := by
  have HM := Aside0.mk M
  have HRP := Aside0.mk hrp
  have HCP := Aside0.mk hcp
  clear M hrp hcp
  by_cases he : p.length = hs.length
  · have he1 : (p.length == hs.length) = true := beq_iff_eq.2 he
    have he2 : ((p.length : Int) != (hs.length : Int)) = false := by rw [bne_eq_false_iff_eq]; omega
    have HE := Aside0.mk he
    clear he
    go_enter Try.func88, Try.ntmps88
    go_wp2_with fail
    go_loopg [15] p.length (fun k v wr => ∃ n : Nat, v = .int .i64 n ∧ Aside0 (n + k = p.length) ∧
      Aside0 (∀ i : Nat, i < n → 0 ≤ rd p i ∧ rd p i ≤ wrap64 (cs - 1) ∧ (p.take i).contains (rd p i) = false) ∧
      Aside0 (wr.heap[w.heap.size]? = some (.cells #[.int .i64 cs, .int .i64 cl, .slice A2 hs.length c2, .slice A3 hung.length c3, .slice A4 looks.length c4] 35 (0, 0))) ∧
      Aside0 (Below w.heap.size w wr))
    case atStart => exact ⟨0, rfl, ⟨by omega⟩, ⟨fun i hi => absurd hi (by omega)⟩, ⟨by refine blk_new_ ?_; simp⟩, ⟨below_alloc (Below.refl _ _) _⟩⟩
    case round =>
      obtain ⟨n, rfl, HN, HA, HC, HB⟩ := hrel
      by_cases hlt : n < p.length
      · obtain ⟨ad, e, hca⟩ := at_n HRP.out n hlt
        cases e
        replace hca := later HB.out hca
        have hc0 : wr.cell? ⟨w.heap.size, 0, none⟩ = some (.int .i64 cs) := (blk_cell HC.out 0).trans rfl
        have hc1 : wr.cell? ⟨w.heap.size, 1, none⟩ = some (.int .i64 cl) := (blk_cell HC.out 1).trans rfl
        have hc2 : wr.cell? ⟨w.heap.size, 2, none⟩ = some (.slice A2 hs.length c2) := (blk_cell HC.out 2).trans rfl
        have hc3 : wr.cell? ⟨w.heap.size, 3, none⟩ = some (.slice A3 hung.length c3) := (blk_cell HC.out 3).trans rfl
        have hc4 : wr.cell? ⟨w.heap.size, 4, none⟩ = some (.slice A4 looks.length c4) := (blk_cell HC.out 4).trans rfl
        have hno : ∀ i : Nat, i < p.length → ¬ (0 ≤ rd p i ∧ rd p i ≤ wrap64 (cs - 1) ∧ (p.take i).contains (rd p i) = false) → placeB (wrap64 (cs - 1)) hs.length p = false :=
          fun i hi h => decide_eq_false fun hall => h (hall.2 i hi)
        have HNO := Aside0.mk hno
        clear hno
        cases hin : decide (0 ≤ rd p n ∧ rd p n ≤ wrap64 (cs - 1)) with
        | false =>
          have HI := Aside0.mk hin
          clear hin
          go_wp2_with fail
          refine (closet_q cs cl (HM.out.later HB.out) _ HI.out).mono ?_
          rintro e w1 ⟨rfl, hb⟩
          have HB1 := Aside0.mk (below_step HB.out hb)
          clear hb
          go_wp2_with fail
          go_ret
          exact ⟨by rw [HNO.out n hlt (fun h => of_decide_eq_false HI.out ⟨h.1, h.2.1⟩)]; rfl, HB1.out⟩
        | true =>
          have HI := Aside0.mk hin
          clear hin
          have hle : (n : Int) ≤ (p.length : Int) := by omega
          have hle0 : (0 : Int) ≤ (n : Int) := by omega
          have hcc : n ≤ c5 := by have := HCP.out; omega
          have htl : (p.take n).length = n := by rw [List.length_take]; omega
          have HTL := Aside0.mk htl
          clear htl
          cases hcn : (p.take n).contains (rd p n) with
          | true =>
            have HCN := Aside0.mk hcn
            clear hcn
            go_wp2_with fail
            refine (closet_q cs cl (HM.out.later HB.out) _ HI.out).mono ?_
            rintro e w1 ⟨rfl, hb⟩
            have HB1 := Aside0.mk (below_step HB.out hb)
            clear hb
            go_wp2_with fail
            refine (contains_q _ n c5 (p.take n) _ _ HTL.out (take_C (Kd.C_below HRP.out HB1.out) n (by omega)) hcc (by omega) HCN.out).mono ?_
            rintro e w2 ⟨rfl, nd, rfl⟩
            go_wp2_with fail
            go_ret
            exact ⟨by rw [HNO.out n hlt (fun h => by rw [HCN.out] at h; exact absurd h.2.2 (by simp))]; rfl, pw_below_drewN HB1.out _⟩
          | false =>
            have HCN := Aside0.mk hcn
            clear hcn
            go_wp2_with fail
            refine (closet_q cs cl (HM.out.later HB.out) _ HI.out).mono ?_
            rintro e w1 ⟨rfl, hb⟩
            have HB1 := Aside0.mk (below_step HB.out hb)
            have HC1 := Aside0.mk (blk_below HC.out hb)
            clear hb
            go_wp2_with fail
            refine (contains_q _ n c5 (p.take n) _ _ HTL.out (take_C (Kd.C_below HRP.out HB1.out) n (by omega)) hcc (by omega) HCN.out).mono ?_
            rintro e w2 ⟨rfl, nd, rfl⟩
            go_wp2_with fail
            go_roundg (p.length - (n + 1))
            case measure => have := HN.out; omega
            case rel =>
              refine ⟨n + 1, by go_num, ⟨by have := HN.out; omega⟩, ⟨fun i hi => ?_⟩, ⟨blk_drewN HC1.out _⟩, ⟨pw_below_drewN HB1.out _⟩⟩
              by_cases hin : i < n
              · exact HA.out i hin
              · obtain rfl : i = n := by omega
                have h := of_decide_eq_true HI.out
                exact ⟨h.1, h.2, HCN.out⟩
      · go_wp2_with fail
        go_ret
        have hr : placeB (wrap64 (cs - 1)) hs.length p = true := decide_eq_true ⟨HE.out, fun i hi => HA.out i (by have := HN.out; omega)⟩
        exact ⟨by rw [hr]; rfl, HB.out⟩
  · have he1 : (p.length == hs.length) = false := beq_eq_false_iff_ne.2 he
    have he2 : ((p.length : Int) != (hs.length : Int)) = true := by rw [bne_iff_ne]; omega
    have hr : placeB (wrap64 (cs - 1)) hs.length p = false := decide_eq_false fun h => he h.1
    have HR := Aside0.mk hr
    clear he hr
    go_enter Try.func88, Try.ntmps88
    go_wp2_with fail
    go_ret
    exact ⟨by rw [HR.out]; rfl, below_alloc (Below.refl _ _) _⟩
end Go.Proofs.Ytokhmghgghjmhaa.Q
namespace Go.Proofs.Ytokhmghgghjmhaa.Q
open Go.RowKit Go.Proofs.YtokhmghgghjmhaaW.PrintWords Go.Proofs.YtokhmghgghjmhaaW.PrintLast Go.Proofs.YtokhmghgghjmhaaW.PrintMore
attribute [local go_sem] max2_int min2_int max_two min_two
set_option linter.unusedVariables false
set_option maxHeartbeats 1000000 in
set_option maxRecDepth 100000 in
theorem min2_calls (ad : Addr) (a b : Int) (c : Nat) (w : World) (h0 : w.cell? ad = some (.int .i64 a)) (h1 : w.cell? ⟨ad.block, ad.off + 1, none⟩ = some (.int .i64 b)) :
    Calls Try.prog 147 #[.slice (some ad) 2 c] w fun e w' => e = .returned (.int .i64 (mn a b)) ∧ w = w' := by
  go_enter Try.func147, Try.ntmps147
  go_wp2_with fail
  go_loopg [3, 4] 1 (fun k v i wr => Aside0 (wr = w) ∧ ((k = 1 ∧ v = .int .i64 a ∧ i = .int .i64 1) ∨ (k = 0 ∧ v = .int .i64 (mn a b) ∧ i = .int .i64 2)))
  case atStart => exact ⟨⟨rfl⟩, .inl ⟨rfl, rfl, rfl⟩⟩
  case round =>
    obtain ⟨HW, h⟩ := hrel
    obtain rfl := HW.out
    clear HW
    rcases h with ⟨rfl, rfl, rfl⟩ | ⟨rfl, rfl, rfl⟩
    · by_cases hab : b < a
      · have hm : mn a b = b := by unfold mn; rw [if_pos hab]
        have HM := Aside0.mk hm
        clear hm
        go_wp2_with fail
        go_roundg 0
        case measure => omega
        case rel => exact ⟨⟨rfl⟩, .inr ⟨rfl, by rw [HM.out], rfl⟩⟩
      · have hm : mn a b = a := by unfold mn; rw [if_neg hab]
        have HM := Aside0.mk hm
        clear hm
        go_wp2_with fail
        go_roundg 0
        case measure => omega
        case rel => exact ⟨⟨rfl⟩, .inr ⟨rfl, by rw [HM.out], rfl⟩⟩
    · go_wp2_with fail
      go_ret
      exact ⟨rfl, rfl⟩
set_option maxHeartbeats 1000000 in
set_option maxRecDepth 100000 in
theorem minimum_calls (ad : Addr) (a b : Int) (c : Nat) (w : World) (h0 : w.cell? ad = some (.int .i64 a)) (h1 : w.cell? ⟨ad.block, ad.off + 1, none⟩ = some (.int .i64 b)) :
    Calls Try.prog 129 #[.slice (some ad) 2 c] w fun e w' => e = .returned (.int .i64 (mn a b)) ∧ w = w' := by
  go_enter Try.func129, Try.ntmps129
  go_wp2_with (go_at_call 147; refine (min2_calls ad a b c _ h0 h1).mono ?_; rintro e w' ⟨rfl, rfl⟩)
  go_ret
  exact ⟨rfl, rfl⟩
set_option maxHeartbeats 1000000 in
set_option maxRecDepth 100000 in
theorem wider_calls (lo hi n : Int) (w : World) :
    Calls Try.prog 143 #[.agg #[.int .i64 lo, .int .i64 hi], .int .i64 n] w fun e w' => e = .returned (.agg #[.int .i64 (mn lo n), .int .i64 (mx hi n)]) ∧ Below w.heap.size w w' := by
  go_enter Try.func143, Try.ntmps143
  go_wp2_with fail
  have c0 : ((w.alloc (.cells #[.int .i64 lo, .int .i64 hi] 61)).alloc (.cells #[.int .i64 0, .int .i64 0] 61)).cell? ⟨w.heap.size, 0, none⟩ = some (.int .i64 lo) := by go_simp
  have c1 : ((w.alloc (.cells #[.int .i64 lo, .int .i64 hi] 61)).alloc (.cells #[.int .i64 0, .int .i64 0] 61)).cell? ⟨w.heap.size, 1, none⟩ = some (.int .i64 hi) := by go_simp
  by_cases hx : hi < n
  · have hm : mx hi n = n := by unfold mx; rw [if_pos hx]
    have HM := Aside0.mk hm
    clear hm
    go_region_held3 (fun w' => w'.cell? ⟨w.heap.size, 0, none⟩ = some (.int .i64 lo) ∧ w'.cell? ⟨w.heap.size, 1, none⟩ = some (.int .i64 hi)) (go_keep)
      (first | (go_at_call 129; refine (minimum_calls ⟨w.heap.size + 1 + 1, 0, none⟩ lo n 2 _ (by go_simp) (by go_simp)).mono ?_; rintro e w' ⟨rfl, rfl⟩))
    all_goals
      go_wp2_with fail
      refine bodyPost_ret (results_cell_row rfl _ _ (w.heap.size + 1) 61 _ (0, 0) _ rfl (blk_drew (by repeat (first | (refine blk_new_ ?_; simp; done) | refine blk_alloc ?_ _))) Try.underlying61 rfl (by kernel_rfl)) rfl ⟨?_, ?_⟩
      · rw [HM.out]
      · exact below_drew (by repeat (first | exact Below.refl _ _ | apply below_alloc))
  · have hm : mx hi n = hi := by unfold mx; rw [if_neg hx]
    have HM := Aside0.mk hm
    clear hm
    go_region_held3 (fun w' => w'.cell? ⟨w.heap.size, 0, none⟩ = some (.int .i64 lo) ∧ w'.cell? ⟨w.heap.size, 1, none⟩ = some (.int .i64 hi)) (go_keep)
      (first | (go_at_call 129; refine (minimum_calls ⟨w.heap.size + 1 + 1, 0, none⟩ lo n 2 _ (by go_simp) (by go_simp)).mono ?_; rintro e w' ⟨rfl, rfl⟩))
    all_goals
      go_wp2_with fail
      refine bodyPost_ret (results_cell_row rfl _ _ (w.heap.size + 1) 61 _ (0, 0) _ rfl (blk_drew (by repeat (first | (refine blk_new_ ?_; simp; done) | refine blk_alloc ?_ _))) Try.underlying61 rfl (by kernel_rfl)) rfl ⟨?_, ?_⟩
      · rw [HM.out]
      · exact below_drew (by repeat (first | exact Below.refl _ _ | apply below_alloc))
end Go.Proofs.Ytokhmghgghjmhaa.Q
namespace Go.Proofs.Ytokhmghgghjmhaa.Q
open Go.RowKit Go.Proofs.YtokhmghgghjmhaaW.PrintWords Go.Proofs.YtokhmghgghjmhaaW.PrintLast Go.Proofs.YtokhmghgghjmhaaW.PrintMore
attribute [local go_sem] max2_int min2_int max_two min_two
set_option linter.unusedVariables false
set_option maxHeartbeats 2000000 in
set_option maxRecDepth 100000 in
theorem bounds_from (w : World) (g : Nat) (r : Option Nat) (cs cl : Int) (A2 A3 A4 AT A : Option Addr) (c2 c3 c4 cT c1 : Nat) (hs : List S139) (hung : List Int) (looks : List S140) (ts : List (Nat → Int)) (p : List Int) (k : Nat)
    (V : Valid cs cl hs hung looks) (W : Work w g r cs cl A2 A3 A4 AT c2 c3 c4 cT hs hung looks ts) (hrp : Kd.C (Kd.int .i64) w A p.length p) (hp : placeB (cs - 1) hs.length p = true)
    (hk : k < hs.length) (hts : ts ≠ []) (hT : Small ts) (hl : ts.length ≤ 100000) :
    Calls Try.prog 120 #[.agg #[.func (.func 119) #[] #[]], .pointer (some ⟨g, 0, none⟩), .slice A p.length c1, .int .i64 k] w
      fun e w' => e = .returned (.agg #[.int .i64 (bnd (qv false hs p k) ts).1, .int .i64 (bnd (qv false hs p k) ts).2]) ∧ Below w.heap.size w w' := by
  have hp' := of_decide_eq_true hp
  have HV := Aside0.mk V
  have HW := Aside0.mk W
  have HRP := Aside0.mk hrp
  have HP := Aside0.mk hp'
  have HT := Aside0.mk hT
  have HTS := Aside0.mk hts
  have hgz : g < w.heap.size := blk_lt W.blk
  obtain ⟨k0, k1, k2, k3, k4, k5, k6⟩ := W.cells
  clear V W hrp hp hp' hT hts
  go_enter Try.func120, Try.ntmps120
  go_wp2_with fail
  go_loopg [17] ts.length (fun kq v wr => ∃ n : Nat, v = .int .i64 n ∧ Aside0 (n + kq = ts.length) ∧
    Aside0 (wr.heap[w.heap.size]? = some (.cells #[.func (.func 119) #[] #[]] 181 (0, 0))) ∧
    Aside0 (∃ lo hi : Int, wr.heap[w.heap.size + 1]? = some (.cells #[.int .i64 lo, .int .i64 hi] 61 (0, 0)) ∧ (lo, hi) = bnd (qv false hs p k) (ts.take n)) ∧
    Aside0 (Below w.heap.size w wr))
  case atStart =>
    exact ⟨0, rfl, ⟨by omega⟩, ⟨by repeat (first | (refine blk_new_ ?_; simp; done) | refine blk_alloc ?_ _)⟩, ⟨0, 0, by repeat (first | (refine blk_new_ ?_; simp; done) | refine blk_alloc ?_ _), rfl⟩, ⟨by repeat (first | exact Below.refl _ _ | apply below_alloc)⟩⟩
  case round =>
    obtain ⟨n, rfl, HN, HF, HR, HB⟩ := hrel
    obtain ⟨lo, hi, hbr, hbd⟩ := HR.out
    clear HR
    have HR := Aside0.mk hbr
    have HBD := Aside0.mk hbd
    clear hbd hbr
    by_cases hlt : n < ts.length
    · obtain ⟨adt, et, ht0, ht1, ht2, ht3⟩ := at_N HW.out.tr n hlt
      cases et
      replace ht0 := later HB.out ht0
      replace ht1 := later HB.out ht1
      replace ht2 := later HB.out ht2
      replace ht3 := later HB.out ht3
      obtain ⟨adh, eh, hh0, hh1, hh2, hh3⟩ := at_h HW.out.mem.h2 k hk
      cases eh
      replace hh0 := later HB.out hh0
      replace hh1 := later HB.out hh1
      replace hh2 := later HB.out hh2
      replace hh3 := later HB.out hh3
      replace k0 := later HB.out k0
      replace k1 := later HB.out k1
      replace k2 := later HB.out k2
      replace k3 := later HB.out k3
      replace k4 := later HB.out k4
      have hq : wr.cell? ⟨w.heap.size, 0, none⟩ = some (.func (.func 119) #[] #[]) := (blk_cell HF.out 0).trans rfl
      have hk4 : k < 4 := by have := HV.out.n4; omega
      have hidx := index4 (mins hs p (rdN ts n)) k hk4
      have hk0 : (0 : Int) ≤ (k : Int) := by omega
      have hk1 : (k : Int) < (hs.length : Int) := by omega
      have hz1 : g < wr.heap.size := by have := HB.out.size; omega
      have hz2 : w.heap.size < wr.heap.size := blk_lt HF.out
      go_wp2_with fail
      go_region_held3 (fun w' => w'.cell? ⟨w.heap.size, 0, none⟩ = some (.func (.func 119) #[] #[]) ∧ w'.cell? ⟨g, 0, none⟩ = some (.int .i64 cs) ∧ w'.cell? ⟨g, 1, none⟩ = some (.int .i64 cl) ∧ w'.cell? ⟨g, 2, none⟩ = some (.slice (some adh) hs.length c2) ∧
          w'.cell? ⟨g, 3, none⟩ = some (.slice A3 hung.length c3) ∧ w'.cell? ⟨g, 4, none⟩ = some (.slice A4 looks.length c4) ∧
          w'.cell? (adh.add (k * 4)) = some (.int .i64 (rd_T139 hs k).f0.f0) ∧ w'.cell? ⟨(adh.add (k * 4)).block, (adh.add (k * 4)).off + 1, none⟩ = some (.int .i64 (rd_T139 hs k).f0.f1) ∧
          w'.cell? ⟨(adh.add (k * 4)).block, (adh.add (k * 4)).off + 2, none⟩ = some (.int .i64 (rd_T139 hs k).f1) ∧ w'.cell? ⟨(adh.add (k * 4)).block, (adh.add (k * 4)).off + 3, none⟩ = some (.int .i64 (rd_T139 hs k).f2) ∧
          w'.cell? ⟨wr.heap.size, 0, none⟩ = some (.int .i64 (rdN ts n 0)) ∧ w'.cell? ⟨wr.heap.size, 1, none⟩ = some (.int .i64 (rdN ts n 1)) ∧ w'.cell? ⟨wr.heap.size, 2, none⟩ = some (.int .i64 (rdN ts n 2)) ∧ w'.cell? ⟨wr.heap.size, 3, none⟩ = some (.int .i64 (rdN ts n 3)))
        (first
          | go_keep
          | (go_split_ands
             refine ⟨?_, ?_, ?_, ?_, ?_, ?_, ?_, ?_, ?_, ?_, ?_, ?_, ?_, ?_⟩
             all_goals first | exact later hbb (by assumption) | exact later hba (by assumption)))
        (first
          | (go_at_call 99; refine (minutes_calls cs cl _ A3 A4 A hung.length looks.length c2 c3 c4 c1 hs p (rdN ts n) _ (Kd.C_below HW.out.mem.h2 (by repeat (first | exact HB.out | apply below_alloc | apply below_drew))) (Kd.C_below HRP.out (by repeat (first | exact HB.out | apply below_alloc | apply below_drew))) HP.out.1 HV.out.n4 (fun i hi => ⟨(HP.out.2 i hi).1, by have := (HP.out.2 i hi).2.1; have := HV.out.c4; omega⟩) HV.out.wet (HT.out n)).mono ?_; rintro e wa ⟨rfl, hba⟩)
          | (go_at_call 119; refine (closet_Horse_from.calls _ _ _ _ _ _ _ rfl).mono ?_; rintro e wb ⟨rfl, hbb⟩))
      have HBW := Aside0.mk (below_step (below_step (by repeat (first | exact Below.refl _ _ | apply below_alloc | apply below_drew) : Below wr.heap.size wr _) hba) hbb)
      have HB2 := Aside0.mk (below_step HB.out HBW.out)
      have HR2 := Aside0.mk (blk_below HR.out HBW.out)
      have HF2 := Aside0.mk (blk_below HF.out HBW.out)
      clear hba hbb HB HR HF HBW hidx hh0 hh1 hh2 hh3 ht0 ht1 ht2 ht3 k0 k1 k2 k3 k4 hq
      have hz3 : w.heap.size + 1 < wb.heap.size := blk_lt HR2.out
      have hx0 : wb.cell? ⟨w.heap.size + 1, 0, none⟩ = some (.int .i64 lo) := (blk_cell HR2.out 0).trans rfl
      have hx1 : wb.cell? ⟨w.heap.size + 1, 1, none⟩ = some (.int .i64 hi) := (blk_cell HR2.out 1).trans rfl
      have hy0 := blk_frozen HR2.out 0
      have hy1 := blk_frozen HR2.out 1
      by_cases hn0 : n = 0
      · have hn1 : ((n : Int) == 0) = true := by rw [beq_iff_eq]; omega
        have HN0 := Aside0.mk hn0
        clear hn0
        go_wp2_with fail
        refine (wider_calls _ _ _ _).mono ?_
        rintro e wc ⟨rfl, hbc⟩
        have HB3 := Aside0.mk (below_step ((HB2.out.setCell (by simp) _).setCell (by simp) _) hbc)
        have HR3 := Aside0.mk (blk_below (blk_put (blk_put HR2.out 0 _ rfl) 1 _ rfl) hbc)
        have HF3 := Aside0.mk (blk_below (blk_far (blk_far HF2.out (by simp) _) (by simp) _) hbc)
        clear hbc HB2 HR2 HF2
        have hx0 : wc.cell? ⟨w.heap.size + 1, 0, none⟩ = some (.int .i64 (mins hs p (rdN ts n) k)) := (blk_cell HR3.out 0).trans rfl
        have hx1 : wc.cell? ⟨w.heap.size + 1, 1, none⟩ = some (.int .i64 (mins hs p (rdN ts n) k)) := (blk_cell HR3.out 1).trans rfl
        have hy0 := blk_frozen HR3.out 0
        have hy1 := blk_frozen HR3.out 1
        go_wp2_with fail
        go_roundg (ts.length - (n + 1))
        case measure => have := HN.out; omega
        case rel =>
          refine ⟨n + 1, by go_num, ⟨by have := HN.out; omega⟩, ⟨blk_far (blk_far HF3.out (by simp) _) (by simp) _⟩, ⟨_, _, blk_put (blk_put HR3.out 0 _ rfl) 1 _ rfl, ?_⟩, ⟨(HB3.out.setCell (by simp) _).setCell (by simp) _⟩⟩
          rw [take_snocN ts n hlt]
          have : ts.take n = [] := by rw [HN0.out]; rfl
          rw [this]
          simp [bnd, qv, mn, mx]
      · have hn1 : ((n : Int) == 0) = false := by rw [beq_eq_false_iff_ne]; omega
        have HN0 := Aside0.mk hn0
        clear hn0
        go_wp2_with fail
        refine (wider_calls _ _ _ _).mono ?_
        rintro e wc ⟨rfl, hbc⟩
        have HB3 := Aside0.mk (below_step HB2.out hbc)
        have HR3 := Aside0.mk (blk_below (HR2.out) hbc)
        have HF3 := Aside0.mk (blk_below (HF2.out) hbc)
        clear hbc HB2 HR2 HF2
        have hx0 : wc.cell? ⟨w.heap.size + 1, 0, none⟩ = some (.int .i64 lo) := (blk_cell HR3.out 0).trans rfl
        have hx1 : wc.cell? ⟨w.heap.size + 1, 1, none⟩ = some (.int .i64 hi) := (blk_cell HR3.out 1).trans rfl
        have hy0 := blk_frozen HR3.out 0
        have hy1 := blk_frozen HR3.out 1
        go_wp2_with fail
        go_roundg (ts.length - (n + 1))
        case measure => have := HN.out; omega
        case rel =>
          refine ⟨n + 1, by go_num, ⟨by have := HN.out; omega⟩, ⟨blk_far (blk_far HF3.out (by simp) _) (by simp) _⟩, ⟨_, _, blk_put (blk_put HR3.out 0 _ rfl) 1 _ rfl, ?_⟩, ⟨(HB3.out.setCell (by simp) _).setCell (by simp) _⟩⟩
          rw [take_snocN ts n hlt]
          rw [bnd_snoc _ _ _ (by intro h; have := congrArg List.length h; rw [List.length_take] at this; simp at this; rcases this with h | h; exact HN0.out h; exact HTS.out h), ← HBD.out]
          rfl
    · have hx0 : wr.cell? ⟨w.heap.size + 1, 0, none⟩ = some (.int .i64 lo) := (blk_cell HR.out 0).trans rfl
      have hx1 : wr.cell? ⟨w.heap.size + 1, 1, none⟩ = some (.int .i64 hi) := (blk_cell HR.out 1).trans rfl
      have hy0 := blk_frozen HR.out 0
      have hy1 := blk_frozen HR.out 1
      go_wp2_with fail
      refine bodyPost_ret (results_cell_row rfl _ _ (w.heap.size + 1) 61 _ (0, 0) _ rfl (blk_put (blk_put HR.out 0 _ rfl) 1 _ rfl) Try.underlying61 rfl (by kernel_rfl)) rfl ⟨?_, (HB.out.setCell (by simp) _).setCell (by simp) _⟩
      have e : bnd (qv false hs p k) ts = (lo, hi) := by rw [HBD.out, List.take_of_length_le (by have := HN.out; omega)]
      rw [e]; rfl
set_option maxHeartbeats 2000000 in
set_option maxRecDepth 100000 in
theorem bounds_to (w : World) (g : Nat) (r : Option Nat) (cs cl : Int) (A2 A3 A4 AT A : Option Addr) (c2 c3 c4 cT c1 : Nat) (hs : List S139) (hung : List Int) (looks : List S140) (ts : List (Nat → Int)) (p : List Int) (k : Nat)
    (V : Valid cs cl hs hung looks) (W : Work w g r cs cl A2 A3 A4 AT c2 c3 c4 cT hs hung looks ts) (hrp : Kd.C (Kd.int .i64) w A p.length p) (hp : placeB (cs - 1) hs.length p = true)
    (hk : k < hs.length) (hts : ts ≠ []) (hT : Small ts) (hl : ts.length ≤ 100000) :
    Calls Try.prog 120 #[.agg #[.func (.func 130) #[] #[]], .pointer (some ⟨g, 0, none⟩), .slice A p.length c1, .int .i64 k] w
      fun e w' => e = .returned (.agg #[.int .i64 (bnd (qv true hs p k) ts).1, .int .i64 (bnd (qv true hs p k) ts).2]) ∧ Below w.heap.size w w' := by
  have hp' := of_decide_eq_true hp
  have HV := Aside0.mk V
  have HW := Aside0.mk W
  have HRP := Aside0.mk hrp
  have HP := Aside0.mk hp'
  have HT := Aside0.mk hT
  have HTS := Aside0.mk hts
  have hgz : g < w.heap.size := blk_lt W.blk
  obtain ⟨k0, k1, k2, k3, k4, k5, k6⟩ := W.cells
  clear V W hrp hp hp' hT hts
  go_enter Try.func120, Try.ntmps120
  go_wp2_with fail
  go_loopg [17] ts.length (fun kq v wr => ∃ n : Nat, v = .int .i64 n ∧ Aside0 (n + kq = ts.length) ∧
    Aside0 (wr.heap[w.heap.size]? = some (.cells #[.func (.func 130) #[] #[]] 181 (0, 0))) ∧
    Aside0 (∃ lo hi : Int, wr.heap[w.heap.size + 1]? = some (.cells #[.int .i64 lo, .int .i64 hi] 61 (0, 0)) ∧ (lo, hi) = bnd (qv true hs p k) (ts.take n)) ∧
    Aside0 (Below w.heap.size w wr))
  case atStart =>
    exact ⟨0, rfl, ⟨by omega⟩, ⟨by repeat (first | (refine blk_new_ ?_; simp; done) | refine blk_alloc ?_ _)⟩, ⟨0, 0, by repeat (first | (refine blk_new_ ?_; simp; done) | refine blk_alloc ?_ _), rfl⟩, ⟨by repeat (first | exact Below.refl _ _ | apply below_alloc)⟩⟩
  case round =>
    obtain ⟨n, rfl, HN, HF, HR, HB⟩ := hrel
    obtain ⟨lo, hi, hbr, hbd⟩ := HR.out
    clear HR
    have HR := Aside0.mk hbr
    have HBD := Aside0.mk hbd
    clear hbd hbr
    by_cases hlt : n < ts.length
    · obtain ⟨adt, et, ht0, ht1, ht2, ht3⟩ := at_N HW.out.tr n hlt
      cases et
      replace ht0 := later HB.out ht0
      replace ht1 := later HB.out ht1
      replace ht2 := later HB.out ht2
      replace ht3 := later HB.out ht3
      obtain ⟨adh, eh, hh0, hh1, hh2, hh3⟩ := at_h HW.out.mem.h2 k hk
      cases eh
      replace hh0 := later HB.out hh0
      replace hh1 := later HB.out hh1
      replace hh2 := later HB.out hh2
      replace hh3 := later HB.out hh3
      replace k0 := later HB.out k0
      replace k1 := later HB.out k1
      replace k2 := later HB.out k2
      replace k3 := later HB.out k3
      replace k4 := later HB.out k4
      have hq : wr.cell? ⟨w.heap.size, 0, none⟩ = some (.func (.func 130) #[] #[]) := (blk_cell HF.out 0).trans rfl
      have hk4 : k < 4 := by have := HV.out.n4; omega
      have hidx := index4 (mins hs p (rdN ts n)) k hk4
      have hk0 : (0 : Int) ≤ (k : Int) := by omega
      have hk1 : (k : Int) < (hs.length : Int) := by omega
      have hz1 : g < wr.heap.size := by have := HB.out.size; omega
      have hz2 : w.heap.size < wr.heap.size := blk_lt HF.out
      have hto : closet_Horse_to.f (rd_T139 hs k).f0.f0 (rd_T139 hs k).f0.f1 (rd_T139 hs k).f1 (rd_T139 hs k).f2 (mins hs p (rdN ts n) k) = some (mins hs p (rdN ts n) k + (rd_T139 hs k).f2) := by
        have h1 := mins_bd HV.out.wet p (rdN ts n) HP.out.1 HV.out.n4 (HT.out n) k
        have h2 := HV.out.grace k hk
        unfold closet_Horse_to.f
        rw [IntWalk.wrap64_in _ ⟨by omega, by omega⟩]
      have HTO := Aside0.mk hto
      clear hto
      go_wp2_with fail
      go_region_held3 (fun w' => w'.cell? ⟨w.heap.size, 0, none⟩ = some (.func (.func 130) #[] #[]) ∧ w'.cell? ⟨g, 0, none⟩ = some (.int .i64 cs) ∧ w'.cell? ⟨g, 1, none⟩ = some (.int .i64 cl) ∧ w'.cell? ⟨g, 2, none⟩ = some (.slice (some adh) hs.length c2) ∧
          w'.cell? ⟨g, 3, none⟩ = some (.slice A3 hung.length c3) ∧ w'.cell? ⟨g, 4, none⟩ = some (.slice A4 looks.length c4) ∧
          w'.cell? (adh.add (k * 4)) = some (.int .i64 (rd_T139 hs k).f0.f0) ∧ w'.cell? ⟨(adh.add (k * 4)).block, (adh.add (k * 4)).off + 1, none⟩ = some (.int .i64 (rd_T139 hs k).f0.f1) ∧
          w'.cell? ⟨(adh.add (k * 4)).block, (adh.add (k * 4)).off + 2, none⟩ = some (.int .i64 (rd_T139 hs k).f1) ∧ w'.cell? ⟨(adh.add (k * 4)).block, (adh.add (k * 4)).off + 3, none⟩ = some (.int .i64 (rd_T139 hs k).f2) ∧
          w'.cell? ⟨wr.heap.size, 0, none⟩ = some (.int .i64 (rdN ts n 0)) ∧ w'.cell? ⟨wr.heap.size, 1, none⟩ = some (.int .i64 (rdN ts n 1)) ∧ w'.cell? ⟨wr.heap.size, 2, none⟩ = some (.int .i64 (rdN ts n 2)) ∧ w'.cell? ⟨wr.heap.size, 3, none⟩ = some (.int .i64 (rdN ts n 3)))
        (first
          | go_keep
          | (go_split_ands
             refine ⟨?_, ?_, ?_, ?_, ?_, ?_, ?_, ?_, ?_, ?_, ?_, ?_, ?_, ?_⟩
             all_goals first | exact later hbb (by assumption) | exact later hba (by assumption)))
        (first
          | (go_at_call 99; refine (minutes_calls cs cl _ A3 A4 A hung.length looks.length c2 c3 c4 c1 hs p (rdN ts n) _ (Kd.C_below HW.out.mem.h2 (by repeat (first | exact HB.out | apply below_alloc | apply below_drew))) (Kd.C_below HRP.out (by repeat (first | exact HB.out | apply below_alloc | apply below_drew))) HP.out.1 HV.out.n4 (fun i hi => ⟨(HP.out.2 i hi).1, by have := (HP.out.2 i hi).2.1; have := HV.out.c4; omega⟩) HV.out.wet (HT.out n)).mono ?_; rintro e wa ⟨rfl, hba⟩)
          | (go_at_call 130; refine (closet_Horse_to.calls _ _ _ _ _ (mins hs p (rdN ts n) k + (rd_T139 hs k).f2) _ HTO.out).mono ?_; rintro e wb ⟨rfl, hbb⟩))
      have HBW := Aside0.mk (below_step (below_step (by repeat (first | exact Below.refl _ _ | apply below_alloc | apply below_drew) : Below wr.heap.size wr _) hba) hbb)
      have HB2 := Aside0.mk (below_step HB.out HBW.out)
      have HR2 := Aside0.mk (blk_below HR.out HBW.out)
      have HF2 := Aside0.mk (blk_below HF.out HBW.out)
      clear hba hbb HB HR HF HBW hidx hh0 hh1 hh2 hh3 ht0 ht1 ht2 ht3 k0 k1 k2 k3 k4 hq
      have hz3 : w.heap.size + 1 < wb.heap.size := blk_lt HR2.out
      have hx0 : wb.cell? ⟨w.heap.size + 1, 0, none⟩ = some (.int .i64 lo) := (blk_cell HR2.out 0).trans rfl
      have hx1 : wb.cell? ⟨w.heap.size + 1, 1, none⟩ = some (.int .i64 hi) := (blk_cell HR2.out 1).trans rfl
      have hy0 := blk_frozen HR2.out 0
      have hy1 := blk_frozen HR2.out 1
      by_cases hn0 : n = 0
      · have hn1 : ((n : Int) == 0) = true := by rw [beq_iff_eq]; omega
        have HN0 := Aside0.mk hn0
        clear hn0
        go_wp2_with fail
        refine (wider_calls _ _ _ _).mono ?_
        rintro e wc ⟨rfl, hbc⟩
        have HB3 := Aside0.mk (below_step ((HB2.out.setCell (by simp) _).setCell (by simp) _) hbc)
        have HR3 := Aside0.mk (blk_below (blk_put (blk_put HR2.out 0 _ rfl) 1 _ rfl) hbc)
        have HF3 := Aside0.mk (blk_below (blk_far (blk_far HF2.out (by simp) _) (by simp) _) hbc)
        clear hbc HB2 HR2 HF2
        have hx0 : wc.cell? ⟨w.heap.size + 1, 0, none⟩ = some (.int .i64 (mins hs p (rdN ts n) k + (rd_T139 hs k).f2)) := (blk_cell HR3.out 0).trans rfl
        have hx1 : wc.cell? ⟨w.heap.size + 1, 1, none⟩ = some (.int .i64 (mins hs p (rdN ts n) k + (rd_T139 hs k).f2)) := (blk_cell HR3.out 1).trans rfl
        have hy0 := blk_frozen HR3.out 0
        have hy1 := blk_frozen HR3.out 1
        go_wp2_with fail
        go_roundg (ts.length - (n + 1))
        case measure => have := HN.out; omega
        case rel =>
          refine ⟨n + 1, by go_num, ⟨by have := HN.out; omega⟩, ⟨blk_far (blk_far HF3.out (by simp) _) (by simp) _⟩, ⟨_, _, blk_put (blk_put HR3.out 0 _ rfl) 1 _ rfl, ?_⟩, ⟨(HB3.out.setCell (by simp) _).setCell (by simp) _⟩⟩
          rw [take_snocN ts n hlt]
          have : ts.take n = [] := by rw [HN0.out]; rfl
          rw [this]
          simp [bnd, qv, mn, mx]
      · have hn1 : ((n : Int) == 0) = false := by rw [beq_eq_false_iff_ne]; omega
        have HN0 := Aside0.mk hn0
        clear hn0
        go_wp2_with fail
        refine (wider_calls _ _ _ _).mono ?_
        rintro e wc ⟨rfl, hbc⟩
        have HB3 := Aside0.mk (below_step HB2.out hbc)
        have HR3 := Aside0.mk (blk_below (HR2.out) hbc)
        have HF3 := Aside0.mk (blk_below (HF2.out) hbc)
        clear hbc HB2 HR2 HF2
        have hx0 : wc.cell? ⟨w.heap.size + 1, 0, none⟩ = some (.int .i64 lo) := (blk_cell HR3.out 0).trans rfl
        have hx1 : wc.cell? ⟨w.heap.size + 1, 1, none⟩ = some (.int .i64 hi) := (blk_cell HR3.out 1).trans rfl
        have hy0 := blk_frozen HR3.out 0
        have hy1 := blk_frozen HR3.out 1
        go_wp2_with fail
        go_roundg (ts.length - (n + 1))
        case measure => have := HN.out; omega
        case rel =>
          refine ⟨n + 1, by go_num, ⟨by have := HN.out; omega⟩, ⟨blk_far (blk_far HF3.out (by simp) _) (by simp) _⟩, ⟨_, _, blk_put (blk_put HR3.out 0 _ rfl) 1 _ rfl, ?_⟩, ⟨(HB3.out.setCell (by simp) _).setCell (by simp) _⟩⟩
          rw [take_snocN ts n hlt]
          rw [bnd_snoc _ _ _ (by intro h; have := congrArg List.length h; rw [List.length_take] at this; simp at this; rcases this with h | h; exact HN0.out h; exact HTS.out h), ← HBD.out]
          rfl
    · have hx0 : wr.cell? ⟨w.heap.size + 1, 0, none⟩ = some (.int .i64 lo) := (blk_cell HR.out 0).trans rfl
      have hx1 : wr.cell? ⟨w.heap.size + 1, 1, none⟩ = some (.int .i64 hi) := (blk_cell HR.out 1).trans rfl
      have hy0 := blk_frozen HR.out 0
      have hy1 := blk_frozen HR.out 1
      go_wp2_with fail
      refine bodyPost_ret (results_cell_row rfl _ _ (w.heap.size + 1) 61 _ (0, 0) _ rfl (blk_put (blk_put HR.out 0 _ rfl) 1 _ rfl) Try.underlying61 rfl (by kernel_rfl)) rfl ⟨?_, (HB.out.setCell (by simp) _).setCell (by simp) _⟩
      have e : bnd (qv true hs p k) ts = (lo, hi) := by rw [HBD.out, List.take_of_length_le (by have := HN.out; omega)]
      rw [e]; rfl
end Go.Proofs.Ytokhmghgghjmhaa.Q
namespace Go.Proofs.Ytokhmghgghjmhaa.Q
open Go.RowKit Go.Proofs.YtokhmghgghjmhaaW.PrintWords Go.Proofs.YtokhmghgghjmhaaW.PrintLast Go.Proofs.YtokhmghgghjmhaaW.PrintMore
attribute [local go_sem] max2_int min2_int max_two min_two
set_option linter.unusedVariables false
/-- The good minutes of a horse: from the greatest dry minute to the least one in which it may scorch. -/
def goodLo (hs : List S139) (p : List Int) (ts : List (Nat → Int)) (k : Nat) : Int := (bnd (qv false hs p k) ts).2
def goodHi (cl : Int) (hs : List S139) (p : List Int) (ts : List (Nat → Int)) (k : Nat) : Int := mn cl (bnd (qv true hs p k) ts).1
theorem bounds_any (fq : Nat) (w : World) (g : Nat) (r : Option Nat) (cs cl : Int) (A2 A3 A4 AT A : Option Addr) (c2 c3 c4 cT c1 : Nat) (hs : List S139) (hung : List Int) (looks : List S140) (ts : List (Nat → Int)) (p : List Int) (k : Nat) (hq : fq = 119 ∨ fq = 130)
    (V : Valid cs cl hs hung looks) (W : Work w g r cs cl A2 A3 A4 AT c2 c3 c4 cT hs hung looks ts) (hrp : Kd.C (Kd.int .i64) w A p.length p) (hp : placeB (cs - 1) hs.length p = true)
    (hk : k < hs.length) (hts : ts ≠ []) (hT : Small ts) (hl : ts.length ≤ 100000) :
    Calls Try.prog 120 #[.agg #[.func (.func fq) #[] #[]], .pointer (some ⟨g, 0, none⟩), .slice A p.length c1, .int .i64 k] w
      fun e w' => e = .returned (.agg #[.int .i64 (bnd (qv (fq == 130) hs p k) ts).1, .int .i64 (bnd (qv (fq == 130) hs p k) ts).2]) ∧ Below w.heap.size w w' := by
  rcases hq with rfl | rfl
  · exact bounds_from w g r cs cl A2 A3 A4 AT A c2 c3 c4 cT c1 hs hung looks ts p k V W hrp hp hk hts hT hl
  · exact bounds_to w g r cs cl A2 A3 A4 AT A c2 c3 c4 cT c1 hs hung looks ts p k V W hrp hp hk hts hT hl
theorem field61_0 (a b : Int) (W : World) : (Instr.field 61 (.agg #[.int .i64 a, .int .i64 b]) 0).run Try.prog W = .ok (.int .i64 a) W := by kernel_rfl
theorem field61_1 (a b : Int) (W : World) : (Instr.field 61 (.agg #[.int .i64 a, .int .i64 b]) 1).run Try.prog W = .ok (.int .i64 b) W := by kernel_rfl
set_option maxHeartbeats 2000000 in
set_option maxRecDepth 100000 in
theorem good_calls (w : World) (g : Nat) (r : Option Nat) (cs cl : Int) (A2 A3 A4 AT A : Option Addr) (c2 c3 c4 cT c1 : Nat) (hs : List S139) (hung : List Int) (looks : List S140) (ts : List (Nat → Int)) (p : List Int) (k : Nat)
    (V : Valid cs cl hs hung looks) (W : Work w g r cs cl A2 A3 A4 AT c2 c3 c4 cT hs hung looks ts) (hrp : Kd.C (Kd.int .i64) w A p.length p) (hp : placeB (cs - 1) hs.length p = true)
    (hk : k < hs.length) (hts : ts ≠ []) (hT : Small ts) (hl : ts.length ≤ 100000) :
    Calls Try.prog 102 #[.pointer (some ⟨g, 0, none⟩), .slice A p.length c1, .int .i64 k] w
      fun e w' => e = .returned (.agg #[.int .i64 (goodLo hs p ts k), .int .i64 (goodHi cl hs p ts k)]) ∧ Below w.heap.size w w' := by
  have HV := Aside0.mk V
  have HW := Aside0.mk W
  have HRP := Aside0.mk hrp
  have HP := Aside0.mk hp
  have HT := Aside0.mk hT
  have HTS := Aside0.mk hts
  have hgz : g < w.heap.size := blk_lt W.blk
  have k1 := W.cells.2.1
  clear V W hrp hp hT hts
  have hne1 := World.new_ne w ⟨g, 1, none⟩ k1
  have hne2 : g ≠ w.heap.size := by omega
  have hne3 : ¬ w.heap.size = g := by omega
  have hf0 := field61_0
  have hf1 := field61_1
  go_enter Try.func102, Try.ntmps102
  go_wp2_with fail
  go_region_held3 (fun w' => w'.cell? ⟨g, 1, none⟩ = some (.int .i64 cl))
    (first | go_keep | (go_split_ands; exact later hba (by assumption)) | exact later (below_alloc (Below.refl _ _) _) (later_set hne1 (later_set hne1 hkg)))
    (first
      | (go_at_call 120; refine (bounds_any _ _ g r cs cl A2 A3 A4 AT A c2 c3 c4 cT c1 hs hung looks ts p k (by first | exact .inl rfl | exact .inr rfl) HV.out (HW.out.later (by repeat (first | exact Below.refl _ _ | apply below_alloc | apply below_drew | exact below_step (by repeat (first | exact Below.refl _ _ | apply below_alloc | apply below_drew)) hba))) (Kd.C_below HRP.out (by repeat (first | exact Below.refl _ _ | apply below_alloc | apply below_drew | exact below_step (by repeat (first | exact Below.refl _ _ | apply below_alloc | apply below_drew)) hba))) HP.out hk HTS.out HT.out hl).mono ?_; rintro e wa ⟨rfl, hba⟩; have hx0 : wa.cell? ⟨w.heap.size, 0, none⟩ = some (.int .i64 0) := later hba (by first | assumption | go_simp); have hx1 : wa.cell? ⟨w.heap.size, 1, none⟩ = some (.int .i64 0) := later hba (by first | assumption | go_simp); have hy0 : wa.frozen? ⟨w.heap.size, 0, none⟩ = false := laterf hba (v := .int .i64 0) (by first | assumption | go_simp) (by first | assumption | go_simp); have hy1 : wa.frozen? ⟨w.heap.size, 1, none⟩ = false := laterf hba (v := .int .i64 0) (by first | assumption | go_simp) (by first | assumption | go_simp); have HBB := Aside0.mk (below_step (by first | exact HBB.out | exact below_drew (below_alloc (Below.refl _ _) _)) hba : Below w.heap.size w wa); have HBK := Aside0.mk (blk_below (by first | exact HBK.out | exact blk_drew (blk_new _ _)) hba : wa.heap[w.heap.size]? = some (.cells #[.int .i64 0, .int .i64 0] 61 (0, 0))); have hkg : wa.cell? ⟨g, 1, none⟩ = some (.int .i64 cl) := later hba (by first | assumption | go_simp); have hz1 : w.heap.size < wa.heap.size := World.block_lt_of_cell? _ _ hx0)
      | (go_at_call 129; refine (minimum_calls _ cl (bnd (qv true hs p k) ts).1 2 _ (by go_simp) (by go_simp)).mono ?_; rintro e w' ⟨rfl, rfl⟩))
  all_goals
    go_wp2_with fail
    refine bodyPost_ret (results_cell_row rfl _ _ w.heap.size 61 _ (0, 0) _ rfl (blk_alloc (blk_put (blk_put HBK.out 0 _ rfl) 1 _ rfl) _) Try.underlying61 rfl (by kernel_rfl)) rfl ⟨rfl, ?_⟩
    exact below_alloc ((HBB.out.setCell (by simp) _).setCell (by simp) _) _
end Go.Proofs.Ytokhmghgghjmhaa.Q
namespace Go.Proofs.Ytokhmghgghjmhaa.Q
open Go.RowKit Go.Proofs.YtokhmghgghjmhaaW.PrintWords Go.Proofs.YtokhmghgghjmhaaW.PrintLast Go.Proofs.YtokhmghgghjmhaaW.PrintMore
attribute [local go_sem] max2_mx min2_mn max_two min_two
set_option linter.unusedVariables false
/-- When a placement is done, and the number of horses; or 0, and the first horse without a good minute. -/
def dn (cl : Int) (hs : List S139) (p : List Int) (ts : List (Nat → Int)) : Nat → Nat → Int → Int × Int
  | 0, i, n => (n, i)
  | d + 1, i, n => if goodLo hs p ts i > goodHi cl hs p ts i then (0, i) else dn cl hs p ts d (i + 1) (mx n (goodLo hs p ts i))
def doneR (cl : Int) (hs : List S139) (p : List Int) (ts : List (Nat → Int)) : Int × Int := dn cl hs p ts hs.length 0 0
set_option maxHeartbeats 2000000 in
set_option maxRecDepth 100000 in
theorem done_calls (w : World) (g : Nat) (r : Option Nat) (cs cl : Int) (A2 A3 A4 AT A : Option Addr) (c2 c3 c4 cT c1 : Nat) (hs : List S139) (hung : List Int) (looks : List S140) (ts : List (Nat → Int)) (p : List Int)
    (V : Valid cs cl hs hung looks) (W : Work w g r cs cl A2 A3 A4 AT c2 c3 c4 cT hs hung looks ts) (hrp : Kd.C (Kd.int .i64) w A p.length p) (hp : placeB (cs - 1) hs.length p = true)
    (hts : ts ≠ []) (hT : Small ts) (hl : ts.length ≤ 100000) :
    Calls Try.prog 89 #[.pointer (some ⟨g, 0, none⟩), .slice A p.length c1] w
      fun e w' => e = .returned (.tuple #[.int .i64 (doneR cl hs p ts).1, .int .i64 (doneR cl hs p ts).2]) ∧ Below w.heap.size w w' := by
  have HV := Aside0.mk V
  have HW := Aside0.mk W
  have HRP := Aside0.mk hrp
  have HP := Aside0.mk hp
  have HT := Aside0.mk hT
  have HTS := Aside0.mk hts
  have hgz : g < w.heap.size := blk_lt W.blk
  have h4 := V.n4
  have k2 := W.cells.2.2.1
  clear V W hrp hp hT hts
  go_enter Try.func89, Try.ntmps89
  go_wp2_with fail
  go_loopg [4, 14] hs.length (fun kq v4 v wr => ∃ (n : Nat) (acc : Int), v = .int .i64 n ∧ v4 = .int .i64 acc ∧ Aside0 (n + kq = hs.length) ∧
    Aside0 (dn cl hs p ts kq n acc = doneR cl hs p ts) ∧ Aside0 (Below w.heap.size w wr))
  case atStart => exact ⟨0, 0, rfl, rfl, ⟨by omega⟩, ⟨rfl⟩, ⟨Below.refl _ _⟩⟩
  case round =>
    obtain ⟨n, acc, rfl, rfl, HN, HD, HB⟩ := hrel
    by_cases hlt : n < hs.length
    · obtain ⟨kq, rfl⟩ : ∃ kq, gk = kq + 1 := ⟨gk - 1, by have := HN.out; omega⟩
      go_wp2_with fail
      refine (good_calls _ g r cs cl A2 A3 A4 AT A c2 c3 c4 cT c1 hs hung looks ts p n HV.out (HW.out.later HB.out) (Kd.C_below HRP.out HB.out) HP.out hlt HTS.out HT.out hl).mono ?_
      rintro e wa ⟨rfl, hba⟩
      have HB1 := Aside0.mk (below_step HB.out hba)
      clear hba HB
      go_wp2_with fail
      cases hn : decide (goodLo hs p ts n > goodHi cl hs p ts n) with
      | true =>
        have HN1 := Aside0.mk (of_decide_eq_true hn)
        refine (closet_Range_none.calls _ _ true _ (by unfold closet_Range_none.f; rw [hn])).mono ?_
        clear hn
        rintro e wb ⟨rfl, hbb⟩
        have HB2 := Aside0.mk (below_step (below_alloc HB1.out _) hbb)
        clear hbb
        go_wp2_with fail
        go_ret2
        refine ⟨?_, HB2.out⟩
        rw [← HD.out]; simp only [dn]; rw [if_pos (by have := HN1.out; omega)]; rfl
      | false =>
        have HN1 := Aside0.mk (of_decide_eq_false hn)
        refine (closet_Range_none.calls _ _ false _ (by unfold closet_Range_none.f; rw [hn])).mono ?_
        clear hn
        rintro e wb ⟨rfl, hbb⟩
        have HB2 := Aside0.mk (below_step (below_alloc HB1.out _) hbb)
        have hc : wb.cell? ⟨wa.heap.size, 0, none⟩ = some (.int .i64 (goodLo hs p ts n)) := later hbb (by go_simp)
        clear hbb
        go_wp2_with fail
        go_roundg kq
        case measure => omega
        case rel => exact ⟨n + 1, mx acc (goodLo hs p ts n), by go_num, rfl, ⟨by have := HN.out; omega⟩, ⟨by rw [← HD.out]; simp only [dn]; rw [if_neg (by have := HN1.out; omega)]⟩, HB2⟩
    · have hgk : gk = 0 := by have := HN.out; omega
      have hn : n = hs.length := by have := HN.out; omega
      have HNN := Aside0.mk hn
      subst hgk
      clear hn
      have k2' := later HB.out k2
      go_wp2_with fail
      go_quiet (fail)
      go_wp2_with fail
      go_ret2
      refine ⟨?_, pw_below_drewN HB.out _⟩
      rw [← HD.out]; simp only [dn]; rw [HNN.out]; rfl
end Go.Proofs.Ytokhmghgghjmhaa.Q
namespace Go.Proofs.Ytokhmghgghjmhaa.Q
open Go.RowKit Go.Shelf Go.Proofs.YtokhmghgghjmhaaW.PrintWords Go.Proofs.YtokhmghgghjmhaaW.PrintLast Go.Proofs.YtokhmghgghjmhaaW.PrintMore
attribute [local go_sem] Oper.semAt_some
set_option linter.unusedVariables false
def vals (lo : Int) (j : Nat) : List Int := (List.range j).map fun (i : Nat) => lo + i
theorem vals_succ (lo : Int) (j : Nat) : vals lo (j + 1) = vals lo j ++ [lo + j] := by simp [vals, List.range_succ]
theorem vals_split (lo : Int) (j N : Nat) (h : j < N) : ∃ r, vals lo N = vals lo j ++ (lo + j) :: r := by
  obtain ⟨k, rfl⟩ : ∃ k, N = j + (k + 1) := ⟨N - j - 1, by omega⟩
  exact ⟨_, by simp only [vals, List.range_add, List.map_append, List.range_succ_eq_map, List.map_cons]; rfl⟩
def allN (hs : List S139) : Nat → Nat → (Nat → Int) → List (Nat → Int)
  | 0, _, x => [x]
  | d + 1, h, x => (vals (rd_T139 hs h).f0.f0 ((rd_T139 hs h).f0.f1 + 1 - (rd_T139 hs h).f0.f0).toNat).flatMap fun v => allN hs d (h + 1) (upd x h v)
theorem allN_congr (hs : List S139) : ∀ (d h : Nat) (x y : Nat → Int), (∀ i, i < h ∨ h + d ≤ i → x i = y i) → allN hs d h x = allN hs d h y
  | 0, h, x, y, e => by
    have : x = y := funext fun i => e i (by omega)
    rw [this]
  | d + 1, h, x, y, e => by
    simp only [allN]
    congr 1
    funext v
    refine allN_congr hs d (h + 1) _ _ fun i hi => ?_
    simp only [upd]
    split
    · rfl
    · exact e i (by omega)
structure Step3 (b : Nat) (A B : World) : Prop where
  below : Below b A B
  above : ∀ k, b + 3 ≤ k → k < A.heap.size → B.heap[k]? = A.heap[k]?
def Stable (b : Nat) (J : List (Nat → Int) → World → Prop) : Prop := ∀ s A B, J s A → Step3 b A B → J s B
structure Kp (g b B : Nat) (A C : World) : Prop where
  below : Below B A C
  box : C.heap[g]? = A.heap[g]?
  mine : ∀ k, b ≤ k → k < b + 3 → C.heap[k]? = A.heap[k]?
theorem Step3.set {b : Nat} (A : World) (g i : Nat) (v : Value) (h0 : b ≤ g) (h1 : g < b + 3) : Step3 b A (A.setCell ⟨g, i, none⟩ v) :=
  ⟨(Below.refl b A).setCell h0 _, fun k hk _ => Below.heap_setCell A ⟨g, i, none⟩ v k (show k ≠ g by omega)⟩
theorem Step3.alloc {b : Nat} (A : World) (o : Obj) (h : b ≤ A.heap.size) : Step3 b A (A.alloc o) := ⟨(Below.refl b A).alloc h _, fun k _ hk => Below.heap_alloc A o k hk⟩
/-- What lies in memory while dry numbers are chosen. -/
structure Choosing (wB : World) (g b l : Nat) (cs cl : Int) (A2 A3 A4 : Option Addr) (n3 n4 c2 c3 c4 : Nat) (hs : List S139) (W : World) (x : Nat → Int) : Prop where
  yield : W.heap[b]? = some (.cells #[.func (.yield l) #[] #[]] 204 (0, 0))
  dry : W.heap[b + 1]? = some (.cells #[.int .i64 (x 0), .int .i64 (x 1), .int .i64 (x 2), .int .i64 (x 3)] 152 (0, 0))
  fn : W.heap[b + 2]? = some (.cells #[.func (.func 145) #[] #[.pointer (some ⟨g, 0, none⟩), .pointer (some ⟨b, 0, none⟩), .pointer (some ⟨b + 1, 0, none⟩), .pointer (some ⟨b + 2, 0, none⟩)]] 157 (0, 0))
  box : W.heap[g]? = some (.cells #[.int .i64 cs, .int .i64 cl, .slice A2 hs.length c2, .slice A3 n3 c3, .slice A4 n4 c4] 35 (0, 0))
  old : Below wB.heap.size wB W
theorem Choosing.kp {wB : World} {g b l : Nat} {cs cl : Int} {A2 A3 A4 : Option Addr} {n3 n4 c2 c3 c4 : Nat} {hs : List S139} {W W' : World} {x : Nat → Int}
    (h : Choosing wB g b l cs cl A2 A3 A4 n3 n4 c2 c3 c4 hs W x) (k : Kp g b wB.heap.size W W') : Choosing wB g b l cs cl A2 A3 A4 n3 n4 c2 c3 c4 hs W' x :=
  ⟨(k.mine _ (by omega) (by omega)).trans h.yield, (k.mine _ (by omega) (by omega)).trans h.dry, (k.mine _ (by omega) (by omega)).trans h.fn, k.box.trans h.box, h.old.trans k.below⟩
theorem Choosing.set {wB : World} {g b l : Nat} {cs cl : Int} {A2 A3 A4 : Option Addr} {n3 n4 c2 c3 c4 : Nat} {hs : List S139} {W : World} {x : Nat → Int}
    (h : Choosing wB g b l cs cl A2 A3 A4 n3 n4 c2 c3 c4 hs W x) (hg : g < b) (hb : wB.heap.size ≤ b) (i : Nat) (hi : i < 4) (v : Int) : Choosing wB g b l cs cl A2 A3 A4 n3 n4 c2 c3 c4 hs (W.setCell ⟨b + 1, i, none⟩ (.int .i64 v)) (upd x i v) :=
  ⟨blk_far h.yield (by simp) _, blk_put h.dry i _ (set4 x i v hi), blk_far h.fn (by simp) _, blk_far h.box (by simp; omega) _, h.old.setCell (by simp; omega) _⟩
theorem yield_any {m : Nat} (m' : Nat) {P : Program} {l : Nat} {args : Array Value} {W : World} {R : Ending → World → Prop} (h : YieldAt Fence.wide m P l args W R) : YieldAt Fence.wide m' P l args W R := by
  obtain ⟨fn, tmps, assign, body, hy, hR⟩ := h
  exact ⟨fn, tmps, assign, body, hy, hR.1, fun c cs _ => hR.2 c cs (room_wide _)⟩
set_option maxHeartbeats 2000000 in
set_option maxRecDepth 100000 in
theorem choose_in (wB : World) (g b l : Nat) (cs cl : Int) (A2 A3 A4 : Option Addr) (n3 n4 c2 c3 c4 : Nat) (hs : List S139) (J Jx : List (Nat → Int) → World → Prop) (m : Nat) (P : List (Nat → Int) → (Nat → Int) → Prop)
    (hr2 : Kd.C k139 wB A2 hs.length hs) (hg : g < b) (hbB : wB.heap.size ≤ b) (h4 : hs.length ≤ 4)
    (hdry : ∀ i : Nat, i < hs.length → 1 ≤ (rd_T139 hs i).f0.f0 ∧ (rd_T139 hs i).f0.f0 ≤ (rd_T139 hs i).f0.f1 ∧ (rd_T139 hs i).f0.f1 ≤ 60)
    (hst : Stable b J)
    (hY : ∀ pre x W1, P pre x → J pre W1 → b + 2 < W1.heap.size → YieldAt Fence.wide m Try.prog l #[.agg #[.int .i64 (x 0), .int .i64 (x 1), .int .i64 (x 2), .int .i64 (x 3)]] W1 fun e W' =>
      (e = .returned (.bool true) ∧ J (pre ++ [x]) W' ∧ Kp g b wB.heap.size W1 W') ∨ (e = .returned (.bool false) ∧ Jx (pre ++ [x]) W')) :
    ∀ (d h n : Nat) (pre : List (Nat → Int)) (x : Nat → Int) (W : World), h + d = hs.length → (∀ p y s, allN hs d h x = p ++ y :: s → P (pre ++ p) y) → J pre W → Choosing wB g b l cs cl A2 A3 A4 n3 n4 c2 c3 c4 hs W x →
      CallsIn Fence.wide n Try.prog 145 #[.int .i64 h, .pointer (some ⟨g, 0, none⟩), .pointer (some ⟨b, 0, none⟩), .pointer (some ⟨b + 1, 0, none⟩), .pointer (some ⟨b + 2, 0, none⟩)] W fun e W' =>
        (e = .returned (.bool true) ∧ J (pre ++ allN hs d h x) W' ∧ ∃ y, (∀ i, i < h ∨ hs.length ≤ i → y i = x i) ∧ Choosing wB g b l cs cl A2 A3 A4 n3 n4 c2 c3 c4 hs W' y) ∨
        (e = .returned (.bool false) ∧ ∃ q, Jx q W') := by
  have HR2 := Aside0.mk hr2
  have HDRY := Aside0.mk hdry
  have HST := Aside0.mk hst
  have HY := Aside0.mk hY
  clear hr2 hdry hst hY
  intro d
  induction d with
  | zero =>
    intro h n pre x W hd hP hJ hC
    have hd1 : h = hs.length := by omega
    subst hd1
    obtain ⟨fn, tmps, assign, body, hy, hR⟩ := yield_any (n - 1) (HY.out pre x W (by simpa using hP [] x [] rfl) hJ (blk_lt hC.fn))
    have HC := Aside0.mk hC
    have c0 : W.cell? ⟨g, 2, none⟩ = some (.slice A2 hs.length c2) := (blk_cell hC.box 2).trans rfl
    have c1 : W.cell? ⟨b, 0, none⟩ = some (.func (.yield l) #[] #[]) := (blk_cell hC.yield 0).trans rfl
    have d0 : W.cell? ⟨b + 1, 0, none⟩ = some (.int .i64 (x 0)) := (blk_cell hC.dry 0).trans rfl
    have d1 : W.cell? ⟨b + 1, 1, none⟩ = some (.int .i64 (x 1)) := (blk_cell hC.dry 1).trans rfl
    have d2 : W.cell? ⟨b + 1, 2, none⟩ = some (.int .i64 (x 2)) := (blk_cell hC.dry 2).trans rfl
    have d3 : W.cell? ⟨b + 1, 3, none⟩ = some (.int .i64 (x 3)) := (blk_cell hC.dry 3).trans rfl
    clear hC hd hP
    refine callsIn_of_wp Try.func145 rfl trivial ?_ rfl
    simp only [Try.ntmps145, List.size_toArray, List.length_cons, List.length_nil, Nat.reduceAdd, Nat.reduceSub, Array.replicate_succ, Array.replicate_zero, List.push_toArray, List.append_toArray, List.nil_append, List.cons_append]
    gi_wp2_with fail
    refine ⟨(fun h => by cases h), ?_⟩
    refine hR.mono ?_
    rintro e W' (⟨rfl, hJ1, hk⟩ | ⟨rfl, hx⟩)
    · gi_wp2_with fail
      go_ret
      exact .inl ⟨rfl, hJ1, x, fun i _ => rfl, HC.out.kp hk⟩
    · gi_wp2_with fail
      go_ret
      exact .inr ⟨rfl, _, hx⟩
  | succ d ih =>
    intro h n pre x W hd hP hJ hC
    have HPP := Aside0.mk hP
    clear hP
    have HIH := Aside0.mk ih
    have hlt : h < hs.length := by omega
    have hlt' : (h : Int) < (hs.length : Int) := by omega
    have hne : ((h : Int) == (hs.length : Int)) = false := by rw [beq_eq_false_iff_ne]; omega
    have hne' : (h == hs.length) = false := by rw [beq_eq_false_iff_ne]; omega
    have HC := Aside0.mk hC
    have HJ := Aside0.mk hJ
    have HH := Aside0.mk hd
    obtain ⟨ad, e, hh0, hh1, hh2, hh3⟩ := at_h HR2.out h hlt
    cases e
    have dry := HDRY.out h hlt
    obtain ⟨dry0, dry1, dry2⟩ := dry
    have c0 : W.cell? ⟨g, 2, none⟩ = some (.slice (some ad) hs.length c2) := (blk_cell hC.box 2).trans rfl
    have e0 := later hC.old hh0
    clear hC hJ ih hd
    refine callsIn_of_wp Try.func145 rfl trivial ?_ rfl
    simp only [Try.ntmps145, List.size_toArray, List.length_cons, List.length_nil, Nat.reduceAdd, Nat.reduceSub, Array.replicate_succ, Array.replicate_zero, List.push_toArray, List.append_toArray, List.nil_append, List.cons_append]
    gi_wp2_with fail
    gi_loopw [7] (fun v wr => ∃ (j : Nat) (y : Nat → Int), v = .int .i64 ((rd_T139 hs h).f0.f0 + j) ∧ (rd_T139 hs h).f0.f0 + j ≤ (rd_T139 hs h).f0.f1 + 1 ∧
        Aside0 (J (pre ++ (vals (rd_T139 hs h).f0.f0 j).flatMap fun v => allN hs d (h + 1) (upd x h v)) wr) ∧ Aside0 (∀ i, i < h ∨ hs.length ≤ i → y i = x i) ∧
        Aside0 (Choosing wB g b l cs cl (some ad) A3 A4 n3 n4 c2 c3 c4 hs wr y))
      (fun v _ => ((rd_T139 hs h).f0.f1 + 1 - intOf v).toNat)
    case atStart => exact ⟨0, x, by simp, by omega, ⟨by simpa [vals] using HJ.out⟩, ⟨fun i _ => rfl⟩, HC⟩
    case round =>
      obtain ⟨j, y, rfl, hj, HJ, HE, HC⟩ := hrel
      have c0 : wr.cell? ⟨g, 2, none⟩ = some (.slice (some ad) hs.length c2) := (blk_cell HC.out.box 2).trans rfl
      have e1 := later HC.out.old hh1
      by_cases hle : (rd_T139 hs h).f0.f0 + j ≤ (rd_T139 hs h).f0.f1
      · have hh4 : h < 4 := by omega
        have hh4' : (h : Int) < 4 := by omega
        have d0 : wr.cell? ⟨b + 1, h, none⟩ = some (.int .i64 (y h)) := (blk_cell HC.out.dry h).trans (get4 y h hh4)
        have f0 := blk_frozen HC.out.dry h
        have c1 : wr.cell? ⟨b + 2, 0, none⟩ = some (.func (.func 145) #[] #[.pointer (some ⟨g, 0, none⟩), .pointer (some ⟨b, 0, none⟩), .pointer (some ⟨b + 1, 0, none⟩), .pointer (some ⟨b + 2, 0, none⟩)]) := (blk_cell HC.out.fn 0).trans rfl
        gi_wp2_with fail
        refine ⟨trivial, (fun h => by cases h), ?_⟩
        have ec : ((h : Int) + 1) = ((h + 1 : Nat) : Int) := by omega
        rw [ec]
        have ecg : allN hs d (h + 1) (upd y h ((rd_T139 hs h).f0.f0 + j)) = allN hs d (h + 1) (upd x h ((rd_T139 hs h).f0.f0 + j)) :=
          allN_congr hs d (h + 1) _ _ fun i hi => by
            simp only [upd]
            split
            · rfl
            · exact HE.out i (by have := HH.out; omega)
        obtain ⟨rest, hrest⟩ := vals_split (rd_T139 hs h).f0.f0 j ((rd_T139 hs h).f0.f1 + 1 - (rd_T139 hs h).f0.f0).toNat (by omega)
        refine (HIH.out (h + 1) (n - 1) _ _ _ (by have := HH.out; omega) (by
          rw [ecg]
          intro p y s hz
          rw [List.append_assoc]
          exact HPP.out _ y (s ++ rest.flatMap fun v => allN hs d (h + 1) (upd x h v)) (by simp only [allN]; rw [hrest, List.flatMap_append, List.flatMap_cons, hz]; simp)) (HST.out _ _ _ HJ.out (Step3.set wr (b + 1) h _ (by omega) (by omega))) (HC.out.set hg hbB h hh4 _)).mono ?_
        clear ec c0 c1 d0 f0 e1 HIH hrest
        rw [ecg]
        clear ecg
        rintro e W' (⟨rfl, hJ1, y', hy', hC'⟩ | ⟨rfl, q, hx⟩)
        · have HJ2 := Aside0.mk hJ1
          have HC2 := Aside0.mk hC'
          have HE2 := Aside0.mk hy'
          clear hJ1 hC' hy'
          gi_wp2_with fail
          go_roundw
          case rel =>
            refine ⟨j + 1, y', by go_num, by omega, ⟨?_⟩, ⟨fun i hi => ?_⟩, HC2⟩
            · rw [vals_succ, List.flatMap_append, ← List.append_assoc]
              simpa using HJ2.out
            · rw [HE2.out i (by omega)]
              simp only [upd]
              rw [if_neg (by omega)]
              exact HE.out i hi
          case measure => simp [intOf]; omega
        · gi_wp2_with fail
          go_ret
          exact .inr ⟨rfl, q, hx⟩
      · have hjn : j = ((rd_T139 hs h).f0.f1 + 1 - (rd_T139 hs h).f0.f0).toNat := by omega
        have HJN := Aside0.mk hjn
        clear hjn
        gi_wp2_with fail
        go_ret
        refine .inl ⟨rfl, ?_, y, HE.out, HC.out⟩
        simp only [allN]
        rw [← HJN.out]
        exact HJ.out
set_option maxHeartbeats 2000000 in
set_option maxRecDepth 100000 in
theorem iter_in (wB : World) (g l n m : Nat) (cs cl : Int) (A2 A3 A4 : Option Addr) (n3 n4 c2 c3 c4 : Nat) (hs : List S139) (J Jx : List (Nat → Int) → World → Prop) (W : World)
    (hr2 : Kd.C k139 wB A2 hs.length hs) (hbox : W.heap[g]? = some (.cells #[.int .i64 cs, .int .i64 cl, .slice A2 hs.length c2, .slice A3 n3 c3, .slice A4 n4 c4] 35 (0, 0))) (hold : Below wB.heap.size wB W) (h4 : hs.length ≤ 4)
    (hdry : ∀ i : Nat, i < hs.length → 1 ≤ (rd_T139 hs i).f0.f0 ∧ (rd_T139 hs i).f0.f0 ≤ (rd_T139 hs i).f0.f1 ∧ (rd_T139 hs i).f0.f1 ≤ 60)
    (hst : Stable W.heap.size J)
    (hY : ∀ pre x W1, (∃ s, allN hs hs.length 0 (fun _ => 0) = pre ++ x :: s) → J pre W1 → W.heap.size + 2 < W1.heap.size → YieldAt Fence.wide m Try.prog l #[.agg #[.int .i64 (x 0), .int .i64 (x 1), .int .i64 (x 2), .int .i64 (x 3)]] W1 fun e W' =>
      (e = .returned (.bool true) ∧ J (pre ++ [x]) W' ∧ Kp g W.heap.size wB.heap.size W1 W') ∨ (e = .returned (.bool false) ∧ Jx (pre ++ [x]) W'))
    (hJ : J [] W) :
    CallsIn Fence.wide n Try.prog 144 #[.func (.yield l) #[] #[], .pointer (some ⟨g, 0, none⟩)] W fun e W' => (∃ v, e = .returned v) ∧ (J (allN hs hs.length 0 (fun _ => 0)) W' ∨ ∃ q, Jx q W') := by
  have hgz : g < W.heap.size := blk_lt hbox
  have HCH := Aside0.mk (choose_in wB g W.heap.size l cs cl A2 A3 A4 n3 n4 c2 c3 c4 hs J Jx m (fun pre x => ∃ s, allN hs hs.length 0 (fun _ => 0) = pre ++ x :: s) hr2 hgz hold.size h4 hdry hst hY hs.length 0)
  have HB := Aside0.mk hbox
  have HO := Aside0.mk hold
  have HS := Aside0.mk hst
  have HJ := Aside0.mk hJ
  clear hr2 hbox hold hdry hst hY hJ
  refine callsIn_of_wp Try.func144 rfl trivial ?_ rfl
  simp only [Try.ntmps144, List.size_toArray, List.length_cons, List.length_nil, Nat.reduceAdd, Nat.reduceSub, Array.replicate_succ, Array.replicate_zero, List.push_toArray, List.append_toArray, List.nil_append, List.cons_append]
  gi_wp2_with fail
  refine ⟨trivial, (fun h => by cases h), ?_⟩
  refine (HCH.out (n - 1) [] (fun _ => 0) _ (by omega) (fun p y s e => ⟨s, e⟩) ?hj ⟨?h1, ?h2, ?h3, ?h4, ?h5⟩).mono ?_
  case hj => exact HS.out _ _ _ (HS.out _ _ _ (HS.out _ _ _ HJ.out (Step3.alloc _ _ (Nat.le_refl _))) (Step3.alloc _ _ (by simp))) (Step3.alloc _ _ (by simp; omega))
  case h1 => exact blk_alloc (blk_alloc (blk_new _ _) _) _
  case h2 => refine blk_alloc (blk_new_ ?_) _; simp
  case h3 => refine blk_new_ ?_; simp
  case h4 => exact blk_alloc (blk_alloc (blk_alloc HB.out _) _) _
  case h5 => have := HO.out.size; exact ((HO.out.alloc (by omega) _).alloc (by simp; omega) _).alloc (by simp; omega) _
  clear HCH
  rintro e W' (⟨rfl, hJ1, y', hy', hC'⟩ | ⟨rfl, q, hx⟩)
  · clear hy' hC'
    have HJ1 := Aside0.mk hJ1
    clear hJ1
    gi_wp2_with fail
    go_end0
    exact ⟨⟨_, rfl⟩, .inl HJ1.out⟩
  · have HX := Aside0.mk hx
    clear hx
    gi_wp2_with fail
    go_end0
    exact ⟨⟨_, rfl⟩, .inr ⟨q, HX.out⟩⟩
end Go.Proofs.Ytokhmghgghjmhaa.Q
namespace Go.Proofs.Ytokhmghgghjmhaa.Q
open Go.RowKit Go.Shelf Go.Proofs.YtokhmghgghjmhaaW.PrintWords Go.Proofs.YtokhmghgghjmhaaW.PrintLast Go.Proofs.YtokhmghgghjmhaaW.PrintMore
attribute [local go_sem] Oper.semAt_some
set_option linter.unusedVariables false
/-- What a round keeps: what lay ahead of the call; the closets' box; the loop's record, its block of deferred calls, the iterator's three blocks. -/
structure Rk (g D B : Nat) (A C : World) : Prop where
  below : Below B A C
  box : C.heap[g]? = A.heap[g]?
  mine : ∀ k, D ≤ k → k < D + 5 → C.heap[k]? = A.heap[k]?
theorem Rk.refl (g D B : Nat) (A : World) : Rk g D B A A := ⟨Below.refl _ _, rfl, fun _ _ _ => rfl⟩
theorem Rk.trans {g D B : Nat} {X Y Z : World} (h : Rk g D B X Y) (k : Rk g D B Y Z) : Rk g D B X Z := ⟨h.below.trans k.below, k.box.trans h.box, fun i h0 h1 => (k.mine i h0 h1).trans (h.mine i h0 h1)⟩
theorem Rk.alloc {g D B : Nat} (A : World) (o : Obj) (hg : g < A.heap.size) (hD : D + 5 ≤ A.heap.size) (hB : B ≤ A.heap.size) : Rk g D B A (A.alloc o) :=
  ⟨(Below.refl B A).alloc hB _, Below.heap_alloc A o g hg, fun k _ hk => Below.heap_alloc A o k (by omega)⟩
theorem Rk.drew {g D B : Nat} {A C : World} (h : Rk g D B A C) (n : Nat) : Rk g D B A (C.drewN n) := ⟨pw_below_drewN h.below n, h.box, h.mine⟩
/-- A step that turns nothing that lay. -/
theorem Rk.of_below {g D B : Nat} {A C : World} (h : Below A.heap.size A C) (hg : g < A.heap.size) (hD : D + 5 ≤ A.heap.size) (hB : B ≤ A.heap.size) : Rk g D B A C :=
  ⟨h.mono hB, h.block g hg, fun k _ hk => h.block k (by omega)⟩
/-- How a round may be left. -/
def rPost (g D B : Nat) (I : List (Nat → Int) → World → Prop) (Ix : World → Prop) (xs : List (Nat → Int)) (W : World) : Exit → Act → World → Prop
  | .normal, _, W' => Rk g D B W W' ∧ I xs W'
  | .ret, _, W' => (∀ k, D ≤ k → k < D + 2 → W'.heap[k]? = W.heap[k]?) ∧ Ix W'
  | _, _, _ => False
/-- 'for dry := range c.truths() { .. }', out of the iterator's contract ('iter_in'). -/
theorem range_truths {g : Operand} {p : Tmp} {assign body : Code} {Q : Exit → Act → World → Prop} {a : Act} {w wB : World} {n : Nat}
    (gb : Nat) (hg : a.eval g = .func (.func 144) #[] #[.pointer (some ⟨gb, 0, none⟩)])
    (cs cl : Int) (A2 A3 A4 : Option Addr) (n3 n4 c2 c3 c4 : Nat) (hs : List S139)
    (hr2 : Kd.C k139 wB A2 hs.length hs) (hbox : w.heap[gb]? = some (.cells #[.int .i64 cs, .int .i64 cl, .slice A2 hs.length c2, .slice A3 n3 c3, .slice A4 n4 c4] 35 (0, 0))) (hold : Below wB.heap.size wB w) (h4 : hs.length ≤ 4)
    (hdry : ∀ i : Nat, i < hs.length → 1 ≤ (rd_T139 hs i).f0.f0 ∧ (rd_T139 hs i).f0.f0 ≤ (rd_T139 hs i).f0.f1 ∧ (rd_T139 hs i).f0.f1 ≤ 60)
    (I : List (Nat → Int) → World → Prop) (Ix : World → Prop) (Ax : (Nat → Int) → Act → World → Prop)
    (hI : Stable (w.heap.size + 2) I) (hIp : ∀ pre A k o, w.heap.size ≤ k → k < w.heap.size + 2 → I pre A → I pre (A.putObj k o)) (hIa : ∀ pre A o, I pre A → I pre (A.alloc o))
    (hIxp : ∀ A k o, w.heap.size ≤ k → k < w.heap.size + 2 → Ix A → Ix (A.putObj k o)) (hAx : ∀ x a' A k o, w.heap.size ≤ k → k < w.heap.size + 2 → Ax x a' A → Ax x a' (A.putObj k o))
    (h0 : I [] w)
    (hassign : ∀ (l : Nat) (pre : List (Nat → Int)) (x : Nat → Int) (W : World) (K : Act → World → Prop), w.heap.size + 5 ≤ W.heap.size → gb < W.heap.size → I pre W →
      (∀ a' W', Rk gb w.heap.size wB.heap.size W W' → w.heap.size + 5 ≤ W'.heap.size → I pre W' → Ax x a' W' → K a' W') →
      assign.wpIn (Fence.wide.inRound l) (n - 1 - 1) Try.prog (Exit.then K (fun _ _ _ => False)) { tmps := a.tmps.setIfInBounds p (.agg #[.int .i64 (x 0), .int .i64 (x 1), .int .i64 (x 2), .int .i64 (x 3)]), defers := [] } W)
    (hbody : ∀ (l : Nat) (pre : List (Nat → Int)) (x : Nat → Int) (a' : Act) (W : World), w.heap.size + 5 ≤ W.heap.size → gb < W.heap.size → (∃ s, allN hs hs.length 0 (fun _ => 0) = pre ++ x :: s) → I pre W → Ax x a' W →
      body.wpIn (Fence.wide.inRound l) (n - 1 - 1) Try.prog (rPost gb w.heap.size wB.heap.size I Ix (pre ++ [x]) W) a' W)
    (hdone : ∀ (W : World), I (allN hs hs.length 0 (fun _ => 0)) W → W.heap[w.heap.size]? = some (.deferred (some [])) → Q .normal { a with defers := { target := .collected w.heap.size, args := #[] } :: a.defers } W)
    (hstop : ∀ (W : World), Ix W → W.heap[w.heap.size]? = some (.deferred (some [])) → Code.ret.wpIn Fence.wide n Try.prog Q { a with defers := { target := .collected w.heap.size, args := #[] } :: a.defers } W) :
    (Code.rangeFunc g #[p] assign body).wpIn Fence.wide n Try.prog Q a w := by
  refine wpIn_rangeFunc ?_
  intro fn hfn
  obtain ⟨rec, hrec⟩ : ∃ rec : LoopState → Option Code → Loop, rec = fun st pe => { state := st, pending := pe, fn, tmps := a.tmps, params := #[p], assign, body, defers := w.heap.size } := ⟨_, rfl⟩
  obtain ⟨W1, hW1⟩ : ∃ W1, (w.alloc (.deferred (some []))).alloc (.loop (rec .ready none)) = W1 := ⟨_, rfl⟩
  have hL1 : W1.heap[w.heap.size + 1]? = some (.loop (rec .ready none)) := by
    rw [← hW1]; have := World.alloc_heap_new (w.alloc (.deferred (some []))) (.loop (rec .ready none)); rwa [World.size_alloc] at this
  have hK1 : W1.heap[w.heap.size]? = some (.deferred (some [])) := by
    rw [← hW1]; exact (Below.heap_alloc _ _ _ (by simp)).trans (World.alloc_heap_new w _)
  have hI1 : I [] W1 := by rw [← hW1]; exact hIa _ _ _ (hIa _ _ _ h0)
  have hs1 : W1.heap.size = w.heap.size + 2 := by rw [← hW1]; simp
  have hb1 : Below wB.heap.size wB W1 := by
    rw [← hW1]; exact (hold.alloc hold.size _).alloc (by have := hold.size; simp; omega) _
  have hbox1 : W1.heap[gb]? = some (.cells #[.int .i64 cs, .int .i64 cl, .slice A2 hs.length c2, .slice A3 n3 c3, .slice A4 n4 c4] 35 (0, 0)) := by
    rw [← hW1]; exact blk_alloc (blk_alloc hbox _) _
  refine ⟨w.heap.size + 1, [{ target := .collected w.heap.size, args := #[] }], W1, { target := .fn (.func 144) #[.pointer (some ⟨gb, 0, none⟩)], args := #[.func (.yield (w.heap.size + 1)) #[] #[]] }, W1, 144,
    #[.func (.yield (w.heap.size + 1)) #[] #[]] ++ #[.pointer (some ⟨gb, 0, none⟩)], W1, ?_, ?_, fun _ _ => trivial, ?_, (fun h => by cases h), ?_⟩
  · rw [← hW1, hrec]; exact run_enterLoop_outer _ _ _ _ _
  · simp only [resolve, hg]
    simp [go_sem]
  · have eg := enters_of (P := Try.prog) Try.func144 (by kernel_rfl) rfl
    simp [invoke, go_sem, eg (#[.func (.yield (w.heap.size + 1)) #[] #[], .pointer (some ⟨gb, 0, none⟩)])]
  · refine (iter_in wB gb (w.heap.size + 1) (n - 1) (n - 1 - 1) cs cl A2 A3 A4 n3 n4 c2 c3 c4 hs
      (fun pre W => I pre W ∧ W.heap[w.heap.size + 1]? = some (.loop (rec .ready none)) ∧ W.heap[w.heap.size]? = some (.deferred (some [])) ∧ w.heap.size + 2 ≤ W.heap.size ∧ gb < W.heap.size)
      (fun _ W => Ix W ∧ W.heap[w.heap.size + 1]? = some (.loop (rec .done (some .ret))) ∧ W.heap[w.heap.size]? = some (.deferred (some [])))
      W1 hr2 hbox1 hb1 h4 hdry ?st ?round ⟨hI1, hL1, hK1, by omega, blk_lt hbox1⟩).mono ?_
    case st =>
      rw [hs1]
      intro s A C ⟨h1, h2, h3, h5, h6⟩ st
      exact ⟨hI s A C h1 st, (st.below.block _ (by omega)).trans h2, (st.below.block _ (by omega)).trans h3, Nat.le_trans h5 st.below.size, Nat.lt_of_lt_of_le h6 st.below.size⟩
    case round =>
      rw [hs1]
      rintro pre x W hxm ⟨hi, hl, hk, _, hgb⟩ hsz
      have hy := run_yield (P := Try.prog) (args := #[.agg #[.int .i64 (x 0), .int .i64 (x 1), .int .i64 (x 2), .int .i64 (x 3)]]) hl (by rw [hrec]; rfl)
      rw [hrec] at hy
      have hy2 : (Instr.yield (w.heap.size + 1) #[.agg #[.int .i64 (x 0), .int .i64 (x 1), .int .i64 (x 2), .int .i64 (x 3)]]).run Try.prog W = .ok (.round (w.heap.size + 1) fn (a.tmps.setIfInBounds p (.agg #[.int .i64 (x 0), .int .i64 (x 1), .int .i64 (x 2), .int .i64 (x 3)])) assign body) W := by
        rw [hy]; simp
      refine ⟨fn, _, assign, body, hy2, roundIn_of_wpIn hfn (hassign _ pre x W _ (by omega) hgb hi ?_)⟩
      clear hy hy2
      intro a' Wa hka hsza hia hax
      have hl1 := (hka.mine _ (by omega) (by omega)).trans hl
      have hk1 := (hka.mine _ (by omega) (by omega)).trans hk
      have hlt : w.heap.size + 1 < Wa.heap.size := by omega
      have hgba : gb < Wa.heap.size := Nat.lt_of_lt_of_le hgb hka.below.size
      refine ⟨_, run_beginRound hl1 (by rw [hrec]), ?_⟩
      have hl2 : (Wa.putObj (w.heap.size + 1) (.loop { rec .ready none with state := .busy })).heap[w.heap.size + 1]? = some (.loop { rec .ready none with state := .busy }) := World.putObj_heap_same hlt
      have hk2 : (Wa.putObj (w.heap.size + 1) (.loop { rec .ready none with state := .busy })).heap[w.heap.size]? = some (.deferred (some [])) := (World.putObj_heap_other (by omega)).trans hk1
      refine wpIn_mono (hbody _ pre x a' _ (by simp; omega) (by simp; omega) hxm (hIp _ _ _ _ (by omega) (by omega) hia) (hAx _ _ _ _ _ (by omega) (by omega) hax)) ?_
      have fin : ∀ (jump : Option Code) (W3 : World), (∀ k, w.heap.size ≤ k → k < w.heap.size + 2 → W3.heap[k]? = (Wa.putObj (w.heap.size + 1) (.loop { rec .ready none with state := .busy })).heap[k]?) →
          (Instr.endRound (w.heap.size + 1) jump).run Try.prog W3 = .ok (.bool jump.isNone) (W3.putObj (w.heap.size + 1) (.loop (rec (if jump.isNone then .ready else .done) jump))) ∧
          w.heap.size + 1 < W3.heap.size ∧
          (W3.putObj (w.heap.size + 1) (.loop (rec (if jump.isNone then .ready else .done) jump))).heap[w.heap.size + 1]? = some (.loop (rec (if jump.isNone then .ready else .done) jump)) ∧
          (W3.putObj (w.heap.size + 1) (.loop (rec (if jump.isNone then .ready else .done) jump))).heap[w.heap.size]? = some (.deferred (some [])) := fun jump W3 hk3 => by
        have hl3 := (hk3 _ (by omega) (by omega)).trans hl2
        have := run_endRound (P := Try.prog) jump hl3
        rw [hrec] at this ⊢
        exact ⟨this, (Array.getElem?_eq_some_iff.1 hl3).1, World.putObj_heap_same (Array.getElem?_eq_some_iff.1 hl3).1, (World.putObj_heap_other (by omega)).trans ((hk3 _ (by omega) (by omega)).trans hk2)⟩
      rintro e a3 W3 hp
      cases e with
      | normal =>
        obtain ⟨hk3, hi3⟩ := hp
        obtain ⟨hr, hlt3, hl4, hk4⟩ := fin none W3 (fun k h0 h1 => hk3.mine k h0 (by omega))
        have hsz3 : Wa.heap.size ≤ W3.heap.size := by have := hk3.below.size; simpa using this
        have hbw : Below wB.heap.size W1 W1 := Below.refl _ _
        have hwB : wB.heap.size ≤ w.heap.size := hold.size
        refine ⟨_, _, hr, .inl ⟨rfl, ⟨hIp _ _ _ _ (by omega) (by omega) hi3, hl4, hk4, by simp; omega, by simp; omega⟩, ⟨?_, ?_, ?_⟩⟩⟩
        · have h1 : Below wB.heap.size Wa (Wa.putObj (w.heap.size + 1) (.loop { rec .ready none with state := .busy })) := (Below.refl _ _).grown (grownBy_putObj' Wa _ _) (by omega) (fun k e => by cases e; omega)
          have h2 : Below wB.heap.size W3 (W3.putObj (w.heap.size + 1) (.loop (rec (if (none : Option Code).isNone then .ready else .done) none))) := (Below.refl _ _).grown (grownBy_putObj' W3 _ _) (by omega) (fun k e => by cases e; omega)
          exact ((hka.below.trans h1).trans hk3.below).trans h2
        · rw [World.putObj_heap_other (show gb ≠ w.heap.size + 1 by rintro rfl; have := blk_lt hbox; omega), hk3.box, World.putObj_heap_other (show gb ≠ w.heap.size + 1 by rintro rfl; have := blk_lt hbox; omega), hka.box]
        · intro k h0 h1
          rw [World.putObj_heap_other (show k ≠ w.heap.size + 1 by omega), hk3.mine k (by omega) (by omega), World.putObj_heap_other (show k ≠ w.heap.size + 1 by omega), hka.mine k (by omega) (by omega)]
      | ret =>
        obtain ⟨hk3, hi3⟩ := hp
        obtain ⟨hr, hlt3, hl4, hk4⟩ := fin (some .ret) W3 hk3
        exact ⟨_, _, hr, .inr ⟨rfl, hIxp _ _ _ (by omega) (by omega) hi3, hl4, hk4⟩⟩
      | exit id => exact hp.elim
      | goto t => exact hp.elim
      | panic ch => exact hp.elim
      | outgrown => exact hp.elim
    rintro e W2 ⟨⟨v, rfl⟩, (⟨hi, hl, hk, _, _⟩ | ⟨q, hi, hl, hk⟩)⟩
    · exact ⟨none, _, by have := run_endLoop (P := Try.prog) hl (by rw [hrec]; simp); rw [hrec] at this; exact this, hdone _ (hIp _ _ _ _ (by omega) (by omega) hi) ((World.putObj_heap_other (by omega)).trans hk)⟩
    · exact ⟨some .ret, _, by have := run_endLoop (P := Try.prog) hl (by rw [hrec]; simp); rw [hrec] at this; exact this, hstop _ (hIxp _ _ _ (by omega) (by omega) hi) ((World.putObj_heap_other (by omega)).trans hk)⟩
end Go.Proofs.Ytokhmghgghjmhaa.Q
namespace Go.Proofs.Ytokhmghgghjmhaa.Q
open Go.RowKit Go.Shelf Go.Proofs.YtokhmghgghjmhaaW.PrintWords Go.Proofs.YtokhmghgghjmhaaW.PrintLast Go.Proofs.YtokhmghgghjmhaaW.PrintMore
attribute [local go_sem] Oper.semAt_some
set_option linter.unusedVariables false
/-- All dry numbers of the horses. -/
def dries (hs : List S139) : List (Nat → Int) := allN hs hs.length 0 (fun _ => 0)
def canB (hs : List S139) (hung : List Int) (looks : List S140) (out : List Int) : Bool := (dries hs).any fun d => rightB hs hung looks d out
/-- Each dry number lies in its horse's range; where there is no horse stands 0. -/
theorem allN_mem (hs : List S139) : ∀ (d h : Nat) (x y : Nat → Int), h + d = hs.length → y ∈ allN hs d h x →
    (∀ i, i < h ∨ hs.length ≤ i → y i = x i) ∧ ∀ i : Nat, h ≤ i → i < hs.length → (rd_T139 hs i).f0.f0 ≤ y i ∧ y i ≤ (rd_T139 hs i).f0.f1
  | 0, h, x, y, hd, hy => by
    simp only [allN, List.mem_singleton] at hy
    subst hy
    exact ⟨fun _ _ => rfl, fun i h0 h1 => by omega⟩
  | d + 1, h, x, y, hd, hy => by
    simp only [allN, List.mem_flatMap, vals, List.mem_map, List.mem_range] at hy
    obtain ⟨v, ⟨j, hj, rfl⟩, hy⟩ := hy
    obtain ⟨h1, h2⟩ := allN_mem hs d (h + 1) _ y (by omega) hy
    refine ⟨fun i hi => ?_, fun i h0 hl => ?_⟩
    · rw [h1 i (by omega)]; simp only [upd]; rw [if_neg (by omega)]
    · by_cases e : i = h
      · subst e
        rw [h1 i (by omega)]; simp only [upd, if_true]; omega
      · exact h2 i (by omega) hl
theorem dries_bd {cs cl : Int} {hs : List S139} {hung : List Int} {looks : List S140} (V : Valid cs cl hs hung looks) {x : Nat → Int} (hx : x ∈ dries hs) (i : Nat) : 0 ≤ x i ∧ x i ≤ 60 := by
  obtain ⟨h1, h2⟩ := allN_mem hs hs.length 0 _ x (by omega) hx
  by_cases hi : i < hs.length
  · have := h2 i (by omega) hi; have := V.dry i hi; omega
  · rw [h1 i (by omega)]; omega
set_option maxHeartbeats 1000000 in
theorem truths_calls (w : World) (c0 c1 c2 c3 c4 : Value) :
    Calls Try.prog 125 #[.agg #[c0, c1, c2, c3, c4]] w fun e w' => e = .returned (.func (.func 144) #[] #[.pointer (some ⟨w.heap.size, 0, none⟩)]) ∧ w.alloc (.cells #[c0, c1, c2, c3, c4] 35) = w' := by
  go_enter Try.func125, Try.ntmps125
  go_wp2_with fail
  go_ret
  exact ⟨rfl, rfl⟩
theorem results_cell_bool {fn : Func} {p : Tmp} {tmps : Array Value} {w : World} {g : Nat} {b : Bool} (h : fn.results = #[.cell p 4]) (hp : tmps[p]?.getD undef = .pointer (some ⟨g, 0, none⟩))
    (hc : w.cell? ⟨g, 0, none⟩ = some (.bool b)) : (results fn tmps).run Try.prog w = .ok (.bool b) w := by
  have hu := Try.underlying4
  simp [results, h, go_sem, hp, hc, asAddr]
/-- What lies in memory while looks are asked. -/
structure PI (w : World) (cs cl : Int) (A2 A3 A4 A : Option Addr) (n2 n3 n4 no c2 c3 c4 c5 : Nat) (b : Bool) (W : World) : Prop where
  below : Below w.heap.size w W
  c : W.heap[w.heap.size]? = some (.cells #[.int .i64 cs, .int .i64 cl, .slice A2 n2 c2, .slice A3 n3 c3, .slice A4 n4 c4] 35 (0, 0))
  o : W.heap[w.heap.size + 1]? = some (.cells #[.slice A no c5] 23 (0, 0))
  r : W.heap[w.heap.size + 1 + 1]? = some (.cells #[.bool b] 4 (0, 0))
theorem PI.same {w : World} {cs cl : Int} {A2 A3 A4 A : Option Addr} {n2 n3 n4 no c2 c3 c4 c5 : Nat} {b : Bool} {W W' : World} (h : PI w cs cl A2 A3 A4 A n2 n3 n4 no c2 c3 c4 c5 b W) {N : Nat} (hb : Below N W W') (hN : w.heap.size + 3 ≤ N) :
    PI w cs cl A2 A3 A4 A n2 n3 n4 no c2 c3 c4 c5 b W' :=
  ⟨h.below.trans (hb.mono (by omega)), (hb.block _ (by omega)).trans h.c, (hb.block _ (by omega)).trans h.o, (hb.block _ (by omega)).trans h.r⟩
theorem below_putObj {N : Nat} (A : World) (k : Nat) (o : Obj) (h : N ≤ k) : Below N A (A.putObj k o) := ⟨rfl, rfl, rfl, by simp, fun i hi => World.putObj_heap_other (by omega)⟩
set_option maxHeartbeats 4000000 in
set_option maxRecDepth 100000 in
theorem possible_calls (cs cl : Int) (A2 A3 A4 A : Option Addr) (c2 c3 c4 c5 : Nat) (hs : List S139) (hung : List Int) (looks : List S140) (out : List Int) (w : World)
    (V : Valid cs cl hs hung looks) (M : Mem w A2 A3 A4 c2 c3 c4 hs hung looks) (hro : Kd.C (Kd.int .i64) w A out.length out) (hco : out.length ≤ c5) (ho : out.length ≤ 1000) :
    Calls Try.prog 91 #[.agg #[.int .i64 cs, .int .i64 cl, .slice A2 hs.length c2, .slice A3 hung.length c3, .slice A4 looks.length c4], .slice A out.length c5] w
      fun e w' => e = .returned (.bool (canB hs hung looks out)) ∧ Below w.heap.size w w' := by
  have HV := Aside0.mk V
  have HM := Aside0.mk M
  have HRO := Aside0.mk hro
  have HCO := Aside0.mk hco
  have HO := Aside0.mk ho
  clear V M hro hco ho
  refine (callsIn_wide (n := 3)).1 ?_
  refine callsIn_of_wp_marks Try.func91 rfl trivial ?_ rfl
  simp only [Try.ntmps91, List.size_toArray, List.length_cons, List.length_nil, Nat.reduceAdd, Nat.reduceSub, Array.replicate_succ, Array.replicate_zero, List.push_toArray, List.append_toArray, List.nil_append, List.cons_append]
  gi_wp2_with fail
  refine ⟨trivial, ?_⟩
  refine (callsIn_wide.2 (truths_calls _ _ _ _ _ _)).mono ?_
  rintro e w1 ⟨rfl, rfl⟩
  gi_wp2_with fail
  obtain ⟨W0, hW0⟩ : ∃ W0, ((((w.alloc (.cells #[.int .i64 cs, .int .i64 cl, .slice A2 hs.length c2, .slice A3 hung.length c3, .slice A4 looks.length c4] 35)).alloc (.cells #[.slice A out.length c5] 23)).alloc (.cells #[.bool false] 4)).alloc
      (.cells #[.int .i64 cs, .int .i64 cl, .slice A2 hs.length c2, .slice A3 hung.length c3, .slice A4 looks.length c4] 35)) = W0 := ⟨_, rfl⟩
  have HP0 : PI w cs cl A2 A3 A4 A hs.length hung.length looks.length out.length c2 c3 c4 c5 false W0 := by
    rw [← hW0]
    exact ⟨by repeat (first | exact Below.refl _ _ | apply below_alloc), by repeat (first | (refine blk_new_ ?_; simp; done) | refine blk_alloc ?_ _), by repeat (first | (refine blk_new_ ?_; simp; done) | refine blk_alloc ?_ _), by repeat (first | (refine blk_new_ ?_; simp; done) | refine blk_alloc ?_ _)⟩
  have hbox : W0.heap[w.heap.size + 1 + 1 + 1]? = some (.cells #[.int .i64 cs, .int .i64 cl, .slice A2 hs.length c2, .slice A3 hung.length c3, .slice A4 looks.length c4] 35 (0, 0)) := by
    rw [← hW0]; refine blk_new_ ?_; simp
  have hsz : W0.heap.size = w.heap.size + 4 := by rw [← hW0]; simp
  rw [hW0]
  clear hW0
  refine range_truths (wB := w) (n := 3) (w.heap.size + 1 + 1 + 1) rfl cs cl A2 A3 A4 hung.length looks.length c2 c3 c4 hs HM.out.h2 hbox HP0.below HV.out.n4 HV.out.dry
    (fun pre W => PI w cs cl A2 A3 A4 A hs.length hung.length looks.length out.length c2 c3 c4 c5 false W ∧ ∀ x ∈ pre, rightB hs hung looks x out = false)
    (fun W => PI w cs cl A2 A3 A4 A hs.length hung.length looks.length out.length c2 c3 c4 c5 true W ∧ ∃ x ∈ dries hs, rightB hs hung looks x out = true)
    (fun x a' W => ∃ Bx : Nat, W.heap[Bx]? = some (.cells #[.int .i64 (x 0), .int .i64 (x 1), .int .i64 (x 2), .int .i64 (x 3)] 152 (0, 0)) ∧ w.heap.size + 9 ≤ Bx ∧
      a' = { tmps := #[.agg #[.int .i64 cs, .int .i64 cl, .slice A2 hs.length c2, .slice A3 hung.length c3, .slice A4 looks.length c4], .slice A out.length c5, .pointer (some ⟨w.heap.size, 0, none⟩), .pointer (some ⟨w.heap.size + 1, 0, none⟩), .pointer (some ⟨w.heap.size + 1 + 1, 0, none⟩), .pointer (some ⟨Bx, 0, none⟩),
        .agg #[.int .i64 cs, .int .i64 cl, .slice A2 hs.length c2, .slice A3 hung.length c3, .slice A4 looks.length c4], .func (.func 144) #[] #[.pointer (some ⟨w.heap.size + 1 + 1 + 1, 0, none⟩)], .agg #[.int .i64 (x 0), .int .i64 (x 1), .int .i64 (x 2), .int .i64 (x 3)], undef, undef, undef, undef], defers := [] })
    ?sI ?sp ?sa ?sx ?sA ⟨HP0, by simp⟩ ?assign ?body ?done ?stop
  case sI => intro s A C h st; exact ⟨h.1.same st.below (by omega), h.2⟩
  case sp => intro pre A k o h1 h2 h; exact ⟨h.1.same (below_putObj A k o h1) (by omega), h.2⟩
  case sa => intro pre A o h; exact ⟨h.1.same ((Below.refl A.heap.size A).alloc (Nat.le_refl _) o) (by have := blk_lt h.1.r; omega), h.2⟩
  case sx => intro A k o h1 h2 h; exact ⟨h.1.same (below_putObj A k o h1) (by omega), h.2⟩
  case sA => intro x a' A k o h1 h2 ⟨Bx, hB, hs9, e⟩; exact ⟨Bx, (World.putObj_heap_other (by omega)).trans hB, hs9, e⟩
  case assign =>
    intro l pre x W K hsz5 hgz ⟨h1, h2⟩ hK
    gi_wp2_with fail
    exact hK _ _ (Rk.alloc W _ hgz (by omega) (by omega)) (by simp; omega) ⟨h1.same ((Below.refl W.heap.size W).alloc (Nat.le_refl _) _) (by omega), h2⟩ ⟨W.heap.size, blk_new _ _, by omega, rfl⟩
  case body =>
    rintro l pre x a' W hsz5 hgz hxm ⟨h1, h2⟩ ⟨Bx, hB, hs9, rfl⟩
    have H1 := Aside0.mk h1
    have H2 := Aside0.mk h2
    have HB := Aside0.mk hB
    have HX : Aside0 (x ∈ dries hs) := ⟨by obtain ⟨s, e⟩ := hxm; unfold dries; rw [e]; simp⟩
    have k0 : W.cell? ⟨w.heap.size, 0, none⟩ = some (.int .i64 cs) := (blk_cell h1.c 0).trans rfl
    have k1 : W.cell? ⟨w.heap.size, 1, none⟩ = some (.int .i64 cl) := (blk_cell h1.c 1).trans rfl
    have k2 : W.cell? ⟨w.heap.size, 2, none⟩ = some (.slice A2 hs.length c2) := (blk_cell h1.c 2).trans rfl
    have k3 : W.cell? ⟨w.heap.size, 3, none⟩ = some (.slice A3 hung.length c3) := (blk_cell h1.c 3).trans rfl
    have k4 : W.cell? ⟨w.heap.size, 4, none⟩ = some (.slice A4 looks.length c4) := (blk_cell h1.c 4).trans rfl
    have k5 : W.cell? ⟨w.heap.size + 1, 0, none⟩ = some (.slice A out.length c5) := (blk_cell h1.o 0).trans rfl
    have x0 : W.cell? ⟨Bx, 0, none⟩ = some (.int .i64 (x 0)) := (blk_cell hB 0).trans rfl
    have x1 : W.cell? ⟨Bx, 1, none⟩ = some (.int .i64 (x 1)) := (blk_cell hB 1).trans rfl
    have x2 : W.cell? ⟨Bx, 2, none⟩ = some (.int .i64 (x 2)) := (blk_cell hB 2).trans rfl
    have x3 : W.cell? ⟨Bx, 3, none⟩ = some (.int .i64 (x 3)) := (blk_cell hB 3).trans rfl
    clear h1 h2 hB hxm hbox HP0
    cases hrb : rightB hs hung looks x out with
    | false =>
      have HRB := Aside0.mk hrb
      clear hrb
      gi_wp2_with fail
      refine ⟨trivial, ?_⟩
      refine CallsIn.inRound l (callsIn_wide.2 ((right_calls cs cl A2 A3 A4 A c2 c3 c4 c5 hs hung looks x out _ HV.out (HM.out.later H1.out.below) (Kd.C_below HRO.out H1.out.below) HCO.out HO.out (dries_bd HV.out HX.out)).mono ?_))
      rintro e W2 ⟨rfl, hb⟩
      rw [HRB.out]
      have HBW := Aside0.mk hb
      clear hb
      gi_wp2_with fail
      exact ⟨Rk.of_below HBW.out hgz (by omega) (by omega), H1.out.same HBW.out (by omega), fun z hz => by
        rcases List.mem_append.1 hz with hz | hz
        · exact H2.out z hz
        · rw [List.mem_singleton.1 hz]; exact HRB.out⟩
    | true =>
      have HRB := Aside0.mk hrb
      clear hrb
      gi_wp2_with fail
      refine ⟨trivial, ?_⟩
      refine CallsIn.inRound l (callsIn_wide.2 ((right_calls cs cl A2 A3 A4 A c2 c3 c4 c5 hs hung looks x out _ HV.out (HM.out.later H1.out.below) (Kd.C_below HRO.out H1.out.below) HCO.out HO.out (dries_bd HV.out HX.out)).mono ?_))
      rintro e W2 ⟨rfl, hb⟩
      rw [HRB.out]
      have HBW := Aside0.mk hb
      have HP2 := Aside0.mk (H1.out.same hb (by omega))
      clear hb
      have k6 : W2.cell? ⟨w.heap.size + 1 + 1, 0, none⟩ = some (.bool false) := (blk_cell HP2.out.r 0).trans rfl
      have k7 := blk_frozen HP2.out.r 0
      gi_wp2_with fail
      refine ⟨fun k h0 h1 => ?_, ⟨HP2.out.below.setCell (by simp; omega) _, blk_far HP2.out.c (by simp; omega) _, blk_far HP2.out.o (by simp) _, blk_put HP2.out.r 0 _ rfl⟩, x, HX.out, HRB.out⟩
      rw [Below.heap_setCell W2 _ _ k (by simp; omega), HBW.out.block k (by omega)]
  case done =>
    rintro W ⟨h1, h2⟩ hK
    have H1 := Aside0.mk h1
    have H2 := Aside0.mk h2
    have HK := Aside0.mk hK
    have k6 : W.cell? ⟨w.heap.size + 1 + 1, 0, none⟩ = some (.bool false) := (blk_cell h1.r 0).trans rfl
    have k7 := blk_frozen h1.r 0
    clear h1 h2 hK hbox HP0
    gi_wp2_with fail
    refine ⟨by simp, .inl ⟨_, _, rfl, run_takeDeferred ((Below.heap_setCell W _ _ _ (by simp; omega)).trans HK.out), ?_⟩⟩
    have hd : ((W.setCell ⟨w.heap.size + 1 + 1, 0, none⟩ (.bool false)).putObj W0.heap.size (.deferred none)).heap[w.heap.size + 1 + 1]? = some (.cells #[.bool false] 4 (0, 0)) :=
      (World.putObj_heap_other (by omega)).trans (blk_put H1.out.r 0 _ rfl)
    refine ⟨_, results_cell_bool rfl rfl (blk_cell hd 0), ?_, (H1.out.below.setCell (by simp; omega) _).trans (below_putObj _ _ _ (by omega))⟩
    have hr : canB hs hung looks out = false := by
      unfold canB
      rw [List.any_eq_false]
      intro d hd
      rw [H2.out d hd]; simp
    rw [hr]
  case stop =>
    rintro W ⟨h1, h2⟩ hK
    have H1 := Aside0.mk h1
    have H2 := Aside0.mk h2
    have HK := Aside0.mk hK
    clear h1 h2 hK hbox HP0
    gi_wp2_with fail
    refine ⟨by simp, .inl ⟨_, _, rfl, run_takeDeferred HK.out, ?_⟩⟩
    have hd : (W.putObj W0.heap.size (.deferred none)).heap[w.heap.size + 1 + 1]? = some (.cells #[.bool true] 4 (0, 0)) :=
      (World.putObj_heap_other (by omega)).trans H1.out.r
    refine ⟨_, results_cell_bool rfl rfl (blk_cell hd 0), ?_, H1.out.below.trans (below_putObj _ _ _ (by omega))⟩
    have hr : canB hs hung looks out = true := by
      unfold canB
      rw [List.any_eq_true]
      exact H2.out
    rw [hr]
end Go.Proofs.Ytokhmghgghjmhaa.Q
namespace Go.Proofs.Ytokhmghgghjmhaa.Q
open Go.RowKit Go.Proofs.YtokhmghgghjmhaaW.PrintWords Go.Proofs.YtokhmghgghjmhaaW.PrintLast Go.Proofs.YtokhmghgghjmhaaW.PrintMore
set_option linter.unusedVariables false
def validB (h : S139) : Bool := decide (1 ≤ h.f0.f0 ∧ h.f0.f0 ≤ h.f0.f1 ∧ h.f0.f1 ≤ 60 ∧ (0 ≤ h.f1 ∧ h.f1 ≤ 9) ∧ (0 ≤ h.f2 ∧ h.f2 ≤ 30))
theorem valid_f (h : S139) : closet_Horse_valid.f h.f0.f0 h.f0.f1 h.f1 h.f2 = some (validB h) := by
  unfold closet_Horse_valid.f closet_Range_none.f validB
  simp only [within_f, Option.bind_some]
  by_cases h1 : 1 ≤ h.f0.f0
  · by_cases h2 : h.f0.f0 > h.f0.f1
    · have : ¬ h.f0.f0 ≤ h.f0.f1 := by omega
      simp [h1, h2, this]
    · have h2' : h.f0.f0 ≤ h.f0.f1 := by omega
      by_cases h3 : h.f0.f1 ≤ 60
      · by_cases h4 : 0 ≤ h.f1 ∧ h.f1 ≤ 9 <;> simp [h1, h2, h2', h3, h4]
      · simp [h1, h2, h2', h3]
  · simp [h1]
set_option maxHeartbeats 1000000 in
set_option maxRecDepth 100000 in
theorem notValid_calls (g : Nat) (h : S139) (w : World) (hg : w.heap[g]? = some (.cells #[.func (.func 113) #[] #[]] 174 (0, 0))) :
    Calls Try.prog 140 #[.agg #[.int .i64 h.f0.f0, .int .i64 h.f0.f1, .int .i64 h.f1, .int .i64 h.f2], .pointer (some ⟨g, 0, none⟩)] w fun e w' => e = .returned (.bool (!validB h)) ∧ Below w.heap.size w w' := by
  have hz := blk_lt hg
  have hc : w.cell? ⟨g, 0, none⟩ = some (.func (.func 113) #[] #[]) := (blk_cell hg 0).trans rfl
  have HV := Aside0.mk (valid_f h)
  clear hg
  cases hb : validB h with
  | false =>
    rw [hb] at HV
    clear hb
    go_enter Try.func140, Try.ntmps140
    go_wp2_with fail
    refine (closet_Horse_valid.calls _ _ _ _ _ _ HV.out).mono ?_
    rintro e w1 ⟨rfl, hb⟩
    have HB := Aside0.mk (below_step (below_alloc (Below.refl _ _) _) hb)
    clear hb
    go_wp2_with fail
    go_ret
    exact ⟨rfl, HB.out⟩
  | true =>
    rw [hb] at HV
    clear hb
    go_enter Try.func140, Try.ntmps140
    go_wp2_with fail
    refine (closet_Horse_valid.calls _ _ _ _ _ _ HV.out).mono ?_
    rintro e w1 ⟨rfl, hb⟩
    have HB := Aside0.mk (below_step (below_alloc (Below.refl _ _) _) hb)
    clear hb
    go_wp2_with fail
    go_ret
    exact ⟨rfl, HB.out⟩
/-- Are all horses valid? -/
def allH (hs : List S139) : Bool := decide (∀ i : Nat, i < hs.length → validB (rd_T139 hs i) = true)
/-- A number that is -1, or not below 0. -/
def IdxPost (b : Bool) (w : World) (e : Ending) (w' : World) : Prop := ∃ r : Int, e = .returned (.int .i64 r) ∧ ((b = true ∧ r = -1) ∨ (b = false ∧ 0 ≤ r)) ∧ Below w.heap.size w w'
set_option maxHeartbeats 1000000 in
set_option maxRecDepth 100000 in
theorem indexH_calls (g : Nat) (A : Option Addr) (c : Nat) (hs : List S139) (w : World) (hg : w.heap[g]? = some (.cells #[.func (.func 113) #[] #[]] 174 (0, 0))) (hr : Kd.C k139 w A hs.length hs) (hl : hs.length ≤ 1000) :
    Calls Try.prog 156 #[.slice A hs.length c, .func (.func 140) #[] #[.pointer (some ⟨g, 0, none⟩)]] w (IdxPost (allH hs) w) := by
  have HG := Aside0.mk hg
  have HR := Aside0.mk hr
  clear hg hr
  go_enter Try.func156, Try.ntmps156
  go_wp2_with fail
  go_loopg [8] hs.length (fun k v wr => ∃ n : Nat, v = .int .i64 n ∧ Aside0 (n + k = hs.length) ∧ Aside0 (∀ i : Nat, i < n → validB (rd_T139 hs i) = true) ∧ Aside0 (Below w.heap.size w wr))
  case atStart => exact ⟨0, rfl, ⟨by omega⟩, ⟨fun i hi => absurd hi (by omega)⟩, ⟨Below.refl _ _⟩⟩
  case round =>
    obtain ⟨n, rfl, HN, HA, HB⟩ := hrel
    by_cases hlt : n < hs.length
    · obtain ⟨ad, e, h0, h1, h2, h3⟩ := at_h HR.out n hlt
      cases e
      replace h0 := later HB.out h0
      replace h1 := later HB.out h1
      replace h2 := later HB.out h2
      replace h3 := later HB.out h3
      have HX := Aside0.mk (notValid_calls g (rd_T139 hs n) wr (blk_below HG.out HB.out))
      cases hv : validB (rd_T139 hs n) with
      | true =>
        rw [hv] at HX
        have HV := Aside0.mk hv
        clear hv
        go_wp2_with fail
        refine HX.out.mono ?_
        clear HX
        rintro e w1 ⟨rfl, hb⟩
        have HB1 := Aside0.mk (below_step HB.out hb)
        clear hb
        go_wp2_with fail
        go_roundg (hs.length - (n + 1))
        case measure => have := HN.out; omega
        case rel =>
          refine ⟨n + 1, by go_num, ⟨by have := HN.out; omega⟩, ⟨fun i hi => ?_⟩, HB1⟩
          by_cases hin : i < n
          · exact HA.out i hin
          · obtain rfl : i = n := by omega
            exact HV.out
      | false =>
        rw [hv] at HX
        have HV := Aside0.mk hv
        clear hv
        go_wp2_with fail
        refine HX.out.mono ?_
        clear HX
        rintro e w1 ⟨rfl, hb⟩
        have HB1 := Aside0.mk (below_step HB.out hb)
        clear hb
        go_wp2_with fail
        go_ret
        exact ⟨n, rfl, .inr ⟨decide_eq_false (fun h => by have := h n hlt; rw [HV.out] at this; cases this), by omega⟩, HB1.out⟩
    · go_wp2_with fail
      go_ret
      exact ⟨-1, rfl, .inl ⟨decide_eq_true fun i hi => HA.out i (by have := HN.out; omega), rfl⟩, HB.out⟩
set_option maxHeartbeats 1000000 in
set_option maxRecDepth 100000 in
theorem someH_calls (g : Nat) (A : Option Addr) (c : Nat) (hs : List S139) (w : World) (hg : w.heap[g]? = some (.cells #[.func (.func 113) #[] #[]] 174 (0, 0))) (hr : Kd.C k139 w A hs.length hs) (hl : hs.length ≤ 1000) :
    Calls Try.prog 139 #[.slice A hs.length c, .func (.func 140) #[] #[.pointer (some ⟨g, 0, none⟩)]] w fun e w' => e = .returned (.bool (!allH hs)) ∧ Below w.heap.size w w' := by
  have HX := Aside0.mk (indexH_calls g A c hs w hg hr hl)
  clear hg hr
  go_enter Try.func139, Try.ntmps139
  go_wp2_with fail
  refine HX.out.mono ?_
  clear HX
  rintro e w1 ⟨r, rfl, h, hb⟩
  have HB := Aside0.mk hb
  clear hb
  rcases h with ⟨h, rfl⟩ | ⟨h, hr⟩
  · have HH := Aside0.mk h
    clear h
    go_wp2_with fail
    go_ret
    exact ⟨by rw [HH.out]; rfl, HB.out⟩
  · have HH := Aside0.mk h
    clear h
    go_wp2_with fail
    go_ret
    exact ⟨by rw [HH.out]; rfl, HB.out⟩
set_option maxHeartbeats 1000000 in
set_option maxRecDepth 100000 in
theorem allH_calls (A : Option Addr) (c : Nat) (hs : List S139) (w : World) (hr : Kd.C k139 w A hs.length hs) (hl : hs.length ≤ 1000) {b : Bool} (hb : allH hs = b) :
    Calls Try.prog 112 #[.slice A hs.length c, .func (.func 113) #[] #[]] w fun e w' => e = .returned (.bool b) ∧ Below w.heap.size w w' := by
  have HX := Aside0.mk (someH_calls w.heap.size A c hs (w.alloc (.cells #[.func (.func 113) #[] #[]] 174)) (blk_new _ _) (Kd.C_alloc hr _) hl)
  rw [hb] at HX
  clear hr hb
  go_enter Try.func112, Try.ntmps112
  go_wp2_with fail
  refine HX.out.mono ?_
  clear HX
  rintro e w1 ⟨rfl, hb⟩
  have HB := Aside0.mk (below_step (below_alloc (Below.refl _ _) _) hb)
  clear hb
  go_wp2_with fail
  go_ret
  cases b <;> exact ⟨rfl, HB.out⟩
end Go.Proofs.Ytokhmghgghjmhaa.Q
namespace Go.Proofs.Ytokhmghgghjmhaa.Q
open Go.RowKit Go.Proofs.YtokhmghgghjmhaaW.PrintWords Go.Proofs.YtokhmghgghjmhaaW.PrintLast Go.Proofs.YtokhmghgghjmhaaW.PrintMore
set_option linter.unusedVariables false
/-- Is a look fine: its horse and its minute? -/
def lookB (n : Nat) (l : S140) : Bool := decide (0 ≤ l.f0 ∧ l.f0 ≤ wrap64 ((n : Int) - 1) ∧ 0 ≤ l.f1 ∧ l.f1 ≤ 99)
theorem look_f (cs cl : Int) (hs : List S139) (hung : List Int) (looks : List S140) (l : S140) : closet_Closet_look.f cs cl hs hung looks l.f0 l.f1 l.f2 = some (lookB hs.length l) := by
  unfold closet_Closet_look.f closet_Closet_horse.f closet_minute.f lookB
  simp only [within_f, Option.bind_some]
  by_cases h1 : 0 ≤ l.f0 ∧ l.f0 ≤ wrap64 ((hs.length : Int) - 1)
  · simp [h1]
  · have h2 : ¬ (0 ≤ l.f0 ∧ l.f0 ≤ wrap64 ((hs.length : Int) - 1) ∧ 0 ≤ l.f1 ∧ l.f1 ≤ 99) := fun h => h1 ⟨h.1, h.2.1⟩
    simp [h1, h2]
set_option maxHeartbeats 1000000 in
set_option maxRecDepth 100000 in
theorem notLook_calls (cs cl : Int) {A2 A3 A4 : Option Addr} {c2 c3 c4 : Nat} {hs : List S139} {hung : List Int} {looks : List S140} {w : World} (M : Mem w A2 A3 A4 c2 c3 c4 hs hung looks) (g : Nat) (h : S140) (hg : w.heap[g]? = some (.cells #[.func (.func 110) #[.agg #[.int .i64 cs, .int .i64 cl, .slice A2 hs.length c2, .slice A3 hung.length c3, .slice A4 looks.length c4]] #[]] 172 (0, 0))) :
    Calls Try.prog 142 #[.agg #[.int .i64 h.f0, .int .i64 h.f1, .bool h.f2], .pointer (some ⟨g, 0, none⟩)] w fun e w' => e = .returned (.bool (!lookB hs.length h)) ∧ Below w.heap.size w w' := by
  have hz := blk_lt hg
  have hc : w.cell? ⟨g, 0, none⟩ = some (.func (.func 110) #[.agg #[.int .i64 cs, .int .i64 cl, .slice A2 hs.length c2, .slice A3 hung.length c3, .slice A4 looks.length c4]] #[]) := (blk_cell hg 0).trans rfl
  have HV := Aside0.mk (look_f cs cl hs hung looks h)
  have HM := Aside0.mk M
  clear M
  clear hg
  cases hb : lookB hs.length h with
  | false =>
    rw [hb] at HV
    clear hb
    go_enter Try.func142, Try.ntmps142
    go_wp2_with fail
    refine (closet_Closet_look.calls cs cl A2 c2 hs A3 c3 hung A4 c4 looks _ _ _ _ _ (Kd.C_alloc HM.out.h2 _) HM.out.l2 (Kd.C_alloc HM.out.h3 _) HM.out.l3 (Kd.C_alloc HM.out.h4 _) HM.out.l4 HV.out).mono ?_
    rintro e w1 ⟨rfl, hb⟩
    have HB := Aside0.mk (below_step (below_alloc (Below.refl _ _) _) hb)
    clear hb
    go_wp2_with fail
    go_ret
    exact ⟨rfl, HB.out⟩
  | true =>
    rw [hb] at HV
    clear hb
    go_enter Try.func142, Try.ntmps142
    go_wp2_with fail
    refine (closet_Closet_look.calls cs cl A2 c2 hs A3 c3 hung A4 c4 looks _ _ _ _ _ (Kd.C_alloc HM.out.h2 _) HM.out.l2 (Kd.C_alloc HM.out.h3 _) HM.out.l3 (Kd.C_alloc HM.out.h4 _) HM.out.l4 HV.out).mono ?_
    rintro e w1 ⟨rfl, hb⟩
    have HB := Aside0.mk (below_step (below_alloc (Below.refl _ _) _) hb)
    clear hb
    go_wp2_with fail
    go_ret
    exact ⟨rfl, HB.out⟩
/-- Are all looks fine? -/
def allL (n : Nat) (looks : List S140) : Bool := decide (∀ i : Nat, i < looks.length → lookB n (rd_T140 looks i) = true)
set_option maxHeartbeats 1000000 in
set_option maxRecDepth 100000 in
theorem indexL_calls (cs cl : Int) {A2 A3 A4 : Option Addr} {c2 c3 c4 : Nat} {hs : List S139} {hung : List Int} {looks : List S140} {w : World} (M : Mem w A2 A3 A4 c2 c3 c4 hs hung looks) (g : Nat) (hg : w.heap[g]? = some (.cells #[.func (.func 110) #[.agg #[.int .i64 cs, .int .i64 cl, .slice A2 hs.length c2, .slice A3 hung.length c3, .slice A4 looks.length c4]] #[]] 172 (0, 0))) (hl : looks.length ≤ 1000) :
    Calls Try.prog 157 #[.slice A4 looks.length c4, .func (.func 142) #[] #[.pointer (some ⟨g, 0, none⟩)]] w (IdxPost (allL hs.length looks) w) := by
  have HG := Aside0.mk hg
  have HM := Aside0.mk M
  clear hg M
  go_enter Try.func157, Try.ntmps157
  go_wp2_with fail
  go_loopg [8] looks.length (fun k v wr => ∃ n : Nat, v = .int .i64 n ∧ Aside0 (n + k = looks.length) ∧ Aside0 (∀ i : Nat, i < n → lookB hs.length (rd_T140 looks i) = true) ∧ Aside0 (Below w.heap.size w wr))
  case atStart => exact ⟨0, rfl, ⟨by omega⟩, ⟨fun i hi => absurd hi (by omega)⟩, ⟨Below.refl _ _⟩⟩
  case round =>
    obtain ⟨n, rfl, HN, HA, HB⟩ := hrel
    by_cases hlt : n < looks.length
    · obtain ⟨ad, e, h0, h1, h2⟩ := at_l HM.out.h4 n hlt
      cases e
      replace h0 := later HB.out h0
      replace h1 := later HB.out h1
      replace h2 := later HB.out h2
      have HX := Aside0.mk (notLook_calls cs cl (HM.out.later HB.out) g (rd_T140 looks n) (blk_below HG.out HB.out))
      cases hv : lookB hs.length (rd_T140 looks n) with
      | true =>
        rw [hv] at HX
        have HV := Aside0.mk hv
        clear hv
        go_wp2_with fail
        refine HX.out.mono ?_
        clear HX
        rintro e w1 ⟨rfl, hb⟩
        have HB1 := Aside0.mk (below_step HB.out hb)
        clear hb
        go_wp2_with fail
        go_roundg (looks.length - (n + 1))
        case measure => have := HN.out; omega
        case rel =>
          refine ⟨n + 1, by go_num, ⟨by have := HN.out; omega⟩, ⟨fun i hi => ?_⟩, HB1⟩
          by_cases hin : i < n
          · exact HA.out i hin
          · obtain rfl : i = n := by omega
            exact HV.out
      | false =>
        rw [hv] at HX
        have HV := Aside0.mk hv
        clear hv
        go_wp2_with fail
        refine HX.out.mono ?_
        clear HX
        rintro e w1 ⟨rfl, hb⟩
        have HB1 := Aside0.mk (below_step HB.out hb)
        clear hb
        go_wp2_with fail
        go_ret
        exact ⟨n, rfl, .inr ⟨decide_eq_false (fun h => by have := h n hlt; rw [HV.out] at this; cases this), by omega⟩, HB1.out⟩
    · go_wp2_with fail
      go_ret
      exact ⟨-1, rfl, .inl ⟨decide_eq_true fun i hi => HA.out i (by have := HN.out; omega), rfl⟩, HB.out⟩
set_option maxHeartbeats 1000000 in
set_option maxRecDepth 100000 in
theorem someL_calls (cs cl : Int) {A2 A3 A4 : Option Addr} {c2 c3 c4 : Nat} {hs : List S139} {hung : List Int} {looks : List S140} {w : World} (M : Mem w A2 A3 A4 c2 c3 c4 hs hung looks) (g : Nat) (hg : w.heap[g]? = some (.cells #[.func (.func 110) #[.agg #[.int .i64 cs, .int .i64 cl, .slice A2 hs.length c2, .slice A3 hung.length c3, .slice A4 looks.length c4]] #[]] 172 (0, 0))) (hl : looks.length ≤ 1000) :
    Calls Try.prog 141 #[.slice A4 looks.length c4, .func (.func 142) #[] #[.pointer (some ⟨g, 0, none⟩)]] w fun e w' => e = .returned (.bool (!allL hs.length looks)) ∧ Below w.heap.size w w' := by
  have HX := Aside0.mk (indexL_calls cs cl M g hg hl)
  clear hg M
  go_enter Try.func141, Try.ntmps141
  go_wp2_with fail
  refine HX.out.mono ?_
  clear HX
  rintro e w1 ⟨r, rfl, h, hb⟩
  have HB := Aside0.mk hb
  clear hb
  rcases h with ⟨h, rfl⟩ | ⟨h, hr⟩
  · have HH := Aside0.mk h
    clear h
    go_wp2_with fail
    go_ret
    exact ⟨by rw [HH.out]; rfl, HB.out⟩
  · have HH := Aside0.mk h
    clear h
    go_wp2_with fail
    go_ret
    exact ⟨by rw [HH.out]; rfl, HB.out⟩
set_option maxHeartbeats 1000000 in
set_option maxRecDepth 100000 in
theorem allL_calls (cs cl : Int) {A2 A3 A4 : Option Addr} {c2 c3 c4 : Nat} {hs : List S139} {hung : List Int} {looks : List S140} {w : World} (M : Mem w A2 A3 A4 c2 c3 c4 hs hung looks) (hl : looks.length ≤ 1000) {b : Bool} (hb : allL hs.length looks = b) :
    Calls Try.prog 114 #[.slice A4 looks.length c4, .func (.func 110) #[.agg #[.int .i64 cs, .int .i64 cl, .slice A2 hs.length c2, .slice A3 hung.length c3, .slice A4 looks.length c4]] #[]] w fun e w' => e = .returned (.bool b) ∧ Below w.heap.size w w' := by
  have HX := Aside0.mk (someL_calls cs cl (w := w.alloc (.cells #[.func (.func 110) #[.agg #[.int .i64 cs, .int .i64 cl, .slice A2 hs.length c2, .slice A3 hung.length c3, .slice A4 looks.length c4]] #[]] 172)) (M.later (below_alloc (Below.refl _ _) _)) w.heap.size (blk_new _ _) hl)
  rw [hb] at HX
  clear M hb
  go_enter Try.func114, Try.ntmps114
  go_wp2_with fail
  refine HX.out.mono ?_
  clear HX
  rintro e w1 ⟨rfl, hb⟩
  have HB := Aside0.mk (below_step (below_alloc (Below.refl _ _) _) hb)
  clear hb
  go_wp2_with fail
  go_ret
  cases b <;> exact ⟨rfl, HB.out⟩
end Go.Proofs.Ytokhmghgghjmhaa.Q
namespace Go.Proofs.Ytokhmghgghjmhaa.Q
open Go.RowKit Go.Proofs.YtokhmghgghjmhaaW.PrintWords Go.Proofs.YtokhmghgghjmhaaW.PrintLast Go.Proofs.YtokhmghgghjmhaaW.PrintMore
set_option linter.unusedVariables false
set_option maxHeartbeats 1000000 in
set_option maxRecDepth 100000 in
theorem isPlace_all (cs cl : Int) (A2 A3 A4 A : Option Addr) (c2 c3 c4 c5 : Nat) (hs : List S139) (hung : List Int) (looks : List S140) (p : List Int) (w : World)
    (M : Mem w A2 A3 A4 c2 c3 c4 hs hung looks) (hrp : Kd.C (Kd.int .i64) w A p.length p) (hcp : p.length ≤ c5) (hn : hs.length ≤ 1000) {b : Bool} (hb : placeB (wrap64 (cs - 1)) hs.length p = b) :
    Calls Try.prog 88 #[.agg #[.int .i64 cs, .int .i64 cl, .slice A2 hs.length c2, .slice A3 hung.length c3, .slice A4 looks.length c4], .slice A p.length c5] w
      fun e w' => e = .returned (.bool b) ∧ Below w.heap.size w w' := by
  subst hb
  by_cases he : p.length = hs.length
  · exact isPlace_calls cs cl A2 A3 A4 A c2 c3 c4 c5 hs hung looks p w M hrp hcp (by omega) hn
  · have he1 : (p.length == hs.length) = false := beq_eq_false_iff_ne.2 he
    have he2 : ((p.length : Int) != (hs.length : Int)) = true := by rw [bne_iff_ne]; omega
    have hr : placeB (wrap64 (cs - 1)) hs.length p = false := decide_eq_false fun h => he h.1
    have HR := Aside0.mk hr
    clear he hr
    go_enter Try.func88, Try.ntmps88
    go_wp2_with fail
    go_ret
    exact ⟨by rw [HR.out]; rfl, below_alloc (Below.refl _ _) _⟩
/-- The product of the sizes of the ranges of the first so many horses. -/
def prodH (hs : List S139) : Nat → Int
  | 0 => 1
  | n + 1 => wrap64 (prodH hs n * wrap64 (wrap64 ((rd_T139 hs n).f0.f1 - (rd_T139 hs n).f0.f0) + 1))
/-- What CheckCloset says. -/
def checkB (cs cl : Int) (hs : List S139) (hung : List Int) (looks : List S140) : Int :=
  if cs > 4 ∨ hs.length > 4 ∨ looks.length > 5 then 3
  else if cs < 1 ∨ ¬ (0 ≤ cl ∧ cl ≤ 99) ∨ allH hs = false ∨ placeB (wrap64 (cs - 1)) hs.length hung = false ∨ allL hs.length looks = false then 1
  else if prodH hs hs.length > 2000 then 3 else 0
set_option maxHeartbeats 4000000 in
set_option maxRecDepth 100000 in
theorem check_calls (cs cl : Int) {A2 A3 A4 : Option Addr} {c2 c3 c4 : Nat} {hs : List S139} {hung : List Int} {looks : List S140} {w : World} (M : Mem w A2 A3 A4 c2 c3 c4 hs hung looks) :
    Calls Try.prog 63 #[.agg #[.int .i64 cs, .int .i64 cl, .slice A2 hs.length c2, .slice A3 hung.length c3, .slice A4 looks.length c4]] w
      fun e w' => e = .returned (.int .i64 (checkB cs cl hs hung looks)) ∧ Below w.heap.size w w' := by
  have HM := Aside0.mk M
  have HB0 := Aside0.mk (below_alloc (Below.refl w.heap.size w) (.cells #[.int .i64 cs, .int .i64 cl, .slice A2 hs.length c2, .slice A3 hung.length c3, .slice A4 looks.length c4] 35))
  clear M
  go_enter Try.func63, Try.ntmps63
  by_cases h1 : cs > 4
  · have HR : Aside0 (checkB cs cl hs hung looks = 3) := ⟨by unfold checkB; rw [if_pos (.inl h1)]⟩
    go_wp2_with fail
    go_ret
    exact ⟨by rw [HR.out]; rfl, HB0.out⟩
  by_cases h2 : hs.length > 4
  · have HR : Aside0 (checkB cs cl hs hung looks = 3) := ⟨by unfold checkB; rw [if_pos (.inr (.inl h2))]⟩
    have h2' : (hs.length : Int) > 4 := by omega
    go_wp2_with fail
    go_ret
    exact ⟨by rw [HR.out]; rfl, HB0.out⟩
  by_cases h3 : looks.length > 5
  · have HR : Aside0 (checkB cs cl hs hung looks = 3) := ⟨by unfold checkB; rw [if_pos (.inr (.inr h3))]⟩
    have h2' : ¬ (hs.length : Int) > 4 := by omega
    have h3' : (looks.length : Int) > 5 := by omega
    go_wp2_with fail
    go_ret
    exact ⟨by rw [HR.out]; rfl, HB0.out⟩
  have hn : ¬ (cs > 4 ∨ hs.length > 4 ∨ looks.length > 5) := fun h => by rcases h with h | h | h <;> omega
  have HN := Aside0.mk hn
  have h2' : ¬ (hs.length : Int) > 4 := by omega
  have h3' : ¬ (looks.length : Int) > 5 := by omega
  clear hn h2 h3
  have h1n : decide (cs > 4) = false := decide_eq_false h1
  have h1g : cs ≤ 4 := by omega
  clear h1
  by_cases h4 : cs < 1
  · have HR : Aside0 (checkB cs cl hs hung looks = 1) := ⟨by unfold checkB; rw [if_neg HN.out, if_pos (.inl h4)]⟩
    go_wp2_with fail
    go_ret
    exact ⟨by rw [HR.out]; rfl, HB0.out⟩
  cases h5 : decide (0 ≤ cl ∧ cl ≤ 99) with
  | false =>
    have HR : Aside0 (checkB cs cl hs hung looks = 1) := ⟨by unfold checkB; rw [if_neg HN.out, if_pos (.inr (.inl (of_decide_eq_false h5)))]⟩
    have HX : Aside0 (closet_minute.f cl = some false) := ⟨by unfold closet_minute.f; rw [within_f, h5]; rfl⟩
    clear h5
    go_wp2_with fail
    refine (closet_minute.calls _ _ _ HX.out).mono ?_
    rintro e w1 ⟨rfl, nd, rfl⟩
    go_wp2_with fail
    go_ret
    exact ⟨by rw [HR.out]; rfl, pw_below_drewN HB0.out _⟩
  | true =>
  have HX : Aside0 (closet_minute.f cl = some true) := ⟨by unfold closet_minute.f; rw [within_f, h5]; rfl⟩
  have H5 := Aside0.mk h5
  clear h5
  go_wp2_with fail
  refine (closet_minute.calls _ _ _ HX.out).mono ?_
  clear HX
  rintro e w1 ⟨rfl, nd, rfl⟩
  have HB1 := Aside0.mk (pw_below_drewN HB0.out nd)
  cases h6 : allH hs with
  | false =>
    have HR : Aside0 (checkB cs cl hs hung looks = 1) := ⟨by unfold checkB; rw [if_neg HN.out, if_pos (.inr (.inr (.inl h6)))]⟩
    have H6 := Aside0.mk h6
    clear h6
    go_wp2_with fail
    refine (allH_calls _ _ hs _ (Kd.C_below HM.out.h2 HB1.out) (by have := HN.out; omega) H6.out).mono ?_
    rintro e w2 ⟨rfl, hb⟩
    have HB2 := Aside0.mk (below_step HB1.out hb)
    clear hb
    go_wp2_with fail
    go_ret
    exact ⟨by rw [HR.out]; rfl, HB2.out⟩
  | true =>
  have H6 := Aside0.mk h6
  clear h6
  go_wp2_with fail
  refine (allH_calls _ _ hs _ (Kd.C_below HM.out.h2 HB1.out) (by have := HN.out; omega) H6.out).mono ?_
  rintro e w2 ⟨rfl, hb⟩
  have HB2 := Aside0.mk (below_step HB1.out hb)
  have BK2 := Aside0.mk (blk_below (blk_drewN (blk_new w (.cells #[.int .i64 cs, .int .i64 cl, .slice A2 hs.length c2, .slice A3 hung.length c3, .slice A4 looks.length c4] 35)) nd) hb)
  have z2 := blk_lt BK2.out
  clear hb
  have b0 : w2.cell? ⟨w.heap.size, 0, none⟩ = some (.int .i64 cs) := (blk_cell BK2.out 0).trans rfl
  have b1 : w2.cell? ⟨w.heap.size, 1, none⟩ = some (.int .i64 cl) := (blk_cell BK2.out 1).trans rfl
  have b2 : w2.cell? ⟨w.heap.size, 2, none⟩ = some (.slice A2 hs.length c2) := (blk_cell BK2.out 2).trans rfl
  have b3 : w2.cell? ⟨w.heap.size, 3, none⟩ = some (.slice A3 hung.length c3) := (blk_cell BK2.out 3).trans rfl
  have b4 : w2.cell? ⟨w.heap.size, 4, none⟩ = some (.slice A4 looks.length c4) := (blk_cell BK2.out 4).trans rfl
  cases h7 : placeB (wrap64 (cs - 1)) hs.length hung with
  | false =>
    have HR : Aside0 (checkB cs cl hs hung looks = 1) := ⟨by unfold checkB; rw [if_neg HN.out, if_pos (.inr (.inr (.inr (.inl h7))))]⟩
    have H7 := Aside0.mk h7
    clear h7
    go_wp2_with fail
    refine (isPlace_all cs cl A2 A3 A4 _ c2 c3 c4 _ hs hung looks hung _ (HM.out.later HB2.out) (Kd.C_below HM.out.h3 HB2.out) HM.out.l3 (by have := HN.out; omega) H7.out).mono ?_
    rintro e w3 ⟨rfl, hb⟩
    have HB3 := Aside0.mk (below_step HB2.out hb)
    clear hb
    go_wp2_with fail
    go_ret
    exact ⟨by rw [HR.out]; rfl, HB3.out⟩
  | true =>
  have H7 := Aside0.mk h7
  clear h7
  go_wp2_with fail
  refine (isPlace_all cs cl A2 A3 A4 _ c2 c3 c4 _ hs hung looks hung _ (HM.out.later HB2.out) (Kd.C_below HM.out.h3 HB2.out) HM.out.l3 (by have := HN.out; omega) H7.out).mono ?_
  rintro e w3 ⟨rfl, hb⟩
  have HB3 := Aside0.mk (below_step HB2.out hb)
  have BK3 := Aside0.mk (blk_below BK2.out hb)
  have z3 := blk_lt BK3.out
  clear hb b0 b1 b2 b3 b4 z2
  have b2 : w3.cell? ⟨w.heap.size, 2, none⟩ = some (.slice A2 hs.length c2) := (blk_cell BK3.out 2).trans rfl
  have b4 : w3.cell? ⟨w.heap.size, 4, none⟩ = some (.slice A4 looks.length c4) := (blk_cell BK3.out 4).trans rfl
  cases h8 : allL hs.length looks with
  | false =>
    have HR : Aside0 (checkB cs cl hs hung looks = 1) := ⟨by unfold checkB; rw [if_neg HN.out, if_pos (.inr (.inr (.inr (.inr h8))))]⟩
    have H8 := Aside0.mk h8
    clear h8
    go_wp2_with fail
    refine (allL_calls cs cl (HM.out.later HB3.out) (by have := HN.out; omega) H8.out).mono ?_
    rintro e w4 ⟨rfl, hb⟩
    have HB4 := Aside0.mk (below_step HB3.out hb)
    clear hb
    go_wp2_with fail
    go_ret
    exact ⟨by rw [HR.out]; rfl, HB4.out⟩
  | true =>
  have HR : Aside0 (checkB cs cl hs hung looks = if prodH hs hs.length > 2000 then 3 else 0) := ⟨by
    unfold checkB
    rw [if_neg HN.out, if_neg]
    have := of_decide_eq_true H5.out
    rw [H6.out, H7.out, h8]
    simp
    omega⟩
  have H8 := Aside0.mk h8
  clear h8
  go_wp2_with fail
  refine (allL_calls cs cl (HM.out.later HB3.out) (by have := HN.out; omega) H8.out).mono ?_
  rintro e w4 ⟨rfl, hb⟩
  have HB4 := Aside0.mk (below_step HB3.out hb)
  have BK4 := Aside0.mk (blk_below BK3.out hb)
  have z4 := blk_lt BK4.out
  clear hb b2 b4 z3
  have b2 : w4.cell? ⟨w.heap.size, 2, none⟩ = some (.slice A2 hs.length c2) := (blk_cell BK4.out 2).trans rfl
  go_wp2_with fail
  go_loopg [4, 58] hs.length (fun k m v wr => ∃ n : Nat, m = .int .i64 (prodH hs n) ∧ v = .int .i64 n ∧ Aside0 (n + k = hs.length) ∧ Aside0 (Below w.heap.size w wr))
  case atStart => exact ⟨0, rfl, rfl, ⟨by omega⟩, HB4⟩
  case round =>
    obtain ⟨n, rfl, rfl, HI, HB⟩ := hrel
    by_cases hlt : n < hs.length
    · obtain ⟨ad, e, y0, y1, y2, y3⟩ := at_h HM.out.h2 n hlt
      cases e
      replace y0 := later HB.out y0
      replace y1 := later HB.out y1
      replace y2 := later HB.out y2
      replace y3 := later HB.out y3
      have HP : Aside0 (prodH hs (n + 1) = wrap64 (prodH hs n * wrap64 (wrap64 ((rd_T139 hs n).f0.f1 - (rd_T139 hs n).f0.f0) + 1))) := ⟨rfl⟩
      have hlt4 : (n : Int) < 4 := by have := HN.out; omega
      go_wp2_with fail
      refine (closet_Range_size.calls _ _ _ _ rfl).mono ?_
      rintro e w5 ⟨rfl, hb⟩
      have HB5 := Aside0.mk (below_step (below_alloc HB.out _) hb)
      clear hb
      go_wp2_with fail
      go_roundg (hs.length - (n + 1))
      case measure => have := HI.out; omega
      case rel => exact ⟨n + 1, by rw [HP.out], by go_num, ⟨by have := HI.out; omega⟩, HB5⟩
    · obtain rfl : n = hs.length := by have := HI.out; omega
      by_cases h9 : prodH hs hs.length > 2000
      · go_wp2_with fail
        go_ret
        exact ⟨by rw [HR.out, if_pos h9]; rfl, HB.out⟩
      · go_wp2_with fail
        go_ret
        exact ⟨by rw [HR.out, if_neg (by omega)]; rfl, HB.out⟩
theorem wrap_dec {n : Int} (h : n ≤ 1000000) (h0 : -1000000 ≤ n) : wrap64 (n - 1) = n - 1 := by unfold wrap64; omega
theorem valid_of {cs cl : Int} {hs : List S139} {hung : List Int} {looks : List S140} (h : checkB cs cl hs hung looks = 0) : Valid cs cl hs hung looks := by
  unfold checkB at h
  split at h
  · omega
  rename_i h1
  split at h
  · omega
  rename_i h2
  have p1 : cs ≤ 4 := by omega
  have p2 : hs.length ≤ 4 := by omega
  have p3 : looks.length ≤ 5 := by omega
  have q1 : 1 ≤ cs := by omega
  have q2 : 0 ≤ cl ∧ cl ≤ 99 := Classical.byContradiction fun k => h2 (.inr (.inl k))
  have q3 : allH hs = true := by cases e : allH hs with | true => rfl | false => exact absurd (.inr (.inr (.inl e))) h2
  have q4 : placeB (wrap64 (cs - 1)) hs.length hung = true := by cases e : placeB (wrap64 (cs - 1)) hs.length hung with | true => rfl | false => exact absurd (.inr (.inr (.inr (.inl e)))) h2
  have q5 : allL hs.length looks = true := by cases e : allL hs.length looks with | true => rfl | false => exact absurd (.inr (.inr (.inr (.inr e)))) h2
  have a3 := of_decide_eq_true q3
  have a4 := of_decide_eq_true q4
  have a5 := of_decide_eq_true q5
  have b3 : ∀ i : Nat, i < hs.length → _ := fun i hi => of_decide_eq_true (a3 i hi)
  have b5 : ∀ i : Nat, i < looks.length → _ := fun i hi => of_decide_eq_true (a5 i hi)
  rw [wrap_dec (by omega) (by omega)] at a4
  rw [wrap_dec (by omega) (by omega)] at b5
  refine ⟨q1, p1, q2.1, q2.2, p2, p3, fun i hi => ?_, fun i hi => ?_, fun i hi => ?_, a4.1, fun i hi => ?_, fun i j hi hj e => ?_, fun i hi => ?_⟩
  · exact ⟨(b3 i hi).1, (b3 i hi).2.1, (b3 i hi).2.2.1⟩
  · exact (b3 i hi).2.2.2.1
  · exact (b3 i hi).2.2.2.2
  · exact ⟨(a4.2 i hi).1, (a4.2 i hi).2.1⟩
  · have h3 := (a4.2 i hi).2.2
    have : (hung.take i).contains (rd hung i) = true := by
      rw [List.contains_iff_mem, e, rd_nn, List.getD_eq_getElem?_getD, List.getElem?_eq_getElem (by omega)]
      exact List.mem_take_iff_getElem.2 ⟨j, by omega, rfl⟩
    rw [h3] at this; cases this
  · have := b5 i hi; omega
end Go.Proofs.Ytokhmghgghjmhaa.Q
set_option linter.unusedVariables false
namespace Go
/-- A way for an operation, in a round: the same one, where it defers nothing. -/
theorem Oper.wpIn_round {P : Program} {n l : Nat} {o : Oper} (hd : ∀ c, o.op ≠ .defer c) {a : Act} {w : World} {K : Act → World → Prop} {Q : Exit → Act → World → Prop} (h : o.wp P a w K Q) :
    o.wpIn (Fence.wide.inRound l) n P a w K Q := by
  refine ⟨fun _ _ => trivial, ?_⟩
  rw [Oper.semAt_eq _ _ _ hd]
  unfold Oper.wp at h
  generalize (execOp a.eval o).run P w = r at *
  cases r with
  | ok x w' =>
    cases x with
    | value v => exact h
    | skip => exact h
    | defer d => exact h
    | enter f args => exact ⟨(fun h => by cases h), callsIn_wide.2 h⟩
    | row r args => exact ⟨(fun h => by cases h), fun c cs _ => let ⟨v, w', r, s⟩ := h c cs; ⟨v, w', r, stepsIn_wide.2 s⟩⟩
    | _ => exact (h : False).elim
  | halt x w' => cases x <;> exact h
theorem wpOpIn_round {P : Program} {n l : Nat} {ops : Array Oper} (hd : ∀ (i : Nat) (o : Oper), ops[i]? = some o → ∀ c, o.op ≠ .defer c) {Q : Exit → Act → World → Prop} (hQ : ¬ LetsOut Q) {i : Nat} {K : Act → World → Prop} {a : Act} {w : World}
    (h : wpOp P ops Q i K a w) : wpOpIn (Fence.wide.inRound l) n P ops Q i K a w := by
  unfold wpOp at h
  unfold wpOpIn
  cases ho : ops[i]? with
  | none => simpa only [ho] using h
  | some o =>
    simp only [ho] at h ⊢
    split
    · rename_i hw
      simp only [hw, if_true] at h
      rcases h with h | h
      · exact Oper.wpIn_round (hd i o ho) h
      · exact absurd h.2 hQ
    · rename_i hw
      simp only [hw] at h
      exact ⟨fun _ _ => trivial, h⟩
theorem wpAnyIn_round {P : Program} {n l : Nat} {md : Region.Mode} {ops : Array Oper} (hd : ∀ (i : Nat) (o : Oper), ops[i]? = some o → ∀ c, o.op ≠ .defer c) {Q : Exit → Act → World → Prop} (hQ : ¬ LetsOut Q) :
    ∀ (fuel : Nat) (listed : Array Bool) (a : Act) (w : World), wpAny P md ops Q fuel listed a w → wpAnyIn (Fence.wide.inRound l) n P md ops Q fuel listed a w
  | 0, _, _, _, h => h
  | fuel + 1, listed, a, w, h => ⟨h.1, fun i hi => wpOpIn_round hd hQ (wpOp_mono (fun a w => wpAnyIn_round hd hQ fuel _ a w) (h.2 i hi))⟩
def noDefer (ops : Array Oper) : Bool := ops.toList.all fun o => match o.op with | .defer _ => false | _ => true
theorem noDefer_spec {ops : Array Oper} (h : noDefer ops = true) (i : Nat) (o : Oper) (ho : ops[i]? = some o) (c : _) : o.op ≠ .defer c := by
  intro e
  have := List.all_eq_true.1 h o (Array.mem_toList_iff.2 (Array.mem_of_getElem? ho))
  rw [e] at this
  cases this
theorem wpIn_round_held {P : Program} {n l : Nat} {ops : Array Oper} {Q : Exit → Act → World → Prop} {S : World → Prop} {id : Nat} {a : Act} {w : World} (hm : P.follows .mixedOrders = true)
    (hd : noDefer ops = true) (hQ : ¬ LetsOut Q) (hS : S w.drew)
    (h : S w.drew → wpAnyH P .any ops Q S ops.size (Array.replicate ops.size false) a w.drew) : (Code.region id ops true).wpIn (Fence.wide.inRound l) n P Q a w :=
  wpIn_region_any hm (wpAnyIn_round (noDefer_spec hd) hQ _ _ _ _ (wpAny_of_held _ _ _ _ (h hS)))
/-- A temporary's place is filled: the rules, in one. -/
theorem pS : (∀ (a : Act) (d : Option Tmp) (v : Value), a.put d v = match d with | some t => { a with tmps := a.tmps.setIfInBounds t v } | none => a) ∧
    (∀ (l : List Value) (i : Nat) (x : Value), l.toArray.setIfInBounds i x = (l.set i x).toArray) ∧ (∀ (x y : Value) (l : List Value), (x :: l).set 0 y = y :: l) ∧ (∀ (x y : Value) (l : List Value) (i : Nat), (x :: l).set (i + 1) y = x :: l.set i y) :=
  ⟨fun _ _ _ => rfl, fun _ _ _ => List.setIfInBounds_toArray .., fun _ _ _ => rfl, fun _ _ _ _ => rfl⟩
/-- Take operation i, whose target is d, first. -/
theorem tkT {P : Program} {md : Region.Mode} {ops : Array Oper} {Q : Exit → Act → World → Prop} {S : World → Prop} (i : Nat) (d : Option Tmp) {oi : Oper} {v : Value} {fuel : Nat} {listed : Array Bool} {a : Act} {w : World} (hi : ops[i]? = some oi) (hd : oi.dst = d)
    (hy : YieldsIf P ops S oi v a) (h : wpAnyH P md ops Q S fuel (listed.setIfInBounds i true) (a.put d v) w)
    (hs : Region.noSelect ops = true := by kernel_rfl) (hf : Region.free md ops listed i = true := by kernel_rfl) (hr : (Region.ready md ops listed).contains i = true := by kernel_rfl)
    (hQ : ∀ c a w, Q (.panic c) (a.put d v) w → Q (.panic c) a w := by exact fun _ _ _ h => h) (hS : S w := by assumption) : wpAnyH P md ops Q S (fuel + 1) listed a w := by
  subst hd
  exact wpAnyH_take hi hs hf hr hQ hy hS h
end Go
namespace Go.Proofs.Ytokhmghgghjmhaa.Q
open Go.RowKit Go.Shelf Go.Proofs.YtokhmghgghjmhaaW.PrintWords Go.Proofs.YtokhmghgghjmhaaW.PrintLast Go.Proofs.YtokhmghgghjmhaaW.PrintMore
attribute [local go_sem] Oper.semAt_some
set_option linter.unusedVariables false
/-- Do two rows of four numbers differ? -/
def ne4 (a b : Nat → Int) : Bool := !(decide (a 0 = b 0) && decide (a 1 = b 1) && decide (a 2 = b 2) && decide (a 3 = b 3))
set_option linter.unusedSimpArgs false in
theorem eq4 (a b : Nat → Int) (w : World) : (Op.equalIn 10000 152 (.agg #[.int .i64 (a 0), .int .i64 (a 1), .int .i64 (a 2), .int .i64 (a 3)]) (.agg #[.int .i64 (b 0), .int .i64 (b 1), .int .i64 (b 2), .int .i64 (b 3)])).run Try.prog w = .ok (!ne4 a b) w := by
  have hu := Try.underlying152
  have hu3 := Try.underlying3
  obtain ⟨i0, hi0, _, hsz, _⟩ := info_parts info3
  have hk : Try.prog.plainKey 3 = true := by kernel_rfl
  have hc : Try.prog.cellsOf 3 = 1 := by kernel_rfl
  rw [show (10000 : Nat) = 9999 + 1 from rfl, run_equalIn_array w 9999 _ _ hu hi0, hc]
  have p : ∀ (xs : Array Value) (i : Nat) (v : Value), xs[i]? = some v → (part 3 xs i).run Try.prog w = .ok v w := fun xs i v h => run_part_plain w hk h
  have p0 : ∀ a b c d : Value, (part 3 #[a, b, c, d] 0).run Try.prog w = .ok a w := fun a b c d => p _ _ _ rfl
  have p1 : ∀ a b c d : Value, (part 3 #[a, b, c, d] 1).run Try.prog w = .ok b w := fun a b c d => p _ _ _ rfl
  have p2 : ∀ a b c d : Value, (part 3 #[a, b, c, d] 2).run Try.prog w = .ok c w := fun a b c d => p _ _ _ rfl
  have p3 : ∀ a b c d : Value, (part 3 #[a, b, c, d] 3).run Try.prog w = .ok d w := fun a b c d => p _ _ _ rfl
  have e : ∀ x y : Int, (Op.equalIn 9999 3 (.int .i64 x) (.int .i64 y)).run Try.prog w = .ok (x == y) w := fun x y => run_equalIn_int w 9998 3 .i64 .i64 x y hu3
  simp only [show List.range 4 = [0, 1, 2, 3] from rfl, Op.eqItems, Sem.run_bind, Nat.mul_one, p0, Result.andThen_ok, e, ne4]
  by_cases h0 : a 0 = b 0 <;> by_cases h1 : a 1 = b 1 <;> by_cases h2 : a 2 = b 2 <;> by_cases h3 : a 3 = b 3 <;> simp [h0, h1, h2, h3, e, Sem.run_bind, p1, p2, p3]
/-- The truths that are kept of a row of dry numbers. -/
def keep1 (hs : List S139) (hung : List Int) (looks : List S140) (ts : List (Nat → Int)) (d : Nat → Int) : List (Nat → Int) :=
  if rightB hs hung looks d [] = true ∧ (ts = [] ∨ ne4 (rdN ts (ts.length - 1)) d = true) then ts ++ [d] else ts
def keepT (hs : List S139) (hung : List Int) (looks : List S140) (pre : List (Nat → Int)) : List (Nat → Int) := pre.foldl (keep1 hs hung looks) []
theorem keepT_snoc (hs : List S139) (hung : List Int) (looks : List S140) (pre : List (Nat → Int)) (d : Nat → Int) : keepT hs hung looks (pre ++ [d]) = keep1 hs hung looks (keepT hs hung looks pre) d := by
  simp [keepT, List.foldl_append]
theorem keep1_len (hs : List S139) (hung : List Int) (looks : List S140) (ts : List (Nat → Int)) (d : Nat → Int) : (keep1 hs hung looks ts d).length ≤ ts.length + 1 := by
  unfold keep1; split <;> simp
theorem foldl_keep_len (hs : List S139) (hung : List Int) (looks : List S140) : ∀ (pre ts : List (Nat → Int)), (pre.foldl (keep1 hs hung looks) ts).length ≤ ts.length + pre.length
  | [], ts => by simp
  | d :: r, ts => by
    have h1 := foldl_keep_len hs hung looks r (keep1 hs hung looks ts d)
    have h2 := keep1_len hs hung looks ts d
    simp only [List.foldl_cons, List.length_cons]
    omega
theorem keepT_len (hs : List S139) (hung : List Int) (looks : List S140) (pre : List (Nat → Int)) : (keepT hs hung looks pre).length ≤ pre.length := by
  have := foldl_keep_len hs hung looks pre []
  simpa [keepT] using this
theorem flatMap_len {α β : Type} (f : α → List β) (N : Nat) : ∀ l : List α, (∀ a ∈ l, (f a).length ≤ N) → (l.flatMap f).length ≤ l.length * N
  | [], _ => by simp
  | a :: r, h => by
    have h1 := h a (by simp)
    have h2 := flatMap_len f N r (fun b hb => h b (by simp [hb]))
    simp only [List.flatMap_cons, List.length_append, List.length_cons, Nat.add_mul]
    omega
theorem allN_len (hs : List S139) (hdry : ∀ i : Nat, i < hs.length → 1 ≤ (rd_T139 hs i).f0.f0 ∧ (rd_T139 hs i).f0.f0 ≤ (rd_T139 hs i).f0.f1 ∧ (rd_T139 hs i).f0.f1 ≤ 60) :
    ∀ (d h : Nat) (x : Nat → Int), h + d = hs.length → (allN hs d h x).length ≤ 60 ^ d
  | 0, h, x, _ => by simp [allN]
  | d + 1, h, x, e => by
    have hd := hdry h (by omega)
    simp only [allN]
    refine Nat.le_trans (flatMap_len _ (60 ^ d) _ (fun v _ => allN_len hs hdry d (h + 1) _ (by omega))) ?_
    simp only [vals, List.length_map, List.length_range]
    rw [Nat.pow_succ, Nat.mul_comm (60 ^ d) 60]
    exact Nat.mul_le_mul_right _ (by omega)
theorem dries_len {cs cl : Int} {hs : List S139} {hung : List Int} {looks : List S140} (V : Valid cs cl hs hung looks) : (dries hs).length ≤ 12960000 := by
  have h := allN_len hs V.dry hs.length 0 (fun _ => 0) (by omega)
  have h4 := V.n4
  have : 60 ^ hs.length ≤ 60 ^ 4 := Nat.pow_le_pow_right (by omega) h4
  unfold dries
  omega
/-- All truths of closets. -/
def truthsT (hs : List S139) (hung : List Int) (looks : List S140) : List (Nat → Int) := keepT hs hung looks (dries hs)
/-- The error of closets, of which something is asked. -/
def askCode (cs cl : Int) (hs : List S139) (hung : List Int) (looks : List S140) (fine : Bool) : Int :=
  if checkB cs cl hs hung looks ≠ 0 then checkB cs cl hs hung looks else if fine = false then 2 else if truthsT hs hung looks = [] then 11 else 0
/-- What lies in memory while truths are sought. -/
structure AI (w : World) (b m g q : Nat) (cs cl : Int) (A2 A3 A4 : Option Addr) (n2 n3 n4 c2 c3 c4 : Nat) (D : Nat) (ts : List (Nat → Int)) (W : World) : Prop where
  below : Below w.heap.size w W
  c : W.heap[b]? = some (.cells #[.int .i64 cs, .int .i64 cl, .slice A2 n2 c2, .slice A3 n3 c3, .slice A4 n4 c4] 35 (0, 0))
  k : W.heap[m]? = some (.map #[] 0)
  q : W.heap[q]? = some (.cells #[.pointer (some ⟨g, 0, none⟩)] 132 (0, 0))
  t : ∃ v, W.heap[g]? = some (.cells #[.int .i64 cs, .int .i64 cl, .slice A2 n2 c2, .slice A3 n3 c3, .slice A4 n4 c4, v, .map (some m)] 144 (0, 0)) ∧ kN.R 152 W w.heap.size (fun k => D + 5 ≤ k) v ts
set_option maxHeartbeats 4000000 in
set_option maxRecDepth 100000 in
theorem asked_fail (cs cl : Int) {A2 A3 A4 : Option Addr} {c2 c3 c4 : Nat} {hs : List S139} {hung : List Int} {looks : List S140} {w : World} (M : Mem w A2 A3 A4 c2 c3 c4 hs hung looks) (fine : Bool) (hf : checkB cs cl hs hung looks ≠ 0 ∨ fine = false) :
    Calls Try.prog 87 #[.agg #[.int .i64 cs, .int .i64 cl, .slice A2 hs.length c2, .slice A3 hung.length c3, .slice A4 looks.length c4], .bool fine] w
      fun e w' => e = .returned (.tuple #[.pointer none, .int .i64 (askCode cs cl hs hung looks fine)]) ∧ Below w.heap.size w w' := by
  have HM := Aside0.mk M
  clear M
  have HB0 := Aside0.mk (below_alloc (Below.refl w.heap.size w) (.cells #[.int .i64 cs, .int .i64 cl, .slice A2 hs.length c2, .slice A3 hung.length c3, .slice A4 looks.length c4] 35))
  go_enter Try.func87, Try.ntmps87
  go_wp2_with fail
  refine (check_calls cs cl (HM.out.later HB0.out)).mono ?_
  rintro e w1 ⟨rfl, hb⟩
  have HB1 := Aside0.mk (below_step HB0.out hb)
  clear hb
  by_cases h0 : checkB cs cl hs hung looks = 0
  · rcases hf with hf | hf
    · exact absurd h0 hf
    subst hf
    have HR : Aside0 (askCode cs cl hs hung looks false = 2) := ⟨by unfold askCode; rw [if_neg (by simp [h0])]; rfl⟩
    rw [h0]
    go_wp2_with fail
    go_ret2
    exact ⟨by rw [HR.out]; rfl, HB1.out⟩
  · have HR : Aside0 (askCode cs cl hs hung looks fine = checkB cs cl hs hung looks) := ⟨by unfold askCode; rw [if_pos h0]⟩
    have h1 : (checkB cs cl hs hung looks != 0) = true := by rw [bne_iff_ne]; exact h0
    go_wp2_with fail
    go_ret2
    exact ⟨by rw [HR.out]; rfl, HB1.out⟩
theorem AI.same {w : World} {b m g q : Nat} {cs cl : Int} {A2 A3 A4 : Option Addr} {n2 n3 n4 c2 c3 c4 : Nat} {D : Nat} {ts : List (Nat → Int)} {W W' : World} (h : AI w b m g q cs cl A2 A3 A4 n2 n3 n4 c2 c3 c4 D ts W) {N : Nat} (hb : Below N W W') (hw : w.heap.size ≤ N) (hbD : b < N) (hmD : m < N) (hgD : g < N) (hqD : q < N)
    (ht : ∀ k, D + 5 ≤ k → k < W.heap.size → W'.heap[k]? = W.heap[k]?) : AI w b m g q cs cl A2 A3 A4 n2 n3 n4 c2 c3 c4 D ts W' := by
  obtain ⟨v, h1, h2⟩ := h.t
  refine ⟨h.below.trans (hb.mono (by omega)), (hb.block _ (by omega)).trans h.c, (hb.block _ (by omega)).trans h.k, (hb.block _ (by omega)).trans h.q, v, (hb.block _ (by omega)).trans h1, ?_⟩
  exact Kd.R_step h2 (fun k hk hl => ht k hk hl)
end Go.Proofs.Ytokhmghgghjmhaa.Q
