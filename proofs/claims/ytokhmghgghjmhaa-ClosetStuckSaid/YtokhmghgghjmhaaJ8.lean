/- Part 8 of the proof (P2, P3, P4, P5, SW, R0): contracts of functions, and plain lemmas about what they compute. -/
import Derived.Test.YtokhmghgghjmhaaJ7
import Derived.Test.YtokhmghgghjmhaaJ6
import Derived.Test.YtokhmghgghjmhaaJ2
import Derived.Test.YtokhmghgghjmhaaJ4
import Derived.Test.YtokhmghgghjmhaaJ0
import Derived.Deep.Slices
import Derived.ChangeArms
import Derived.Test.YtokhmghgghjmhaaJ1
import Derived.Test.YtokhmghgghjmhaaJ3
import Derived.Test.YtokhmghgghjmhaaJ5
namespace Go.Proofs.Ytokhmghgghjmhaa.Q
open Go.RowKit Go.Proofs.YtokhmghgghjmhaaW.PrintWords Go.Proofs.YtokhmghgghjmhaaW.PrintLast Go.Proofs.YtokhmghgghjmhaaW.PrintMore
set_option linter.unusedVariables false

/-! The dry numbers with a number. -/
def nthF (hs : List S139) : Nat → Nat → Nat → List Int
  | 0, _, _ => []
  | d + 1, i, n => ((rd_T139 hs i).f0.f0 + ((n % szN hs i : Nat) : Int)) :: nthF hs d (i + 1) (n / szN hs i)
/-- Each horse's dry numbers are some, and few. -/
def Dries (hs : List S139) : Prop := ∀ i : Nat, i < hs.length → 1 ≤ (rd_T139 hs i).f0.f0 ∧ (rd_T139 hs i).f0.f0 ≤ (rd_T139 hs i).f0.f1 ∧ (rd_T139 hs i).f0.f1 ≤ 60
theorem sz_ok {hs : List S139} (D : Dries hs) (i : Nat) (hi : i < hs.length) : (szN hs i : Int) = (rd_T139 hs i).f0.f1 + 1 - (rd_T139 hs i).f0.f0 ∧ 1 ≤ szN hs i ∧ szN hs i ≤ 60 := by
  have := D i hi
  unfold szN
  omega
theorem nthF_len (hs : List S139) : ∀ (d i n : Nat), (nthF hs d i n).length = d
  | 0, _, _ => rfl
  | d + 1, i, n => by simp only [nthF, List.length_cons, nthF_len hs d (i + 1)]
theorem rd_cons0 (a : Int) (l : List Int) : rd (a :: l) ((0 : Nat) : Int) = a := by rw [rd_nn]; rfl
theorem rd_cons (a : Int) (l : List Int) (j : Nat) : rd (a :: l) ((j + 1 : Nat) : Int) = rd l j := by rw [rd_nn, rd_nn]; rfl
theorem rd_out (l : List Int) (j : Nat) (h : l.length ≤ j) : rd l j = 0 := by
  rw [rd_nn, List.getD_eq_getElem?_getD, List.getElem?_eq_none h]; rfl
theorem nthF_box {hs : List S139} (D : Dries hs) : ∀ (d i n j : Nat), i + d = hs.length → j < d → (rd_T139 hs (i + j : Nat)).f0.f0 ≤ rd (nthF hs d i n) j ∧ rd (nthF hs d i n) j ≤ (rd_T139 hs (i + j : Nat)).f0.f1
  | 0, i, n, j, _, hj => by omega
  | d + 1, i, n, 0, h, hj => by
    have h1 := sz_ok D i (by omega)
    have h2 := Nat.mod_lt n h1.2.1
    simp only [nthF, Nat.add_zero]
    rw [rd_cons0]
    omega
  | d + 1, i, n, j + 1, h, hj => by
    have ih := nthF_box D d (i + 1) (n / szN hs i) j (by omega) (by omega)
    simp only [nthF]
    rw [rd_cons, show i + (j + 1) = i + 1 + j from by omega]
    exact ih
/-- Each row of dry numbers has a number. -/
theorem nthF_surj {hs : List S139} (D : Dries hs) : ∀ (d i : Nat) (y : Nat → Int), i + d = hs.length → (∀ j : Nat, j < d → (rd_T139 hs (i + j : Nat)).f0.f0 ≤ y j ∧ y j ≤ (rd_T139 hs (i + j : Nat)).f0.f1) →
    ∃ n, n < prN hs d i ∧ ∀ j : Nat, j < d → rd (nthF hs d i n) j = y j
  | 0, i, y, _, _ => ⟨0, by simp [prN], fun j hj => by omega⟩
  | d + 1, i, y, h, hy => by
    have h1 := sz_ok D i (by omega)
    have h0 := hy 0 (by omega)
    obtain ⟨m, hm, hmj⟩ := nthF_surj D d (i + 1) (fun j => y (j + 1)) (by omega) (fun j hj => by rw [show i + 1 + j = i + (j + 1) from by omega]; exact hy (j + 1) (by omega))
    simp only [Nat.add_zero] at h0
    obtain ⟨r, hr⟩ : ∃ r : Nat, (r : Int) = y 0 - (rd_T139 hs i).f0.f0 := ⟨(y 0 - (rd_T139 hs i).f0.f0).toNat, by omega⟩
    have hrs : r < szN hs i := by omega
    refine ⟨m * szN hs i + r, ?_, fun j hj => ?_⟩
    · simp only [prN]
      have : (m + 1) * szN hs i ≤ prN hs d (i + 1) * szN hs i := Nat.mul_le_mul_right _ hm
      rw [Nat.mul_comm (szN hs i)]
      rw [Nat.add_mul, Nat.one_mul] at this
      omega
    · have e1 : (m * szN hs i + r) % szN hs i = r := by rw [Nat.mul_comm, Nat.mul_add_mod, Nat.mod_eq_of_lt hrs]
      have e2 : (m * szN hs i + r) / szN hs i = m := by rw [Nat.mul_comm, Nat.mul_add_div (by omega), Nat.div_eq_of_lt hrs]; omega
      simp only [nthF]
      rw [e1, e2]
      cases j with
      | zero => rw [rd_cons0]; omega
      | succ j => rw [rd_cons]; exact hmj j (by omega)
/-- Each row in the ranges is among all. -/
theorem allN_of (hs : List S139) : ∀ (d h : Nat) (x y : Nat → Int), (∀ i, i < h ∨ h + d ≤ i → y i = x i) → (∀ i : Nat, h ≤ i → i < h + d → (rd_T139 hs i).f0.f0 ≤ y i ∧ y i ≤ (rd_T139 hs i).f0.f1) → y ∈ allN hs d h x
  | 0, h, x, y, h1, _ => by
    simp only [allN, List.mem_singleton]
    exact funext fun i => h1 i (by omega)
  | d + 1, h, x, y, h1, h2 => by
    have hh := h2 h (Nat.le_refl _) (by omega)
    simp only [allN, List.mem_flatMap]
    refine ⟨y h, ?_, ?_⟩
    · simp only [vals, List.mem_map, List.mem_range]
      exact ⟨(y h - (rd_T139 hs h).f0.f0).toNat, by omega, by omega⟩
    · refine allN_of hs d (h + 1) (upd x h (y h)) y (fun i hi => ?_) (fun i hi1 hi2 => h2 i (by omega) (by omega))
      unfold upd
      split
      · rename_i e; rw [e]
      · exact h1 i (by omega)
theorem dries_iff {hs : List S139} (y : Nat → Int) : y ∈ dries hs ↔ (∀ i, hs.length ≤ i → y i = 0) ∧ ∀ i : Nat, i < hs.length → (rd_T139 hs i).f0.f0 ≤ y i ∧ y i ≤ (rd_T139 hs i).f0.f1 := by
  constructor
  · intro h
    obtain ⟨h1, h2⟩ := allN_mem hs hs.length 0 _ y (by omega) h
    exact ⟨fun i hi => h1 i (.inr hi), fun i hi => h2 i (Nat.zero_le _) hi⟩
  · rintro ⟨h1, h2⟩
    exact allN_of hs hs.length 0 (fun _ => 0) y (fun i hi => h1 i (by omega)) (fun i _ hi => h2 i (by omega))
/-- The dry numbers with the numbers are all dry numbers. -/
theorem nth_dries {hs : List S139} (D : Dries hs) (n : Nat) : nums (nthF hs hs.length 0 n) ∈ dries hs := by
  refine (dries_iff _).2 ⟨fun i hi => rd_out _ _ (by rw [nthF_len]; exact hi), fun i hi => ?_⟩
  have := nthF_box D hs.length 0 n i (by omega) hi
  rwa [Nat.zero_add] at this
theorem dries_nth {hs : List S139} (D : Dries hs) {y : Nat → Int} (h : y ∈ dries hs) : ∃ n, n < prN hs hs.length 0 ∧ nums (nthF hs hs.length 0 n) = y := by
  obtain ⟨h1, h2⟩ := (dries_iff y).1 h
  obtain ⟨n, hn, hj⟩ := nthF_surj D hs.length 0 y (by omega) (fun j hj => by rw [Nat.zero_add]; exact h2 j hj)
  refine ⟨n, hn, funext fun i => ?_⟩
  by_cases hi : i < hs.length
  · exact hj i hi
  · rw [h1 i (by omega)]; exact rd_out _ _ (by rw [nthF_len]; omega)
theorem keep1_sub {hs : List S139} {hung : List Int} {looks : List S140} {ts : List (Nat → Int)} {d t : Nat → Int} (h : t ∈ ts) : t ∈ keep1 hs hung looks ts d := by
  unfold keep1
  split
  · exact List.mem_append_left _ h
  · exact h
theorem keep_sub {hs : List S139} {hung : List Int} {looks : List S140} : ∀ (pre ts : List (Nat → Int)) (t : Nat → Int), t ∈ ts → t ∈ pre.foldl (keep1 hs hung looks) ts
  | [], ts, t, h => h
  | d :: r, ts, t, h => keep_sub r _ t (keep1_sub h)
theorem keep_all {hs : List S139} {hung : List Int} {looks : List S140} (h4 : hs.length ≤ 4) : ∀ (pre ts : List (Nat → Int)), (∀ t ∈ ts, ∀ i, hs.length ≤ i → t i = 0) → (∀ t ∈ pre, ∀ i, hs.length ≤ i → t i = 0) →
    ∀ d ∈ pre, rightB hs hung looks d [] = true → d ∈ pre.foldl (keep1 hs hung looks) ts
  | [], ts, _, _, d, h, _ => by cases h
  | a :: r, ts, h0, h1, d, h, hr => by
    have hk : ∀ t ∈ keep1 hs hung looks ts a, ∀ i, hs.length ≤ i → t i = 0 := by
      intro t ht
      unfold keep1 at ht
      split at ht
      · rcases List.mem_append.1 ht with h | h
        · exact h0 t h
        · rw [List.mem_singleton] at h; subst h; exact h1 _ (List.mem_cons_self)
      · exact h0 t ht
    rcases List.mem_cons.1 h with rfl | h
    · refine keep_sub r _ d ?_
      unfold keep1
      by_cases hc : rightB hs hung looks d [] = true ∧ (ts = [] ∨ ne4 (rdN ts (ts.length - 1)) d = true)
      · rw [if_pos hc]; exact List.mem_append_right _ (List.mem_singleton.2 rfl)
      · rw [if_neg hc]
        have hne : ts ≠ [] := fun e => hc ⟨hr, .inl e⟩
        have heq : ne4 (rdN ts (ts.length - 1)) d = false := by
          cases e : ne4 (rdN ts (ts.length - 1)) d
          · rfl
          · exact absurd ⟨hr, .inr e⟩ hc
        have hlt : ts.length - 1 < ts.length := by have := List.length_pos_iff.2 hne; omega
        have hmem : rdN ts (ts.length - 1) ∈ ts := by
          unfold rdN
          rw [List.getD_eq_getElem?_getD, List.getElem?_eq_getElem hlt]
          exact List.getElem_mem hlt
        have : rdN ts (ts.length - 1) = d := by
          simp only [ne4, Bool.not_eq_false', Bool.and_eq_true, decide_eq_true_eq] at heq
          funext i
          by_cases hi : i < 4
          · rcases i with _ | _ | _ | _ | i
            · exact heq.1.1.1
            · exact heq.1.1.2
            · exact heq.1.2
            · exact heq.2
            · omega
          · rw [h0 _ hmem i (by omega), h1 d List.mem_cons_self i (by omega)]
        rw [← this]
        exact hmem
    · exact keep_all h4 r _ hk (fun t ht => h1 t (List.mem_cons_of_mem _ ht)) d h hr
theorem truths_iff {hs : List S139} {hung : List Int} {looks : List S140} (h4 : hs.length ≤ 4) (d : Nat → Int) : d ∈ truthsT hs hung looks ↔ d ∈ dries hs ∧ rightB hs hung looks d [] = true :=
  ⟨truths_mem, fun h => keep_all h4 (dries hs) [] (fun t ht => by cases ht) (fun t ht => ((dries_iff t).1 ht).1) d h.1 h.2⟩
end Go.Proofs.Ytokhmghgghjmhaa.Q

namespace Go.Proofs.Ytokhmghgghjmhaa.Q
open Go.RowKit Go.Proofs.YtokhmghgghjmhaaW.PrintWords Go.Proofs.YtokhmghgghjmhaaW.PrintLast Go.Proofs.YtokhmghgghjmhaaW.PrintMore
set_option linter.unusedVariables false

/-! Which looks are right, by bits. -/
def bitF : List Bool → Nat → Int → Int
  | [], _, x => x
  | b :: l, i, x => bitF l (i + 1) (if b = true then Go.bits .or .i64 x (shl .i64 1 (IntKind.u64.wrap (i : Int))) else x)
theorem bit_full : ∀ l : List Bool, l.length ≤ 5 → (bitF l 0 0 = wrap64 ((shl .i64 1 (IntKind.u64.wrap (l.length : Int))) - 1) ↔ l.all id = true)
  | [], _ => by decide +kernel
  | [a], _ => by cases a <;> decide +kernel
  | [a, b], _ => by cases a <;> cases b <;> decide +kernel
  | [a, b, c], _ => by cases a <;> cases b <;> cases c <;> decide +kernel
  | [a, b, c, d], _ => by cases a <;> cases b <;> cases c <;> cases d <;> decide +kernel
  | [a, b, c, d, e], _ => by cases a <;> cases b <;> cases c <;> cases d <;> cases e <;> decide +kernel
  | _ :: _ :: _ :: _ :: _ :: _ :: _, h => by simp only [List.length_cons] at h; omega
def okF (hs : List S139) (hung : List Int) (looks : List S140) (d : Nat → Int) : Nat → Nat → List Bool
  | 0, _ => []
  | m + 1, i => lookOk hs hung d (rd_T140 looks i) :: okF hs hung looks d m (i + 1)
theorem okF_len (hs : List S139) (hung : List Int) (looks : List S140) (d : Nat → Int) : ∀ m i, (okF hs hung looks d m i).length = m
  | 0, _ => rfl
  | m + 1, i => by simp only [okF, List.length_cons, okF_len hs hung looks d m]
theorem okF_all (hs : List S139) (hung : List Int) (looks : List S140) (d : Nat → Int) : ∀ m i, (okF hs hung looks d m i).all id = true ↔ ∀ j : Nat, i ≤ j → j < i + m → lookOk hs hung d (rd_T140 looks j) = true
  | 0, i => by simp only [okF, List.all_nil, true_iff]; intro j h1 h2; omega
  | m + 1, i => by
    simp only [okF, List.all_cons, Bool.and_eq_true, okF_all hs hung looks d m (i + 1), id]
    constructor
    · rintro ⟨h1, h2⟩ j h3 h4
      by_cases e : j = i
      · subst e; exact h1
      · exact h2 j (by omega) (by omega)
    · exact fun h => ⟨h i (Nat.le_refl _) (by omega), fun j h1 h2 => h j (by omega) (by omega)⟩
theorem okF_right (hs : List S139) (hung : List Int) (looks : List S140) (d : Nat → Int) : (okF hs hung looks d looks.length 0).all id = rightB hs hung looks d [] := by
  rw [Bool.eq_iff_iff, okF_all]
  unfold rightB
  rw [decide_eq_true_eq]
  constructor
  · exact fun h i hi => .inr (h i (Nat.zero_le _) (by omega))
  · intro h j _ hj
    rcases h j (by omega) with h | h
    · simp at h
    · exact h
theorem u64_ok : ∀ i : Nat, i ≤ 5 → (0 : Int) ≤ IntKind.u64.wrap (i : Int)
  | 0, _ => by decide
  | 1, _ => by decide
  | 2, _ => by decide
  | 3, _ => by decide
  | 4, _ => by decide
  | 5, _ => by decide
  | _ + 6, h => by omega
section
variable {cs cl : Int} {hs : List S68} {hung : List Int} {looks : List S84}
theorem nth_l0 (D : Dries (hs.map toH)) (h4 : hs.length ≤ 4) : ∀ (d i n k : Nat) (acc : List Int), i + d = hs.length → d < k → n ≤ 12960000 → acc.length ≤ i →
    posserref04_Nth.l0 k n acc i cs cl hs hung looks = some (acc ++ nthF (hs.map toH) d i n)
  | 0, i, n, k, acc, h, hk, hn, ha => by
    obtain ⟨k, rfl⟩ : ∃ m, k = m + 1 := ⟨k - 1, by omega⟩
    simp only [posserref04_Nth.l0, nthF, List.append_nil]
    rw [if_neg (by omega)]
  | d + 1, i, n, k, acc, h, hk, hn, ha => by
    obtain ⟨k, rfl⟩ : ∃ m, k = m + 1 := ⟨k - 1, by omega⟩
    have hs1 := sz_ok D i (by simpa using (by omega : i < hs.length))
    have hD := D i (by simpa using (by omega : i < hs.length))
    have e1 := rd_toH hs i
    rw [e1] at hs1 hD
    simp only [toH] at hs1 hD
    have hw : wrap64 (wrap64 ((rd_T68 hs i).f0.f1 - (rd_T68 hs i).f0.f0) + 1) = (szN (hs.map toH) i : Int) := by unfold wrap64; omega
    have hdiv : n / szN (hs.map toH) i ≤ n := Nat.div_le_self _ _
    have hmod := Nat.mod_lt n hs1.2.1
    have ih := nth_l0 D h4 d (i + 1) (n / szN (hs.map toH) i) k (acc ++ [(rd_T68 hs i).f0.f0 + ((n % szN (hs.map toH) i : Nat) : Int)]) (by omega) (by omega) (by omega) (by simp only [List.length_append, List.length_singleton]; omega)
    simp only [posserref04_Nth.l0, posserref04_Size.f, Option.bind_some]
    rw [if_pos (by omega), if_pos (by omega), hw, if_neg (by omega), if_pos (by omega), if_neg (by omega)]
    rw [show Int.tdiv (n : Int) (szN (hs.map toH) i : Int) = ((n / szN (hs.map toH) i : Nat) : Int) from rfl, show Int.tmod (n : Int) (szN (hs.map toH) i : Int) = ((n % szN (hs.map toH) i : Nat) : Int) from rfl]
    rw [wrap_small (Nat.le_trans hdiv hn), show wrap64 ((rd_T68 hs i).f0.f0 + ((n % szN (hs.map toH) i : Nat) : Int)) = (rd_T68 hs i).f0.f0 + ((n % szN (hs.map toH) i : Nat) : Int) from by unfold wrap64; omega,
      show wrap64 ((i : Int) + 1) = ((i + 1 : Nat) : Int) from by unfold wrap64; omega, ih]
    simp only [nthF, e1, toH, List.append_assoc, List.singleton_append]
theorem nth_f (D : Dries (hs.map toH)) (h4 : hs.length ≤ 4) (n k : Nat) (hk : 1000 < k) (hn : n ≤ 12960000) : posserref04_Nth.f k cs cl hs hung looks n = some (nthF (hs.map toH) hs.length 0 n) := by
  unfold posserref04_Nth.f
  have := nth_l0 (cs := cs) (cl := cl) (hung := hung) (looks := looks) D h4 hs.length 0 n k [] (by omega) (by omega) hn (Nat.le_refl _)
  rw [List.nil_append] at this
  exact this
theorem right_l0 (V : Valid cs cl (hs.map toH) hung (looks.map toL)) (d : List Int) (hd : d.length = hs.length) (hdb : ∀ i : Nat, 0 ≤ rd d i ∧ rd d i ≤ 60) : ∀ (m i k : Nat) (x : Int), i + m = looks.length → m + 1001 < k →
    posserref04_Right.l0 k d x i cs cl hs hung looks = some (bitF (okF (hs.map toH) hung (looks.map toL) (nums d) m i) i x)
  | 0, i, k, x, h, hk => by
    obtain ⟨k, rfl⟩ : ∃ m, k = m + 1 := ⟨k - 1, by omega⟩
    simp only [posserref04_Right.l0, okF, bitF]
    rw [if_neg (by omega)]
  | m + 1, i, k, x, h, hk => by
    obtain ⟨k, rfl⟩ : ∃ m, k = m + 1 := ⟨k - 1, by omega⟩
    have hL := V.n5
    have hH := V.n4
    have hc4 := V.c4
    simp only [List.length_map] at hL hH
    have hlk := V.look i (by simpa using (by omega : i < looks.length))
    have e1 := rd_toL looks i
    rw [e1] at hlk
    simp only [toL, List.length_map] at hlk
    obtain ⟨j, hj⟩ : ∃ j : Nat, (j : Int) = (rd_T84 looks i).f0 := ⟨(rd_T84 looks i).f0.toNat, by omega⟩
    have P : Pl cs hs.length hung := ⟨by have := V.place; simpa using this, V.inside, fun a b ha hb hne e => by
      rcases Nat.lt_or_ge a b with h | h
      · exact V.apart b a hb h e.symm
      · exact V.apart a b ha (by omega) e⟩
    have hmin := minute_f (cl := cl) (hung := hung) (looks := looks) P (by omega) hH V.wet hd hdb j (by omega) k (by omega)
    have hlo : lookOk (hs.map toH) hung (nums d) (rd_T140 (looks.map toL) i) = ((rd_T84 looks i).f2 == decide (mins (hs.map toH) hung (nums d) j ≤ (rd_T84 looks i).f1)) := by
      have ht : (toL (rd_T84 looks i)).f0.toNat = j := by simp only [toL]; omega
      unfold lookOk
      rw [e1]
      simp only [ht]
      rfl
    have hu := u64_ok i (by omega)
    simp only [posserref04_Right.l0, okF, bitF]
    rw [if_pos (by omega), if_pos (by omega), ← hj, hmin]
    simp only [Option.bind_some]
    rw [hlo, show wrap64 ((i : Int) + 1) = ((i + 1 : Nat) : Int) from by unfold wrap64; omega]
    change (if (decide (mins (hs.map toH) hung (nums d) j ≤ (rd_T84 looks i).f1) == (rd_T84 looks i).f2) = true then _ else _) = _
    by_cases hb : (decide (mins (hs.map toH) hung (nums d) j ≤ (rd_T84 looks i).f1) == (rd_T84 looks i).f2) = true
    · have hb2 : ((rd_T84 looks i).f2 == decide (mins (hs.map toH) hung (nums d) j ≤ (rd_T84 looks i).f1)) = true := by rw [beq_iff_eq] at hb ⊢; exact hb.symm
      rw [if_pos hb, if_pos hu, if_pos hb2]
      exact right_l0 V d hd hdb m (i + 1) k _ (by omega) (by omega)
    · have hb2 : ¬ ((rd_T84 looks i).f2 == decide (mins (hs.map toH) hung (nums d) j ≤ (rd_T84 looks i).f1)) = true := by rw [beq_iff_eq] at hb ⊢; exact fun e => hb e.symm
      rw [if_neg hb, if_neg hb2]
      exact right_l0 V d hd hdb m (i + 1) k _ (by omega) (by omega)
theorem right_f (V : Valid cs cl (hs.map toH) hung (looks.map toL)) (d : List Int) (hd : d.length = hs.length) (hdb : ∀ i : Nat, 0 ≤ rd d i ∧ rd d i ≤ 60) (k : Nat) (hk : 2000 ≤ k) :
    posserref04_Right.f k cs cl hs hung looks d = some (bitF (okF (hs.map toH) hung (looks.map toL) (nums d) looks.length 0) 0 0) := by
  have h5 := V.n5
  simp only [List.length_map] at h5
  unfold posserref04_Right.f
  exact right_l0 V d hd hdb looks.length 0 k 0 (by omega) (by omega)
theorem full_f (h5 : looks.length ≤ 5) : posserref04_Full.f cs cl hs hung looks = some (wrap64 ((shl .i64 1 (IntKind.u64.wrap (looks.length : Int))) - 1)) := by
  unfold posserref04_Full.f
  have hu := u64_ok looks.length h5
  rw [if_pos hu]
/-- The reference's truths. -/
def truF (hs : List S139) (hung : List Int) (looks : List S140) : Nat → Nat → List (List Int)
  | 0, _ => []
  | m + 1, n => if rightB hs hung looks (nums (nthF hs hs.length 0 n)) [] = true then nthF hs hs.length 0 n :: truF hs hung looks m (n + 1) else truF hs hung looks m (n + 1)
theorem many_ok (hc : checkB cs cl (hs.map toH) hung (looks.map toL) = 0) : manyN hs hs.length = (prN (hs.map toH) hs.length 0 : Nat) ∧ prN (hs.map toH) hs.length 0 ≤ 2000 := by
  have V := valid_of hc
  have h4 := V.n4
  simp only [List.length_map] at h4
  have hall : allH (hs.map toH) = true := by
    unfold checkB at hc
    split at hc
    · omega
    split at hc
    · omega
    rename_i h1 h2
    cases e : allH (hs.map toH)
    · exact absurd (.inr (.inr (.inl e))) h2
    · rfl
  obtain ⟨h1, h2, _⟩ := many_prod hs h4 hall hs.length (Nat.le_refl _)
  have h3 : ¬ prodH (hs.map toH) (hs.map toH).length > 2000 := by
    unfold checkB at hc
    split at hc
    · omega
    split at hc
    · omega
    split at hc
    · omega
    · assumption
  rw [List.length_map, h2] at h3
  have h5 := pl_pr (hs.map toH) hs.length 0
  simp only [plN, Nat.one_mul, Nat.zero_add] at h5
  rw [h1, h5]
  unfold mn
  split <;> omega
theorem truths_l0 (hc : checkB cs cl (hs.map toH) hung (looks.map toL) = 0) : ∀ (m n k : Nat) (acc : List (List Int)), n + m = prN (hs.map toH) hs.length 0 → m + 3000 ≤ k → acc.length ≤ n →
    posserref04_Truths.l0 k acc n cs cl hs hung looks = some (acc ++ truF (hs.map toH) hung (looks.map toL) m n)
  | 0, n, k, acc, h, hk, ha => by
    obtain ⟨k, rfl⟩ : ∃ m, k = m + 1 := ⟨k - 1, by omega⟩
    have hM := many_ok hc
    have V := valid_of hc
    have h4 := V.n4
    simp only [List.length_map] at h4
    simp only [posserref04_Truths.l0, truF, List.append_nil]
    rw [many_f cs cl hs hung looks (by omega) k (by omega)]
    simp only [Option.bind_some]
    rw [if_neg (by omega)]
  | m + 1, n, k, acc, h, hk, ha => by
    obtain ⟨k, rfl⟩ : ∃ m, k = m + 1 := ⟨k - 1, by omega⟩
    have hM := many_ok hc
    have V := valid_of hc
    have h4 := V.n4
    have h5 := V.n5
    simp only [List.length_map] at h4 h5
    have D : Dries (hs.map toH) := V.dry
    have hlen := nthF_len (hs.map toH) hs.length 0 n
    have hlm : (hs.map toH).length = hs.length := List.length_map ..
    have hbd : ∀ i : Nat, 0 ≤ rd (nthF (hs.map toH) hs.length 0 n) i ∧ rd (nthF (hs.map toH) hs.length 0 n) i ≤ 60 := fun i => by
      have := dries_bd V (nth_dries D n) i
      rw [hlm] at this
      exact this
    have ih1 := truths_l0 hc m (n + 1) k
    simp only [posserref04_Truths.l0]
    rw [many_f cs cl hs hung looks (by omega) k (by omega)]
    simp only [Option.bind_some]
    rw [if_pos (by omega), nth_f D h4 n k (by omega) (by omega)]
    simp only [Option.bind_some]
    rw [right_f V _ hlen hbd k (by omega)]
    simp only [Option.bind_some]
    rw [full_f h5]
    simp only [Option.bind_some]
    have hbf := bit_full (okF (hs.map toH) hung (looks.map toL) (nums (nthF (hs.map toH) hs.length 0 n)) looks.length 0) (by rw [okF_len]; exact h5)
    rw [okF_len] at hbf
    have hokr := okF_right (hs.map toH) hung (looks.map toL) (nums (nthF (hs.map toH) hs.length 0 n))
    rw [List.length_map] at hokr
    rw [hokr] at hbf
    rw [show wrap64 ((n : Int) + 1) = ((n + 1 : Nat) : Int) from by unfold wrap64; omega]
    simp only [truF, hlm]
    by_cases hr : rightB (hs.map toH) hung (looks.map toL) (nums (nthF (hs.map toH) hs.length 0 n)) [] = true
    · rw [if_pos (hbf.2 hr), if_pos (by omega), if_pos hr, ih1 _ (by omega) (by omega) (by simp only [List.length_append, List.length_singleton]; omega)]
      simp only [List.append_assoc, List.singleton_append]
    · rw [if_neg (fun e => hr (hbf.1 e)), if_neg hr, ih1 _ (by omega) (by omega) (by omega)]
/-- All truths, as1 the reference tells them. -/
def truL (hs : List S139) (hung : List Int) (looks : List S140) : List (List Int) := truF hs hung looks (prN hs hs.length 0) 0
theorem truths_f (hc : checkB cs cl (hs.map toH) hung (looks.map toL) = 0) (k : Nat) (hk : 6000 ≤ k) : posserref04_Truths.f k cs cl hs hung looks = some (truL (hs.map toH) hung (looks.map toL)) := by
  have hM := many_ok hc
  unfold posserref04_Truths.f truL
  have := truths_l0 hc (prN (hs.map toH) hs.length 0) 0 k [] (by omega) (by omega) (Nat.le_refl _)
  rw [List.nil_append] at this
  rw [List.length_map]
  exact this
end
theorem mem_truF (hs : List S139) (hung : List Int) (looks : List S140) (l : List Int) : ∀ (m n : Nat), l ∈ truF hs hung looks m n ↔ ∃ j, n ≤ j ∧ j < n + m ∧ l = nthF hs hs.length 0 j ∧ rightB hs hung looks (nums (nthF hs hs.length 0 j)) [] = true
  | 0, n => by
    simp only [truF, List.not_mem_nil, false_iff]
    rintro ⟨j, h1, h2, _⟩
    omega
  | m + 1, n => by
    simp only [truF]
    by_cases hr : rightB hs hung looks (nums (nthF hs hs.length 0 n)) [] = true
    · rw [if_pos hr, List.mem_cons, mem_truF hs hung looks l m (n + 1)]
      constructor
      · rintro (h | ⟨j, h1, h2, h3⟩)
        · exact ⟨n, Nat.le_refl _, by omega, h, hr⟩
        · exact ⟨j, by omega, by omega, h3⟩
      · rintro ⟨j, h1, h2, h3, h4⟩
        by_cases e : j = n
        · subst e; exact .inl h3
        · exact .inr ⟨j, by omega, by omega, h3, h4⟩
    · rw [if_neg hr, mem_truF hs hung looks l m (n + 1)]
      constructor
      · rintro ⟨j, h1, h2, h3⟩
        exact ⟨j, by omega, by omega, h3⟩
      · rintro ⟨j, h1, h2, h3, h4⟩
        by_cases e : j = n
        · subst e; exact absurd h4 hr
        · exact ⟨j, by omega, by omega, h3, h4⟩
/-- The reference's truths are the program's. -/
theorem truL_iff {hs : List S139} {hung : List Int} {looks : List S140} (D : Dries hs) (h4 : hs.length ≤ 4) (t : Nat → Int) : t ∈ truthsT hs hung looks ↔ ∃ l ∈ truL hs hung looks, nums l = t := by
  rw [truths_iff h4]
  constructor
  · rintro ⟨h1, h2⟩
    obtain ⟨n, hn, rfl⟩ := dries_nth D h1
    exact ⟨_, (mem_truF hs hung looks _ _ 0).2 ⟨n, Nat.zero_le _, by omega, rfl, h2⟩, rfl⟩
  · rintro ⟨l, hl, rfl⟩
    obtain ⟨j, _, h2, rfl, h4'⟩ := (mem_truF hs hung looks l _ 0).1 hl
    exact ⟨nth_dries D j, h4'⟩
theorem truL_len {hs : List S139} {hung : List Int} {looks : List S140} {l : List Int} (h : l ∈ truL hs hung looks) : l.length = hs.length := by
  obtain ⟨j, _, _, rfl, _⟩ := (mem_truF hs hung looks l _ 0).1 h
  exact nthF_len _ _ _ _
theorem truL_nil {hs : List S139} {hung : List Int} {looks : List S140} (D : Dries hs) (h4 : hs.length ≤ 4) : truL hs hung looks = [] ↔ truthsT hs hung looks = [] := by
  constructor
  · intro h
    refine List.eq_nil_iff_forall_not_mem.2 (fun t ht => ?_)
    obtain ⟨l, hl, _⟩ := (truL_iff D h4 t).1 ht
    rw [h] at hl
    cases hl
  · intro h
    refine List.eq_nil_iff_forall_not_mem.2 (fun l hl => ?_)
    have := (truL_iff D h4 (nums l)).2 ⟨l, hl, rfl⟩
    rw [h] at this
    cases this
/-- What the law asks ahead of all else: the truths, or the error. -/
theorem placed_f {cs cl : Int} {hs : List S68} {hung : List Int} {looks : List S84} (b : Bool) (k : Nat) (hk : 6000 ≤ k) : posserlaw04_placed.f k cs cl hs hung looks b =
    some (if askCode cs cl (hs.map toH) hung (looks.map toL) b = 0 then truL (hs.map toH) hung (looks.map toL) else [], askCode cs cl (hs.map toH) hung (looks.map toL) b) := by
  unfold posserlaw04_placed.f posserlaw04_fault.f posserref04_Fault.f
  simp only [Option.bind_some]
  unfold askCode faultB
  by_cases hc : checkB cs cl (hs.map toH) hung (looks.map toL) = 0
  · have V := valid_of hc
    have h4 := V.n4
    have hnil := truL_nil (hung := hung) (looks := looks.map toL) V.dry h4
    rw [if_pos hc]
    simp only [hc, ne_eq, not_true_eq_false, if_false]
    cases b with
    | false => simp
    | true =>
      simp only [if_true]
      rw [truths_f hc k hk]
      simp only [Option.bind_some]
      by_cases hn : truL (hs.map toH) hung (looks.map toL) = []
      · have hn2 := hnil.1 hn
        simp [hn, hn2]
      · have hn2 : ¬ truthsT (hs.map toH) hung (looks.map toL) = [] := fun e => hn (hnil.2 e)
        have hn3 : ¬ ((truL (hs.map toH) hung (looks.map toL)).length : Int) = 0 := by
          have := List.length_pos_iff.2 hn
          omega
        rw [if_neg hn3]
        simp [hn2]
  · rw [if_neg hc]
    simp [hc]
end Go.Proofs.Ytokhmghgghjmhaa.Q

namespace Go.Proofs.Ytokhmghgghjmhaa.Q
open Go.RowKit Go.Proofs.YtokhmghgghjmhaaW.PrintWords Go.Proofs.YtokhmghgghjmhaaW.PrintLast Go.Proofs.YtokhmghgghjmhaaW.PrintMore
set_option linter.unusedVariables false

/-! Good minutes, as1 the reference tells them. -/
theorem bnd_tells (v : (Nat → Int) → Int) : ∀ T : List (Nat → Int), T ≠ [] → (∀ t ∈ T, (bnd v T).1 ≤ v t ∧ v t ≤ (bnd v T).2) ∧ (∃ t ∈ T, v t = (bnd v T).1) ∧ (∃ t ∈ T, v t = (bnd v T).2) := by
  have key : ∀ (r pre : List (Nat → Int)) (lo hi : Int), (∀ t ∈ pre, lo ≤ v t ∧ v t ≤ hi) → (∃ t ∈ pre, v t = lo) → (∃ t ∈ pre, v t = hi) →
      (∀ t ∈ pre ++ r, (r.foldl (fun p t => (mn p.1 (v t), mx p.2 (v t))) (lo, hi)).1 ≤ v t ∧ v t ≤ (r.foldl (fun p t => (mn p.1 (v t), mx p.2 (v t))) (lo, hi)).2) ∧
      (∃ t ∈ pre ++ r, v t = (r.foldl (fun p t => (mn p.1 (v t), mx p.2 (v t))) (lo, hi)).1) ∧ (∃ t ∈ pre ++ r, v t = (r.foldl (fun p t => (mn p.1 (v t), mx p.2 (v t))) (lo, hi)).2) := by
    intro r
    induction r with
    | nil => intro pre lo hi h1 h2 h3; simpa using ⟨h1, h2, h3⟩
    | cons a r ih =>
      intro pre lo hi h1 h2 h3
      have := ih (pre ++ [a]) (mn lo (v a)) (mx hi (v a)) (by
        intro t ht
        rcases List.mem_append.1 ht with h | h
        · have := h1 t h; unfold mn mx; constructor <;> split <;> omega
        · rw [List.mem_singleton] at h; subst h; unfold mn mx; constructor <;> split <;> omega)
        (by
          by_cases hc : v a < lo
          · exact ⟨a, by simp, by unfold mn; rw [if_pos hc]⟩
          · obtain ⟨t, ht, e⟩ := h2
            exact ⟨t, List.mem_append_left _ ht, by unfold mn; rw [if_neg hc]; exact e⟩)
        (by
          by_cases hc : hi < v a
          · exact ⟨a, by simp, by unfold mx; rw [if_pos hc]⟩
          · obtain ⟨t, ht, e⟩ := h3
            exact ⟨t, List.mem_append_left _ ht, by unfold mx; rw [if_neg hc]; exact e⟩)
      simpa using this
  intro T hT
  cases T with
  | nil => exact absurd rfl hT
  | cons a r =>
    have := key r [a] (v a) (v a) (fun t ht => by rw [List.mem_singleton] at ht; subst ht; omega) ⟨a, by simp, rfl⟩ ⟨a, by simp, rfl⟩
    exact this
section
variable {cs cl : Int} {hs : List S68} {hung : List Int} {looks : List S84} {p : List Int}
/-- What is right of a horse in a minute. -/
def okM (hs : List S139) (p : List Int) (i : Nat) (m : Int) (d : Nat → Int) : Bool := decide (mins hs p d i ≤ m ∧ m ≤ mins hs p d i + (rd_T139 hs i).f2)
theorem isRight_f (V : Valid cs cl (hs.map toH) hung (looks.map toL)) (P : Pl cs hs.length p) (d : List Int) (hd : d.length = hs.length) (hdb : ∀ i : Nat, 0 ≤ rd d i ∧ rd d i ≤ 60) (i : Nat) (hi : i < hs.length) (m : Int) (k : Nat) (hk : 1000 < k) :
    posserref04_IsRight.f k cs cl hs hung looks p d i m = some (okM (hs.map toH) p i m (nums d)) := by
  have h4 := V.n4
  have hc := V.c4
  simp only [List.length_map] at h4
  have hb := mins_bd V.wet p (nums d) (by rw [List.length_map]; exact P.len) V.n4 hdb i
  have hg := V.grace i (by simpa using hi)
  have e1 := rd_toH hs i
  rw [e1] at hg
  simp only [toH] at hg
  unfold posserref04_IsRight.f
  rw [minute_f P (by omega) h4 V.wet hd hdb i hi k hk]
  simp only [Option.bind_some]
  rw [if_pos (by omega), if_pos (by omega), in_f]
  simp only [Option.bind_some]
  unfold okM
  rw [e1]
  simp only [toH]
  rw [show wrap64 (mins (hs.map toH) p (fun j => rd d j) i + (rd_T68 hs i).f2) = mins (hs.map toH) p (fun j => rd d j) i + (rd_T68 hs i).f2 from by
    have hb' : 0 ≤ mins (hs.map toH) p (fun j => rd d j) i ∧ mins (hs.map toH) p (fun j => rd d j) i ≤ 96 := hb
    unfold wrap64; omega]
  rfl
/-- So many truths in which it is right. -/
def yesF (ok : (Nat → Int) → Bool) (L : List (List Int)) : Nat → Nat → Int
  | 0, _ => 0
  | d + 1, i => (if ok (nums (rd_L9 L i)) = true then 1 else 0) + yesF ok L d (i + 1)
theorem yesF_bd (ok : (Nat → Int) → Bool) (L : List (List Int)) : ∀ d i, 0 ≤ yesF ok L d i ∧ yesF ok L d i ≤ d ∧ (yesF ok L d i = d ↔ ∀ j : Nat, i ≤ j → j < i + d → ok (nums (rd_L9 L j)) = true)
  | 0, i => by simp only [yesF]; refine ⟨by omega, by omega, fun _ j h1 h2 => by omega, fun _ => rfl⟩
  | d + 1, i => by
    obtain ⟨h1, h2, h3⟩ := yesF_bd ok L d (i + 1)
    simp only [yesF]
    by_cases h : ok (nums (rd_L9 L i)) = true
    · rw [if_pos h]
      refine ⟨by omega, by omega, fun e j h4 h5 => ?_, fun hh => ?_⟩
      · by_cases hj : j = i
        · subst hj; exact h
        · exact h3.1 (by omega) j (by omega) (by omega)
      · have := h3.2 (fun j h4 h5 => hh j (by omega) (by omega)); omega
    · rw [if_neg h]
      refine ⟨by omega, by omega, fun e => by omega, fun hh => absurd (hh i (Nat.le_refl _) (by omega)) h⟩
def verd (y n : Int) : Int := if y = n then 1 else if y = 0 then 2 else 3
/-- Truths as1 the reference lists them. -/
def Trs (hs : List S68) (L : List (List Int)) : Prop := L.length ≤ 100000 ∧ ∀ j : Nat, j < L.length → (rd_L9 L j).length = hs.length ∧ ∀ i : Nat, 0 ≤ rd (rd_L9 L j) i ∧ rd (rd_L9 L j) i ≤ 60
theorem verdict_l0 (V : Valid cs cl (hs.map toH) hung (looks.map toL)) (P : Pl cs hs.length p) (L : List (List Int)) (hL : Trs hs L) (h : Nat) (hh : h < hs.length) (m : Int) : ∀ (d i k : Nat) (y : Int), i + d = L.length → d + 1001 < k → 0 ≤ y → y ≤ i →
    posserref04_Verdict.l0 k L p h m y i cs cl hs hung looks = some (verd (y + yesF (okM (hs.map toH) p h m) L d i) L.length)
  | 0, i, k, y, e, hk, hy0, hy1 => by
    obtain ⟨k, rfl⟩ : ∃ m, k = m + 1 := ⟨k - 1, by omega⟩
    simp only [posserref04_Verdict.l0, yesF, verd]
    rw [if_neg (by omega)]
    simp only [Int.add_zero]
    by_cases h1 : y = (L.length : Int)
    · rw [if_pos h1, if_pos h1]
    · rw [if_neg h1, if_neg h1]
      by_cases h2 : y = 0
      · rw [if_pos h2, if_pos h2]
      · rw [if_neg h2, if_neg h2]
  | d + 1, i, k, y, e, hk, hy0, hy1 => by
    obtain ⟨k, rfl⟩ : ∃ m, k = m + 1 := ⟨k - 1, by omega⟩
    have hl := hL.1
    obtain ⟨t1, t2⟩ := hL.2 i (by omega)
    simp only [posserref04_Verdict.l0, yesF]
    rw [if_pos (by omega), if_pos (by omega), isRight_f V P _ t1 t2 h hh m k (by omega)]
    simp only [Option.bind_some]
    rw [show wrap64 ((i : Int) + 1) = ((i + 1 : Nat) : Int) from by unfold wrap64; omega]
    by_cases hok : okM (hs.map toH) p h m (nums (rd_L9 L i)) = true
    · rw [if_pos hok, if_pos hok, show wrap64 (y + 1) = y + 1 from by unfold wrap64; omega, verdict_l0 V P L hL h hh m d (i + 1) k (y + 1) (by omega) (by omega) (by omega) (by omega)]
      congr 2
      omega
    · rw [if_neg hok, if_neg hok, verdict_l0 V P L hL h hh m d (i + 1) k y (by omega) (by omega) (by omega) (by omega)]
      congr 2
      omega
theorem verdict_f (V : Valid cs cl (hs.map toH) hung (looks.map toL)) (P : Pl cs hs.length p) (L : List (List Int)) (hL : Trs hs L) (hne : L.length ≤ 2000) (h : Nat) (hh : h < hs.length) (m : Int) (k : Nat) (hk : 4000 ≤ k) :
    posserref04_Verdict.f k cs cl hs hung looks L p h m = some (verd (yesF (okM (hs.map toH) p h m) L L.length 0) L.length) := by
  unfold posserref04_Verdict.f
  have := verdict_l0 V P L hL h hh m L.length 0 k 0 (by omega) (by omega) (by omega) (by omega)
  rw [Int.zero_add] at this
  exact this
/-- The good minutes up to a minute, found one by one. -/
def gN (lo hi : Int) (n : Nat) : Int × Int := if lo ≤ mn ((n : Int) - 1) hi then (lo, mn ((n : Int) - 1) hi) else (1, 0)
theorem good_l0 (V : Valid cs cl (hs.map toH) hung (looks.map toL)) (P : Pl cs hs.length p) (L : List (List Int)) (hL : Trs hs L) (hne : L.length ≤ 2000) (h : Nat) (hh : h < hs.length) (lo hi : Int) (hlo : 0 ≤ lo)
    (hg : ∀ m : Int, (yesF (okM (hs.map toH) p h m) L L.length 0 = L.length ↔ lo ≤ m ∧ m ≤ hi)) : ∀ (d n k : Nat), (n : Int) + d = cl + 1 → d + 4001 ≤ k →
    posserref04_Good.l0 k L p h n cs cl hs hung looks (gN lo hi n).1 (gN lo hi n).2 = some (gN lo hi (n + d))
  | 0, n, k, e, hk => by
    obtain ⟨k, rfl⟩ : ∃ m, k = m + 1 := ⟨k - 1, by omega⟩
    simp only [posserref04_Good.l0]
    rw [if_neg (by omega)]
    rfl
  | d + 1, n, k, e, hk => by
    obtain ⟨k, rfl⟩ : ∃ m, k = m + 1 := ⟨k - 1, by omega⟩
    have hcl := V.k99
    have ih := good_l0 V P L hL hne h hh lo hi hlo hg d (n + 1) k (by omega) (by omega)
    rw [show n + 1 + d = n + (d + 1) from by omega] at ih
    simp only [posserref04_Good.l0]
    rw [if_pos (by omega), verdict_f V P L hL hne h hh n k (by omega)]
    simp only [Option.bind_some]
    rw [show wrap64 ((n : Int) + 1) = ((n + 1 : Nat) : Int) from by unfold wrap64; omega]
    have hgn := hg n
    have hv : verd (yesF (okM (hs.map toH) p h n) L L.length 0) L.length = 1 ↔ lo ≤ n ∧ (n : Int) ≤ hi := by
      unfold verd
      constructor
      · intro hv
        split at hv
        · exact hgn.1 (by assumption)
        · split at hv <;> omega
      · intro hv
        rw [if_pos (hgn.2 hv)]
    by_cases hgood : lo ≤ n ∧ (n : Int) ≤ hi
    · rw [if_pos (hv.2 hgood)]
      by_cases hfirst : lo = n
      · have e1 : gN lo hi n = (1, 0) := by unfold gN mn; rw [if_neg (by split <;> omega)]
        have e2 : gN lo hi (n + 1) = ((n : Int), (n : Int)) := by
          unfold gN
          rw [show mn (((n + 1 : Nat) : Int) - 1) hi = n from by unfold mn; split <;> omega, if_pos (by omega), hfirst]
        rw [e2] at ih
        rw [e1, if_pos (by decide)]
        exact ih
      · have e1 : gN lo hi n = (lo, (n : Int) - 1) := by
          unfold gN
          rw [show mn ((n : Int) - 1) hi = (n : Int) - 1 from by unfold mn; split <;> omega, if_pos (by omega)]
        have e2 : gN lo hi (n + 1) = (lo, (n : Int)) := by
          unfold gN
          rw [show mn (((n + 1 : Nat) : Int) - 1) hi = n from by unfold mn; split <;> omega, if_pos (by omega)]
        rw [e2] at ih
        rw [e1, if_neg (by show ¬ lo > (n : Int) - 1; omega)]
        exact ih
    · rw [if_neg (fun x => hgood (hv.1 x))]
      have e1 : gN lo hi (n + 1) = gN lo hi n := by
        unfold gN
        by_cases hx : lo ≤ mn ((n : Int) - 1) hi
        · have e3 : mn (((n + 1 : Nat) : Int) - 1) hi = mn ((n : Int) - 1) hi := by unfold mn at hx ⊢; split at hx <;> split <;> (try split) <;> omega
          rw [e3]
        · rw [if_neg hx, if_neg]
          unfold mn at hx ⊢
          split at hx <;> split <;> omega
      rw [e1] at ih
      exact ih
end
end Go.Proofs.Ytokhmghgghjmhaa.Q

namespace Go.Proofs.Ytokhmghgghjmhaa.Q
open Go.RowKit Go.Proofs.YtokhmghgghjmhaaW.PrintWords Go.Proofs.YtokhmghgghjmhaaW.PrintLast Go.Proofs.YtokhmghgghjmhaaW.PrintMore
set_option linter.unusedVariables false

section
variable {cs cl : Int} {hs : List S68} {hung : List Int} {looks : List S84} {p : List Int}
theorem truF_len (hs : List S139) (hung : List Int) (looks : List S140) : ∀ m n, (truF hs hung looks m n).length ≤ m
  | 0, n => Nat.le_refl _
  | m + 1, n => by
    have := truF_len hs hung looks m (n + 1)
    simp only [truF]
    split
    · simp only [List.length_cons]; omega
    · omega
theorem L9_mem (L : List (List Int)) (j : Nat) (hj : j < L.length) : rd_L9 L j ∈ L := by
  unfold rd_L9
  rw [Int.toNat_natCast, List.getD_eq_getElem?_getD, List.getElem?_eq_getElem hj]
  exact List.getElem_mem hj
theorem mem_L9 (L : List (List Int)) (l : List Int) (h : l ∈ L) : ∃ j : Nat, j < L.length ∧ rd_L9 L j = l := by
  obtain ⟨j, hj⟩ := List.mem_iff_getElem?.1 h
  have hlt := (List.getElem?_eq_some_iff.1 hj).1
  refine ⟨j, hlt, ?_⟩
  unfold rd_L9
  rw [Int.toNat_natCast, List.getD_eq_getElem?_getD, hj]
  rfl
theorem truL_trs (hc : checkB cs cl (hs.map toH) hung (looks.map toL) = 0) : Trs hs (truL (hs.map toH) hung (looks.map toL)) ∧ (truL (hs.map toH) hung (looks.map toL)).length ≤ 2000 := by
  have V := valid_of hc
  have hlen := truF_len (hs.map toH) hung (looks.map toL) (prN (hs.map toH) (hs.map toH).length 0) 0
  have hM := (many_ok hc).2
  have hl2 : (truL (hs.map toH) hung (looks.map toL)).length ≤ 2000 := by
    unfold truL
    rw [List.length_map] at hlen ⊢
    omega
  refine ⟨⟨by omega, fun j hj => ?_⟩, hl2⟩
  have hm := L9_mem _ j hj
  refine ⟨by have := truL_len hm; rwa [List.length_map] at this, fun i => ?_⟩
  have ht := (truL_iff (hung := hung) (looks := looks.map toL) V.dry V.n4 (nums (rd_L9 (truL (hs.map toH) hung (looks.map toL)) j))).2 ⟨_, hm, rfl⟩
  exact dries_bd V (truths_mem ht).1 i
/-- In which minutes it is right in all truths. -/
theorem right_all (hc : checkB cs cl (hs.map toH) hung (looks.map toL) = 0) (hT : truthsT (hs.map toH) hung (looks.map toL) ≠ []) (i : Nat) (m : Int) :
    yesF (okM (hs.map toH) p i m) (truL (hs.map toH) hung (looks.map toL)) (truL (hs.map toH) hung (looks.map toL)).length 0 = (truL (hs.map toH) hung (looks.map toL)).length ↔
      goodLo (hs.map toH) p (truthsT (hs.map toH) hung (looks.map toL)) i ≤ m ∧ m ≤ (bnd (qv true (hs.map toH) p i) (truthsT (hs.map toH) hung (looks.map toL))).1 := by
  have V := valid_of hc
  have hI := fun t => truL_iff (hung := hung) (looks := looks.map toL) V.dry V.n4 t
  obtain ⟨a1, _, a3⟩ := bnd_tells (qv false (hs.map toH) p i) _ hT
  obtain ⟨b1, b2, _⟩ := bnd_tells (qv true (hs.map toH) p i) _ hT
  rw [(yesF_bd _ _ _ 0).2.2]
  unfold goodLo
  constructor
  · intro h
    constructor
    · obtain ⟨t, ht, e⟩ := a3
      obtain ⟨l, hl, rfl⟩ := (hI t).1 ht
      obtain ⟨j, hj, rfl⟩ := mem_L9 _ _ hl
      have := (of_decide_eq_true (h j (Nat.zero_le _) (by omega))).1
      rw [← e]
      exact this
    · obtain ⟨t, ht, e⟩ := b2
      obtain ⟨l, hl, rfl⟩ := (hI t).1 ht
      obtain ⟨j, hj, rfl⟩ := mem_L9 _ _ hl
      have := (of_decide_eq_true (h j (Nat.zero_le _) (by omega))).2
      rw [← e]
      exact this
  · rintro ⟨h1, h2⟩ j _ hj
    have ht := (hI _).2 ⟨_, L9_mem _ j (by omega), rfl⟩
    have c1 := (a1 _ ht).2
    have c2 := (b1 _ ht).1
    exact decide_eq_true ⟨Int.le_trans c1 h1, Int.le_trans h2 c2⟩
theorem lo_pos (hc : checkB cs cl (hs.map toH) hung (looks.map toL) = 0) (P : Pl cs hs.length p) (hT : truthsT (hs.map toH) hung (looks.map toL) ≠ []) (i : Nat) : 0 ≤ goodLo (hs.map toH) p (truthsT (hs.map toH) hung (looks.map toL)) i := by
  have V := valid_of hc
  obtain ⟨_, _, t, ht, e⟩ := bnd_tells (qv false (hs.map toH) p i) _ hT
  unfold goodLo
  rw [← e]
  exact (mins_bd V.wet p t (by rw [List.length_map]; exact P.len) V.n4 (fun i => dries_bd V (truths_mem ht).1 i) i).1
theorem good_f (hc : checkB cs cl (hs.map toH) hung (looks.map toL) = 0) (P : Pl cs hs.length p) (hT : truthsT (hs.map toH) hung (looks.map toL) ≠ []) (i : Nat) (hi : i < hs.length) (k : Nat) (hk : 10000 ≤ k) :
    posserref04_Good.f k cs cl hs hung looks (truL (hs.map toH) hung (looks.map toL)) p i =
      some (if goodLo (hs.map toH) p (truthsT (hs.map toH) hung (looks.map toL)) i ≤ goodHi cl (hs.map toH) p (truthsT (hs.map toH) hung (looks.map toL)) i then (goodLo (hs.map toH) p (truthsT (hs.map toH) hung (looks.map toL)) i, goodHi cl (hs.map toH) p (truthsT (hs.map toH) hung (looks.map toL)) i) else (1, 0)) := by
  have V := valid_of hc
  obtain ⟨h1, h2⟩ := truL_trs hc
  have hk0 := V.k0
  have hk99 := V.k99
  obtain ⟨d, hd⟩ : ∃ d : Nat, (d : Int) = cl + 1 := ⟨(cl + 1).toNat, by omega⟩
  have := good_l0 V P _ h1 h2 i hi _ _ (lo_pos hc P hT i) (fun m => right_all hc hT i m) d 0 k (by omega) (by omega)
  have e0 : gN (goodLo (hs.map toH) p (truthsT (hs.map toH) hung (looks.map toL)) i) (bnd (qv true (hs.map toH) p i) (truthsT (hs.map toH) hung (looks.map toL))).1 0 = (1, 0) := by
    have := lo_pos hc P hT i
    unfold gN mn
    rw [if_neg (by split <;> omega)]
  rw [e0] at this
  unfold posserref04_Good.f
  refine this.trans (congrArg some ?_)
  have e1 : mn (((0 + d : Nat) : Int) - 1) (bnd (qv true (hs.map toH) p i) (truthsT (hs.map toH) hung (looks.map toL))).1 = goodHi cl (hs.map toH) p (truthsT (hs.map toH) hung (looks.map toL)) i := by
    unfold goodHi
    rw [show ((0 + d : Nat) : Int) - 1 = cl from by omega]
  unfold gN
  rw [e1]
/-- The first horse without a good minute. -/
def stF (cl : Int) (hs : List S139) (p : List Int) (T : List (Nat → Int)) : Nat → Nat → Int
  | 0, _ => -1
  | d + 1, i => if goodLo hs p T i > goodHi cl hs p T i then (i : Int) else stF cl hs p T d (i + 1)
theorem stuck_l0 (hc : checkB cs cl (hs.map toH) hung (looks.map toL) = 0) (P : Pl cs hs.length p) (hT : truthsT (hs.map toH) hung (looks.map toL) ≠ []) : ∀ (d i k : Nat), i + d = hs.length → d + 10001 ≤ k →
    posserref04_Stuck.l0 k (truL (hs.map toH) hung (looks.map toL)) p i cs cl hs hung looks = some (stF cl (hs.map toH) p (truthsT (hs.map toH) hung (looks.map toL)) d i)
  | 0, i, k, h, hk => by
    obtain ⟨k, rfl⟩ : ∃ m, k = m + 1 := ⟨k - 1, by omega⟩
    simp only [posserref04_Stuck.l0, stF]
    rw [if_neg (by omega)]
  | d + 1, i, k, h, hk => by
    obtain ⟨k, rfl⟩ : ∃ m, k = m + 1 := ⟨k - 1, by omega⟩
    have h4 := (valid_of hc).n4
    simp only [List.length_map] at h4
    have hlp := lo_pos hc P hT i
    simp only [posserref04_Stuck.l0, stF]
    rw [if_pos (by omega), good_f hc P hT i (by omega) k (by omega)]
    simp only [Option.bind_some]
    rw [show wrap64 ((i : Int) + 1) = ((i + 1 : Nat) : Int) from by unfold wrap64; omega]
    by_cases hg : goodLo (hs.map toH) p (truthsT (hs.map toH) hung (looks.map toL)) i ≤ goodHi cl (hs.map toH) p (truthsT (hs.map toH) hung (looks.map toL)) i
    · rw [if_pos hg, if_neg (by show ¬ (goodLo (hs.map toH) p (truthsT (hs.map toH) hung (looks.map toL)) i > goodHi cl (hs.map toH) p (truthsT (hs.map toH) hung (looks.map toL)) i); omega), if_neg (by omega)]
      exact stuck_l0 hc P hT d (i + 1) k (by omega) (by omega)
    · rw [if_neg hg, if_pos (by decide), if_pos (by omega)]
theorem stuck_f (hc : checkB cs cl (hs.map toH) hung (looks.map toL) = 0) (P : Pl cs hs.length p) (hT : truthsT (hs.map toH) hung (looks.map toL) ≠ []) (k : Nat) (hk : 11000 ≤ k) :
    posserref04_Stuck.f k cs cl hs hung looks (truL (hs.map toH) hung (looks.map toL)) p = some (stF cl (hs.map toH) p (truthsT (hs.map toH) hung (looks.map toL)) hs.length 0) := by
  have h4 := (valid_of hc).n4
  simp only [List.length_map] at h4
  unfold posserref04_Stuck.f
  exact stuck_l0 hc P hT hs.length 0 k (by omega) (by omega)
theorem dn_st (cl : Int) (hs : List S139) (p : List Int) (T : List (Nat → Int)) : ∀ (d i : Nat) (n : Int), (dn cl hs p T d i n).2 = if stF cl hs p T d i < 0 then ((i + d : Nat) : Int) else stF cl hs p T d i
  | 0, i, n => by simp [dn, stF]
  | d + 1, i, n => by
    by_cases h : goodLo hs p T i > goodHi cl hs p T i
    · have e1 : stF cl hs p T (d + 1) i = (i : Int) := by simp only [stF]; rw [if_pos h]
      have e2 : dn cl hs p T (d + 1) i n = (0, (i : Int)) := by simp only [dn]; rw [if_pos h]
      rw [e1, e2, if_neg (by omega)]
    · have e1 : stF cl hs p T (d + 1) i = stF cl hs p T d (i + 1) := by simp only [stF]; rw [if_neg h]
      have e2 : dn cl hs p T (d + 1) i n = dn cl hs p T d (i + 1) (mx n (goodLo hs p T i)) := by simp only [dn]; rw [if_neg h]
      rw [e1, e2, dn_st cl hs p T d (i + 1), show i + 1 + d = i + (d + 1) from by omega]
theorem stF_bd (cl : Int) (hs : List S139) (p : List Int) (T : List (Nat → Int)) : ∀ (d i : Nat), stF cl hs p T d i < ((i + d : Nat) : Int)
  | 0, i => by simp only [stF]; omega
  | d + 1, i => by
    simp only [stF]
    split
    · omega
    · have := stF_bd cl hs p T d (i + 1); omega
/-- The program's answer about who is stuck, by the reference's. -/
theorem done_st (cl : Int) (hs : List S139) (p : List Int) (T : List (Nat → Int)) : ((doneR cl hs p T).2 = hs.length ↔ stF cl hs p T hs.length 0 < 0) ∧ (¬ stF cl hs p T hs.length 0 < 0 → (doneR cl hs p T).2 = stF cl hs p T hs.length 0) := by
  have h1 := dn_st cl hs p T hs.length 0 0
  have h2 := stF_bd cl hs p T hs.length 0
  unfold doneR
  rw [h1]
  constructor
  · split
    · rename_i h; simp [h]
    · rename_i h; constructor
      · intro e; omega
      · intro e; omega
  · intro h; rw [if_neg h]
/-! The law's closets. -/
theorem list_f (l : List Int) (hl : l.length ≤ 1000) : posserlaw04_list.f l = some l := by
  unfold posserlaw04_list.f
  simp only [Option.bind_some, List.nil_append, List.length_nil]
  rw [if_pos (by omega)]
theorem closet_l1 (x0 x1 : Int) (x2 : List S139) (x3 : List Int) (h5 : looks.length ≤ 1000) : ∀ (d i k : Nat), i + d = looks.length → d < k →
    posserlaw04_Closet.l1 k i cs cl hs hung looks x0 x1 x2 x3 ((looks.take i).map toL) = some (x0, x1, x2, x3, looks.map toL)
  | 0, i, k, h, hk => by
    obtain ⟨k, rfl⟩ : ∃ m, k = m + 1 := ⟨k - 1, by omega⟩
    simp only [posserlaw04_Closet.l1]
    rw [if_neg (by omega), List.take_of_length_le (by omega)]
  | d + 1, i, k, h, hk => by
    obtain ⟨k, rfl⟩ : ∃ m, k = m + 1 := ⟨k - 1, by omega⟩
    have ih := closet_l1 x0 x1 x2 x3 h5 d (i + 1) k (by omega) (by omega)
    have e : (looks.take (i + 1)).map toL = (looks.take i).map toL ++ [toL (rd_T84 looks i)] := by
      rw [List.take_succ_eq_append_getElem (by omega), List.map_append]
      unfold rd_T84
      rw [Int.toNat_natCast, List.getD_eq_getElem?_getD, List.getElem?_eq_getElem (by omega)]
      rfl
    rw [e] at ih
    simp only [posserlaw04_Closet.l1]
    rw [if_pos (by omega), if_pos (by omega), if_pos (by simp only [List.length_map, List.length_take]; omega), show wrap64 ((i : Int) + 1) = ((i + 1 : Nat) : Int) from by unfold wrap64; omega]
    exact ih
theorem closet_l0 (h4 : hs.length ≤ 1000) (h5 : looks.length ≤ 1000) (x0 x1 : Int) (x3 : List Int) : ∀ (d i k : Nat), i + d = hs.length → d + 1002 < k →
    posserlaw04_Closet.l0 k i cs cl hs hung looks x0 x1 ((hs.take i).map toH) x3 = some (x0, x1, hs.map toH, x3, looks.map toL)
  | 0, i, k, h, hk => by
    obtain ⟨k, rfl⟩ : ∃ m, k = m + 1 := ⟨k - 1, by omega⟩
    have := closet_l1 (cs := cs) (cl := cl) (hs := hs) (hung := hung) (looks := looks) x0 x1 (hs.map toH) x3 h5 looks.length 0 k (by omega) (by omega)
    simp only [posserlaw04_Closet.l0]
    rw [if_neg (by omega), List.take_of_length_le (by omega)]
    exact this
  | d + 1, i, k, h, hk => by
    obtain ⟨k, rfl⟩ : ∃ m, k = m + 1 := ⟨k - 1, by omega⟩
    have ih := closet_l0 h4 h5 x0 x1 x3 d (i + 1) k (by omega) (by omega)
    have e : (hs.take (i + 1)).map toH = (hs.take i).map toH ++ [toH (rd_T68 hs i)] := by
      rw [List.take_succ_eq_append_getElem (by omega), List.map_append]
      unfold rd_T68
      rw [Int.toNat_natCast, List.getD_eq_getElem?_getD, List.getElem?_eq_getElem (by omega)]
      rfl
    rw [e] at ih
    simp only [posserlaw04_Closet.l0, posserlaw04_to.f, Option.bind_some]
    rw [if_pos (by omega), if_pos (by omega), if_pos (by simp only [List.length_map, List.length_take]; omega), show wrap64 ((i : Int) + 1) = ((i + 1 : Nat) : Int) from by unfold wrap64; omega]
    exact ih
theorem closet_f (h4 : hs.length ≤ 1000) (h3 : hung.length ≤ 1000) (h5 : looks.length ≤ 1000) (k : Nat) (hk : 3000 ≤ k) : posserlaw04_Closet.f k cs cl hs hung looks = some (cs, cl, hs.map toH, hung, looks.map toL) := by
  unfold posserlaw04_Closet.f
  rw [list_f _ h3]
  simp only [Option.bind_some]
  exact closet_l0 h4 h5 cs cl hung hs.length 0 k (by omega) (by omega)
theorem thin_f : posserlaw04_Thin.f cs cl hs hung looks = some (decide (hs.length ≤ 30 ∧ hung.length ≤ 30 ∧ looks.length ≤ 30)) := by
  unfold posserlaw04_Thin.f
  by_cases h1 : (hs.length : Int) > 30
  · rw [if_pos h1, decide_eq_false (by omega)]
  · rw [if_neg h1]
    by_cases h2 : (hung.length : Int) > 30
    · rw [if_pos h2, decide_eq_false (by omega)]
    · rw [if_neg h2]
      by_cases h3 : (looks.length : Int) > 30
      · rw [if_pos h3, decide_eq_false (by omega)]
      · rw [if_neg h3, decide_eq_true (by omega)]
end
end Go.Proofs.Ytokhmghgghjmhaa.Q

namespace Go.Proofs.Ytokhmghgghjmhaa.Q
open Go.RowKit Go.Proofs.YtokhmghgghjmhaaW.PrintWords Go.Proofs.YtokhmghgghjmhaaW.PrintLast Go.Proofs.YtokhmghgghjmhaaW.PrintMore
set_option linter.unusedVariables false
/-- The reference's closets, as1 they lie in memory. -/
structure Ref (w : World) (A2 A3 A4 : Option Addr) (c2 c3 c4 : Nat) (hs : List S68) (hung : List Int) (looks : List S84) : Prop where
  h2 : Kd.C k68 w A2 hs.length hs
  l2 : hs.length ≤ c2
  h3 : Kd.C (Kd.int .i64) w A3 hung.length hung
  l3 : hung.length ≤ c3
  h4 : Kd.C k84 w A4 looks.length looks
  l4 : looks.length ≤ c4
theorem Ref.later {w w1 : World} {A2 A3 A4 : Option Addr} {c2 c3 c4 : Nat} {hs : List S68} {hung : List Int} {looks : List S84} (m : Ref w A2 A3 A4 c2 c3 c4 hs hung looks) (hb : Below w.heap.size w w1) : Ref w1 A2 A3 A4 c2 c3 c4 hs hung looks :=
  ⟨Kd.C_below m.h2 hb, m.l2, Kd.C_below m.h3 hb, m.l3, Kd.C_below m.h4 hb, m.l4⟩
/-- The program's closets that are made of them. -/
def Cls (w : World) (A2 A3 A4 : Option Addr) (c2 c3 c4 n2 n3 n4 : Nat) (hs : List S68) (hung : List Int) (looks : List S84) : Prop :=
  n2 = (hs.map toH).length ∧ n3 = hung.length ∧ n4 = (looks.map toL).length ∧ Mem w A2 A3 A4 c2 c3 c4 (hs.map toH) hung (looks.map toL)
theorem Cls.later {w w' : World} {A2 A3 A4 : Option Addr} {c2 c3 c4 n2 n3 n4 : Nat} {hs : List S68} {hung : List Int} {looks : List S84} (h : Cls w A2 A3 A4 c2 c3 c4 n2 n3 n4 hs hung looks) (hb : Below w.heap.size w w') : Cls w' A2 A3 A4 c2 c3 c4 n2 n3 n4 hs hung looks := ⟨h.1, h.2.1, h.2.2.1, h.2.2.2.later hb⟩
section
variable {cs cl : Int} {A2 A3 A4 : Option Addr} {c2 c3 c4 : Nat} {hs : List S68} {hung : List Int} {looks : List S84} {w : World}
theorem refcl_q (M : Ref w A2 A3 A4 c2 c3 c4 hs hung looks) (h1 : hs.length ≤ 1000) (h2 : hung.length ≤ 1000) (h3 : looks.length ≤ 1000) :
    Calls Try.prog 26 #[.agg #[.int .i64 cs, .int .i64 cl, .slice A2 hs.length c2, .slice A3 hung.length c3, .slice A4 looks.length c4]] w
      fun e w' => ∃ A2 A3 A4 c2 c3 c4 n2 n3 n4, e = .returned (.agg #[.int .i64 cs, .int .i64 cl, .slice A2 n2 c2, .slice A3 n3 c3, .slice A4 n4 c4]) ∧ Cls w' A2 A3 A4 c2 c3 c4 n2 n3 n4 hs hung looks ∧ Below w.heap.size w w' := by
  refine (posserlaw04_Closet.calls 3000 cs cl A2 c2 hs A3 c3 hung A4 c4 looks _ _ _ _ _ w M.h2 M.l2 M.h3 M.l3 M.h4 M.l4 (closet_f h1 h2 h3 3000 (Nat.le_refl _))).mono ?_
  rintro e w' ⟨v2, v3, v4, rfl, r2, r3, r4, hb⟩
  obtain ⟨B2, d2, rfl⟩ := Kd.R_slice r2
  obtain ⟨B3, d3, rfl⟩ := Kd.R_slice r3
  obtain ⟨B4, d4, rfl⟩ := Kd.R_slice r4
  have e2 := Kd.R_reads' r2
  have e3 := Kd.R_reads' r3
  have e4 := Kd.R_reads' r4
  exact ⟨B2, B3, B4, d2, d3, d4, _, _, _, rfl, ⟨rfl, rfl, rfl, e2.2.2, e3.2.2, e4.2.2, e2.2.1, e3.2.1, e4.2.1⟩, hb⟩
theorem list_q {A : Option Addr} {c : Nat} {l : List Int} (hC : Kd.C (Kd.int .i64) w A l.length l) (hl : l.length ≤ c) (h : l.length ≤ 1000) :
    Calls Try.prog 27 #[.slice A l.length c] w fun e w' => ∃ B d, e = .returned (.slice B l.length d) ∧ (Kd.C (Kd.int .i64) w' B l.length l ∧ l.length ≤ d) ∧ Below w.heap.size w w' := by
  refine (posserlaw04_list.calls A c l l w hC hl (list_f l h)).mono ?_
  rintro e w' ⟨v, rfl, hR, hb⟩
  obtain ⟨B, d, rfl, h1, h2⟩ := R_C hR
  exact ⟨B, d, rfl, ⟨h1, h2⟩, hb⟩
theorem placed_q (M : Ref w A2 A3 A4 c2 c3 c4 hs hung looks) (b : Bool) {code : Int} {L : List (List Int)} (hc : askCode cs cl (hs.map toH) hung (looks.map toL) b = code) (hL : (if code = 0 then truL (hs.map toH) hung (looks.map toL) else []) = L) :
    Calls Try.prog 28 #[.agg #[.int .i64 cs, .int .i64 cl, .slice A2 hs.length c2, .slice A3 hung.length c3, .slice A4 looks.length c4], .bool b] w
      fun e w' => ∃ B d, e = .returned (.tuple #[.slice B L.length d, .int .i64 code]) ∧ (Kd.C (Kd.slice 3 (Kd.int .i64)) w' B L.length L ∧ L.length ≤ d) ∧ Below w.heap.size w w' := by
  have hf := placed_f (cs := cs) (cl := cl) (hs := hs) (hung := hung) (looks := looks) b 6000 (Nat.le_refl _)
  rw [hc, hL] at hf
  refine (posserlaw04_placed.calls 6000 cs cl A2 c2 hs A3 c3 hung A4 c4 looks b L code w M.h2 M.l2 M.h3 M.l3 M.h4 M.l4 hf).mono ?_
  rintro e w' ⟨v, rfl, hS, hb⟩
  have hR := Kd.S_R hS
  obtain ⟨B, d, rfl⟩ := Kd.R_slice hR
  have h2 := Kd.R_reads' hR
  exact ⟨B, d, rfl, ⟨h2.2.2, h2.2.1⟩, hb⟩
theorem stuck_q {A : Option Addr} {c n2 n3 n4 : Nat} {p : List Int} {s : Int × Int} (C : Cls w A2 A3 A4 c2 c3 c4 n2 n3 n4 hs hung looks) (hC : Kd.C (Kd.int .i64) w A p.length p ∧ p.length ≤ c) (hn : hs.length ≤ 1000) (hs' : stuckR cs cl (hs.map toH) hung (looks.map toL) p = s) :
    Calls Try.prog 25 #[.agg #[.int .i64 cs, .int .i64 cl, .slice A2 n2 c2, .slice A3 n3 c3, .slice A4 n4 c4], .slice A p.length c] w fun e w' => e = .returned (.tuple #[.int .i64 s.1, .int .i64 s.2]) ∧ Below w.heap.size w w' := by
  obtain ⟨rfl, rfl, rfl, M⟩ := C
  have := stuck_calls cs cl M hC.1 hC.2 (by rw [List.length_map]; exact hn)
  rw [hs'] at this
  exact this
end
/-- What the law compares. -/
theorem stuck_cases (cs cl : Int) (hs : List S68) (hung : List Int) (looks : List S84) (p : List Int) {code : Int} (hc : askCode cs cl (hs.map toH) hung (looks.map toL) (placeB (wrap64 (cs - 1)) hs.length p) = code) :
    (code ≠ 0 ∧ stuckR cs cl (hs.map toH) hung (looks.map toL) p = (0, code)) ∨ (code = 0 ∧ ∃ d : Int, (∀ k, 11000 ≤ k → posserref04_Stuck.f k cs cl hs hung looks (truL (hs.map toH) hung (looks.map toL)) p = some d) ∧
      ((d < 0 ∧ stuckR cs cl (hs.map toH) hung (looks.map toL) p = (0, 7)) ∨ (¬ d < 0 ∧ stuckR cs cl (hs.map toH) hung (looks.map toL) p = (d, 0)))) := by
  subst hc
  have hfine : fineB cs (hs.map toH) p = placeB (wrap64 (cs - 1)) hs.length p := by unfold fineB; rw [List.length_map]
  by_cases hc : askCode cs cl (hs.map toH) hung (looks.map toL) (placeB (wrap64 (cs - 1)) hs.length p) = 0
  · refine .inr ⟨hc, ?_⟩
    have hck : checkB cs cl (hs.map toH) hung (looks.map toL) = 0 := by
      unfold askCode at hc
      split at hc
      · rename_i h; exact absurd hc h
      · rename_i h; exact Decidable.byContradiction h
    have hpl : placeB (wrap64 (cs - 1)) hs.length p = true := by
      cases e : placeB (wrap64 (cs - 1)) hs.length p
      · unfold askCode at hc
        rw [e, if_neg (by simp [hck]), if_pos rfl] at hc
        omega
      · rfl
    have hT : truthsT (hs.map toH) hung (looks.map toL) ≠ [] := by
      intro e
      unfold askCode at hc
      rw [if_neg (by simp [hck]), if_neg (by simp [hpl]), if_pos e] at hc
      omega
    have P : Pl cs hs.length p := by
      have := fine_place (hs := hs.map toH) (valid_of hck) (by rw [hfine]; exact hpl)
      rw [List.length_map] at this
      exact Pl.of this
    obtain ⟨d1, d2⟩ := done_st cl (hs.map toH) p (truthsT (hs.map toH) hung (looks.map toL))
    rw [List.length_map] at d1 d2
    refine ⟨_, fun k hk => stuck_f hck P hT k hk, ?_⟩
    by_cases hst : stF cl (hs.map toH) p (truthsT (hs.map toH) hung (looks.map toL)) hs.length 0 < 0
    · refine .inl ⟨hst, ?_⟩
      unfold stuckR
      rw [hfine, if_neg (by simp [hc]), if_pos (by rw [List.length_map]; exact d1.2 hst)]
    · refine .inr ⟨hst, ?_⟩
      unfold stuckR
      rw [hfine, if_neg (by simp [hc]), if_neg (by rw [List.length_map]; exact fun e => hst (d1.1 e)), d2 hst]
  · refine .inl ⟨hc, ?_⟩
    unfold stuckR
    rw [hfine, if_pos hc]
set_option maxHeartbeats 4000000 in
set_option maxRecDepth 100000 in
theorem stuck_walk {cs cl : Int} {A2 A3 A4 A : Option Addr} {c2 c3 c4 c : Nat} {hs : List S68} {hung : List Int} {looks : List S84} {p : List Int} {w : World} (M : Ref w A2 A3 A4 c2 c3 c4 hs hung looks) (hC : Kd.C (Kd.int .i64) w A p.length p) (hl : p.length ≤ c) :
    Calls Try.prog 3 #[.agg #[.int .i64 cs, .int .i64 cl, .slice A2 hs.length c2, .slice A3 hung.length c3, .slice A4 looks.length c4], .slice A p.length c] w fun e w' => e = .returned (.bool true) ∧ Below w.heap.size w w' := by
  have HM := Aside0.mk M
  have HC := Aside0.mk hC
  have HL := Aside0.mk hl
  clear M hC hl
  obtain ⟨W0, hW0⟩ : ∃ W0, w.alloc (.cells #[.int .i64 cs, .int .i64 cl, .slice A2 hs.length c2, .slice A3 hung.length c3, .slice A4 looks.length c4] 26) = W0 := ⟨_, rfl⟩
  have HB0 := Aside0.mk (show Below w.heap.size w W0 from by rw [← hW0]; exact below_alloc (Below.refl _ _) _)
  have HBK := Aside0.mk (show W0.heap[w.heap.size]? = some (.cells #[.int .i64 cs, .int .i64 cl, .slice A2 hs.length c2, .slice A3 hung.length c3, .slice A4 looks.length c4] 26 (0, 0)) from by rw [← hW0]; exact blk_new _ _)
  have b0 : W0.cell? ⟨w.heap.size, 0, none⟩ = some (.int .i64 cs) := (blk_cell HBK.out 0).trans rfl
  have b1 : W0.cell? ⟨w.heap.size, 1, none⟩ = some (.int .i64 cl) := (blk_cell HBK.out 1).trans rfl
  have b2 : W0.cell? ⟨w.heap.size, 2, none⟩ = some (.slice A2 hs.length c2) := (blk_cell HBK.out 2).trans rfl
  have b3 : W0.cell? ⟨w.heap.size, 3, none⟩ = some (.slice A3 hung.length c3) := (blk_cell HBK.out 3).trans rfl
  have b4 : W0.cell? ⟨w.heap.size, 4, none⟩ = some (.slice A4 looks.length c4) := (blk_cell HBK.out 4).trans rfl
  go_enter Try.func3, Try.ntmps3
  obtain ⟨th, hth⟩ : ∃ th, decide (hs.length ≤ 30 ∧ hung.length ≤ 30 ∧ looks.length ≤ 30) = th := ⟨_, rfl⟩
  have HTH := Aside0.mk hth
  have HF := Aside0.mk (show posserlaw04_Thin.f cs cl hs hung looks = some th from by rw [thin_f, hth])
  clear hth
  go_wp2_with (rw [hW0])
  try rw [hW0]
  clear hW0
  refine (posserlaw04_Thin.calls cs cl A2 c2 hs A3 c3 hung A4 c4 looks th _ (HM.out.later HB0.out).h2 HM.out.l2 (HM.out.later HB0.out).h3 HM.out.l3 (HM.out.later HB0.out).h4 HM.out.l4 HF.out).mono ?_
  rintro e w1 ⟨rfl, hb⟩
  have HB1 := Aside0.mk (below_step HB0.out hb)
  have HK1 := Aside0.mk (blk_below HBK.out hb)
  clear hb b0 b1 b2 b3 b4
  cases th with
  | false =>
    go_wp2_with fail
    refine (awake_calls _).mono ?_
    rintro e w2 ⟨rfl, hb⟩
    have HB2 := Aside0.mk (below_step HB1.out hb)
    clear hb
    go_wp2_with fail
    go_ret
    exact ⟨rfl, HB2.out⟩
  | true =>
  by_cases hp : (p.length : Int) > 30
  · go_wp2_with fail
    refine (awake_calls _).mono ?_
    rintro e w2 ⟨rfl, hb⟩
    have HB2 := Aside0.mk (below_step HB1.out hb)
    clear hb
    go_wp2_with fail
    go_ret
    exact ⟨rfl, HB2.out⟩
  have HT := Aside0.mk (of_decide_eq_true HTH.out)
  have HP := Aside0.mk (show p.length ≤ 30 from by omega)
  have b0 : w1.cell? ⟨w.heap.size, 0, none⟩ = some (.int .i64 cs) := (blk_cell HK1.out 0).trans rfl
  have b1 : w1.cell? ⟨w.heap.size, 1, none⟩ = some (.int .i64 cl) := (blk_cell HK1.out 1).trans rfl
  have b2 : w1.cell? ⟨w.heap.size, 2, none⟩ = some (.slice A2 hs.length c2) := (blk_cell HK1.out 2).trans rfl
  have b3 : w1.cell? ⟨w.heap.size, 3, none⟩ = some (.slice A3 hung.length c3) := (blk_cell HK1.out 3).trans rfl
  have b4 : w1.cell? ⟨w.heap.size, 4, none⟩ = some (.slice A4 looks.length c4) := (blk_cell HK1.out 4).trans rfl
  go_wp2_with fail
  refine (refcl_q (HM.out.later HB1.out) (by have := HT.out; omega) (by have := HT.out; omega) (by have := HT.out; omega)).mono ?_
  rintro e w2 ⟨B2, B3, B4, d2, d3, d4, n2, n3, n4, rfl, hcl, hb⟩
  have HB2 := Aside0.mk (below_step HB1.out hb)
  have HK2 := Aside0.mk (blk_below HK1.out hb)
  have HCL := Aside0.mk hcl
  clear hb hcl b0 b1 b2 b3 b4
  go_wp2_with fail
  refine (list_q (Kd.C_below HC.out HB2.out) HL.out (by have := HP.out; omega)).mono ?_
  rintro e w3 ⟨B, d, rfl, hli, hb⟩
  have HB3 := Aside0.mk (below_step HB2.out hb)
  have HK3 := Aside0.mk (blk_below HK2.out hb)
  have HCL3 := Aside0.mk (HCL.out.later hb)
  have HLI := Aside0.mk hli
  clear hb hli
  obtain ⟨s, hs0⟩ : ∃ s, stuckR cs cl (hs.map toH) hung (looks.map toL) p = s := ⟨_, rfl⟩
  have HS := Aside0.mk hs0
  clear hs0
  go_wp2_with fail
  refine (stuck_q HCL3.out HLI.out (by have := HT.out; omega) HS.out).mono ?_
  rintro e w4 ⟨rfl, hb⟩
  have HB4 := Aside0.mk (below_step HB3.out hb)
  have HK4 := Aside0.mk (blk_below HK3.out hb)
  clear hb
  obtain ⟨pb, hpb⟩ : ∃ pb, placeB (wrap64 (cs - 1)) hs.length p = pb := ⟨_, rfl⟩
  have HPB := Aside0.mk hpb
  clear hpb
  obtain ⟨code, hcode⟩ : ∃ code, askCode cs cl (hs.map toH) hung (looks.map toL) pb = code := ⟨_, rfl⟩
  have HCODE := Aside0.mk hcode
  clear hcode
  obtain ⟨L, hL⟩ : ∃ L, (if code = 0 then truL (hs.map toH) hung (looks.map toL) else []) = L := ⟨_, rfl⟩
  have HLL := Aside0.mk hL
  clear hL
  have b0 : w4.cell? ⟨w.heap.size, 0, none⟩ = some (.int .i64 cs) := (blk_cell HK4.out 0).trans rfl
  have b1 : w4.cell? ⟨w.heap.size, 1, none⟩ = some (.int .i64 cl) := (blk_cell HK4.out 1).trans rfl
  have b2 : w4.cell? ⟨w.heap.size, 2, none⟩ = some (.slice A2 hs.length c2) := (blk_cell HK4.out 2).trans rfl
  have b3 : w4.cell? ⟨w.heap.size, 3, none⟩ = some (.slice A3 hung.length c3) := (blk_cell HK4.out 3).trans rfl
  have b4 : w4.cell? ⟨w.heap.size, 4, none⟩ = some (.slice A4 looks.length c4) := (blk_cell HK4.out 4).trans rfl
  have HX := Aside0.mk (show posserref04_IsPlace.f 20000 cs cl hs hung looks p = some pb from by rw [isPlace_f cs cl hs hung looks p (by have := HT.out; omega) 20000 (Nat.le_refl _), HPB.out])
  go_wp2_with fail
  go_region_held3 (fun W' => Below w4.heap.size w4 W' ∧ W'.cell? ⟨w.heap.size, 0, none⟩ = some (.int .i64 cs) ∧ W'.cell? ⟨w.heap.size, 1, none⟩ = some (.int .i64 cl) ∧ W'.cell? ⟨w.heap.size, 2, none⟩ = some (.slice A2 hs.length c2) ∧ W'.cell? ⟨w.heap.size, 3, none⟩ = some (.slice A3 hung.length c3) ∧ W'.cell? ⟨w.heap.size, 4, none⟩ = some (.slice A4 looks.length c4))
    (first
      | exact ⟨below_drew (Below.refl _ _), b0, b1, b2, b3, b4⟩
      | (go_split_ands; with_reducible exact ⟨below_step (by assumption) hbx.out, later hbx.out (by assumption), later hbx.out (by assumption), later hbx.out (by assumption), later hbx.out (by assumption), later hbx.out (by assumption)⟩))
    ((first
      | (go_at_call 29; go_split_ands; refine (posserref04_IsPlace.calls 20000 cs cl A2 c2 hs A3 c3 hung A4 c4 looks A c p pb _ (HM.out.later (below_step HB4.out (by assumption))).h2 HM.out.l2 (HM.out.later (below_step HB4.out (by assumption))).h3 HM.out.l3 (HM.out.later (below_step HB4.out (by assumption))).h4 HM.out.l4 (Kd.C_below HC.out (below_step HB4.out (by assumption))) HL.out HX.out).mono ?_; rintro e wx ⟨rfl, hbx⟩; replace hbx := Aside0.mk hbx)
      | (go_at_call 28; go_split_ands; refine (placed_q (HM.out.later (below_step HB4.out (by assumption))) pb HCODE.out HLL.out).mono ?_; rintro e wx ⟨E, dE, rfl, hE, hbx⟩; have HE := Aside0.mk hE; clear hE; replace hbx := Aside0.mk hbx)))
  all_goals
    go_split_ands
    have HB5 := Aside0.mk (below_step HB4.out (show Below w4.heap.size w4 wx from by assumption))
    rcases stuck_cases cs cl hs hung looks p (show askCode cs cl (hs.map toH) hung (looks.map toL) (placeB (wrap64 (cs - 1)) hs.length p) = code from by rw [HPB.out]; exact HCODE.out) with ⟨hc, hs2⟩ | ⟨hc, due, hd, ⟨hneg, hs2⟩ | ⟨hneg, hs2⟩⟩
    · rw [HS.out] at hs2
      subst hs2
      have h1 : (code != 0) = true := by rw [bne_iff_ne]; exact hc
      clear hc
      go_wp2_with fail
      refine (awake_calls _).mono ?_
      rintro e w6 ⟨rfl, hb⟩
      have HB6 := Aside0.mk (below_step HB5.out hb)
      clear hb
      go_wp2_with fail
      go_ret
      exact ⟨rfl, HB6.out⟩
    all_goals
      rw [HS.out] at hs2
      subst hs2 hc
      have HD := Aside0.mk (show posserref04_Stuck.f 11000 cs cl hs hung looks L p = some due from by
        have h := HLL.out
        rw [if_pos rfl] at h
        rw [← h]
        exact hd 11000 (Nat.le_refl _))
      clear hd
      go_wp2_with fail
      refine (posserref04_Stuck.calls 11000 cs cl A2 c2 hs A3 c3 hung A4 c4 looks E dE L A c p due _ (HM.out.later HB5.out).h2 HM.out.l2 (HM.out.later HB5.out).h3 HM.out.l3 (HM.out.later HB5.out).h4 HM.out.l4 HE.out.1 HE.out.2 (Kd.C_below HC.out HB5.out) HL.out HD.out).mono ?_
      rintro e w6 ⟨rfl, hb⟩
      have HB6 := Aside0.mk (below_step HB5.out hb)
      clear hb
      go_wp2_with fail
      refine (awake_calls _).mono ?_
      rintro e w7 ⟨rfl, hb⟩
      have HB7 := Aside0.mk (below_step HB6.out hb)
      clear hb
      go_wp2_with fail
      go_ret
      exact ⟨rfl, HB7.out⟩
end Go.Proofs.Ytokhmghgghjmhaa.Q

namespace Go.Proofs.Ytokhmghgghjmhaa.Q
open Go.RowKit Go.ChangeShapes Go.WideShapes Go.Deep Go.Proofs.YtokhmghgghjmhaaW.PrintWords Go.Proofs.YtokhmghgghjmhaaW.PrintLast Go.Proofs.YtokhmghgghjmhaaW.PrintMore
set_option linter.unusedVariables false
set_option maxRecDepth 100000
section
variable {H : Type} {enc : TypeId × Value → H} {w : World} {base : Nat} {sp : Nat → Bool} {held : Bool}
/-- A slice that is read, as1 a row: each element by its own reading. -/
theorem open_rowC {α : Type} (d : Kd α) {t e : TypeId} {fuel : Nat} {cs : List Value} {x : DataW H × List MemPlace} (ht : Try.prog.underlying t = some (.slice e)) (hc : Try.prog.cellsOf e = d.sz) (hsz : 0 < d.sz)
    (hel : ∀ (fuel : Nat) (cs : List Value) (x : DataW H × List MemPlace), DataW.trod enc Try.prog w base sp held fuel e cs = some x → ∃ p, d.K w p cs)
    (h : DataW.trod enc Try.prog w base sp held fuel t cs = some x) : ∃ (A : Option Addr) (xs : List α) (c : Nat), cs = [.slice A xs.length c] ∧ d.C w A xs.length xs ∧ xs.length ≤ c := by
  rcases open_slice ht h with ⟨rfl, _⟩ | ⟨a, len, cap, m, n, D, Pl, rfl, _, hl, hm, hmm, _, hx⟩
  · exact ⟨none, [], 0, rfl, ⟨rfl, by simp, fun h => absurd h (by simp)⟩, Nat.le_refl 0⟩
  have hlm : len ≤ m := by rw [hmm]; split <;> omega
  have each : ∀ i : Fin len, ∃ (p : α) (cs' : List Value), d.K w p cs' ∧ cs'.length = d.sz ∧ ∀ j, j < d.sz → w.cell? (a.add (i.1 * d.sz + j)) = cs'[j]? := by
    intro i
    obtain ⟨cs', h1, h2⟩ := hx i.1 (by have := i.2; omega)
    obtain ⟨p, hp⟩ := hel _ _ _ h2
    rw [hc] at h1
    obtain ⟨_, hlen, hcell⟩ := World.cells?_some h1
    exact ⟨p, cs', hp, hlen, fun j hj => by rw [← Go.Deep.add_add]; exact hcell j hj⟩
  refine ⟨some a, (List.finRange len).map fun i => (each i).choose, cap, by simp, ⟨by simp, ?_, fun _ => ⟨a, rfl, fun j p hj => ?_⟩⟩, by simpa using hl⟩
  · have : maxLen ≤ 9223372036854775807 := by decide
    simp only [List.length_map, List.length_finRange]
    omega
  · rw [List.getElem?_map] at hj
    have hjl : j < len := by
      rcases Nat.lt_or_ge j len with h | h
      · exact h
      · rw [List.getElem?_eq_none (by simpa using h)] at hj
        cases hj
    rw [List.getElem?_eq_getElem (by simpa using hjl), Option.map_some, Option.some.injEq] at hj
    obtain ⟨cs', hK, hlen, hcell⟩ := (each ((List.finRange len)[j]'(by simpa using hjl))).choose_spec
    rw [hj] at hK
    refine ⟨cs', hlen, hK, fun i u hu => ?_⟩
    have hi : i < d.sz := by rw [← hlen]; exact (List.getElem?_eq_some_iff.1 hu).1
    have := hcell i hi
    rw [hu] at this
    simpa using this
theorem trod_int3 {fuel : Nat} {cs : List Value} {x : DataW H × List MemPlace} (h : DataW.trod enc Try.prog w base sp held fuel 3 cs = some x) : ∃ n : Int, cs = [.int .i64 n] := by
  obtain ⟨n, rfl, _⟩ := DataW.trod_int Try.underlying3 h
  exact ⟨n, rfl⟩
theorem trod_66 {fuel : Nat} {cs : List Value} {x : DataW H × List MemPlace} (h : DataW.trod enc Try.prog w base sp held fuel 66 cs = some x) : ∃ p : S66, cs = [.int .i64 p.f0, .int .i64 p.f1] := by
  obtain ⟨xs, n, _, _, hl, hlen, hf⟩ := DataW.trod_struct Try.underlying66 h
  have hl2 : cs.length = 2 := hl.trans (by kernel_rfl)
  match cs, hl2, xs, hlen with
  | [c0, c1], _, [y0, y1], _ =>
    obtain ⟨a, ha⟩ := trod_int3 (hf 0 _ rfl)
    obtain ⟨b, hb⟩ := trod_int3 (hf 1 _ rfl)
    have hc3 : Try.prog.cellsOf 3 = 1 := by kernel_rfl
    simp [hc3] at ha hb
    exact ⟨⟨a, b⟩, by rw [ha, hb]⟩
theorem trod_68 {fuel : Nat} {cs : List Value} {x : DataW H × List MemPlace} (h : DataW.trod enc Try.prog w base sp held fuel 68 cs = some x) : ∃ p : S68, k68.K w p cs := by
  obtain ⟨xs, n, _, _, hl, hlen, hf⟩ := DataW.trod_struct Try.underlying68 h
  have hl2 : cs.length = 4 := hl.trans (by kernel_rfl)
  match cs, hl2, xs, hlen with
  | [c0, c1, c2, c3], _, [y0, y1, y2], _ =>
    obtain ⟨r, hr⟩ := trod_66 (hf 0 _ rfl)
    obtain ⟨a, ha⟩ := trod_int3 (hf 1 _ rfl)
    obtain ⟨b, hb⟩ := trod_int3 (hf 2 _ rfl)
    have hc3 : Try.prog.cellsOf 3 = 1 := by kernel_rfl
    have hc66 : Try.prog.cellsOf 66 = 2 := by kernel_rfl
    simp [hc3, hc66] at hr ha hb
    obtain ⟨h0, h1⟩ := hr
    subst h0 h1 ha hb
    exact ⟨⟨r, a, b⟩, k68_mk w ⟨r, a, b⟩⟩
theorem trod_84 {fuel : Nat} {cs : List Value} {x : DataW H × List MemPlace} (h : DataW.trod enc Try.prog w base sp held fuel 84 cs = some x) : ∃ p : S84, k84.K w p cs := by
  obtain ⟨xs, n, _, _, hl, hlen, hf⟩ := DataW.trod_struct Try.underlying84 h
  have hl2 : cs.length = 3 := hl.trans (by kernel_rfl)
  match cs, hl2, xs, hlen with
  | [c0, c1, c2], _, [y0, y1, y2], _ =>
    obtain ⟨r, hr⟩ := trod_int3 (hf 0 _ rfl)
    obtain ⟨a, ha⟩ := trod_int3 (hf 1 _ rfl)
    obtain ⟨b, hb, _⟩ := DataW.trod_bool Try.underlying4 (hf 2 _ rfl)
    have hc3 : Try.prog.cellsOf 3 = 1 := by kernel_rfl
    have hc4 : Try.prog.cellsOf 4 = 1 := by kernel_rfl
    simp [hc3, hc4] at hr ha hb
    subst hr ha hb
    exact ⟨⟨r, a, b⟩, k84_mk w ⟨r, a, b⟩⟩
theorem trod_ints {fuel : Nat} {cs : List Value} {x : DataW H × List MemPlace} (h : DataW.trod enc Try.prog w base sp held fuel 23 cs = some x) : ∃ (A : Option Addr) (xs : List Int) (c : Nat), cs = [.slice A xs.length c] ∧ (Kd.int .i64).C w A xs.length xs ∧ xs.length ≤ c :=
  open_rowC (Kd.int .i64) Try.underlying23 (by kernel_rfl) (by decide) (fun fuel cs x h => by obtain ⟨n, rfl⟩ := trod_int3 h; exact ⟨n, rfl⟩) h
/-- Closets that are read, opened. -/
theorem open_closet {b0 : Nat} {v : Value} {d : DataW H} {p : List MemPlace} (hv : Value.okWide Try.prog w .any b0 26 v) (h : DataW.Trod enc Try.prog w base sp held 26 v d p) :
    ∃ (cs cl : Int) (A2 : Option Addr) (hs : List S68) (c2 : Nat) (A3 : Option Addr) (hung : List Int) (c3 : Nat) (A4 : Option Addr) (looks : List S84) (c4 : Nat),
      v = .agg #[.int .i64 cs, .int .i64 cl, .slice A2 hs.length c2, .slice A3 hung.length c3, .slice A4 looks.length c4] ∧ (k68.C w A2 hs.length hs ∧ hs.length ≤ c2) ∧ ((Kd.int .i64).C w A3 hung.length hung ∧ hung.length ≤ c3) ∧ (k84.C w A4 looks.length looks ∧ looks.length ≤ c4) := by
  obtain ⟨cs, rfl, hsz⟩ := okWide_struct Try.underlying26 hv
  obtain ⟨fuel, hf0⟩ := h
  obtain ⟨xs, n, _, _, hl, hlen, hf⟩ := DataW.trod_struct Try.underlying26 hf0
  have hl2 : cs.toList.length = 5 := hl.trans (by kernel_rfl)
  obtain ⟨l⟩ := cs
  match l, hl2, xs, hlen with
  | [v0, v1, v2, v3, v4], _, [y0, y1, y2, y3, y4], _ =>
    obtain ⟨a, ha⟩ := trod_int3 (hf 0 _ rfl)
    obtain ⟨b, hb⟩ := trod_int3 (hf 1 _ rfl)
    obtain ⟨A2, hs, c2, e2, C2, l2⟩ := open_rowC k68 Try.underlying22 (by kernel_rfl) (by decide) (fun fuel cs x h => trod_68 h) (hf 2 _ rfl)
    obtain ⟨A3, hung, c3, e3, C3, l3⟩ := trod_ints (hf 3 _ rfl)
    obtain ⟨A4, looks, c4, e4, C4, l4⟩ := open_rowC k84 Try.underlying24 (by kernel_rfl) (by decide) (fun fuel cs x h => trod_84 h) (hf 4 _ rfl)
    have hc3 : Try.prog.cellsOf 3 = 1 := by kernel_rfl
    have hc22 : Try.prog.cellsOf 22 = 1 := by kernel_rfl
    have hc23 : Try.prog.cellsOf 23 = 1 := by kernel_rfl
    have hc24 : Try.prog.cellsOf 24 = 1 := by kernel_rfl
    simp [Value.cells, hc3, hc22, hc23, hc24] at ha hb e2 e3 e4
    subst ha hb e2 e3 e4
    exact ⟨a, b, A2, hs, c2, A3, hung, c3, A4, looks, c4, rfl, ⟨C2, l2⟩, ⟨C3, l3⟩, ⟨C4, l4⟩⟩
/-- A list of numbers that is read, opened. -/
theorem open_list {b0 : Nat} {v : Value} {d : DataW H} {p : List MemPlace} (hv : Value.okWide Try.prog w .any b0 23 v) (h : DataW.Trod enc Try.prog w base sp held 23 v d p) :
    ∃ (A : Option Addr) (l : List Int) (c : Nat), v = .slice A l.length c ∧ (Kd.int .i64).C w A l.length l ∧ l.length ≤ c := by
  obtain ⟨a, len, cap, rfl⟩ := okWide_slice Try.underlying23 hv
  obtain ⟨f, hf⟩ := h
  obtain ⟨A, xs, c, e, hC, hl⟩ := trod_ints hf
  simp only [Value.cells, List.cons.injEq, and_true] at e
  exact ⟨A, xs, c, e, hC, hl⟩
end
end Go.Proofs.Ytokhmghgghjmhaa.Q

