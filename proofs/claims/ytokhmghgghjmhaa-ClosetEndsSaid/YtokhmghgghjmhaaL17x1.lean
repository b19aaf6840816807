/- Part L17x1 of the proof (P2, P3, P4, P5, WB, WT, PE, EW): contracts of functions, and plain lemmas about what they compute. -/
import Derived.Test.YtokhmghgghjmhaaA0
import Derived.Test.YtokhmghgghjmhaaA1
import Derived.Test.YtokhmghgghjmhaaA2
import Derived.Test.YtokhmghgghjmhaaA3
import Derived.Test.YtokhmghgghjmhaaA4
import Derived.Test.YtokhmghgghjmhaaB0
import Derived.Test.YtokhmghgghjmhaaB1
import Derived.Test.YtokhmghgghjmhaaB2
import Derived.Test.YtokhmghgghjmhaaB3
import Derived.Test.YtokhmghgghjmhaaB4
import Derived.Test.YtokhmghgghjmhaaB5
import Derived.Test.YtokhmghgghjmhaaB6
import Derived.Test.YtokhmghgghjmhaaB7
import Derived.Test.YtokhmghgghjmhaaL17x0
namespace Go.Proofs.Ytokhmghgghjmhaa.Q
open Go.RowKit Go.Proofs.YtokhmghgghjmhaaW.PrintWords Go.Proofs.YtokhmghgghjmhaaW.PrintLast Go.Proofs.YtokhmghgghjmhaaW.PrintMore
set_option linter.unusedVariables false
def nthF (hs : List S139) : Nat → Nat → Nat → List Int
  | 0, _, _ => []
  | d + 1, i, n => ((rd_T139 hs i).f0.f0 + ((n % szN hs i : Nat) : Int)) :: nthF hs d (i + 1) (n / szN hs i)
/-- Each horse's dry numbers are some, and few. -/
def Dries (hs : List S139) : Prop := ∀ i : Nat, i < hs.length → 1 ≤ (rd_T139 hs i).f0.f0 ∧ (rd_T139 hs i).f0.f0 ≤ (rd_T139 hs i).f0.f1 ∧ (rd_T139 hs i).f0.f1 ≤ 60
theorem sz_ok {hs : List S139} (D : Dries hs) (i : Nat) (hi : i < hs.length) : (szN hs i : Int) = (rd_T139 hs i).f0.f1 + 1 - (rd_T139 hs i).f0.f0 ∧ 1 ≤ szN hs i ∧ szN hs i ≤ 60 := by
  have := D i hi
  unfold szN
  omega
theorem nthF_len (hs : List S139) : ∀ (d i n : Nat), (nthF hs d i n).length = d
  | 0, _, _ => rfl
  | d + 1, i, n => by simp only [nthF, List.length_cons, nthF_len hs d (i + 1)]
theorem rd_cons0 (a : Int) (l : List Int) : rd (a :: l) ((0 : Nat) : Int) = a := by rw [rd_nn]; rfl
theorem rd_cons (a : Int) (l : List Int) (j : Nat) : rd (a :: l) ((j + 1 : Nat) : Int) = rd l j := by rw [rd_nn, rd_nn]; rfl
theorem rd_out (l : List Int) (j : Nat) (h : l.length ≤ j) : rd l j = 0 := by
  rw [rd_nn, List.getD_eq_getElem?_getD, List.getElem?_eq_none h]; rfl
theorem nthF_box {hs : List S139} (D : Dries hs) : ∀ (d i n j : Nat), i + d = hs.length → j < d → (rd_T139 hs (i + j : Nat)).f0.f0 ≤ rd (nthF hs d i n) j ∧ rd (nthF hs d i n) j ≤ (rd_T139 hs (i + j : Nat)).f0.f1
  | 0, i, n, j, _, hj => by omega
  | d + 1, i, n, 0, h, hj => by
    have h1 := sz_ok D i (by omega)
    have h2 := Nat.mod_lt n h1.2.1
    simp only [nthF, Nat.add_zero]
    rw [rd_cons0]
    omega
  | d + 1, i, n, j + 1, h, hj => by
    have ih := nthF_box D d (i + 1) (n / szN hs i) j (by omega) (by omega)
    simp only [nthF]
    rw [rd_cons, show i + (j + 1) = i + 1 + j from by omega]
    exact ih
/-- Each row of dry numbers has a number. -/
theorem nthF_surj {hs : List S139} (D : Dries hs) : ∀ (d i : Nat) (y : Nat → Int), i + d = hs.length → (∀ j : Nat, j < d → (rd_T139 hs (i + j : Nat)).f0.f0 ≤ y j ∧ y j ≤ (rd_T139 hs (i + j : Nat)).f0.f1) →
    ∃ n, n < prN hs d i ∧ ∀ j : Nat, j < d → rd (nthF hs d i n) j = y j
  | 0, i, y, _, _ => ⟨0, by simp [prN], fun j hj => by omega⟩
  | d + 1, i, y, h, hy => by
    have h1 := sz_ok D i (by omega)
    have h0 := hy 0 (by omega)
    obtain ⟨m, hm, hmj⟩ := nthF_surj D d (i + 1) (fun j => y (j + 1)) (by omega) (fun j hj => by rw [show i + 1 + j = i + (j + 1) from by omega]; exact hy (j + 1) (by omega))
    simp only [Nat.add_zero] at h0
    obtain ⟨r, hr⟩ : ∃ r : Nat, (r : Int) = y 0 - (rd_T139 hs i).f0.f0 := ⟨(y 0 - (rd_T139 hs i).f0.f0).toNat, by omega⟩
    have hrs : r < szN hs i := by omega
    refine ⟨m * szN hs i + r, ?_, fun j hj => ?_⟩
    · simp only [prN]
      have : (m + 1) * szN hs i ≤ prN hs d (i + 1) * szN hs i := Nat.mul_le_mul_right _ hm
      rw [Nat.mul_comm (szN hs i)]
      rw [Nat.add_mul, Nat.one_mul] at this
      omega
    · have e1 : (m * szN hs i + r) % szN hs i = r := by rw [Nat.mul_comm, Nat.mul_add_mod, Nat.mod_eq_of_lt hrs]
      have e2 : (m * szN hs i + r) / szN hs i = m := by rw [Nat.mul_comm, Nat.mul_add_div (by omega), Nat.div_eq_of_lt hrs]; omega
      simp only [nthF]
      rw [e1, e2]
      cases j with
      | zero => rw [rd_cons0]; omega
      | succ j => rw [rd_cons]; exact hmj j (by omega)
/-- Each row in the ranges is among all. -/
theorem allN_of (hs : List S139) : ∀ (d h : Nat) (x y : Nat → Int), (∀ i, i < h ∨ h + d ≤ i → y i = x i) → (∀ i : Nat, h ≤ i → i < h + d → (rd_T139 hs i).f0.f0 ≤ y i ∧ y i ≤ (rd_T139 hs i).f0.f1) → y ∈ allN hs d h x
  | 0, h, x, y, h1, _ => by
    simp only [allN, List.mem_singleton]
    exact funext fun i => h1 i (by omega)
  | d + 1, h, x, y, h1, h2 => by
    have hh := h2 h (Nat.le_refl _) (by omega)
    simp only [allN, List.mem_flatMap]
    refine ⟨y h, ?_, ?_⟩
    · simp only [vals, List.mem_map, List.mem_range]
      exact ⟨(y h - (rd_T139 hs h).f0.f0).toNat, by omega, by omega⟩
    · refine allN_of hs d (h + 1) (upd x h (y h)) y (fun i hi => ?_) (fun i hi1 hi2 => h2 i (by omega) (by omega))
      unfold upd
      split
      · rename_i e; rw [e]
      · exact h1 i (by omega)
theorem dries_iff {hs : List S139} (y : Nat → Int) : y ∈ dries hs ↔ (∀ i, hs.length ≤ i → y i = 0) ∧ ∀ i : Nat, i < hs.length → (rd_T139 hs i).f0.f0 ≤ y i ∧ y i ≤ (rd_T139 hs i).f0.f1 := by
  constructor
  · intro h
    obtain ⟨h1, h2⟩ := allN_mem hs hs.length 0 _ y (by omega) h
    exact ⟨fun i hi => h1 i (.inr hi), fun i hi => h2 i (Nat.zero_le _) hi⟩
  · rintro ⟨h1, h2⟩
    exact allN_of hs hs.length 0 (fun _ => 0) y (fun i hi => h1 i (by omega)) (fun i _ hi => h2 i (by omega))
/-- The dry numbers with the numbers are all dry numbers. -/
theorem nth_dries {hs : List S139} (D : Dries hs) (n : Nat) : nums (nthF hs hs.length 0 n) ∈ dries hs := by
  refine (dries_iff _).2 ⟨fun i hi => rd_out _ _ (by rw [nthF_len]; exact hi), fun i hi => ?_⟩
  have := nthF_box D hs.length 0 n i (by omega) hi
  rwa [Nat.zero_add] at this
theorem dries_nth {hs : List S139} (D : Dries hs) {y : Nat → Int} (h : y ∈ dries hs) : ∃ n, n < prN hs hs.length 0 ∧ nums (nthF hs hs.length 0 n) = y := by
  obtain ⟨h1, h2⟩ := (dries_iff y).1 h
  obtain ⟨n, hn, hj⟩ := nthF_surj D hs.length 0 y (by omega) (fun j hj => by rw [Nat.zero_add]; exact h2 j hj)
  refine ⟨n, hn, funext fun i => ?_⟩
  by_cases hi : i < hs.length
  · exact hj i hi
  · rw [h1 i (by omega)]; exact rd_out _ _ (by rw [nthF_len]; omega)
theorem keep1_sub {hs : List S139} {hung : List Int} {looks : List S140} {ts : List (Nat → Int)} {d t : Nat → Int} (h : t ∈ ts) : t ∈ keep1 hs hung looks ts d := by
  unfold keep1
  split
  · exact List.mem_append_left _ h
  · exact h
theorem keep_sub {hs : List S139} {hung : List Int} {looks : List S140} : ∀ (pre ts : List (Nat → Int)) (t : Nat → Int), t ∈ ts → t ∈ pre.foldl (keep1 hs hung looks) ts
  | [], ts, t, h => h
  | d :: r, ts, t, h => keep_sub r _ t (keep1_sub h)
theorem keep_all {hs : List S139} {hung : List Int} {looks : List S140} (h4 : hs.length ≤ 4) : ∀ (pre ts : List (Nat → Int)), (∀ t ∈ ts, ∀ i, hs.length ≤ i → t i = 0) → (∀ t ∈ pre, ∀ i, hs.length ≤ i → t i = 0) →
    ∀ d ∈ pre, rightB hs hung looks d [] = true → d ∈ pre.foldl (keep1 hs hung looks) ts
  | [], ts, _, _, d, h, _ => by cases h
  | a :: r, ts, h0, h1, d, h, hr => by
    have hk : ∀ t ∈ keep1 hs hung looks ts a, ∀ i, hs.length ≤ i → t i = 0 := by
      intro t ht
      unfold keep1 at ht
      split at ht
      · rcases List.mem_append.1 ht with h | h
        · exact h0 t h
        · rw [List.mem_singleton] at h; subst h; exact h1 _ (List.mem_cons_self)
      · exact h0 t ht
    rcases List.mem_cons.1 h with rfl | h
    · refine keep_sub r _ d ?_
      unfold keep1
      by_cases hc : rightB hs hung looks d [] = true ∧ (ts = [] ∨ ne4 (rdN ts (ts.length - 1)) d = true)
      · rw [if_pos hc]; exact List.mem_append_right _ (List.mem_singleton.2 rfl)
      · rw [if_neg hc]
        have hne : ts ≠ [] := fun e => hc ⟨hr, .inl e⟩
        have heq : ne4 (rdN ts (ts.length - 1)) d = false := by
          cases e : ne4 (rdN ts (ts.length - 1)) d
          · rfl
          · exact absurd ⟨hr, .inr e⟩ hc
        have hlt : ts.length - 1 < ts.length := by have := List.length_pos_iff.2 hne; omega
        have hmem : rdN ts (ts.length - 1) ∈ ts := by
          unfold rdN
          rw [List.getD_eq_getElem?_getD, List.getElem?_eq_getElem hlt]
          exact List.getElem_mem hlt
        have : rdN ts (ts.length - 1) = d := by
          simp only [ne4, Bool.not_eq_false', Bool.and_eq_true, decide_eq_true_eq] at heq
          funext i
          by_cases hi : i < 4
          · rcases i with _ | _ | _ | _ | i
            · exact heq.1.1.1
            · exact heq.1.1.2
            · exact heq.1.2
            · exact heq.2
            · omega
          · rw [h0 _ hmem i (by omega), h1 d List.mem_cons_self i (by omega)]
        rw [← this]
        exact hmem
    · exact keep_all h4 r _ hk (fun t ht => h1 t (List.mem_cons_of_mem _ ht)) d h hr
theorem truths_iff {hs : List S139} {hung : List Int} {looks : List S140} (h4 : hs.length ≤ 4) (d : Nat → Int) : d ∈ truthsT hs hung looks ↔ d ∈ dries hs ∧ rightB hs hung looks d [] = true :=
  ⟨truths_mem, fun h => keep_all h4 (dries hs) [] (fun t ht => by cases ht) (fun t ht => ((dries_iff t).1 ht).1) d h.1 h.2⟩
end Go.Proofs.Ytokhmghgghjmhaa.Q
namespace Go.Proofs.Ytokhmghgghjmhaa.Q
open Go.RowKit Go.Proofs.YtokhmghgghjmhaaW.PrintWords Go.Proofs.YtokhmghgghjmhaaW.PrintLast Go.Proofs.YtokhmghgghjmhaaW.PrintMore
set_option linter.unusedVariables false
def bitF : List Bool → Nat → Int → Int
  | [], _, x => x
  | b :: l, i, x => bitF l (i + 1) (if b = true then Go.bits .or .i64 x (shl .i64 1 (IntKind.u64.wrap (i : Int))) else x)
theorem bit_full : ∀ l : List Bool, l.length ≤ 5 → (bitF l 0 0 = wrap64 ((shl .i64 1 (IntKind.u64.wrap (l.length : Int))) - 1) ↔ l.all id = true)
  | [], _ => by decide +kernel
  | [a], _ => by cases a <;> decide +kernel
  | [a, b], _ => by cases a <;> cases b <;> decide +kernel
  | [a, b, c], _ => by cases a <;> cases b <;> cases c <;> decide +kernel
  | [a, b, c, d], _ => by cases a <;> cases b <;> cases c <;> cases d <;> decide +kernel
  | [a, b, c, d, e], _ => by cases a <;> cases b <;> cases c <;> cases d <;> cases e <;> decide +kernel
  | _ :: _ :: _ :: _ :: _ :: _ :: _, h => by simp only [List.length_cons] at h; omega
def okF (hs : List S139) (hung : List Int) (looks : List S140) (d : Nat → Int) : Nat → Nat → List Bool
  | 0, _ => []
  | m + 1, i => lookOk hs hung d (rd_T140 looks i) :: okF hs hung looks d m (i + 1)
theorem okF_len (hs : List S139) (hung : List Int) (looks : List S140) (d : Nat → Int) : ∀ m i, (okF hs hung looks d m i).length = m
  | 0, _ => rfl
  | m + 1, i => by simp only [okF, List.length_cons, okF_len hs hung looks d m]
theorem okF_all (hs : List S139) (hung : List Int) (looks : List S140) (d : Nat → Int) : ∀ m i, (okF hs hung looks d m i).all id = true ↔ ∀ j : Nat, i ≤ j → j < i + m → lookOk hs hung d (rd_T140 looks j) = true
  | 0, i => by simp only [okF, List.all_nil, true_iff]; intro j h1 h2; omega
  | m + 1, i => by
    simp only [okF, List.all_cons, Bool.and_eq_true, okF_all hs hung looks d m (i + 1), id]
    constructor
    · rintro ⟨h1, h2⟩ j h3 h4
      by_cases e : j = i
      · subst e; exact h1
      · exact h2 j (by omega) (by omega)
    · exact fun h => ⟨h i (Nat.le_refl _) (by omega), fun j h1 h2 => h j (by omega) (by omega)⟩
theorem okF_right (hs : List S139) (hung : List Int) (looks : List S140) (d : Nat → Int) : (okF hs hung looks d looks.length 0).all id = rightB hs hung looks d [] := by
  rw [Bool.eq_iff_iff, okF_all]
  unfold rightB
  rw [decide_eq_true_eq]
  constructor
  · exact fun h i hi => .inr (h i (Nat.zero_le _) (by omega))
  · intro h j _ hj
    rcases h j (by omega) with h | h
    · simp at h
    · exact h
theorem u64_ok : ∀ i : Nat, i ≤ 5 → (0 : Int) ≤ IntKind.u64.wrap (i : Int)
  | 0, _ => by decide
  | 1, _ => by decide
  | 2, _ => by decide
  | 3, _ => by decide
  | 4, _ => by decide
  | 5, _ => by decide
  | _ + 6, h => by omega
section
variable {cs cl : Int} {hs : List S68} {hung : List Int} {looks : List S84}
theorem nth_l0 (D : Dries (hs.map toH)) (h4 : hs.length ≤ 4) : ∀ (d i n k : Nat) (acc : List Int), i + d = hs.length → d < k → n ≤ 12960000 → acc.length ≤ i →
    posserref04_Nth.l0 k n acc i cs cl hs hung looks = some (acc ++ nthF (hs.map toH) d i n)
  | 0, i, n, k, acc, h, hk, hn, ha => by
    obtain ⟨k, rfl⟩ : ∃ m, k = m + 1 := ⟨k - 1, by omega⟩
    simp only [posserref04_Nth.l0, nthF, List.append_nil]
    rw [if_neg (by omega)]
  | d + 1, i, n, k, acc, h, hk, hn, ha => by
    obtain ⟨k, rfl⟩ : ∃ m, k = m + 1 := ⟨k - 1, by omega⟩
    have hs1 := sz_ok D i (by simpa using (by omega : i < hs.length))
    have hD := D i (by simpa using (by omega : i < hs.length))
    have e1 := rd_toH hs i
    rw [e1] at hs1 hD
    simp only [toH] at hs1 hD
    have hw : wrap64 (wrap64 ((rd_T68 hs i).f0.f1 - (rd_T68 hs i).f0.f0) + 1) = (szN (hs.map toH) i : Int) := by unfold wrap64; omega
    have hdiv : n / szN (hs.map toH) i ≤ n := Nat.div_le_self _ _
    have hmod := Nat.mod_lt n hs1.2.1
    have ih := nth_l0 D h4 d (i + 1) (n / szN (hs.map toH) i) k (acc ++ [(rd_T68 hs i).f0.f0 + ((n % szN (hs.map toH) i : Nat) : Int)]) (by omega) (by omega) (by omega) (by simp only [List.length_append, List.length_singleton]; omega)
    simp only [posserref04_Nth.l0, posserref04_Size.f, Option.bind_some]
    rw [if_pos (by omega), if_pos (by omega), hw, if_neg (by omega), if_pos (by omega), if_neg (by omega)]
    rw [show Int.tdiv (n : Int) (szN (hs.map toH) i : Int) = ((n / szN (hs.map toH) i : Nat) : Int) from rfl, show Int.tmod (n : Int) (szN (hs.map toH) i : Int) = ((n % szN (hs.map toH) i : Nat) : Int) from rfl]
    rw [wrap_small (Nat.le_trans hdiv hn), show wrap64 ((rd_T68 hs i).f0.f0 + ((n % szN (hs.map toH) i : Nat) : Int)) = (rd_T68 hs i).f0.f0 + ((n % szN (hs.map toH) i : Nat) : Int) from by unfold wrap64; omega,
      show wrap64 ((i : Int) + 1) = ((i + 1 : Nat) : Int) from by unfold wrap64; omega, ih]
    simp only [nthF, e1, toH, List.append_assoc, List.singleton_append]
theorem nth_f (D : Dries (hs.map toH)) (h4 : hs.length ≤ 4) (n k : Nat) (hk : 1000 < k) (hn : n ≤ 12960000) : posserref04_Nth.f k cs cl hs hung looks n = some (nthF (hs.map toH) hs.length 0 n) := by
  unfold posserref04_Nth.f
  have := nth_l0 (cs := cs) (cl := cl) (hung := hung) (looks := looks) D h4 hs.length 0 n k [] (by omega) (by omega) hn (Nat.le_refl _)
  rw [List.nil_append] at this
  exact this
theorem right_l0 (V : Valid cs cl (hs.map toH) hung (looks.map toL)) (d : List Int) (hd : d.length = hs.length) (hdb : ∀ i : Nat, 0 ≤ rd d i ∧ rd d i ≤ 60) : ∀ (m i k : Nat) (x : Int), i + m = looks.length → m + 1001 < k →
    posserref04_Right.l0 k d x i cs cl hs hung looks = some (bitF (okF (hs.map toH) hung (looks.map toL) (nums d) m i) i x)
  | 0, i, k, x, h, hk => by
    obtain ⟨k, rfl⟩ : ∃ m, k = m + 1 := ⟨k - 1, by omega⟩
    simp only [posserref04_Right.l0, okF, bitF]
    rw [if_neg (by omega)]
  | m + 1, i, k, x, h, hk => by
    obtain ⟨k, rfl⟩ : ∃ m, k = m + 1 := ⟨k - 1, by omega⟩
    have hL := V.n5
    have hH := V.n4
    have hc4 := V.c4
    simp only [List.length_map] at hL hH
    have hlk := V.look i (by simpa using (by omega : i < looks.length))
    have e1 := rd_toL looks i
    rw [e1] at hlk
    simp only [toL, List.length_map] at hlk
    obtain ⟨j, hj⟩ : ∃ j : Nat, (j : Int) = (rd_T84 looks i).f0 := ⟨(rd_T84 looks i).f0.toNat, by omega⟩
    have P : Pl cs hs.length hung := ⟨by have := V.place; simpa using this, V.inside, fun a b ha hb hne e => by
      rcases Nat.lt_or_ge a b with h | h
      · exact V.apart b a hb h e.symm
      · exact V.apart a b ha (by omega) e⟩
    have hmin := minute_f (cl := cl) (hung := hung) (looks := looks) P (by omega) hH V.wet hd hdb j (by omega) k (by omega)
    have hlo : lookOk (hs.map toH) hung (nums d) (rd_T140 (looks.map toL) i) = ((rd_T84 looks i).f2 == decide (mins (hs.map toH) hung (nums d) j ≤ (rd_T84 looks i).f1)) := by
      have ht : (toL (rd_T84 looks i)).f0.toNat = j := by simp only [toL]; omega
      unfold lookOk
      rw [e1]
      simp only [ht]
      rfl
    have hu := u64_ok i (by omega)
    simp only [posserref04_Right.l0, okF, bitF]
    rw [if_pos (by omega), if_pos (by omega), ← hj, hmin]
    simp only [Option.bind_some]
    rw [hlo, show wrap64 ((i : Int) + 1) = ((i + 1 : Nat) : Int) from by unfold wrap64; omega]
    change (if (decide (mins (hs.map toH) hung (nums d) j ≤ (rd_T84 looks i).f1) == (rd_T84 looks i).f2) = true then _ else _) = _
    by_cases hb : (decide (mins (hs.map toH) hung (nums d) j ≤ (rd_T84 looks i).f1) == (rd_T84 looks i).f2) = true
    · have hb2 : ((rd_T84 looks i).f2 == decide (mins (hs.map toH) hung (nums d) j ≤ (rd_T84 looks i).f1)) = true := by rw [beq_iff_eq] at hb ⊢; exact hb.symm
      rw [if_pos hb, if_pos hu, if_pos hb2]
      exact right_l0 V d hd hdb m (i + 1) k _ (by omega) (by omega)
    · have hb2 : ¬ ((rd_T84 looks i).f2 == decide (mins (hs.map toH) hung (nums d) j ≤ (rd_T84 looks i).f1)) = true := by rw [beq_iff_eq] at hb ⊢; exact fun e => hb e.symm
      rw [if_neg hb, if_neg hb2]
      exact right_l0 V d hd hdb m (i + 1) k _ (by omega) (by omega)
theorem right_f (V : Valid cs cl (hs.map toH) hung (looks.map toL)) (d : List Int) (hd : d.length = hs.length) (hdb : ∀ i : Nat, 0 ≤ rd d i ∧ rd d i ≤ 60) (k : Nat) (hk : 2000 ≤ k) :
    posserref04_Right.f k cs cl hs hung looks d = some (bitF (okF (hs.map toH) hung (looks.map toL) (nums d) looks.length 0) 0 0) := by
  have h5 := V.n5
  simp only [List.length_map] at h5
  unfold posserref04_Right.f
  exact right_l0 V d hd hdb looks.length 0 k 0 (by omega) (by omega)
theorem full_f (h5 : looks.length ≤ 5) : posserref04_Full.f cs cl hs hung looks = some (wrap64 ((shl .i64 1 (IntKind.u64.wrap (looks.length : Int))) - 1)) := by
  unfold posserref04_Full.f
  have hu := u64_ok looks.length h5
  rw [if_pos hu]
/-- The reference's truths. -/
def truF (hs : List S139) (hung : List Int) (looks : List S140) : Nat → Nat → List (List Int)
  | 0, _ => []
  | m + 1, n => if rightB hs hung looks (nums (nthF hs hs.length 0 n)) [] = true then nthF hs hs.length 0 n :: truF hs hung looks m (n + 1) else truF hs hung looks m (n + 1)
theorem many_ok (hc : checkB cs cl (hs.map toH) hung (looks.map toL) = 0) : manyN hs hs.length = (prN (hs.map toH) hs.length 0 : Nat) ∧ prN (hs.map toH) hs.length 0 ≤ 2000 := by
  have V := valid_of hc
  have h4 := V.n4
  simp only [List.length_map] at h4
  have hall : allH (hs.map toH) = true := by
    unfold checkB at hc
    split at hc
    · omega
    split at hc
    · omega
    rename_i h1 h2
    cases e : allH (hs.map toH)
    · exact absurd (.inr (.inr (.inl e))) h2
    · rfl
  obtain ⟨h1, h2, _⟩ := many_prod hs h4 hall hs.length (Nat.le_refl _)
  have h3 : ¬ prodH (hs.map toH) (hs.map toH).length > 2000 := by
    unfold checkB at hc
    split at hc
    · omega
    split at hc
    · omega
    split at hc
    · omega
    · assumption
  rw [List.length_map, h2] at h3
  have h5 := pl_pr (hs.map toH) hs.length 0
  simp only [plN, Nat.one_mul, Nat.zero_add] at h5
  rw [h1, h5]
  unfold mn
  split <;> omega
theorem truths_l0 (hc : checkB cs cl (hs.map toH) hung (looks.map toL) = 0) : ∀ (m n k : Nat) (acc : List (List Int)), n + m = prN (hs.map toH) hs.length 0 → m + 3000 ≤ k → acc.length ≤ n →
    posserref04_Truths.l0 k acc n cs cl hs hung looks = some (acc ++ truF (hs.map toH) hung (looks.map toL) m n)
  | 0, n, k, acc, h, hk, ha => by
    obtain ⟨k, rfl⟩ : ∃ m, k = m + 1 := ⟨k - 1, by omega⟩
    have hM := many_ok hc
    have V := valid_of hc
    have h4 := V.n4
    simp only [List.length_map] at h4
    simp only [posserref04_Truths.l0, truF, List.append_nil]
    rw [many_f cs cl hs hung looks (by omega) k (by omega)]
    simp only [Option.bind_some]
    rw [if_neg (by omega)]
  | m + 1, n, k, acc, h, hk, ha => by
    obtain ⟨k, rfl⟩ : ∃ m, k = m + 1 := ⟨k - 1, by omega⟩
    have hM := many_ok hc
    have V := valid_of hc
    have h4 := V.n4
    have h5 := V.n5
    simp only [List.length_map] at h4 h5
    have D : Dries (hs.map toH) := V.dry
    have hlen := nthF_len (hs.map toH) hs.length 0 n
    have hlm : (hs.map toH).length = hs.length := List.length_map ..
    have hbd : ∀ i : Nat, 0 ≤ rd (nthF (hs.map toH) hs.length 0 n) i ∧ rd (nthF (hs.map toH) hs.length 0 n) i ≤ 60 := fun i => by
      have := dries_bd V (nth_dries D n) i
      rw [hlm] at this
      exact this
    have ih1 := truths_l0 hc m (n + 1) k
    simp only [posserref04_Truths.l0]
    rw [many_f cs cl hs hung looks (by omega) k (by omega)]
    simp only [Option.bind_some]
    rw [if_pos (by omega), nth_f D h4 n k (by omega) (by omega)]
    simp only [Option.bind_some]
    rw [right_f V _ hlen hbd k (by omega)]
    simp only [Option.bind_some]
    rw [full_f h5]
    simp only [Option.bind_some]
    have hbf := bit_full (okF (hs.map toH) hung (looks.map toL) (nums (nthF (hs.map toH) hs.length 0 n)) looks.length 0) (by rw [okF_len]; exact h5)
    rw [okF_len] at hbf
    have hokr := okF_right (hs.map toH) hung (looks.map toL) (nums (nthF (hs.map toH) hs.length 0 n))
    rw [List.length_map] at hokr
    rw [hokr] at hbf
    rw [show wrap64 ((n : Int) + 1) = ((n + 1 : Nat) : Int) from by unfold wrap64; omega]
    simp only [truF, hlm]
    by_cases hr : rightB (hs.map toH) hung (looks.map toL) (nums (nthF (hs.map toH) hs.length 0 n)) [] = true
    · rw [if_pos (hbf.2 hr), if_pos (by omega), if_pos hr, ih1 _ (by omega) (by omega) (by simp only [List.length_append, List.length_singleton]; omega)]
      simp only [List.append_assoc, List.singleton_append]
    · rw [if_neg (fun e => hr (hbf.1 e)), if_neg hr, ih1 _ (by omega) (by omega) (by omega)]
/-- All truths, as1 the reference tells them. -/
def truL (hs : List S139) (hung : List Int) (looks : List S140) : List (List Int) := truF hs hung looks (prN hs hs.length 0) 0
theorem truths_f (hc : checkB cs cl (hs.map toH) hung (looks.map toL) = 0) (k : Nat) (hk : 6000 ≤ k) : posserref04_Truths.f k cs cl hs hung looks = some (truL (hs.map toH) hung (looks.map toL)) := by
  have hM := many_ok hc
  unfold posserref04_Truths.f truL
  have := truths_l0 hc (prN (hs.map toH) hs.length 0) 0 k [] (by omega) (by omega) (Nat.le_refl _)
  rw [List.nil_append] at this
  rw [List.length_map]
  exact this
end
theorem mem_truF (hs : List S139) (hung : List Int) (looks : List S140) (l : List Int) : ∀ (m n : Nat), l ∈ truF hs hung looks m n ↔ ∃ j, n ≤ j ∧ j < n + m ∧ l = nthF hs hs.length 0 j ∧ rightB hs hung looks (nums (nthF hs hs.length 0 j)) [] = true
  | 0, n => by
    simp only [truF, List.not_mem_nil, false_iff]
    rintro ⟨j, h1, h2, _⟩
    omega
  | m + 1, n => by
    simp only [truF]
    by_cases hr : rightB hs hung looks (nums (nthF hs hs.length 0 n)) [] = true
    · rw [if_pos hr, List.mem_cons, mem_truF hs hung looks l m (n + 1)]
      constructor
      · rintro (h | ⟨j, h1, h2, h3⟩)
        · exact ⟨n, Nat.le_refl _, by omega, h, hr⟩
        · exact ⟨j, by omega, by omega, h3⟩
      · rintro ⟨j, h1, h2, h3, h4⟩
        by_cases e : j = n
        · subst e; exact .inl h3
        · exact .inr ⟨j, by omega, by omega, h3, h4⟩
    · rw [if_neg hr, mem_truF hs hung looks l m (n + 1)]
      constructor
      · rintro ⟨j, h1, h2, h3⟩
        exact ⟨j, by omega, by omega, h3⟩
      · rintro ⟨j, h1, h2, h3, h4⟩
        by_cases e : j = n
        · subst e; exact absurd h4 hr
        · exact ⟨j, by omega, by omega, h3, h4⟩
/-- The reference's truths are the program's. -/
theorem truL_iff {hs : List S139} {hung : List Int} {looks : List S140} (D : Dries hs) (h4 : hs.length ≤ 4) (t : Nat → Int) : t ∈ truthsT hs hung looks ↔ ∃ l ∈ truL hs hung looks, nums l = t := by
  rw [truths_iff h4]
  constructor
  · rintro ⟨h1, h2⟩
    obtain ⟨n, hn, rfl⟩ := dries_nth D h1
    exact ⟨_, (mem_truF hs hung looks _ _ 0).2 ⟨n, Nat.zero_le _, by omega, rfl, h2⟩, rfl⟩
  · rintro ⟨l, hl, rfl⟩
    obtain ⟨j, _, h2, rfl, h4'⟩ := (mem_truF hs hung looks l _ 0).1 hl
    exact ⟨nth_dries D j, h4'⟩
theorem truL_len {hs : List S139} {hung : List Int} {looks : List S140} {l : List Int} (h : l ∈ truL hs hung looks) : l.length = hs.length := by
  obtain ⟨j, _, _, rfl, _⟩ := (mem_truF hs hung looks l _ 0).1 h
  exact nthF_len _ _ _ _
theorem truL_nil {hs : List S139} {hung : List Int} {looks : List S140} (D : Dries hs) (h4 : hs.length ≤ 4) : truL hs hung looks = [] ↔ truthsT hs hung looks = [] := by
  constructor
  · intro h
    refine List.eq_nil_iff_forall_not_mem.2 (fun t ht => ?_)
    obtain ⟨l, hl, _⟩ := (truL_iff D h4 t).1 ht
    rw [h] at hl
    cases hl
  · intro h
    refine List.eq_nil_iff_forall_not_mem.2 (fun l hl => ?_)
    have := (truL_iff D h4 (nums l)).2 ⟨l, hl, rfl⟩
    rw [h] at this
    cases this
end Go.Proofs.Ytokhmghgghjmhaa.Q
namespace Go.Proofs.Ytokhmghgghjmhaa.Q
open Go.RowKit Go.Proofs.YtokhmghgghjmhaaW.PrintWords Go.Proofs.YtokhmghgghjmhaaW.PrintLast Go.Proofs.YtokhmghgghjmhaaW.PrintMore
set_option linter.unusedVariables false
section
variable {cs cl : Int} {hs : List S68} {hung : List Int} {looks : List S84} {p : List Int}
/-- Truths as1 the reference lists them. -/
def Trs (hs : List S68) (L : List (List Int)) : Prop := L.length ≤ 100000 ∧ ∀ j : Nat, j < L.length → (rd_L9 L j).length = hs.length ∧ ∀ i : Nat, 0 ≤ rd (rd_L9 L j) i ∧ rd (rd_L9 L j) i ≤ 60
end
end Go.Proofs.Ytokhmghgghjmhaa.Q
namespace Go.Proofs.Ytokhmghgghjmhaa.Q
open Go.RowKit Go.Proofs.YtokhmghgghjmhaaW.PrintWords Go.Proofs.YtokhmghgghjmhaaW.PrintLast Go.Proofs.YtokhmghgghjmhaaW.PrintMore
set_option linter.unusedVariables false
section
variable {cs cl : Int} {hs : List S68} {hung : List Int} {looks : List S84} {p : List Int}
theorem truF_len (hs : List S139) (hung : List Int) (looks : List S140) : ∀ m n, (truF hs hung looks m n).length ≤ m
  | 0, n => Nat.le_refl _
  | m + 1, n => by
    have := truF_len hs hung looks m (n + 1)
    simp only [truF]
    split
    · simp only [List.length_cons]; omega
    · omega
theorem L9_mem (L : List (List Int)) (j : Nat) (hj : j < L.length) : rd_L9 L j ∈ L := by
  unfold rd_L9
  rw [Int.toNat_natCast, List.getD_eq_getElem?_getD, List.getElem?_eq_getElem hj]
  exact List.getElem_mem hj
theorem truL_trs (hc : checkB cs cl (hs.map toH) hung (looks.map toL) = 0) : Trs hs (truL (hs.map toH) hung (looks.map toL)) ∧ (truL (hs.map toH) hung (looks.map toL)).length ≤ 2000 := by
  have V := valid_of hc
  have hlen := truF_len (hs.map toH) hung (looks.map toL) (prN (hs.map toH) (hs.map toH).length 0) 0
  have hM := (many_ok hc).2
  have hl2 : (truL (hs.map toH) hung (looks.map toL)).length ≤ 2000 := by
    unfold truL
    rw [List.length_map] at hlen ⊢
    omega
  refine ⟨⟨by omega, fun j hj => ?_⟩, hl2⟩
  have hm := L9_mem _ j hj
  refine ⟨by have := truL_len hm; rwa [List.length_map] at this, fun i => ?_⟩
  have ht := (truL_iff (hung := hung) (looks := looks.map toL) V.dry V.n4 (nums (rd_L9 (truL (hs.map toH) hung (looks.map toL)) j))).2 ⟨_, hm, rfl⟩
  exact dries_bd V (truths_mem ht).1 i
end
end Go.Proofs.Ytokhmghgghjmhaa.Q
namespace Go.Proofs.Ytokhmghgghjmhaa.Q
open Go.RowKit Go.Proofs.YtokhmghgghjmhaaW.PrintWords Go.Proofs.YtokhmghgghjmhaaW.PrintLast Go.Proofs.YtokhmghgghjmhaaW.PrintMore
set_option linter.unusedVariables false
/-- Ranges that lie in memory. -/
def Bd (w : World) (A : Option Addr) (c : Nat) (l : List S61) : Prop := Kd.C k61 w A l.length l ∧ l.length ≤ c
theorem Bd.later {w w' : World} {A : Option Addr} {c : Nat} {l : List S61} (h : Bd w A c l) (hb : Below w.heap.size w w') : Bd w' A c l := ⟨Kd.C_below h.1 hb, h.2⟩
section
variable {cs cl : Int} {A2 A3 A4 A : Option Addr} {c2 c3 c4 c n2 n3 n4 : Nat} {hs : List S68} {hung : List Int} {looks : List S84} {p : List Int} {w : World}
theorem bounds_q {s : List S61 × Int} (C : Cls w A2 A3 A4 c2 c3 c4 n2 n3 n4 hs hung looks) (hC : Ls .i64 w A c p) (hn : hs.length ≤ 1000) (hs' : boundsR cs cl (hs.map toH) hung (looks.map toL) p = s) :
    Calls Try.prog 70 #[.agg #[.int .i64 cs, .int .i64 cl, .slice A2 n2 c2, .slice A3 n3 c3, .slice A4 n4 c4], .slice A p.length c] w
      fun e w' => ∃ B b, e = .returned (.tuple #[.slice B s.1.length b, .int .i64 s.2]) ∧ Bd w' B b s.1 ∧ Below w.heap.size w w' := by
  obtain ⟨rfl, rfl, rfl, M⟩ := C
  refine (boundsX_calls cs cl M hC.1 hC.2 (by rw [List.length_map]; exact hn)).mono ?_
  rw [hs']
  rintro e w' ⟨v, rfl, hR, hb⟩
  obtain ⟨B, b, rfl⟩ := Kd.R_slice hR
  have h2 := Kd.R_reads' hR
  exact ⟨B, b, rfl, ⟨h2.2.2, h2.2.1⟩, hb⟩
theorem minute_q (M : Ref w A2 A3 A4 c2 c3 c4 hs hung looks) {B : Option Addr} {d : Nat} {l : List Int} (hC : Ls .i64 w A c p) (hL : Ls .i64 w B d l) (V : Valid cs cl (hs.map toH) hung (looks.map toL)) (P : Pl cs hs.length p) (hl : l.length = hs.length) (hlb : ∀ i : Nat, 0 ≤ rd l i ∧ rd l i ≤ 60)
    (k : Nat) (hk : k < hs.length) {r : Int} (hr : mins (hs.map toH) p (nums l) k = r) :
    Calls Try.prog 55 #[.agg #[.int .i64 cs, .int .i64 cl, .slice A2 hs.length c2, .slice A3 hung.length c3, .slice A4 looks.length c4], .slice A p.length c, .slice B l.length d, .int .i64 k] w fun e w' => e = .returned (.int .i64 r) ∧ Below w.heap.size w w' :=
  posserref04_Minute.calls 2000 cs cl A2 c2 hs A3 c3 hung A4 c4 looks A c p B d l k r w M.h2 M.l2 M.h3 M.l3 M.h4 M.l4 hC.1 hC.2 hL.1 hL.2 (by
    have h4 := V.n4
    have hc := V.c4
    rw [List.length_map] at h4
    have := minute_f (cl := cl) (hung := hung) (looks := looks) P (by omega) h4 V.wet hl hlb k hk 2000 (by omega)
    rw [this, ← hr]
    rfl)
end
end Go.Proofs.Ytokhmghgghjmhaa.Q
namespace Go.Proofs.Ytokhmghgghjmhaa.Q
open Go.RowKit Go.Proofs.YtokhmghgghjmhaaW.PrintWords Go.Proofs.YtokhmghgghjmhaaW.PrintLast Go.Proofs.YtokhmghgghjmhaaW.PrintMore
set_option linter.unusedVariables false
/-- Truths that lie in memory. -/
def Tr (w : World) (A : Option Addr) (c : Nat) (L : List (List Int)) : Prop := Kd.C (Kd.slice 3 (Kd.int .i64)) w A L.length L ∧ L.length ≤ c
theorem Tr.later {w w' : World} {A : Option Addr} {c : Nat} {L : List (List Int)} (h : Tr w A c L) (hb : Below w.heap.size w w') : Tr w' A c L := ⟨Kd.C_below h.1 hb, h.2⟩
theorem Tr.at {w : World} {A : Option Addr} {c : Nat} {L : List (List Int)} (h : Tr w A c L) (i : Nat) (hi : i < L.length) : ∃ ad A0 c0, A = some ad ∧ w.cell? (ad.add i) = some (.slice A0 (rd_L9 L i).length c0) ∧ Ls .i64 w A0 c0 (rd_L9 L i) := by
  obtain ⟨ad, A0, c0, h1, h2, h3, h4⟩ := at_L9 h.1 i (by omega) (by omega)
  exact ⟨ad, A0, c0, h1, by rwa [Int.toNat_natCast] at h2, h4, h3⟩
theorem truths_q {cs cl : Int} {A2 A3 A4 : Option Addr} {c2 c3 c4 : Nat} {hs : List S68} {hung : List Int} {looks : List S84} {w : World} (M : Ref w A2 A3 A4 c2 c3 c4 hs hung looks) (hc : checkB cs cl (hs.map toH) hung (looks.map toL) = 0) {L : List (List Int)} (hL : truL (hs.map toH) hung (looks.map toL) = L) :
    Calls Try.prog 43 #[.agg #[.int .i64 cs, .int .i64 cl, .slice A2 hs.length c2, .slice A3 hung.length c3, .slice A4 looks.length c4]] w
      fun e w' => ∃ B d, e = .returned (.slice B L.length d) ∧ Tr w' B d L ∧ Below w.heap.size w w' := by
  have hf := truths_f hc 6000 (Nat.le_refl _)
  rw [hL] at hf
  refine (posserref04_Truths.calls 6000 cs cl A2 c2 hs A3 c3 hung A4 c4 looks L w M.h2 M.l2 M.h3 M.l3 M.h4 M.l4 hf).mono ?_
  rintro e w' ⟨v, rfl, hS, hb⟩
  have hR := Kd.S_R hS
  obtain ⟨B, d, rfl⟩ := Kd.R_slice hR
  have h2 := Kd.R_reads' hR
  exact ⟨B, d, rfl, ⟨h2.2.2, h2.2.1⟩, hb⟩
end Go.Proofs.Ytokhmghgghjmhaa.Q
namespace Go.Proofs.Ytokhmghgghjmhaa.Q
open Go.RowKit Go.Proofs.YtokhmghgghjmhaaW.PrintWords Go.Proofs.YtokhmghgghjmhaaW.PrintLast Go.Proofs.YtokhmghgghjmhaaW.PrintMore
set_option linter.unusedVariables false
/-- Is a number one of a value's, among the first so many lists? -/
def anyV (v : (Nat → Int) → Int) (x : Int) (L : List (List Int)) (n : Nat) : Bool := (L.take n).any fun l => v (nums l) == x
theorem anyV_succ (v : (Nat → Int) → Int) (x : Int) (L : List (List Int)) (n : Nat) (h : n < L.length) : anyV v x L (n + 1) = (anyV v x L n || (v (nums (rd_L9 L n)) == x)) := by
  unfold anyV rd_L9
  rw [List.take_succ_eq_append_getElem h, List.any_append, Int.toNat_natCast, List.getD_eq_getElem?_getD, List.getElem?_eq_getElem h]
  simp
section
variable {cs cl : Int} {hs : List S68} {hung : List Int} {looks : List S84} {p : List Int}
theorem bounds_len (hc : checkB cs cl (hs.map toH) hung (looks.map toL) = 0) (P : Pl cs hs.length p) :
    (truL (hs.map toH) hung (looks.map toL) = [] ∧ boundsR cs cl (hs.map toH) hung (looks.map toL) p = ([], 11)) ∨
    (truL (hs.map toH) hung (looks.map toL) ≠ [] ∧ truthsT (hs.map toH) hung (looks.map toL) ≠ [] ∧ boundsR cs cl (hs.map toH) hung (looks.map toL) p = (boundsL (hs.map toH) p (truthsT (hs.map toH) hung (looks.map toL)) hs.length, 0)) := by
  have V := valid_of hc
  have hf : fineB cs (hs.map toH) p = true := (fine_pl V).2 (by rw [List.length_map]; exact P)
  have hn := truL_nil (hung := hung) (looks := looks.map toL) V.dry V.n4
  by_cases hT : truthsT (hs.map toH) hung (looks.map toL) = []
  · left
    have : askCode cs cl (hs.map toH) hung (looks.map toL) true = 11 := by unfold askCode; rw [if_neg (by simp [hc]), if_neg (by simp), if_pos hT]
    refine ⟨hn.2 hT, ?_⟩
    unfold boundsR
    rw [hf, this, if_pos (by decide)]
  · right
    have hz : askCode cs cl (hs.map toH) hung (looks.map toL) (fineB cs (hs.map toH) p) = 0 := ask_zero.2 ⟨hc, hf, hT⟩
    refine ⟨fun h => hT (hn.1 h), hT, ?_⟩
    unfold boundsR
    rw [if_neg (by simp [hz]), List.length_map]
theorem rd_bounds (H : List S139) (p : List Int) (T : List (Nat → Int)) (n k : Nat) (hk : k < n) : rd_T61 (boundsL H p T n) k = ⟨(bnd (qv false H p k) T).1, (bnd (qv false H p k) T).2⟩ := by
  unfold rd_T61 boundsL
  rw [Int.toNat_natCast, List.getD_eq_getElem?_getD, List.getElem?_map, List.getElem?_range hk]
  rfl
/-- Both ends are reached. -/
theorem ends_all (hc : checkB cs cl (hs.map toH) hung (looks.map toL) = 0) (hT : truthsT (hs.map toH) hung (looks.map toL) ≠ []) (k : Nat) :
    anyV (fun d => mins (hs.map toH) p d k) (bnd (qv false (hs.map toH) p k) (truthsT (hs.map toH) hung (looks.map toL))).1 (truL (hs.map toH) hung (looks.map toL)) (truL (hs.map toH) hung (looks.map toL)).length = true ∧
    anyV (fun d => mins (hs.map toH) p d k) (bnd (qv false (hs.map toH) p k) (truthsT (hs.map toH) hung (looks.map toL))).2 (truL (hs.map toH) hung (looks.map toL)) (truL (hs.map toH) hung (looks.map toL)).length = true := by
  have V := valid_of hc
  obtain ⟨_, ⟨t, ht, e⟩, ⟨t', ht', e'⟩⟩ := bnd_tells (qv false (hs.map toH) p k) _ hT
  obtain ⟨l, hl, rfl⟩ := (truL_iff V.dry V.n4 t).1 ht
  obtain ⟨l', hl', rfl⟩ := (truL_iff V.dry V.n4 t').1 ht'
  unfold anyV
  rw [List.take_length]
  exact ⟨List.any_eq_true.2 ⟨l, hl, beq_iff_eq.2 e⟩, List.any_eq_true.2 ⟨l', hl', beq_iff_eq.2 e'⟩⟩
end
end Go.Proofs.Ytokhmghgghjmhaa.Q
namespace Go.Proofs.Ytokhmghgghjmhaa.Q
open Go.RowKit Go.Proofs.YtokhmghgghjmhaaW.PrintWords Go.Proofs.YtokhmghgghjmhaaW.PrintLast Go.Proofs.YtokhmghgghjmhaaW.PrintMore
set_option linter.unusedVariables false
set_option linter.unusedSimpArgs false
set_option maxHeartbeats 4000000 in
set_option maxRecDepth 100000 in
theorem ends_walk {cs cl : Int} {A2 A3 A4 : Option Addr} {c2 c3 c4 : Nat} {hs : List S68} {hung : List Int} {looks : List S84} {A : Option Addr} {c : Nat} {words : List Int} {hh : Int} {w : World} (M : Ref w A2 A3 A4 c2 c3 c4 hs hung looks) (hW : Ls .u16 w A c words) (hwd : Words words) (hdn : 0 ≤ hh ∧ hh ≤ 255) :
    Calls Try.prog 17 #[.agg #[.int .i64 cs, .int .i64 cl, .slice A2 hs.length c2, .slice A3 hung.length c3, .slice A4 looks.length c4], .slice A words.length c, .int .u8 hh] w fun e w' => e = .returned (.bool true) ∧ Below w.heap.size w w' := by
  have HM := Aside0.mk M
  have HW := Aside0.mk hW
  have HWD := Aside0.mk hwd
  have HDN := Aside0.mk hdn
  clear M hW hwd hdn
  obtain ⟨W0, hW0⟩ : ∃ W0, w.alloc (.cells #[.int .i64 cs, .int .i64 cl, .slice A2 hs.length c2, .slice A3 hung.length c3, .slice A4 looks.length c4] 26) = W0 := ⟨_, rfl⟩
  have HB := Aside0.mk (Box.new hW0).2
  have HK := Aside0.mk (Box.new hW0).1
  have b0 := HK.out.at0
  have b1 := HK.out.at1
  have b2 := HK.out.at2
  have b3 := HK.out.at3
  have b4 := HK.out.at4
  go_enter Try.func17, Try.ntmps17
  go_wp2_with fail
  try rw [hW0]
  clear hW0
  obtain ⟨rdy, hrd⟩ : ∃ rdy, decide ((hs.length ≤ 30 ∧ hung.length ≤ 30 ∧ looks.length ≤ 30) ∧ checkB cs cl (hs.map toH) hung (looks.map toL) = 0) = rdy := ⟨_, rfl⟩
  have HRD := Aside0.mk hrd
  clear hrd
  refine (ready_q (HM.out.later HB.out) HRD.out).mono ?_
  rintro e w1 ⟨rfl, hb⟩
  replace HB := Aside0.mk (below_step HB.out hb)
  replace HK := Aside0.mk (HK.out.later hb)
  replace b0 := HK.out.at0
  replace b1 := HK.out.at1
  replace b2 := HK.out.at2
  replace b3 := HK.out.at3
  replace b4 := HK.out.at4
  clear hb
  cases rdy with
  | false =>
    go_wp2_with fail
    refine (awake_calls _).mono ?_
    rintro e w2 ⟨rfl, hb⟩
    replace HB := Aside0.mk (below_step HB.out hb)
    clear hb
    go_wp2_with fail
    go_ret
    exact ⟨rfl, HB.out⟩
  | true =>
  by_cases hz : hs.length = 0
  · have hz' : (hs.length : Int) = 0 := by omega
    have hz2 : ((hs.length : Int) == 0) = true := by rw [hz']; rfl
    clear hz hz'
    go_wp2_with fail
    refine (awake_calls _).mono ?_
    rintro e w3 ⟨rfl, hb⟩
    replace HB := Aside0.mk (below_step HB.out hb)
    clear hb
    go_wp2_with fail
    go_ret
    exact ⟨rfl, HB.out⟩
  have HT := Aside0.mk (of_decide_eq_true HRD.out).1
  have HC := Aside0.mk (of_decide_eq_true HRD.out).2
  have HV := Aside0.mk (valid_of HC.out)
  obtain ⟨p, hp, hP⟩ := placedw_f (hung := hung) (looks := looks) (cl := cl) HWD.out HV.out 3000 (Nat.le_refl _)
  have HP := Aside0.mk hP
  have HPF := Aside0.mk hp
  have HPL := Aside0.mk (show p.length ≤ 1000 from by have := hP.len; have := (of_decide_eq_true HRD.out).1; omega)
  clear hp hP
  have hz' : ((hs.length : Int) == 0) = false := beq_eq_false_iff_ne.2 (by omega)
  have hz3 : ¬ (hs.length : Int) = 0 := by omega
  obtain ⟨k, hk, hkl⟩ : ∃ k : Nat, Int.tmod hh (hs.length : Int) = k ∧ k < hs.length := by
    have h0 := HDN.out
    refine ⟨(hh % hs.length).toNat, ?_, ?_⟩
    · rw [Int.tmod_eq_emod_of_nonneg (by omega)]
      have := Int.emod_nonneg hh (show (hs.length : Int) ≠ 0 by omega)
      omega
    · have := Int.emod_lt_of_pos hh (show 0 < (hs.length : Int) by omega)
      have := Int.emod_nonneg hh (show (hs.length : Int) ≠ 0 by omega)
      omega
  have hhw : IntKind.i64.wrap hh = hh := IntWalk.i64_in _ (by have := HDN.out; omega)
  have HKL := Aside0.mk hkl
  go_wp2_with fail
  go_region_held3 (fun W' => Below w.heap.size w W' ∧ Box W' w.heap.size cs cl A2 A3 A4 hs.length hung.length looks.length c2 c3 c4 ∧ W'.cell? ⟨w.heap.size, 0, none⟩ = some (.int .i64 cs) ∧ W'.cell? ⟨w.heap.size, 1, none⟩ = some (.int .i64 cl) ∧ W'.cell? ⟨w.heap.size, 2, none⟩ = some (.slice A2 hs.length c2) ∧ W'.cell? ⟨w.heap.size, 3, none⟩ = some (.slice A3 hung.length c3) ∧ W'.cell? ⟨w.heap.size, 4, none⟩ = some (.slice A4 looks.length c4)) (first | exact ⟨below_drew HB.out, HK.out, b0, b1, b2, b3, b4⟩ | (go_split_ands; with_reducible exact ⟨below_step (by assumption) hbx.out, Box.later (by assumption) hbx.out, later hbx.out (by assumption), later hbx.out (by assumption), later hbx.out (by assumption), later hbx.out (by assumption), later hbx.out (by assumption)⟩)) ((first | (go_at_call 42; go_split_ands; refine (placedw_q (HM.out.later (by assumption)) (HW.out.later (by assumption)) HPF.out).mono ?_; rintro e wx ⟨B, d, rfl, hli, hbx⟩; replace hbx := Aside0.mk hbx; have HLI := Aside0.mk hli; clear hli)))
  go_split_ands
  replace HB : Aside0 (Below w.heap.size w wx) := ⟨by assumption⟩
  replace HK : Aside0 (Box wx w.heap.size cs cl A2 A3 A4 hs.length hung.length looks.length c2 c3 c4) := ⟨by assumption⟩
  replace b0 := HK.out.at0
  replace b1 := HK.out.at1
  replace b2 := HK.out.at2
  replace b3 := HK.out.at3
  replace b4 := HK.out.at4
  try rw [hk]
  clear hk hhw hz3 hz' hz hkl
  go_wp2_with fail
  refine (refcl_q (HM.out.later HB.out) (by have := HT.out; omega) (by have := HT.out; omega) (by have := HT.out; omega)).mono ?_
  rintro e w4 ⟨B2, B3, B4, d2, d3, d4, n2, n3, n4, rfl, hcl, hb⟩
  replace HB := Aside0.mk (below_step HB.out hb)
  replace HK := Aside0.mk (HK.out.later hb)
  replace HLI := Aside0.mk (HLI.out.later hb)
  replace b0 := HK.out.at0
  replace b1 := HK.out.at1
  replace b2 := HK.out.at2
  replace b3 := HK.out.at3
  replace b4 := HK.out.at4
  clear hb
  have HCL := Aside0.mk hcl
  clear hcl
  go_wp2_with fail
  refine (list_qq HLI.out HPL.out).mono ?_
  rintro e w5 ⟨B', d', rfl, hlj, hb⟩
  replace HB := Aside0.mk (below_step HB.out hb)
  replace HK := Aside0.mk (HK.out.later hb)
  replace HLI := Aside0.mk (HLI.out.later hb)
  replace HCL := Aside0.mk (HCL.out.later hb)
  replace b0 := HK.out.at0
  replace b1 := HK.out.at1
  replace b2 := HK.out.at2
  replace b3 := HK.out.at3
  replace b4 := HK.out.at4
  clear hb
  have HLJ := Aside0.mk hlj
  clear hlj
  obtain ⟨bs, hbs⟩ : ∃ bs, boundsR cs cl (hs.map toH) hung (looks.map toL) p = bs := ⟨_, rfl⟩
  have HBS := Aside0.mk hbs
  clear hbs
  go_wp2_with fail
  refine (bounds_q HCL.out HLJ.out (by have := HT.out; omega) HBS.out).mono ?_
  rintro e w6 ⟨BB, bB, rfl, hbd, hb⟩
  replace HB := Aside0.mk (below_step HB.out hb)
  replace HK := Aside0.mk (HK.out.later hb)
  replace HLI := Aside0.mk (HLI.out.later hb)
  replace b0 := HK.out.at0
  replace b1 := HK.out.at1
  replace b2 := HK.out.at2
  replace b3 := HK.out.at3
  replace b4 := HK.out.at4
  clear hb
  have HBD := Aside0.mk hbd
  clear hbd
  obtain ⟨L, hL⟩ : ∃ L, truL (hs.map toH) hung (looks.map toL) = L := ⟨_, rfl⟩
  have HL := Aside0.mk hL
  clear hL
  go_wp2_with fail
  refine (truths_q (HM.out.later HB.out) HC.out HL.out).mono ?_
  rintro e w7 ⟨BT, bT, rfl, htr, hb⟩
  replace HB := Aside0.mk (below_step HB.out hb)
  replace HK := Aside0.mk (HK.out.later hb)
  replace HLI := Aside0.mk (HLI.out.later hb)
  replace HBD := Aside0.mk (HBD.out.later hb)
  replace b0 := HK.out.at0
  replace b1 := HK.out.at1
  replace b2 := HK.out.at2
  replace b3 := HK.out.at3
  replace b4 := HK.out.at4
  clear hb
  have HTR := Aside0.mk htr
  clear htr
  rcases bounds_len (hung := hung) (looks := looks) (cl := cl) HC.out HP.out with ⟨h1, h2⟩ | ⟨h1, hT, h2⟩
  · obtain rfl : [] = L := by rw [← HL.out, h1]
    obtain rfl : ([], 11) = bs := by rw [← HBS.out, h2]
    clear h1 h2
    go_wp2_with fail
    refine (awake_calls _).mono ?_
    rintro e w8 ⟨rfl, hb⟩
    replace HB := Aside0.mk (below_step HB.out hb)
    clear hb
    go_wp2_with fail
    go_ret
    exact ⟨rfl, HB.out⟩
  rw [HBS.out] at h2
  subst h2
  have hLp : 0 < L.length := by rw [← HL.out]; exact List.length_pos_iff.2 h1
  have hL0 : ((L.length : Int) == 0) = false := beq_eq_false_iff_ne.2 (by omega)
  have HE := Aside0.mk (ends_all (p := p) HC.out hT k)
  have HTS := Aside0.mk (truL_trs HC.out).1
  obtain ⟨lo, hlo⟩ : ∃ lo, (bnd (qv false (hs.map toH) p k) (truthsT (hs.map toH) hung (looks.map toL))).1 = lo := ⟨_, rfl⟩
  obtain ⟨hi, hhi⟩ : ∃ hi, (bnd (qv false (hs.map toH) p k) (truthsT (hs.map toH) hung (looks.map toL))).2 = hi := ⟨_, rfl⟩
  have HRB := Aside0.mk (rd_bounds (hs.map toH) p (truthsT (hs.map toH) hung (looks.map toL)) hs.length k HKL.out)
  rw [hlo, hhi] at HRB
  rw [hlo, hhi, HL.out] at HE
  rw [HL.out] at HTS
  clear h1 hT hlo hhi
  obtain ⟨bl, hbl⟩ : ∃ bl, boundsL (hs.map toH) p (truthsT (hs.map toH) hung (looks.map toL)) hs.length = bl := ⟨_, rfl⟩
  have hblen : bl.length = hs.length := by rw [← hbl]; simp [boundsL]
  have HBL := Aside0.mk hblen
  rw [hbl] at HRB HBD
  have hbe : ((bl.length : Int) != (hs.length : Int)) = false := by rw [hblen]; simp
  rw [hbl]
  clear hbl hblen HBS
  go_wp2_with fail
  go_loopg [12, 13, 14] L.length (fun kq v12 v13 v14 wr => ∃ (i : Nat) (low high : Bool), v14 = .int .i64 i ∧ v12 = .bool low ∧ v13 = .bool high ∧ Aside0 (i + kq = L.length) ∧ Aside0 (anyV (fun d => mins (hs.map toH) p d k) lo L i = low) ∧ Aside0 (anyV (fun d => mins (hs.map toH) p d k) hi L i = high) ∧ Aside0 (Below w.heap.size w wr) ∧ Aside0 (Box wr w.heap.size cs cl A2 A3 A4 hs.length hung.length looks.length c2 c3 c4) ∧ Aside0 (Ls .i64 wr B d p) ∧ Aside0 (Bd wr BB bB bl) ∧ Aside0 (Tr wr BT bT L))
  case atStart => exact ⟨0, false, false, rfl, rfl, rfl, ⟨by omega⟩, ⟨rfl⟩, ⟨rfl⟩, HB, HK, HLI, HBD, HTR⟩
  case round =>
    clear b0 b1 b2 b3 b4 HB HK HLI HBD HTR
    obtain ⟨i, low, high, rfl, rfl, rfl, HN, HLO, HHI, HB, HK, HLI, HBD, HTR⟩ := hrel
    have b0 := HK.out.at0
    have b1 := HK.out.at1
    have b2 := HK.out.at2
    have b3 := HK.out.at3
    have b4 := HK.out.at4
    by_cases hlt : i < L.length
    · obtain ⟨kq, rfl⟩ : ∃ kq, gk = kq + 1 := ⟨gk - 1, by have := HN.out; omega⟩
      have h1 : (i : Int) < (L.length : Int) := by omega
      have h0 : (0 : Int) ≤ (i : Int) := by omega
      have hL9 : L.length ≤ 100000 := HTS.out.1
      obtain ⟨ad, A0, c0, rfl, hx, hrow⟩ := HTR.out.at i hlt
      have HROW := Aside0.mk hrow
      clear hrow
      obtain ⟨m, hm⟩ : ∃ m, mins (hs.map toH) p (nums (rd_L9 L i)) k = m := ⟨_, rfl⟩
      have HMI := Aside0.mk hm
      have HRT := Aside0.mk (HTS.out.2 i hlt)
      have HLT := Aside0.mk hlt
      clear hm hlt
      go_wp2_with fail
      go_region_held3 (fun W' => Below w.heap.size w W' ∧ Box W' w.heap.size cs cl A2 A3 A4 hs.length hung.length looks.length c2 c3 c4 ∧ Ls .i64 W' B d p ∧ Bd W' BB bB bl ∧ Tr W' (some ad) bT L ∧ Ls .i64 W' A0 c0 (rd_L9 L i) ∧ W'.cell? ⟨w.heap.size, 0, none⟩ = some (.int .i64 cs) ∧ W'.cell? ⟨w.heap.size, 1, none⟩ = some (.int .i64 cl) ∧ W'.cell? ⟨w.heap.size, 2, none⟩ = some (.slice A2 hs.length c2) ∧ W'.cell? ⟨w.heap.size, 3, none⟩ = some (.slice A3 hung.length c3) ∧ W'.cell? ⟨w.heap.size, 4, none⟩ = some (.slice A4 looks.length c4) ∧ W'.cell? (ad.add i) = some (.slice A0 (rd_L9 L i).length c0)) (first | exact ⟨below_drew HB.out, HK.out, HLI.out, HBD.out, HTR.out, HROW.out, b0, b1, b2, b3, b4, hx⟩ | (go_split_ands; with_reducible exact ⟨below_step (by assumption) hbx.out, Box.later (by assumption) hbx.out, Ls.later (by assumption) hbx.out, Bd.later (by assumption) hbx.out, Tr.later (by assumption) hbx.out, Ls.later (by assumption) hbx.out, later hbx.out (by assumption), later hbx.out (by assumption), later hbx.out (by assumption), later hbx.out (by assumption), later hbx.out (by assumption), later hbx.out (by assumption)⟩)) ((first | (go_at_call 55; go_split_ands; refine (minute_q (HM.out.later (by assumption)) (show Ls .i64 _ B d p from by assumption) (show Ls .i64 _ A0 c0 (rd_L9 L i) from by assumption) HV.out HP.out HRT.out.1 HRT.out.2 k HKL.out HMI.out).mono ?_; rintro e wx ⟨rfl, hbx⟩; replace hbx := Aside0.mk hbx)))
      go_split_ands
      replace HB : Aside0 (Below w.heap.size w wx) := ⟨by assumption⟩
      replace HK : Aside0 (Box wx w.heap.size cs cl A2 A3 A4 hs.length hung.length looks.length c2 c3 c4) := ⟨by assumption⟩
      replace HLI : Aside0 (Ls .i64 wx B d p) := ⟨by assumption⟩
      replace HBD : Aside0 (Bd wx BB bB bl) := ⟨by assumption⟩
      replace HTR : Aside0 (Tr wx (some ad) bT L) := ⟨by assumption⟩
      replace HROW : Aside0 (Ls .i64 wx A0 c0 (rd_L9 L i)) := ⟨by assumption⟩
      replace b0 := HK.out.at0
      replace b1 := HK.out.at1
      replace b2 := HK.out.at2
      replace b3 := HK.out.at3
      replace b4 := HK.out.at4
      obtain ⟨aB, rfl, hq0, hq1⟩ := at_T61 HBD.out.1 (k : Int) (by omega) (by have := HBL.out; have := HKL.out; omega)
      rw [Int.toNat_natCast] at hq0 hq1
      rw [HRB.out] at hq0 hq1
      have hk0 : (0 : Int) ≤ (k : Int) := by omega
      have hk1 : (k : Int) < (bl.length : Int) := by have := HBL.out; have := HKL.out; omega
      have HLO2 : Aside0 (anyV (fun d => mins (hs.map toH) p d k) lo L (i + 1) = (low || (m == lo))) := ⟨by rw [anyV_succ _ _ _ _ HLT.out, HLO.out, HMI.out]⟩
      have HHI2 : Aside0 (anyV (fun d => mins (hs.map toH) p d k) hi L (i + 1) = (high || (m == hi))) := ⟨by rw [anyV_succ _ _ _ _ HLT.out, HHI.out, HMI.out]⟩
      clear HLO HHI
      go_wp2_with fail
      cases low <;> cases high
      all_goals
        refine wp_region_held_drew (S := fun W' => Below w.heap.size w W' ∧ Box W' w.heap.size cs cl A2 A3 A4 hs.length hung.length looks.length c2 c3 c4 ∧ Ls .i64 W' B d p ∧ Bd W' (some aB) bB bl ∧ Tr W' (some ad) bT L ∧ W'.cell? (aB.add (k * 2)) = some (.int .i64 lo) ∧ W'.cell? ⟨(aB.add (k * 2)).block, (aB.add (k * 2)).off + 1, none⟩ = some (.int .i64 hi)) (by kernel_rfl) ?hS (fun hHeld => ?_)
        case hS => exact ⟨below_drew HB.out, HK.out, HLI.out, HBD.out, HTR.out, hq0, hq1⟩
        refine tkT 0 (some 77) (v := ?_) rfl rfl (.inl ⟨by rfl, ?_⟩) ?_
        rotate_left
        · (intro w hSw; (try dsimp only at hSw); go_simp; with_reducible rfl)
        try simp only [pS]
        refine tkT 1 (some 78) (v := ?_) rfl rfl (.inl ⟨by rfl, ?_⟩) ?_
        rotate_left
        · (intro w hSw; (try dsimp only at hSw); go_simp; with_reducible rfl)
        try simp only [pS]
        first | (refine tkT 2 (some 79) (v := undef) rfl rfl (.inr ⟨by rfl, rfl⟩) ?_) | (refine tkT 2 (some 79) (v := ?_) rfl rfl (.inl ⟨by rfl, ?_⟩) ?_; rotate_left; · (intro w hSw; (try dsimp only at hSw); go_simp; with_reducible rfl))
        try simp only [pS]
        first | (refine tkT 3 (some 80) (v := undef) rfl rfl (.inr ⟨by rfl, rfl⟩) ?_) | (refine tkT 3 (some 80) (v := ?_) rfl rfl (.inl ⟨by rfl, ?_⟩) ?_; rotate_left; · (intro w hSw; (try dsimp only at hSw); go_simp; with_reducible rfl))
        try simp only [pS]
        first | (refine tkT 4 (some 81) (v := undef) rfl rfl (.inr ⟨by rfl, rfl⟩) ?_) | (refine tkT 4 (some 81) (v := ?_) rfl rfl (.inl ⟨by rfl, ?_⟩) ?_; rotate_left; · (intro w hSw; (try dsimp only at hSw); go_simp; with_reducible rfl))
        try simp only [pS]
        first | (refine tkT 5 (some 82) (v := undef) rfl rfl (.inr ⟨by rfl, rfl⟩) ?_) | (refine tkT 5 (some 82) (v := ?_) rfl rfl (.inl ⟨by rfl, ?_⟩) ?_; rotate_left; · (intro w hSw; (try dsimp only at hSw); go_simp; with_reducible rfl))
        try simp only [pS]
        first | (refine tkT 6 (some 83) (v := undef) rfl rfl (.inr ⟨by rfl, rfl⟩) ?_) | (refine tkT 6 (some 83) (v := ?_) rfl rfl (.inl ⟨by rfl, ?_⟩) ?_; rotate_left; · (intro w hSw; (try dsimp only at hSw); go_simp; with_reducible rfl))
        try simp only [pS]
        first | (refine tkT 7 (some 84) (v := undef) rfl rfl (.inr ⟨by rfl, rfl⟩) ?_) | (refine tkT 7 (some 84) (v := ?_) rfl rfl (.inl ⟨by rfl, ?_⟩) ?_; rotate_left; · (intro w hSw; (try dsimp only at hSw); go_simp; with_reducible rfl))
        try simp only [pS]
        first | (refine tkT 8 (some 85) (v := undef) rfl rfl (.inr ⟨by rfl, rfl⟩) ?_) | (refine tkT 8 (some 85) (v := ?_) rfl rfl (.inl ⟨by rfl, ?_⟩) ?_; rotate_left; · (intro w hSw; (try dsimp only at hSw); go_simp; with_reducible rfl))
        try simp only [pS]
        refine tkT 9 (some 86) (v := ?_) rfl rfl (.inl ⟨by rfl, ?_⟩) ?_
        rotate_left
        · (intro w hSw; (try dsimp only at hSw); go_simp; with_reducible rfl)
        try simp only [pS]
        refine tkT 10 (some 87) (v := ?_) rfl rfl (.inl ⟨by rfl, ?_⟩) ?_
        rotate_left
        · (intro w hSw; (try dsimp only at hSw); go_simp; with_reducible rfl)
        try simp only [pS]
        refine tkT 11 (some 88) (v := ?_) rfl rfl (.inl ⟨by rfl, ?_⟩) ?_
        rotate_left
        · (intro w hSw; (try dsimp only at hSw); go_simp; with_reducible rfl)
        try simp only [pS]
        first | (refine tkT 12 (some 89) (v := undef) rfl rfl (.inr ⟨by rfl, rfl⟩) ?_) | (refine tkT 12 (some 89) (v := ?_) rfl rfl (.inl ⟨by rfl, ?_⟩) ?_; rotate_left; · (intro w hSw; (try dsimp only at hSw); go_simp; with_reducible rfl))
        try simp only [pS]
        first | (refine tkT 13 (some 90) (v := undef) rfl rfl (.inr ⟨by rfl, rfl⟩) ?_) | (refine tkT 13 (some 90) (v := ?_) rfl rfl (.inl ⟨by rfl, ?_⟩) ?_; rotate_left; · (intro w hSw; (try dsimp only at hSw); go_simp; with_reducible rfl))
        try simp only [pS]
        first | (refine tkT 14 (some 91) (v := undef) rfl rfl (.inr ⟨by rfl, rfl⟩) ?_) | (refine tkT 14 (some 91) (v := ?_) rfl rfl (.inl ⟨by rfl, ?_⟩) ?_; rotate_left; · (intro w hSw; (try dsimp only at hSw); go_simp; with_reducible rfl))
        try simp only [pS]
        first | (refine tkT 15 (some 92) (v := undef) rfl rfl (.inr ⟨by rfl, rfl⟩) ?_) | (refine tkT 15 (some 92) (v := ?_) rfl rfl (.inl ⟨by rfl, ?_⟩) ?_; rotate_left; · (intro w hSw; (try dsimp only at hSw); go_simp; with_reducible rfl))
        try simp only [pS]
        first | (refine tkT 16 (some 93) (v := undef) rfl rfl (.inr ⟨by rfl, rfl⟩) ?_) | (refine tkT 16 (some 93) (v := ?_) rfl rfl (.inl ⟨by rfl, ?_⟩) ?_; rotate_left; · (intro w hSw; (try dsimp only at hSw); go_simp; with_reducible rfl))
        try simp only [pS]
        first | (refine tkT 17 (some 94) (v := undef) rfl rfl (.inr ⟨by rfl, rfl⟩) ?_) | (refine tkT 17 (some 94) (v := ?_) rfl rfl (.inl ⟨by rfl, ?_⟩) ?_; rotate_left; · (intro w hSw; (try dsimp only at hSw); go_simp; with_reducible rfl))
        try simp only [pS]
        first | (refine tkT 18 (some 95) (v := undef) rfl rfl (.inr ⟨by rfl, rfl⟩) ?_) | (refine tkT 18 (some 95) (v := ?_) rfl rfl (.inl ⟨by rfl, ?_⟩) ?_; rotate_left; · (intro w hSw; (try dsimp only at hSw); go_simp; with_reducible rfl))
        try simp only [pS]
        refine tkT 19 (some 96) (v := ?_) rfl rfl (.inl ⟨by rfl, ?_⟩) ?_
        rotate_left
        · (intro w hSw; (try dsimp only at hSw); go_simp; with_reducible rfl)
        try simp only [pS]
        refine tkT 20 (some 12) (v := ?_) rfl rfl (.inl ⟨by rfl, ?_⟩) ?_
        rotate_left
        · (intro w hSw; (try dsimp only at hSw); go_simp; with_reducible rfl)
        try simp only [pS]
        refine tkT 21 (some 13) (v := ?_) rfl rfl (.inl ⟨by rfl, ?_⟩) ?_
        rotate_left
        · (intro w hSw; (try dsimp only at hSw); go_simp; with_reducible rfl)
        try simp only [pS]
        refine wpAnyH_done (by kernel_rfl) ?_ _
        rotate_left
        go_wp2_with fail
        go_roundg kq
        case measure => omega
        case rel => exact ⟨i + 1, _, _, by go_num, rfl, rfl, ⟨by have := HN.out; omega⟩, HLO2, HHI2, ⟨hHeld.1⟩, ⟨hHeld.2.1⟩, ⟨hHeld.2.2.1⟩, ⟨hHeld.2.2.2.1⟩, ⟨hHeld.2.2.2.2.1⟩⟩
    · have h1 : ¬ (i : Int) < (L.length : Int) := by omega
      have hi' : i = L.length := by have := HN.out; omega
      subst hi'
      obtain rfl : true = low := by rw [← HLO.out, HE.out.1]
      obtain rfl : true = high := by rw [← HHI.out, HE.out.2]
      clear hlt
      go_wp2_with fail
      refine (awake_calls _).mono ?_
      rintro e w9 ⟨rfl, hb⟩
      replace HB := Aside0.mk (below_step HB.out hb)
      clear hb
      go_wp2_with fail
      go_ret
      exact ⟨rfl, HB.out⟩
end Go.Proofs.Ytokhmghgghjmhaa.Q
