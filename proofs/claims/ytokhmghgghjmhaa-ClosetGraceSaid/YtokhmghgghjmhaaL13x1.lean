/- Part L13x1 of the proof (P1, P2, P3, YD, YT, YN, YK, PR, PG, YH, HW): contracts of functions, and plain lemmas about what they compute. -/
import Derived.Test.YtokhmghgghjmhaaA0
import Derived.Test.YtokhmghgghjmhaaA1
import Derived.Test.YtokhmghgghjmhaaA2
import Derived.Test.YtokhmghgghjmhaaA3
import Derived.Test.YtokhmghgghjmhaaA4
import Derived.Test.YtokhmghgghjmhaaB0
import Derived.Test.YtokhmghgghjmhaaB1
import Derived.Test.YtokhmghgghjmhaaB2
import Derived.Test.YtokhmghgghjmhaaB3
import Derived.Test.YtokhmghgghjmhaaB4
import Derived.Test.YtokhmghgghjmhaaB5
import Derived.Test.YtokhmghgghjmhaaB6
import Derived.Test.YtokhmghgghjmhaaL13x0
namespace Go.Proofs.Ytokhmghgghjmhaa.Q
open Go.RowKit Go.Proofs.YtokhmghgghjmhaaW.PrintWords Go.Proofs.YtokhmghgghjmhaaW.PrintLast Go.Proofs.YtokhmghgghjmhaaW.PrintMore
set_option linter.unusedVariables false
def atF (p : List Int) (x : Int) : Nat → Nat → Int
  | 0, _ => -1
  | d + 1, i => if rd p i = x then (i : Int) else atF p x d (i + 1)
theorem at_l0 (p : List Int) (x : Int) (hl : p.length ≤ 1000) : ∀ (d i k : Nat), i + d = p.length → d < k → posserref04_at.l0 k p x i = some (atF p x d i)
  | 0, i, k, h, hk => by
    obtain ⟨k, rfl⟩ : ∃ m, k = m + 1 := ⟨k - 1, by omega⟩
    simp only [posserref04_at.l0, atF]
    rw [if_neg (by omega)]
  | d + 1, i, k, h, hk => by
    obtain ⟨k, rfl⟩ : ∃ m, k = m + 1 := ⟨k - 1, by omega⟩
    have ih := at_l0 p x hl d (i + 1) k (by omega) (by omega)
    simp only [posserref04_at.l0, atF]
    rw [if_pos (by omega), if_pos (by omega), show wrap64 ((i : Int) + 1) = ((i + 1 : Nat) : Int) from by unfold wrap64; omega, ih]
    split <;> rfl
theorem at_f (p : List Int) (x : Int) (hl : p.length ≤ 1000) (k : Nat) (hk : 1000 < k) : posserref04_at.f k p x = some (atF p x p.length 0) := by
  unfold posserref04_at.f
  exact at_l0 p x hl p.length 0 k (by omega) (by omega)
theorem atF_tells (p : List Int) (x : Int) : ∀ (d i : Nat), i + d = p.length → (∃ j : Nat, i ≤ j ∧ j < p.length ∧ rd p j = x ∧ atF p x d i = j) ∨ ((∀ j : Nat, i ≤ j → j < p.length → rd p j ≠ x) ∧ atF p x d i = -1)
  | 0, i, h => .inr ⟨fun j h1 h2 => by omega, rfl⟩
  | d + 1, i, h => by
    simp only [atF]
    by_cases e : rd p i = x
    · exact .inl ⟨i, Nat.le_refl _, by omega, e, by rw [if_pos e]⟩
    · rw [if_neg e]
      rcases atF_tells p x d (i + 1) (by omega) with ⟨j, h1, h2, h3, h4⟩ | ⟨h1, h2⟩
      · exact .inl ⟨j, by omega, h2, h3, h4⟩
      · refine .inr ⟨fun j h3 h4 => ?_, h2⟩
        by_cases hj : j = i
        · subst hj; exact e
        · exact h1 j (by omega) h4
/-- What the horses in one closet add. -/
def sW (hs : List S139) (p : List Int) (x : Int) : Nat → Int
  | 0 => 0
  | k + 1 => sW hs p x k + (if rd p k = x then (rd_T139 hs k).f1 else 0)
theorem adds_sW (hs : List S139) (p : List Int) (i : Nat) : ∀ n, adds hs p i n = sW hs p (rd p i - 1) n + sW hs p (rd p i + 1) n
  | 0 => rfl
  | n + 1 => by
    simp only [adds, sW, adds_sW hs p i n, wet]
    by_cases h1 : rd p n = rd p i - 1
    · rw [if_pos (.inl (by omega)), if_pos h1, if_neg (by omega)]; omega
    · by_cases h2 : rd p n = rd p i + 1
      · rw [if_pos (.inr (by omega)), if_neg h1, if_pos h2]; omega
      · rw [if_neg (by omega), if_neg h1, if_neg h2]; omega
theorem sW_none (hs : List S139) (p : List Int) (x : Int) : ∀ n, (∀ j : Nat, j < n → rd p j ≠ x) → sW hs p x n = 0
  | 0, _ => rfl
  | n + 1, h => by
    simp only [sW]
    rw [sW_none hs p x n (fun j hj => h j (by omega)), if_neg (h n (by omega))]
    rfl
theorem sW_one (hs : List S139) (p : List Int) (x : Int) (j : Nat) (hx : rd p j = x) : ∀ n, j < n → (∀ m : Nat, m < n → m ≠ j → rd p m ≠ x) → sW hs p x n = (rd_T139 hs j).f1
  | 0, h, _ => by omega
  | n + 1, h, hm => by
    simp only [sW]
    by_cases e : j = n
    · subst e
      rw [sW_none hs p x j (fun m h1 => hm m (by omega) (by omega)), if_pos hx]
      omega
    · rw [sW_one hs p x j hx n (by omega) (fun m h1 h2 => hm m (by omega) h2), if_neg (hm n (by omega) (by omega))]
      omega
theorem at_sW {cs : Int} {n : Nat} {p : List Int} (P : Pl cs n p) (hs : List S139) (x : Int) : (atF p x p.length 0 = -1 ∧ sW hs p x p.length = 0) ∨ ∃ j : Nat, j < p.length ∧ atF p x p.length 0 = j ∧ sW hs p x p.length = (rd_T139 hs j).f1 := by
  rcases atF_tells p x p.length 0 (by omega) with ⟨j, _, h2, h3, h4⟩ | ⟨h1, h2⟩
  · exact .inr ⟨j, h2, h4, sW_one hs p x j h3 _ h2 (fun m h5 h6 e => P.apart m j h5 h2 h6 (e.trans h3.symm))⟩
  · exact .inl ⟨h2, sW_none hs p x _ (fun j hj => h1 j (Nat.zero_le _) hj)⟩
theorem minute_f {cs cl : Int} {hs : List S68} {hung : List Int} {looks : List S84} {p d : List Int} (P : Pl cs hs.length p) (hcs : cs ≤ 1000) (h4 : hs.length ≤ 4) (hw : Wets (hs.map toH)) (hd : d.length = hs.length) (hdb : ∀ i : Nat, 0 ≤ rd d i ∧ rd d i ≤ 60)
    (i : Nat) (hi : i < hs.length) (k : Nat) (hk : 1000 < k) : posserref04_Minute.f k cs cl hs hung looks p d i = some (mins (hs.map toH) p (fun j => rd d j) i) := by
  have hpl := P.len
  have hin := P.inside i (by omega)
  have hdi := hdb i
  have hA := adds_sW (hs.map toH) p i p.length
  have hm : mins (hs.map toH) p (fun j => rd d j) i = rd d i + (sW (hs.map toH) p (rd p i - 1) p.length + sW (hs.map toH) p (rd p i + 1) p.length) := by
    unfold mins
    rw [if_pos (by omega), hA]
  have hwb : ∀ j : Nat, j < hs.length → (rd_T139 (hs.map toH) j).f1 = (rd_T68 hs j).f1 ∧ 0 ≤ (rd_T68 hs j).f1 ∧ (rd_T68 hs j).f1 ≤ 9 := by
    intro j hj
    have h1 := hw j (by simpa using hj)
    have h2 := rd_toH hs j
    rw [h2] at h1 ⊢
    exact ⟨rfl, h1⟩
  unfold posserref04_Minute.f
  have e1 : wrap64 (rd p (i : Int) - 1) = rd p i - 1 := by unfold wrap64; omega
  have e2 : wrap64 (rd p (i : Int) + 1) = rd p i + 1 := by unfold wrap64; omega
  rw [if_pos (by omega), if_pos (by omega), if_pos (by omega), e1, e2, at_f p _ (by omega) k hk, at_f p _ (by omega) k hk, hm]
  simp only [Option.bind_some]
  rcases at_sW P (hs.map toH) (rd p i - 1) with ⟨a1, b1⟩ | ⟨j1, c1, a1, b1⟩
  · rw [a1, b1, if_neg (by omega)]
    rcases at_sW P (hs.map toH) (rd p i + 1) with ⟨a2, b2⟩ | ⟨j2, c2, a2, b2⟩
    · rw [a2, b2, if_neg (by omega)]
      simp
    · obtain ⟨g1, g2, g3⟩ := hwb j2 (by omega)
      rw [a2, b2, if_pos (by omega), if_pos (by omega), if_pos (by omega), g1]
      congr 1
      unfold wrap64
      omega
  · obtain ⟨f1, f2, f3⟩ := hwb j1 (by omega)
    rw [a1, b1, if_pos (by omega), if_pos (by omega), if_pos (by omega), f1]
    rcases at_sW P (hs.map toH) (rd p i + 1) with ⟨a2, b2⟩ | ⟨j2, c2, a2, b2⟩
    · rw [a2, b2, if_neg (by omega)]
      congr 1
      unfold wrap64
      omega
    · obtain ⟨g1, g2, g3⟩ := hwb j2 (by omega)
      rw [a2, b2, if_pos (by omega), if_pos (by omega), if_pos (by omega), g1]
      congr 1
      unfold wrap64
      omega
end Go.Proofs.Ytokhmghgghjmhaa.Q
namespace Go.Proofs.Ytokhmghgghjmhaa.Q
open Go.RowKit Go.Proofs.YtokhmghgghjmhaaW.PrintWords Go.Proofs.YtokhmghgghjmhaaW.PrintLast Go.Proofs.YtokhmghgghjmhaaW.PrintMore
set_option linter.unusedVariables false
def nthF (hs : List S139) : Nat → Nat → Nat → List Int
  | 0, _, _ => []
  | d + 1, i, n => ((rd_T139 hs i).f0.f0 + ((n % szN hs i : Nat) : Int)) :: nthF hs d (i + 1) (n / szN hs i)
/-- Each horse's dry numbers are some, and few. -/
def Dries (hs : List S139) : Prop := ∀ i : Nat, i < hs.length → 1 ≤ (rd_T139 hs i).f0.f0 ∧ (rd_T139 hs i).f0.f0 ≤ (rd_T139 hs i).f0.f1 ∧ (rd_T139 hs i).f0.f1 ≤ 60
theorem sz_ok {hs : List S139} (D : Dries hs) (i : Nat) (hi : i < hs.length) : (szN hs i : Int) = (rd_T139 hs i).f0.f1 + 1 - (rd_T139 hs i).f0.f0 ∧ 1 ≤ szN hs i ∧ szN hs i ≤ 60 := by
  have := D i hi
  unfold szN
  omega
theorem nthF_len (hs : List S139) : ∀ (d i n : Nat), (nthF hs d i n).length = d
  | 0, _, _ => rfl
  | d + 1, i, n => by simp only [nthF, List.length_cons, nthF_len hs d (i + 1)]
theorem rd_cons0 (a : Int) (l : List Int) : rd (a :: l) ((0 : Nat) : Int) = a := by rw [rd_nn]; rfl
theorem rd_cons (a : Int) (l : List Int) (j : Nat) : rd (a :: l) ((j + 1 : Nat) : Int) = rd l j := by rw [rd_nn, rd_nn]; rfl
theorem rd_out (l : List Int) (j : Nat) (h : l.length ≤ j) : rd l j = 0 := by
  rw [rd_nn, List.getD_eq_getElem?_getD, List.getElem?_eq_none h]; rfl
theorem nthF_box {hs : List S139} (D : Dries hs) : ∀ (d i n j : Nat), i + d = hs.length → j < d → (rd_T139 hs (i + j : Nat)).f0.f0 ≤ rd (nthF hs d i n) j ∧ rd (nthF hs d i n) j ≤ (rd_T139 hs (i + j : Nat)).f0.f1
  | 0, i, n, j, _, hj => by omega
  | d + 1, i, n, 0, h, hj => by
    have h1 := sz_ok D i (by omega)
    have h2 := Nat.mod_lt n h1.2.1
    simp only [nthF, Nat.add_zero]
    rw [rd_cons0]
    omega
  | d + 1, i, n, j + 1, h, hj => by
    have ih := nthF_box D d (i + 1) (n / szN hs i) j (by omega) (by omega)
    simp only [nthF]
    rw [rd_cons, show i + (j + 1) = i + 1 + j from by omega]
    exact ih
/-- Each row of dry numbers has a number. -/
theorem nthF_surj {hs : List S139} (D : Dries hs) : ∀ (d i : Nat) (y : Nat → Int), i + d = hs.length → (∀ j : Nat, j < d → (rd_T139 hs (i + j : Nat)).f0.f0 ≤ y j ∧ y j ≤ (rd_T139 hs (i + j : Nat)).f0.f1) →
    ∃ n, n < prN hs d i ∧ ∀ j : Nat, j < d → rd (nthF hs d i n) j = y j
  | 0, i, y, _, _ => ⟨0, by simp [prN], fun j hj => by omega⟩
  | d + 1, i, y, h, hy => by
    have h1 := sz_ok D i (by omega)
    have h0 := hy 0 (by omega)
    obtain ⟨m, hm, hmj⟩ := nthF_surj D d (i + 1) (fun j => y (j + 1)) (by omega) (fun j hj => by rw [show i + 1 + j = i + (j + 1) from by omega]; exact hy (j + 1) (by omega))
    simp only [Nat.add_zero] at h0
    obtain ⟨r, hr⟩ : ∃ r : Nat, (r : Int) = y 0 - (rd_T139 hs i).f0.f0 := ⟨(y 0 - (rd_T139 hs i).f0.f0).toNat, by omega⟩
    have hrs : r < szN hs i := by omega
    refine ⟨m * szN hs i + r, ?_, fun j hj => ?_⟩
    · simp only [prN]
      have : (m + 1) * szN hs i ≤ prN hs d (i + 1) * szN hs i := Nat.mul_le_mul_right _ hm
      rw [Nat.mul_comm (szN hs i)]
      rw [Nat.add_mul, Nat.one_mul] at this
      omega
    · have e1 : (m * szN hs i + r) % szN hs i = r := by rw [Nat.mul_comm, Nat.mul_add_mod, Nat.mod_eq_of_lt hrs]
      have e2 : (m * szN hs i + r) / szN hs i = m := by rw [Nat.mul_comm, Nat.mul_add_div (by omega), Nat.div_eq_of_lt hrs]; omega
      simp only [nthF]
      rw [e1, e2]
      cases j with
      | zero => rw [rd_cons0]; omega
      | succ j => rw [rd_cons]; exact hmj j (by omega)
/-- Each row in the ranges is among all. -/
theorem allN_of (hs : List S139) : ∀ (d h : Nat) (x y : Nat → Int), (∀ i, i < h ∨ h + d ≤ i → y i = x i) → (∀ i : Nat, h ≤ i → i < h + d → (rd_T139 hs i).f0.f0 ≤ y i ∧ y i ≤ (rd_T139 hs i).f0.f1) → y ∈ allN hs d h x
  | 0, h, x, y, h1, _ => by
    simp only [allN, List.mem_singleton]
    exact funext fun i => h1 i (by omega)
  | d + 1, h, x, y, h1, h2 => by
    have hh := h2 h (Nat.le_refl _) (by omega)
    simp only [allN, List.mem_flatMap]
    refine ⟨y h, ?_, ?_⟩
    · simp only [vals, List.mem_map, List.mem_range]
      exact ⟨(y h - (rd_T139 hs h).f0.f0).toNat, by omega, by omega⟩
    · refine allN_of hs d (h + 1) (upd x h (y h)) y (fun i hi => ?_) (fun i hi1 hi2 => h2 i (by omega) (by omega))
      unfold upd
      split
      · rename_i e; rw [e]
      · exact h1 i (by omega)
theorem dries_iff {hs : List S139} (y : Nat → Int) : y ∈ dries hs ↔ (∀ i, hs.length ≤ i → y i = 0) ∧ ∀ i : Nat, i < hs.length → (rd_T139 hs i).f0.f0 ≤ y i ∧ y i ≤ (rd_T139 hs i).f0.f1 := by
  constructor
  · intro h
    obtain ⟨h1, h2⟩ := allN_mem hs hs.length 0 _ y (by omega) h
    exact ⟨fun i hi => h1 i (.inr hi), fun i hi => h2 i (Nat.zero_le _) hi⟩
  · rintro ⟨h1, h2⟩
    exact allN_of hs hs.length 0 (fun _ => 0) y (fun i hi => h1 i (by omega)) (fun i _ hi => h2 i (by omega))
/-- The dry numbers with the numbers are all dry numbers. -/
theorem nth_dries {hs : List S139} (D : Dries hs) (n : Nat) : nums (nthF hs hs.length 0 n) ∈ dries hs := by
  refine (dries_iff _).2 ⟨fun i hi => rd_out _ _ (by rw [nthF_len]; exact hi), fun i hi => ?_⟩
  have := nthF_box D hs.length 0 n i (by omega) hi
  rwa [Nat.zero_add] at this
theorem dries_nth {hs : List S139} (D : Dries hs) {y : Nat → Int} (h : y ∈ dries hs) : ∃ n, n < prN hs hs.length 0 ∧ nums (nthF hs hs.length 0 n) = y := by
  obtain ⟨h1, h2⟩ := (dries_iff y).1 h
  obtain ⟨n, hn, hj⟩ := nthF_surj D hs.length 0 y (by omega) (fun j hj => by rw [Nat.zero_add]; exact h2 j hj)
  refine ⟨n, hn, funext fun i => ?_⟩
  by_cases hi : i < hs.length
  · exact hj i hi
  · rw [h1 i (by omega)]; exact rd_out _ _ (by rw [nthF_len]; omega)
theorem keep1_sub {hs : List S139} {hung : List Int} {looks : List S140} {ts : List (Nat → Int)} {d t : Nat → Int} (h : t ∈ ts) : t ∈ keep1 hs hung looks ts d := by
  unfold keep1
  split
  · exact List.mem_append_left _ h
  · exact h
theorem keep_sub {hs : List S139} {hung : List Int} {looks : List S140} : ∀ (pre ts : List (Nat → Int)) (t : Nat → Int), t ∈ ts → t ∈ pre.foldl (keep1 hs hung looks) ts
  | [], ts, t, h => h
  | d :: r, ts, t, h => keep_sub r _ t (keep1_sub h)
theorem keep_all {hs : List S139} {hung : List Int} {looks : List S140} (h4 : hs.length ≤ 4) : ∀ (pre ts : List (Nat → Int)), (∀ t ∈ ts, ∀ i, hs.length ≤ i → t i = 0) → (∀ t ∈ pre, ∀ i, hs.length ≤ i → t i = 0) →
    ∀ d ∈ pre, rightB hs hung looks d [] = true → d ∈ pre.foldl (keep1 hs hung looks) ts
  | [], ts, _, _, d, h, _ => by cases h
  | a :: r, ts, h0, h1, d, h, hr => by
    have hk : ∀ t ∈ keep1 hs hung looks ts a, ∀ i, hs.length ≤ i → t i = 0 := by
      intro t ht
      unfold keep1 at ht
      split at ht
      · rcases List.mem_append.1 ht with h | h
        · exact h0 t h
        · rw [List.mem_singleton] at h; subst h; exact h1 _ (List.mem_cons_self)
      · exact h0 t ht
    rcases List.mem_cons.1 h with rfl | h
    · refine keep_sub r _ d ?_
      unfold keep1
      by_cases hc : rightB hs hung looks d [] = true ∧ (ts = [] ∨ ne4 (rdN ts (ts.length - 1)) d = true)
      · rw [if_pos hc]; exact List.mem_append_right _ (List.mem_singleton.2 rfl)
      · rw [if_neg hc]
        have hne : ts ≠ [] := fun e => hc ⟨hr, .inl e⟩
        have heq : ne4 (rdN ts (ts.length - 1)) d = false := by
          cases e : ne4 (rdN ts (ts.length - 1)) d
          · rfl
          · exact absurd ⟨hr, .inr e⟩ hc
        have hlt : ts.length - 1 < ts.length := by have := List.length_pos_iff.2 hne; omega
        have hmem : rdN ts (ts.length - 1) ∈ ts := by
          unfold rdN
          rw [List.getD_eq_getElem?_getD, List.getElem?_eq_getElem hlt]
          exact List.getElem_mem hlt
        have : rdN ts (ts.length - 1) = d := by
          simp only [ne4, Bool.not_eq_false', Bool.and_eq_true, decide_eq_true_eq] at heq
          funext i
          by_cases hi : i < 4
          · rcases i with _ | _ | _ | _ | i
            · exact heq.1.1.1
            · exact heq.1.1.2
            · exact heq.1.2
            · exact heq.2
            · omega
          · rw [h0 _ hmem i (by omega), h1 d List.mem_cons_self i (by omega)]
        rw [← this]
        exact hmem
    · exact keep_all h4 r _ hk (fun t ht => h1 t (List.mem_cons_of_mem _ ht)) d h hr
theorem truths_iff {hs : List S139} {hung : List Int} {looks : List S140} (h4 : hs.length ≤ 4) (d : Nat → Int) : d ∈ truthsT hs hung looks ↔ d ∈ dries hs ∧ rightB hs hung looks d [] = true :=
  ⟨truths_mem, fun h => keep_all h4 (dries hs) [] (fun t ht => by cases ht) (fun t ht => ((dries_iff t).1 ht).1) d h.1 h.2⟩
end Go.Proofs.Ytokhmghgghjmhaa.Q
namespace Go.Proofs.Ytokhmghgghjmhaa.Q
open Go.RowKit Go.Proofs.YtokhmghgghjmhaaW.PrintWords Go.Proofs.YtokhmghgghjmhaaW.PrintLast Go.Proofs.YtokhmghgghjmhaaW.PrintMore
set_option linter.unusedVariables false
def bitF : List Bool → Nat → Int → Int
  | [], _, x => x
  | b :: l, i, x => bitF l (i + 1) (if b = true then Go.bits .or .i64 x (shl .i64 1 (IntKind.u64.wrap (i : Int))) else x)
theorem bit_full : ∀ l : List Bool, l.length ≤ 5 → (bitF l 0 0 = wrap64 ((shl .i64 1 (IntKind.u64.wrap (l.length : Int))) - 1) ↔ l.all id = true)
  | [], _ => by decide +kernel
  | [a], _ => by cases a <;> decide +kernel
  | [a, b], _ => by cases a <;> cases b <;> decide +kernel
  | [a, b, c], _ => by cases a <;> cases b <;> cases c <;> decide +kernel
  | [a, b, c, d], _ => by cases a <;> cases b <;> cases c <;> cases d <;> decide +kernel
  | [a, b, c, d, e], _ => by cases a <;> cases b <;> cases c <;> cases d <;> cases e <;> decide +kernel
  | _ :: _ :: _ :: _ :: _ :: _ :: _, h => by simp only [List.length_cons] at h; omega
def okF (hs : List S139) (hung : List Int) (looks : List S140) (d : Nat → Int) : Nat → Nat → List Bool
  | 0, _ => []
  | m + 1, i => lookOk hs hung d (rd_T140 looks i) :: okF hs hung looks d m (i + 1)
theorem okF_len (hs : List S139) (hung : List Int) (looks : List S140) (d : Nat → Int) : ∀ m i, (okF hs hung looks d m i).length = m
  | 0, _ => rfl
  | m + 1, i => by simp only [okF, List.length_cons, okF_len hs hung looks d m]
theorem okF_all (hs : List S139) (hung : List Int) (looks : List S140) (d : Nat → Int) : ∀ m i, (okF hs hung looks d m i).all id = true ↔ ∀ j : Nat, i ≤ j → j < i + m → lookOk hs hung d (rd_T140 looks j) = true
  | 0, i => by simp only [okF, List.all_nil, true_iff]; intro j h1 h2; omega
  | m + 1, i => by
    simp only [okF, List.all_cons, Bool.and_eq_true, okF_all hs hung looks d m (i + 1), id]
    constructor
    · rintro ⟨h1, h2⟩ j h3 h4
      by_cases e : j = i
      · subst e; exact h1
      · exact h2 j (by omega) (by omega)
    · exact fun h => ⟨h i (Nat.le_refl _) (by omega), fun j h1 h2 => h j (by omega) (by omega)⟩
theorem okF_right (hs : List S139) (hung : List Int) (looks : List S140) (d : Nat → Int) : (okF hs hung looks d looks.length 0).all id = rightB hs hung looks d [] := by
  rw [Bool.eq_iff_iff, okF_all]
  unfold rightB
  rw [decide_eq_true_eq]
  constructor
  · exact fun h i hi => .inr (h i (Nat.zero_le _) (by omega))
  · intro h j _ hj
    rcases h j (by omega) with h | h
    · simp at h
    · exact h
theorem u64_ok : ∀ i : Nat, i ≤ 5 → (0 : Int) ≤ IntKind.u64.wrap (i : Int)
  | 0, _ => by decide
  | 1, _ => by decide
  | 2, _ => by decide
  | 3, _ => by decide
  | 4, _ => by decide
  | 5, _ => by decide
  | _ + 6, h => by omega
section
variable {cs cl : Int} {hs : List S68} {hung : List Int} {looks : List S84}
theorem nth_l0 (D : Dries (hs.map toH)) (h4 : hs.length ≤ 4) : ∀ (d i n k : Nat) (acc : List Int), i + d = hs.length → d < k → n ≤ 12960000 → acc.length ≤ i →
    posserref04_Nth.l0 k n acc i cs cl hs hung looks = some (acc ++ nthF (hs.map toH) d i n)
  | 0, i, n, k, acc, h, hk, hn, ha => by
    obtain ⟨k, rfl⟩ : ∃ m, k = m + 1 := ⟨k - 1, by omega⟩
    simp only [posserref04_Nth.l0, nthF, List.append_nil]
    rw [if_neg (by omega)]
  | d + 1, i, n, k, acc, h, hk, hn, ha => by
    obtain ⟨k, rfl⟩ : ∃ m, k = m + 1 := ⟨k - 1, by omega⟩
    have hs1 := sz_ok D i (by simpa using (by omega : i < hs.length))
    have hD := D i (by simpa using (by omega : i < hs.length))
    have e1 := rd_toH hs i
    rw [e1] at hs1 hD
    simp only [toH] at hs1 hD
    have hw : wrap64 (wrap64 ((rd_T68 hs i).f0.f1 - (rd_T68 hs i).f0.f0) + 1) = (szN (hs.map toH) i : Int) := by unfold wrap64; omega
    have hdiv : n / szN (hs.map toH) i ≤ n := Nat.div_le_self _ _
    have hmod := Nat.mod_lt n hs1.2.1
    have ih := nth_l0 D h4 d (i + 1) (n / szN (hs.map toH) i) k (acc ++ [(rd_T68 hs i).f0.f0 + ((n % szN (hs.map toH) i : Nat) : Int)]) (by omega) (by omega) (by omega) (by simp only [List.length_append, List.length_singleton]; omega)
    simp only [posserref04_Nth.l0, posserref04_Size.f, Option.bind_some]
    rw [if_pos (by omega), if_pos (by omega), hw, if_neg (by omega), if_pos (by omega), if_neg (by omega)]
    rw [show Int.tdiv (n : Int) (szN (hs.map toH) i : Int) = ((n / szN (hs.map toH) i : Nat) : Int) from rfl, show Int.tmod (n : Int) (szN (hs.map toH) i : Int) = ((n % szN (hs.map toH) i : Nat) : Int) from rfl]
    rw [wrap_small (Nat.le_trans hdiv hn), show wrap64 ((rd_T68 hs i).f0.f0 + ((n % szN (hs.map toH) i : Nat) : Int)) = (rd_T68 hs i).f0.f0 + ((n % szN (hs.map toH) i : Nat) : Int) from by unfold wrap64; omega,
      show wrap64 ((i : Int) + 1) = ((i + 1 : Nat) : Int) from by unfold wrap64; omega, ih]
    simp only [nthF, e1, toH, List.append_assoc, List.singleton_append]
theorem nth_f (D : Dries (hs.map toH)) (h4 : hs.length ≤ 4) (n k : Nat) (hk : 1000 < k) (hn : n ≤ 12960000) : posserref04_Nth.f k cs cl hs hung looks n = some (nthF (hs.map toH) hs.length 0 n) := by
  unfold posserref04_Nth.f
  have := nth_l0 (cs := cs) (cl := cl) (hung := hung) (looks := looks) D h4 hs.length 0 n k [] (by omega) (by omega) hn (Nat.le_refl _)
  rw [List.nil_append] at this
  exact this
theorem right_l0 (V : Valid cs cl (hs.map toH) hung (looks.map toL)) (d : List Int) (hd : d.length = hs.length) (hdb : ∀ i : Nat, 0 ≤ rd d i ∧ rd d i ≤ 60) : ∀ (m i k : Nat) (x : Int), i + m = looks.length → m + 1001 < k →
    posserref04_Right.l0 k d x i cs cl hs hung looks = some (bitF (okF (hs.map toH) hung (looks.map toL) (nums d) m i) i x)
  | 0, i, k, x, h, hk => by
    obtain ⟨k, rfl⟩ : ∃ m, k = m + 1 := ⟨k - 1, by omega⟩
    simp only [posserref04_Right.l0, okF, bitF]
    rw [if_neg (by omega)]
  | m + 1, i, k, x, h, hk => by
    obtain ⟨k, rfl⟩ : ∃ m, k = m + 1 := ⟨k - 1, by omega⟩
    have hL := V.n5
    have hH := V.n4
    have hc4 := V.c4
    simp only [List.length_map] at hL hH
    have hlk := V.look i (by simpa using (by omega : i < looks.length))
    have e1 := rd_toL looks i
    rw [e1] at hlk
    simp only [toL, List.length_map] at hlk
    obtain ⟨j, hj⟩ : ∃ j : Nat, (j : Int) = (rd_T84 looks i).f0 := ⟨(rd_T84 looks i).f0.toNat, by omega⟩
    have P : Pl cs hs.length hung := ⟨by have := V.place; simpa using this, V.inside, fun a b ha hb hne e => by
      rcases Nat.lt_or_ge a b with h | h
      · exact V.apart b a hb h e.symm
      · exact V.apart a b ha (by omega) e⟩
    have hmin := minute_f (cl := cl) (hung := hung) (looks := looks) P (by omega) hH V.wet hd hdb j (by omega) k (by omega)
    have hlo : lookOk (hs.map toH) hung (nums d) (rd_T140 (looks.map toL) i) = ((rd_T84 looks i).f2 == decide (mins (hs.map toH) hung (nums d) j ≤ (rd_T84 looks i).f1)) := by
      have ht : (toL (rd_T84 looks i)).f0.toNat = j := by simp only [toL]; omega
      unfold lookOk
      rw [e1]
      simp only [ht]
      rfl
    have hu := u64_ok i (by omega)
    simp only [posserref04_Right.l0, okF, bitF]
    rw [if_pos (by omega), if_pos (by omega), ← hj, hmin]
    simp only [Option.bind_some]
    rw [hlo, show wrap64 ((i : Int) + 1) = ((i + 1 : Nat) : Int) from by unfold wrap64; omega]
    change (if (decide (mins (hs.map toH) hung (nums d) j ≤ (rd_T84 looks i).f1) == (rd_T84 looks i).f2) = true then _ else _) = _
    by_cases hb : (decide (mins (hs.map toH) hung (nums d) j ≤ (rd_T84 looks i).f1) == (rd_T84 looks i).f2) = true
    · have hb2 : ((rd_T84 looks i).f2 == decide (mins (hs.map toH) hung (nums d) j ≤ (rd_T84 looks i).f1)) = true := by rw [beq_iff_eq] at hb ⊢; exact hb.symm
      rw [if_pos hb, if_pos hu, if_pos hb2]
      exact right_l0 V d hd hdb m (i + 1) k _ (by omega) (by omega)
    · have hb2 : ¬ ((rd_T84 looks i).f2 == decide (mins (hs.map toH) hung (nums d) j ≤ (rd_T84 looks i).f1)) = true := by rw [beq_iff_eq] at hb ⊢; exact fun e => hb e.symm
      rw [if_neg hb, if_neg hb2]
      exact right_l0 V d hd hdb m (i + 1) k _ (by omega) (by omega)
theorem right_f (V : Valid cs cl (hs.map toH) hung (looks.map toL)) (d : List Int) (hd : d.length = hs.length) (hdb : ∀ i : Nat, 0 ≤ rd d i ∧ rd d i ≤ 60) (k : Nat) (hk : 2000 ≤ k) :
    posserref04_Right.f k cs cl hs hung looks d = some (bitF (okF (hs.map toH) hung (looks.map toL) (nums d) looks.length 0) 0 0) := by
  have h5 := V.n5
  simp only [List.length_map] at h5
  unfold posserref04_Right.f
  exact right_l0 V d hd hdb looks.length 0 k 0 (by omega) (by omega)
theorem full_f (h5 : looks.length ≤ 5) : posserref04_Full.f cs cl hs hung looks = some (wrap64 ((shl .i64 1 (IntKind.u64.wrap (looks.length : Int))) - 1)) := by
  unfold posserref04_Full.f
  have hu := u64_ok looks.length h5
  rw [if_pos hu]
/-- The reference's truths. -/
def truF (hs : List S139) (hung : List Int) (looks : List S140) : Nat → Nat → List (List Int)
  | 0, _ => []
  | m + 1, n => if rightB hs hung looks (nums (nthF hs hs.length 0 n)) [] = true then nthF hs hs.length 0 n :: truF hs hung looks m (n + 1) else truF hs hung looks m (n + 1)
theorem many_ok (hc : checkB cs cl (hs.map toH) hung (looks.map toL) = 0) : manyN hs hs.length = (prN (hs.map toH) hs.length 0 : Nat) ∧ prN (hs.map toH) hs.length 0 ≤ 2000 := by
  have V := valid_of hc
  have h4 := V.n4
  simp only [List.length_map] at h4
  have hall : allH (hs.map toH) = true := by
    unfold checkB at hc
    split at hc
    · omega
    split at hc
    · omega
    rename_i h1 h2
    cases e : allH (hs.map toH)
    · exact absurd (.inr (.inr (.inl e))) h2
    · rfl
  obtain ⟨h1, h2, _⟩ := many_prod hs h4 hall hs.length (Nat.le_refl _)
  have h3 : ¬ prodH (hs.map toH) (hs.map toH).length > 2000 := by
    unfold checkB at hc
    split at hc
    · omega
    split at hc
    · omega
    split at hc
    · omega
    · assumption
  rw [List.length_map, h2] at h3
  have h5 := pl_pr (hs.map toH) hs.length 0
  simp only [plN, Nat.one_mul, Nat.zero_add] at h5
  rw [h1, h5]
  unfold mn
  split <;> omega
theorem truths_l0 (hc : checkB cs cl (hs.map toH) hung (looks.map toL) = 0) : ∀ (m n k : Nat) (acc : List (List Int)), n + m = prN (hs.map toH) hs.length 0 → m + 3000 ≤ k → acc.length ≤ n →
    posserref04_Truths.l0 k acc n cs cl hs hung looks = some (acc ++ truF (hs.map toH) hung (looks.map toL) m n)
  | 0, n, k, acc, h, hk, ha => by
    obtain ⟨k, rfl⟩ : ∃ m, k = m + 1 := ⟨k - 1, by omega⟩
    have hM := many_ok hc
    have V := valid_of hc
    have h4 := V.n4
    simp only [List.length_map] at h4
    simp only [posserref04_Truths.l0, truF, List.append_nil]
    rw [many_f cs cl hs hung looks (by omega) k (by omega)]
    simp only [Option.bind_some]
    rw [if_neg (by omega)]
  | m + 1, n, k, acc, h, hk, ha => by
    obtain ⟨k, rfl⟩ : ∃ m, k = m + 1 := ⟨k - 1, by omega⟩
    have hM := many_ok hc
    have V := valid_of hc
    have h4 := V.n4
    have h5 := V.n5
    simp only [List.length_map] at h4 h5
    have D : Dries (hs.map toH) := V.dry
    have hlen := nthF_len (hs.map toH) hs.length 0 n
    have hlm : (hs.map toH).length = hs.length := List.length_map ..
    have hbd : ∀ i : Nat, 0 ≤ rd (nthF (hs.map toH) hs.length 0 n) i ∧ rd (nthF (hs.map toH) hs.length 0 n) i ≤ 60 := fun i => by
      have := dries_bd V (nth_dries D n) i
      rw [hlm] at this
      exact this
    have ih1 := truths_l0 hc m (n + 1) k
    simp only [posserref04_Truths.l0]
    rw [many_f cs cl hs hung looks (by omega) k (by omega)]
    simp only [Option.bind_some]
    rw [if_pos (by omega), nth_f D h4 n k (by omega) (by omega)]
    simp only [Option.bind_some]
    rw [right_f V _ hlen hbd k (by omega)]
    simp only [Option.bind_some]
    rw [full_f h5]
    simp only [Option.bind_some]
    have hbf := bit_full (okF (hs.map toH) hung (looks.map toL) (nums (nthF (hs.map toH) hs.length 0 n)) looks.length 0) (by rw [okF_len]; exact h5)
    rw [okF_len] at hbf
    have hokr := okF_right (hs.map toH) hung (looks.map toL) (nums (nthF (hs.map toH) hs.length 0 n))
    rw [List.length_map] at hokr
    rw [hokr] at hbf
    rw [show wrap64 ((n : Int) + 1) = ((n + 1 : Nat) : Int) from by unfold wrap64; omega]
    simp only [truF, hlm]
    by_cases hr : rightB (hs.map toH) hung (looks.map toL) (nums (nthF (hs.map toH) hs.length 0 n)) [] = true
    · rw [if_pos (hbf.2 hr), if_pos (by omega), if_pos hr, ih1 _ (by omega) (by omega) (by simp only [List.length_append, List.length_singleton]; omega)]
      simp only [List.append_assoc, List.singleton_append]
    · rw [if_neg (fun e => hr (hbf.1 e)), if_neg hr, ih1 _ (by omega) (by omega) (by omega)]
/-- All truths, as1 the reference tells them. -/
def truL (hs : List S139) (hung : List Int) (looks : List S140) : List (List Int) := truF hs hung looks (prN hs hs.length 0) 0
theorem truths_f (hc : checkB cs cl (hs.map toH) hung (looks.map toL) = 0) (k : Nat) (hk : 6000 ≤ k) : posserref04_Truths.f k cs cl hs hung looks = some (truL (hs.map toH) hung (looks.map toL)) := by
  have hM := many_ok hc
  unfold posserref04_Truths.f truL
  have := truths_l0 hc (prN (hs.map toH) hs.length 0) 0 k [] (by omega) (by omega) (Nat.le_refl _)
  rw [List.nil_append] at this
  rw [List.length_map]
  exact this
end
theorem mem_truF (hs : List S139) (hung : List Int) (looks : List S140) (l : List Int) : ∀ (m n : Nat), l ∈ truF hs hung looks m n ↔ ∃ j, n ≤ j ∧ j < n + m ∧ l = nthF hs hs.length 0 j ∧ rightB hs hung looks (nums (nthF hs hs.length 0 j)) [] = true
  | 0, n => by
    simp only [truF, List.not_mem_nil, false_iff]
    rintro ⟨j, h1, h2, _⟩
    omega
  | m + 1, n => by
    simp only [truF]
    by_cases hr : rightB hs hung looks (nums (nthF hs hs.length 0 n)) [] = true
    · rw [if_pos hr, List.mem_cons, mem_truF hs hung looks l m (n + 1)]
      constructor
      · rintro (h | ⟨j, h1, h2, h3⟩)
        · exact ⟨n, Nat.le_refl _, by omega, h, hr⟩
        · exact ⟨j, by omega, by omega, h3⟩
      · rintro ⟨j, h1, h2, h3, h4⟩
        by_cases e : j = n
        · subst e; exact .inl h3
        · exact .inr ⟨j, by omega, by omega, h3, h4⟩
    · rw [if_neg hr, mem_truF hs hung looks l m (n + 1)]
      constructor
      · rintro ⟨j, h1, h2, h3⟩
        exact ⟨j, by omega, by omega, h3⟩
      · rintro ⟨j, h1, h2, h3, h4⟩
        by_cases e : j = n
        · subst e; exact absurd h4 hr
        · exact ⟨j, by omega, by omega, h3, h4⟩
/-- The reference's truths are the program's. -/
theorem truL_iff {hs : List S139} {hung : List Int} {looks : List S140} (D : Dries hs) (h4 : hs.length ≤ 4) (t : Nat → Int) : t ∈ truthsT hs hung looks ↔ ∃ l ∈ truL hs hung looks, nums l = t := by
  rw [truths_iff h4]
  constructor
  · rintro ⟨h1, h2⟩
    obtain ⟨n, hn, rfl⟩ := dries_nth D h1
    exact ⟨_, (mem_truF hs hung looks _ _ 0).2 ⟨n, Nat.zero_le _, by omega, rfl, h2⟩, rfl⟩
  · rintro ⟨l, hl, rfl⟩
    obtain ⟨j, _, h2, rfl, h4'⟩ := (mem_truF hs hung looks l _ 0).1 hl
    exact ⟨nth_dries D j, h4'⟩
theorem truL_nil {hs : List S139} {hung : List Int} {looks : List S140} (D : Dries hs) (h4 : hs.length ≤ 4) : truL hs hung looks = [] ↔ truthsT hs hung looks = [] := by
  constructor
  · intro h
    refine List.eq_nil_iff_forall_not_mem.2 (fun t ht => ?_)
    obtain ⟨l, hl, _⟩ := (truL_iff D h4 t).1 ht
    rw [h] at hl
    cases hl
  · intro h
    refine List.eq_nil_iff_forall_not_mem.2 (fun l hl => ?_)
    have := (truL_iff D h4 (nums l)).2 ⟨l, hl, rfl⟩
    rw [h] at this
    cases this
end Go.Proofs.Ytokhmghgghjmhaa.Q
namespace Go.Proofs.Ytokhmghgghjmhaa.Q
open Go.RowKit Go.Proofs.YtokhmghgghjmhaaW.PrintWords Go.Proofs.YtokhmghgghjmhaaW.PrintLast Go.Proofs.YtokhmghgghjmhaaW.PrintMore
set_option linter.unusedVariables false
/-- Ranges that lie in memory. -/
def Bd (w : World) (A : Option Addr) (c : Nat) (l : List S61) : Prop := Kd.C k61 w A l.length l ∧ l.length ≤ c
theorem Bd.later {w w' : World} {A : Option Addr} {c : Nat} {l : List S61} (h : Bd w A c l) (hb : Below w.heap.size w w') : Bd w' A c l := ⟨Kd.C_below h.1 hb, h.2⟩
end Go.Proofs.Ytokhmghgghjmhaa.Q
namespace Go.Proofs.Ytokhmghgghjmhaa.Q
open Go.RowKit Go.Proofs.YtokhmghgghjmhaaW.PrintWords Go.Proofs.YtokhmghgghjmhaaW.PrintLast Go.Proofs.YtokhmghgghjmhaaW.PrintMore
set_option linter.unusedVariables false
/-- Truths that lie in memory. -/
def Tr (w : World) (A : Option Addr) (c : Nat) (L : List (List Int)) : Prop := Kd.C (Kd.slice 3 (Kd.int .i64)) w A L.length L ∧ L.length ≤ c
theorem Tr.later {w w' : World} {A : Option Addr} {c : Nat} {L : List (List Int)} (h : Tr w A c L) (hb : Below w.heap.size w w') : Tr w' A c L := ⟨Kd.C_below h.1 hb, h.2⟩
theorem Tr.at {w : World} {A : Option Addr} {c : Nat} {L : List (List Int)} (h : Tr w A c L) (i : Nat) (hi : i < L.length) : ∃ ad A0 c0, A = some ad ∧ w.cell? (ad.add i) = some (.slice A0 (rd_L9 L i).length c0) ∧ Ls .i64 w A0 c0 (rd_L9 L i) := by
  obtain ⟨ad, A0, c0, h1, h2, h3, h4⟩ := at_L9 h.1 i (by omega) (by omega)
  exact ⟨ad, A0, c0, h1, by rwa [Int.toNat_natCast] at h2, h4, h3⟩
theorem truths_q {cs cl : Int} {A2 A3 A4 : Option Addr} {c2 c3 c4 : Nat} {hs : List S68} {hung : List Int} {looks : List S84} {w : World} (M : Ref w A2 A3 A4 c2 c3 c4 hs hung looks) (hc : checkB cs cl (hs.map toH) hung (looks.map toL) = 0) {L : List (List Int)} (hL : truL (hs.map toH) hung (looks.map toL) = L) :
    Calls Try.prog 43 #[.agg #[.int .i64 cs, .int .i64 cl, .slice A2 hs.length c2, .slice A3 hung.length c3, .slice A4 looks.length c4]] w
      fun e w' => ∃ B d, e = .returned (.slice B L.length d) ∧ Tr w' B d L ∧ Below w.heap.size w w' := by
  have hf := truths_f hc 6000 (Nat.le_refl _)
  rw [hL] at hf
  refine (posserref04_Truths.calls 6000 cs cl A2 c2 hs A3 c3 hung A4 c4 looks L w M.h2 M.l2 M.h3 M.l3 M.h4 M.l4 hf).mono ?_
  rintro e w' ⟨v, rfl, hS, hb⟩
  have hR := Kd.S_R hS
  obtain ⟨B, d, rfl⟩ := Kd.R_slice hR
  have h2 := Kd.R_reads' hR
  exact ⟨B, d, rfl, ⟨h2.2.2, h2.2.1⟩, hb⟩
end Go.Proofs.Ytokhmghgghjmhaa.Q
namespace Go.Proofs.Ytokhmghgghjmhaa.Q
open Go.RowKit Go.Proofs.YtokhmghgghjmhaaW.PrintWords Go.Proofs.YtokhmghgghjmhaaW.PrintLast Go.Proofs.YtokhmghgghjmhaaW.PrintMore
set_option linter.unusedVariables false
theorem mod_nat {x : Int} {m : Nat} (h0 : 0 ≤ x) (hm : 1 ≤ m) : ∃ n : Nat, Int.tmod x (m : Int) = n ∧ n < m := by
  have h1 := Int.emod_nonneg x (show (m : Int) ≠ 0 by omega)
  have h2 := Int.emod_lt_of_pos x (show 0 < (m : Int) by omega)
  exact ⟨(x % m).toNat, by rw [Int.tmod_eq_emod_of_nonneg h0]; omega, by omega⟩
end Go.Proofs.Ytokhmghgghjmhaa.Q
namespace Go.Proofs.Ytokhmghgghjmhaa.Q
open Go.RowKit Go.Proofs.YtokhmghgghjmhaaW.PrintWords Go.Proofs.YtokhmghgghjmhaaW.PrintLast Go.Proofs.YtokhmghgghjmhaaW.PrintMore
set_option linter.unusedVariables false
set_option linter.unusedSimpArgs false
theorem kb_open {a b a' b' : Int} {e5 e6 : Bool} (h : (e5 && e6 && !(decide (a ≤ b) && (decide (a' > a) || decide (b' < b)))) = true) : (e5 = true ∧ e6 = true) ∧ ¬ (a ≤ b ∧ (a' > a ∨ b' < b)) := by
  cases e5 <;> cases e6 <;> simp at h ⊢
  intro h1
  omega
set_option maxHeartbeats 4000000 in
set_option maxRecDepth 100000 in
/-- The law's 'sooner'. -/
theorem sooner_w {cs cl cs' cl' : Int} {A2 A3 A4 A2' A3' A4' : Option Addr} {c2 c3 c4 c2' c3' c4' : Nat} {hs hs' : List S68} {hung hung' : List Int} {looks looks' : List S84} {w : World} (M : Ref w A2 A3 A4 c2 c3 c4 hs hung looks) (M' : Ref w A2' A3' A4' c2' c3' c4' hs' hung' looks') (hT : hs.length ≤ 30 ∧ hung.length ≤ 30 ∧ looks.length ≤ 30) (hT' : hs'.length ≤ 30 ∧ hung'.length ≤ 30 ∧ looks'.length ≤ 30) (hs9 : soonB (bestR cs cl (hs.map toH) hung (looks.map toL)) (bestR cs' cl' (hs'.map toH) hung' (looks'.map toL)) = true) :
    Calls Try.prog 51 #[.agg #[.int .i64 cs, .int .i64 cl, .slice A2 hs.length c2, .slice A3 hung.length c3, .slice A4 looks.length c4], .agg #[.int .i64 cs', .int .i64 cl', .slice A2' hs'.length c2', .slice A3' hung'.length c3', .slice A4' looks'.length c4']] w fun e w' => e = .returned (.bool true) ∧ Below w.heap.size w w' := by
  have HM := Aside0.mk M
  have HM2 := Aside0.mk M'
  have HT := Aside0.mk hT
  have HT2 := Aside0.mk hT'
  have HS9 := Aside0.mk hs9
  clear M M' hT hT' hs9
  obtain ⟨V0, hV0⟩ : ∃ V0, w.alloc (.cells #[.int .i64 cs, .int .i64 cl, .slice A2 hs.length c2, .slice A3 hung.length c3, .slice A4 looks.length c4] 26) = V0 := ⟨_, rfl⟩
  have HB1 := Aside0.mk (Box.new hV0).2
  have HK1 := Aside0.mk (Box.new hV0).1
  have hz : V0.heap.size = w.heap.size + 1 := by rw [← hV0]; simp
  obtain ⟨W0, hW0⟩ : ∃ W0, V0.alloc (.cells #[.int .i64 cs', .int .i64 cl', .slice A2' hs'.length c2', .slice A3' hung'.length c3', .slice A4' looks'.length c4'] 26) = W0 := ⟨_, rfl⟩
  have HB := Aside0.mk (below_step HB1.out (Box.new hW0).2)
  have HK := Aside0.mk (HK1.out.later (Box.new hW0).2)
  have HK2 := Aside0.mk (show Box W0 (w.heap.size + 1) cs' cl' A2' A3' A4' hs'.length hung'.length looks'.length c2' c3' c4' from hz ▸ (Box.new hW0).1)
  clear HB1 HK1
  have b0 := HK.out.at0
  have b1 := HK.out.at1
  have b2 := HK.out.at2
  have b3 := HK.out.at3
  have b4 := HK.out.at4
  have e0 := HK2.out.at0
  have e1 := HK2.out.at1
  have e2 := HK2.out.at2
  have e3 := HK2.out.at3
  have e4 := HK2.out.at4
  go_enter Try.func51, Try.ntmps51
  go_wp2_with fail
  try rw [hV0]
  try rw [hW0]
  clear hV0 hW0
  obtain ⟨x1, hx1⟩ : ∃ x1, bestR cs cl (hs.map toH) hung (looks.map toL) = x1 := ⟨_, rfl⟩
  obtain ⟨x2, hx2⟩ : ∃ x2, bestR cs' cl' (hs'.map toH) hung' (looks'.map toL) = x2 := ⟨_, rfl⟩
  have HX1 := Aside0.mk hx1
  have HX2 := Aside0.mk hx2
  rw [hx1, hx2] at HS9
  clear hx1 hx2
  refine (refcl_q (HM.out.later HB.out) (by have := HT.out; omega) (by have := HT.out; omega) (by have := HT.out; omega)).mono ?_
  rintro e w1 ⟨B2, B3, B4, d2, d3, d4, n2, n3, n4, rfl, hcl, hb⟩
  replace HB := Aside0.mk (below_step HB.out hb)
  replace HK := Aside0.mk (HK.out.later hb)
  replace HK2 := Aside0.mk (HK2.out.later hb)
  replace b0 := HK.out.at0
  replace b1 := HK.out.at1
  replace b2 := HK.out.at2
  replace b3 := HK.out.at3
  replace b4 := HK.out.at4
  replace e0 := HK2.out.at0
  replace e1 := HK2.out.at1
  replace e2 := HK2.out.at2
  replace e3 := HK2.out.at3
  replace e4 := HK2.out.at4
  clear hb
  have HCL := Aside0.mk hcl
  clear hcl
  go_wp2_with fail
  refine (best_q HCL.out HX1.out).mono ?_
  rintro e w2 ⟨BB, bB, rfl, hx, hb⟩
  replace HB := Aside0.mk (below_step HB.out hb)
  replace HK := Aside0.mk (HK.out.later hb)
  replace HK2 := Aside0.mk (HK2.out.later hb)
  replace b0 := HK.out.at0
  replace b1 := HK.out.at1
  replace b2 := HK.out.at2
  replace b3 := HK.out.at3
  replace b4 := HK.out.at4
  replace e0 := HK2.out.at0
  replace e1 := HK2.out.at1
  replace e2 := HK2.out.at2
  replace e3 := HK2.out.at3
  replace e4 := HK2.out.at4
  clear hb
  clear hx
  go_wp2_with fail
  refine (refcl_q (HM2.out.later HB.out) (by have := HT2.out; omega) (by have := HT2.out; omega) (by have := HT2.out; omega)).mono ?_
  rintro e w3 ⟨B21, B31, B41, d21, d31, d41, n21, n31, n41, rfl, hcl, hb⟩
  replace HB := Aside0.mk (below_step HB.out hb)
  replace HK := Aside0.mk (HK.out.later hb)
  replace HK2 := Aside0.mk (HK2.out.later hb)
  replace b0 := HK.out.at0
  replace b1 := HK.out.at1
  replace b2 := HK.out.at2
  replace b3 := HK.out.at3
  replace b4 := HK.out.at4
  replace e0 := HK2.out.at0
  replace e1 := HK2.out.at1
  replace e2 := HK2.out.at2
  replace e3 := HK2.out.at3
  replace e4 := HK2.out.at4
  clear hb
  have HCL := Aside0.mk hcl
  clear hcl
  go_wp2_with fail
  refine (best_q HCL.out HX2.out).mono ?_
  rintro e w4 ⟨BC, bC, rfl, hx, hb⟩
  replace HB := Aside0.mk (below_step HB.out hb)
  replace HK := Aside0.mk (HK.out.later hb)
  replace HK2 := Aside0.mk (HK2.out.later hb)
  replace b0 := HK.out.at0
  replace b1 := HK.out.at1
  replace b2 := HK.out.at2
  replace b3 := HK.out.at3
  replace b4 := HK.out.at4
  replace e0 := HK2.out.at0
  replace e1 := HK2.out.at1
  replace e2 := HK2.out.at2
  replace e3 := HK2.out.at3
  replace e4 := HK2.out.at4
  clear hb
  clear hx
  obtain ⟨l1, m1, e1'⟩ := x1
  obtain ⟨l2, m2, e2'⟩ := x2
  have h9 := HS9.out
  unfold soonB at h9
  by_cases h0 : e1' = 0
  · subst h0
    rw [if_pos rfl] at h9
    obtain ⟨h1, h2⟩ := of_decide_eq_true h9
    have h1 : e2' = 0 := h1
    have h2 : m2 ≤ m1 := h2
    subst h1
    clear h9
    go_wp2_with fail
    go_ret
    exact ⟨rfl, HB.out⟩
  · rw [if_neg h0] at h9
    obtain ⟨h1, h2⟩ := of_decide_eq_true h9
    have h1 : e1' = 10 := h1
    have h2 : e2' = 0 ∨ e2' = e1' := h2
    subst h1
    clear h9 h0
    rcases h2 with rfl | rfl
    · go_wp2_with fail
      go_ret
      exact ⟨rfl, HB.out⟩
    · go_wp2_with fail
      go_ret
      exact ⟨rfl, HB.out⟩
set_option maxHeartbeats 4000000 in
set_option maxRecDepth 100000 in
/-- The law's 'kept'. -/
theorem kept_w {cs cl cs' cl' : Int} {A2 A3 A4 A2' A3' A4' : Option Addr} {c2 c3 c4 c2' c3' c4' : Nat} {hs hs' : List S68} {hung hung' : List Int} {looks looks' : List S84} {A : Option Addr} {c : Nat} {p : List Int} {w : World} (M : Ref w A2 A3 A4 c2 c3 c4 hs hung looks) (M' : Ref w A2' A3' A4' c2' c3' c4' hs' hung' looks') (hP : Ls .i64 w A c p) (hp : p.length ≤ 1000) (hT : hs.length ≤ 30 ∧ hung.length ≤ 30 ∧ looks.length ≤ 30) (hT' : hs'.length ≤ 30 ∧ hung'.length ≤ 30 ∧ looks'.length ≤ 30) (hk : ∀ i : Nat, i < hs.length → keptB cs cl (hs.map toH) hung (looks.map toL) cs' cl' (hs'.map toH) hung' (looks'.map toL) p i = true) :
    Calls Try.prog 50 #[.agg #[.int .i64 cs, .int .i64 cl, .slice A2 hs.length c2, .slice A3 hung.length c3, .slice A4 looks.length c4], .agg #[.int .i64 cs', .int .i64 cl', .slice A2' hs'.length c2', .slice A3' hung'.length c3', .slice A4' looks'.length c4'], .slice A p.length c] w fun e w' => e = .returned (.bool true) ∧ Below w.heap.size w w' := by
  have HM := Aside0.mk M
  have HM2 := Aside0.mk M'
  have HP := Aside0.mk hP
  have HPL := Aside0.mk hp
  have HT := Aside0.mk hT
  have HT2 := Aside0.mk hT'
  have HKB := Aside0.mk hk
  clear M M' hP hp hT hT' hk
  obtain ⟨V0, hV0⟩ : ∃ V0, w.alloc (.cells #[.int .i64 cs, .int .i64 cl, .slice A2 hs.length c2, .slice A3 hung.length c3, .slice A4 looks.length c4] 26) = V0 := ⟨_, rfl⟩
  have HB1 := Aside0.mk (Box.new hV0).2
  have HK1 := Aside0.mk (Box.new hV0).1
  have hz : V0.heap.size = w.heap.size + 1 := by rw [← hV0]; simp
  obtain ⟨W0, hW0⟩ : ∃ W0, V0.alloc (.cells #[.int .i64 cs', .int .i64 cl', .slice A2' hs'.length c2', .slice A3' hung'.length c3', .slice A4' looks'.length c4'] 26) = W0 := ⟨_, rfl⟩
  have HB := Aside0.mk (below_step HB1.out (Box.new hW0).2)
  have HK := Aside0.mk (HK1.out.later (Box.new hW0).2)
  have HK2 := Aside0.mk (show Box W0 (w.heap.size + 1) cs' cl' A2' A3' A4' hs'.length hung'.length looks'.length c2' c3' c4' from hz ▸ (Box.new hW0).1)
  clear HB1 HK1
  have b0 := HK.out.at0
  have b1 := HK.out.at1
  have b2 := HK.out.at2
  have b3 := HK.out.at3
  have b4 := HK.out.at4
  have e0 := HK2.out.at0
  have e1 := HK2.out.at1
  have e2 := HK2.out.at2
  have e3 := HK2.out.at3
  have e4 := HK2.out.at4
  go_enter Try.func50, Try.ntmps50
  go_wp2_with fail
  try rw [hV0]
  try rw [hW0]
  clear hV0 hW0
  go_loopg [7] hs.length (fun kq v7 wr => ∃ i : Nat, v7 = .int .i64 i ∧ Aside0 (i + kq = hs.length) ∧ Aside0 (Below w.heap.size w wr) ∧ Aside0 (Box wr w.heap.size cs cl A2 A3 A4 hs.length hung.length looks.length c2 c3 c4) ∧ Aside0 (Box wr (w.heap.size + 1) cs' cl' A2' A3' A4' hs'.length hung'.length looks'.length c2' c3' c4'))
  case atStart => exact ⟨0, rfl, ⟨by omega⟩, HB, HK, HK2⟩
  case round =>
    clear b0 b1 b2 b3 b4 e0 e1 e2 e3 e4 HB HK HK2
    obtain ⟨i, rfl, HN, HB, HK, HK2⟩ := hrel
    have b0 := HK.out.at0
    have b1 := HK.out.at1
    have b2 := HK.out.at2
    have b3 := HK.out.at3
    have b4 := HK.out.at4
    have e0 := HK2.out.at0
    have e1 := HK2.out.at1
    have e2 := HK2.out.at2
    have e3 := HK2.out.at3
    have e4 := HK2.out.at4
    by_cases hlt : i < hs.length
    · obtain ⟨kq, rfl⟩ : ∃ kq, gk = kq + 1 := ⟨gk - 1, by have := HN.out; omega⟩
      have h1 : (i : Int) < (hs.length : Int) := by omega
      have hn30 : hs.length ≤ 30 := HT.out.1
      obtain ⟨x1, hx1⟩ : ∃ x1, goodL cs cl (hs.map toH) hung (looks.map toL) p i = x1 := ⟨_, rfl⟩
      obtain ⟨x2, hx2⟩ : ∃ x2, goodL cs' cl' (hs'.map toH) hung' (looks'.map toL) p i = x2 := ⟨_, rfl⟩
      have HX1 := Aside0.mk hx1
      have HX2 := Aside0.mk hx2
      have h9 := HKB.out i hlt
      unfold keptB at h9
      rw [hx1, hx2] at h9
      clear hx1 hx2
      obtain ⟨a, b, e5⟩ := x1
      obtain ⟨a', b', e6⟩ := x2
      have h9 : (e5 && e6 && !(decide (a ≤ b) && (decide (a' > a) || decide (b' < b)))) = true := h9
      obtain ⟨⟨rfl, rfl⟩, h10⟩ := kb_open h9
      have H10 := Aside0.mk h10
      clear h9 h10
      go_wp2_with fail
      refine (good_w (HM.out.later HB.out) (HP.out.later HB.out) HT.out HPL.out HX1.out).mono ?_
      rintro e w5 ⟨rfl, hb⟩
      replace HB := Aside0.mk (below_step HB.out hb)
      replace HK := Aside0.mk (HK.out.later hb)
      replace HK2 := Aside0.mk (HK2.out.later hb)
      replace b0 := HK.out.at0
      replace b1 := HK.out.at1
      replace b2 := HK.out.at2
      replace b3 := HK.out.at3
      replace b4 := HK.out.at4
      replace e0 := HK2.out.at0
      replace e1 := HK2.out.at1
      replace e2 := HK2.out.at2
      replace e3 := HK2.out.at3
      replace e4 := HK2.out.at4
      clear hb
      obtain ⟨V1, hV1⟩ : ∃ V9, w5.alloc (.cells #[.int .i64 a, .int .i64 b] 61) = V9 := ⟨_, rfl⟩
      have hb : Below w5.heap.size w5 V1 := by rw [← hV1]; exact below_alloc (Below.refl _ _) _
      have HG1 := Aside0.mk (show V1.heap[w5.heap.size]? = some (.cells #[.int .i64 a, .int .i64 b] 61 (0, 0)) from by rw [← hV1]; exact blk_new _ _)
      replace HB := Aside0.mk (below_step HB.out hb)
      replace HK := Aside0.mk (HK.out.later hb)
      replace HK2 := Aside0.mk (HK2.out.later hb)
      replace b0 := HK.out.at0
      replace b1 := HK.out.at1
      replace b2 := HK.out.at2
      replace b3 := HK.out.at3
      replace b4 := HK.out.at4
      replace e0 := HK2.out.at0
      replace e1 := HK2.out.at1
      replace e2 := HK2.out.at2
      replace e3 := HK2.out.at3
      replace e4 := HK2.out.at4
      clear hb
      go_wp2_with (rw [hV1])
      try rw [hV1]
      clear hV1
      generalize hg1 : w5.heap.size = g1 at HG1 ⊢
      refine (good_w (HM2.out.later HB.out) (HP.out.later HB.out) HT2.out HPL.out HX2.out).mono ?_
      rintro e w6 ⟨rfl, hb⟩
      replace HB := Aside0.mk (below_step HB.out hb)
      replace HK := Aside0.mk (HK.out.later hb)
      replace HK2 := Aside0.mk (HK2.out.later hb)
      replace HG1 := Aside0.mk (blk_below HG1.out hb)
      replace b0 := HK.out.at0
      replace b1 := HK.out.at1
      replace b2 := HK.out.at2
      replace b3 := HK.out.at3
      replace b4 := HK.out.at4
      replace e0 := HK2.out.at0
      replace e1 := HK2.out.at1
      replace e2 := HK2.out.at2
      replace e3 := HK2.out.at3
      replace e4 := HK2.out.at4
      clear hb
      obtain ⟨V2, hV2⟩ : ∃ V9, w6.alloc (.cells #[.int .i64 a', .int .i64 b'] 61) = V9 := ⟨_, rfl⟩
      have hb : Below w6.heap.size w6 V2 := by rw [← hV2]; exact below_alloc (Below.refl _ _) _
      have HG2 := Aside0.mk (show V2.heap[w6.heap.size]? = some (.cells #[.int .i64 a', .int .i64 b'] 61 (0, 0)) from by rw [← hV2]; exact blk_new _ _)
      replace HB := Aside0.mk (below_step HB.out hb)
      replace HK := Aside0.mk (HK.out.later hb)
      replace HK2 := Aside0.mk (HK2.out.later hb)
      replace HG1 := Aside0.mk (blk_below HG1.out hb)
      replace b0 := HK.out.at0
      replace b1 := HK.out.at1
      replace b2 := HK.out.at2
      replace b3 := HK.out.at3
      replace b4 := HK.out.at4
      replace e0 := HK2.out.at0
      replace e1 := HK2.out.at1
      replace e2 := HK2.out.at2
      replace e3 := HK2.out.at3
      replace e4 := HK2.out.at4
      clear hb
      have q0 : V2.cell? ⟨g1, 0, none⟩ = some (.int .i64 a) := (blk_cell HG1.out 0).trans rfl
      have q1 : V2.cell? ⟨g1, 1, none⟩ = some (.int .i64 b) := (blk_cell HG1.out 1).trans rfl
      have q2 : V2.cell? ⟨w6.heap.size, 0, none⟩ = some (.int .i64 a') := (blk_cell HG2.out 0).trans rfl
      have q3 : V2.cell? ⟨w6.heap.size, 1, none⟩ = some (.int .i64 b') := (blk_cell HG2.out 1).trans rfl
      have hH := H10.out
      by_cases h3 : a ≤ b
      · have h4 : ¬ a' > a := fun h => hH ⟨h3, .inl h⟩
        have h5 : ¬ b' < b := fun h => hH ⟨h3, .inr h⟩
        clear hH
        go_wp2_with (rw [hV2])
        try rw [hV2]
        go_roundg kq
        case measure => omega
        case rel => exact ⟨i + 1, by first | go_num | (congr 1; unfold wrap64; omega), ⟨by have := HN.out; omega⟩, HB, HK, HK2⟩
      · clear hH
        go_wp2_with (rw [hV2])
        try rw [hV2]
        go_roundg kq
        case measure => omega
        case rel => exact ⟨i + 1, by first | go_num | (congr 1; unfold wrap64; omega), ⟨by have := HN.out; omega⟩, HB, HK, HK2⟩
    · have h1 : ¬ (i : Int) < (hs.length : Int) := by omega
      go_wp2_with fail
      go_ret
      exact ⟨rfl, HB.out⟩
end Go.Proofs.Ytokhmghgghjmhaa.Q
namespace Go.Proofs.Ytokhmghgghjmhaa.Q
open Go.RowKit Go.Proofs.YtokhmghgghjmhaaW.PrintWords Go.Proofs.YtokhmghgghjmhaaW.PrintLast Go.Proofs.YtokhmghgghjmhaaW.PrintMore
set_option linter.unusedVariables false
theorem check_iff {cs cl : Int} {hs : List S139} {hung : List Int} {looks : List S140} : checkB cs cl hs hung looks = 0 ↔
    (cs ≤ 4 ∧ hs.length ≤ 4 ∧ looks.length ≤ 5) ∧ (1 ≤ cs ∧ (0 ≤ cl ∧ cl ≤ 99) ∧ allH hs = true ∧ placeB (wrap64 (cs - 1)) hs.length hung = true ∧ allL hs.length looks = true) ∧ prodH hs hs.length ≤ 2000 := by
  unfold checkB
  constructor
  · intro h
    split at h
    · omega
    rename_i h1
    split at h
    · omega
    rename_i h2
    split at h
    · omega
    rename_i h3
    refine ⟨by omega, ⟨by omega, ?_, ?_, ?_, ?_⟩, by omega⟩
    · exact Decidable.byContradiction fun e => h2 (.inr (.inl e))
    · exact (Bool.not_eq_false _).mp fun e => h2 (.inr (.inr (.inl e)))
    · exact (Bool.not_eq_false _).mp fun e => h2 (.inr (.inr (.inr (.inl e))))
    · exact (Bool.not_eq_false _).mp fun e => h2 (.inr (.inr (.inr (.inr e))))
  · rintro ⟨h1, ⟨h2, h3, h4, h5, h6⟩, h7⟩
    rw [if_neg (by omega), if_neg (by rw [h4, h5, h6]; simp; omega), if_neg (by omega)]
theorem best_none {cs cl : Int} {hs : List S139} {hung : List Int} {looks : List S140} (hc : checkB cs cl hs hung looks = 0) (hT : truthsT hs hung looks = []) : bestR cs cl hs hung looks = ([], 0, 11) := by
  have : askCode cs cl hs hung looks true = 11 := by unfold askCode; rw [if_neg (by simp [hc]), if_neg (by simp), if_pos hT]
  unfold bestR
  rw [this, if_pos (by decide)]
end Go.Proofs.Ytokhmghgghjmhaa.Q
namespace Go.Proofs.Ytokhmghgghjmhaa.Q
open Go.RowKit Go.Proofs.YtokhmghgghjmhaaW.PrintWords Go.Proofs.YtokhmghgghjmhaaW.PrintLast Go.Proofs.YtokhmghgghjmhaaW.PrintMore
set_option linter.unusedVariables false
/-- The same horses, but for more Grace. -/
structure Like (H H' : List S139) : Prop where
  len : H'.length = H.length
  dry : ∀ k : Nat, (rd_T139 H' k).f0 = (rd_T139 H k).f0
  wet : ∀ k : Nat, (rd_T139 H' k).f1 = (rd_T139 H k).f1
  grace : ∀ k : Nat, k < H.length → (rd_T139 H k).f2 ≤ (rd_T139 H' k).f2 ∧ (rd_T139 H' k).f2 ≤ 30
section
variable {cs cl cl' : Int} {H H' : List S139} {hung : List Int} {K : List S140}
theorem adds_like (L : Like H H') (p : List Int) (i : Nat) : ∀ k, adds H' p i k = adds H p i k
  | 0 => rfl
  | k + 1 => by simp only [adds]; rw [adds_like L p i k]; unfold Q.wet; rw [L.wet k]
theorem mins_like (L : Like H H') (p : List Int) (d : Nat → Int) : mins H' p d = mins H p d := by
  funext i; unfold mins; rw [adds_like L p i]
theorem right_like (L : Like H H') (d : Nat → Int) (out : List Int) : rightB H' hung K d out = rightB H hung K d out := by
  unfold rightB lookOk; rw [mins_like L]
theorem dries_like (L : Like H H') (d : Nat → Int) : d ∈ dries H' ↔ d ∈ dries H := by
  rw [dries_iff, dries_iff, L.len]
  constructor
  · rintro ⟨h1, h2⟩; exact ⟨h1, fun i hi => by have := h2 i hi; rwa [L.dry i] at this⟩
  · rintro ⟨h1, h2⟩; exact ⟨h1, fun i hi => by rw [L.dry i]; exact h2 i hi⟩
theorem truths_like (L : Like H H') (h4 : H.length ≤ 4) (d : Nat → Int) : d ∈ truthsT H' hung K ↔ d ∈ truthsT H hung K := by
  rw [truths_iff (by rw [L.len]; exact h4), truths_iff h4, dries_like L, right_like L]
theorem prod_like (L : Like H H') : ∀ n, prodH H' n = prodH H n
  | 0 => rfl
  | n + 1 => by simp only [prodH]; rw [prod_like L n, L.dry n]
theorem check_like (L : Like H H') (h : checkB cs cl H hung K = 0) (h1 : cl ≤ cl') (h9 : cl' ≤ 99) : checkB cs cl' H' hung K = 0 := by
  obtain ⟨a, ⟨b1, b2, b3, b4, b5⟩, c⟩ := check_iff.1 h
  refine check_iff.2 ⟨by rw [L.len]; exact a, ⟨b1, by omega, decide_eq_true fun i hi => ?_, by rw [L.len]; exact b4, by rw [L.len]; exact b5⟩, by rw [L.len, prod_like L]; exact c⟩
  rw [L.len] at hi
  have h2 := of_decide_eq_true (of_decide_eq_true b3 i hi)
  have h3 := L.grace i hi
  have h4 := L.dry i
  have h5 := L.wet i
  refine decide_eq_true ?_
  rw [h4, h5]
  omega
theorem ne_like (L : Like H H') (h4 : H.length ≤ 4) (hT : truthsT H hung K ≠ []) : truthsT H' hung K ≠ [] := by
  obtain ⟨t, ht⟩ := List.exists_mem_of_ne_nil _ hT
  exact List.ne_nil_of_mem ((truths_like L h4 t).2 ht)
theorem lo_like (L : Like H H') (h4 : H.length ≤ 4) (hT : truthsT H hung K ≠ []) (p : List Int) (i : Nat) : goodLo H' p (truthsT H' hung K) i = goodLo H p (truthsT H hung K) i := by
  have h1 := (lo_le (hs := H) (p := p) hT i _).1 (Int.le_refl _)
  have h2 := (lo_le (hs := H') (p := p) (ne_like L h4 hT) i _).1 (Int.le_refl _)
  have e1 := (lo_le (hs := H') (p := p) (ne_like L h4 hT) i (goodLo H p (truthsT H hung K) i)).2 fun d hd => by rw [mins_like L]; exact h1 d ((truths_like L h4 d).1 hd)
  have e2 := (lo_le (hs := H) (p := p) hT i (goodLo H' p (truthsT H' hung K) i)).2 fun d hd => by have := h2 d ((truths_like L h4 d).2 hd); rwa [mins_like L] at this
  omega
theorem hi_like (L : Like H H') (h4 : H.length ≤ 4) (hT : truthsT H hung K ≠ []) (hcl : cl ≤ cl') (p : List Int) (i : Nat) (hi : i < H.length) : goodHi cl H p (truthsT H hung K) i ≤ goodHi cl' H' p (truthsT H' hung K) i := by
  obtain ⟨k1, k2⟩ := (le_hi (cl := cl) (hs := H) (p := p) hT i _).1 (Int.le_refl _)
  refine (le_hi (ne_like L h4 hT) i _).2 ⟨by omega, fun d hd => ?_⟩
  have := k2 d ((truths_like L h4 d).1 hd)
  have := (L.grace i hi).1
  rw [mins_like L]
  omega
theorem kept_like (L : Like H H') (h : checkB cs cl H hung K = 0) (h1 : cl ≤ cl') (h9 : cl' ≤ 99) {p : List Int} (P : Pl cs H.length p) (hT : truthsT H hung K ≠ []) (i : Nat) (hi : i < H.length) :
    keptB cs cl H hung K cs cl' H' hung K p i = true := by
  have h4 := (valid_of h).n4
  refine kept_ok h P hT (check_like L h h1 h9) (by rw [L.len]; exact P) (ne_like L h4 hT) i hi (by rw [L.len]; exact hi) fun _ => ⟨?_, hi_like L h4 hT h1 p i hi⟩
  rw [lo_like L h4 hT]
  exact Int.le_refl _
theorem soon_like (L : Like H H') (h : checkB cs cl H hung K = 0) (h1 : cl ≤ cl') (h9 : cl' ≤ 99) (hT : truthsT H hung K ≠ []) :
    soonB (bestR cs cl H hung K) (bestR cs cl' H' hung K) = true := by
  have h4 := (valid_of h).n4
  refine soon_ok h hT (check_like L h h1 h9) (ne_like L h4 hT) fun q P hok => ⟨q, by rw [L.len]; exact P, ?_⟩
  have hg := (okP_iff cl H _ q).1 hok
  have hok' : okP cl' H' (truthsT H' hung K) q := (okP_iff cl' H' _ q).2 fun j hj => by
    rw [L.len] at hj
    rw [lo_like L h4 hT]
    exact Int.le_trans (hg j hj) (hi_like L h4 hT h1 q j hj)
  refine ⟨hok', (vP_le cl' H' _ q _ hok').2 ⟨((vP_le cl H _ q _ hok).1 (Int.le_refl _)).1, fun j hj => ?_⟩⟩
  rw [L.len] at hj
  rw [lo_like L h4 hT]
  exact ((vP_le cl H _ q _ hok).1 (Int.le_refl _)).2 j hj
end
theorem rd139_set (H : List S139) (k : Nat) (v : S139) (hk : k < H.length) (i : Nat) : rd_T139 (H.set k v) i = if i = k then v else rd_T139 H i := by
  unfold rd_T139
  rw [Int.toNat_natCast, List.getD_eq_getElem?_getD, List.getD_eq_getElem?_getD, List.getElem?_set]
  by_cases e : k = i
  · subst e; rw [if_pos rfl, if_pos hk, if_pos rfl]; rfl
  · rw [if_neg e, if_neg (fun h => e h.symm)]
theorem like_refl (H : List S139) (h : ∀ k : Nat, k < H.length → (rd_T139 H k).f2 ≤ 30) : Like H H := ⟨rfl, fun _ => rfl, fun _ => rfl, fun k hk => ⟨Int.le_refl _, h k hk⟩⟩
/-- More Grace of one horse. -/
theorem like_grace (hs : List S68) (k : Nat) (hk : k < hs.length) (g : Int) (hall : ∀ i : Nat, i < hs.length → (rd_T68 hs i).f2 ≤ 30) (h1 : (rd_T68 hs k).f2 ≤ g) (h2 : g ≤ 30) :
    Like (hs.map toH) ((hs.set k ⟨⟨(rd_T68 hs k).f0.f0, (rd_T68 hs k).f0.f1⟩, (rd_T68 hs k).f1, g⟩).map toH) := by
  have hk' : k < (hs.map toH).length := by rw [List.length_map]; exact hk
  have e : ∀ i : Nat, rd_T139 ((hs.set k ⟨⟨(rd_T68 hs k).f0.f0, (rd_T68 hs k).f0.f1⟩, (rd_T68 hs k).f1, g⟩).map toH) i = if i = k then toH ⟨⟨(rd_T68 hs k).f0.f0, (rd_T68 hs k).f0.f1⟩, (rd_T68 hs k).f1, g⟩ else rd_T139 (hs.map toH) i := by
    intro i
    rw [List.map_set]
    exact rd139_set _ _ _ hk' i
  refine ⟨by simp, fun i => ?_, fun i => ?_, fun i hi => ?_⟩
  · rw [e i]; split
    · rename_i h; subst h; rw [rd_toH]; rfl
    · rfl
  · rw [e i]; split
    · rename_i h; subst h; rw [rd_toH]; rfl
    · rfl
  · rw [e i]
    rw [List.length_map] at hi
    split
    · rename_i h; subst h; rw [rd_toH]; exact ⟨h1, h2⟩
    · rw [rd_toH]; exact ⟨Int.le_refl _, hall i hi⟩
end Go.Proofs.Ytokhmghgghjmhaa.Q
namespace Go.Proofs.Ytokhmghgghjmhaa.Q
open Go.RowKit Go.Proofs.YtokhmghgghjmhaaW.PrintWords Go.Proofs.YtokhmghgghjmhaaW.PrintLast Go.Proofs.YtokhmghgghjmhaaW.PrintMore
set_option linter.unusedVariables false
/-- Horses of a law's own: a row of a block that it made. -/
def Hr (w : World) (base : Nat) (A : Option Addr) (d : Nat) (hs : List S68) (ok : Nat → Prop) : Prop := Kd.R k68 68 w base ok (.slice A hs.length d) hs
theorem Hr.later {w w' : World} {base : Nat} {A : Option Addr} {d : Nat} {hs : List S68} {ok : Nat → Prop} (h : Hr w base A d hs ok) (hb : Below w.heap.size w w') : Hr w' base A d hs ok := Kd.R_below h hb
theorem Hr.reads {w : World} {base : Nat} {A : Option Addr} {d : Nat} {hs : List S68} {ok : Nat → Prop} (h : Hr w base A d hs ok) : Kd.C k68 w A hs.length hs ∧ hs.length ≤ d := by
  have h2 := Kd.R_reads' h
  exact ⟨h2.2.2, h2.2.1⟩
/-- A block of closets has been written elsewhere. -/
theorem Hr.far {w : World} {base : Nat} {A : Option Addr} {d : Nat} {hs : List S68} {ok : Nat → Prop} {g j : Nat} {cs : Array Value} (h : Hr w base A d hs ok) (hg : w.heap[g]? = some (.cells cs 26 (0, 0))) (v : Value) : Hr (w.setCell ⟨g, j, none⟩ v) base A d hs (fun k => ok k ∧ k ≠ g) :=
  Kd.R_far (p := ⟨g, j, none⟩) (Kd.R_types h hg (by decide)) (fun _ hk => hk.2) v
/-- A field of one horse is written. -/
theorem Hr.put {w : World} {base g d : Nat} {hs : List S68} {ok : Nat → Prop} (h : Hr w base (some ⟨g, 0, none⟩) d hs ok) (k : Nat) (hk : k < hs.length) (j : Nat) (hj : j < 4) (v : Int) (x : S68)
    (hx : ([.int .i64 (rd_T68 hs k).f0.f0, .int .i64 (rd_T68 hs k).f0.f1, .int .i64 (rd_T68 hs k).f1, .int .i64 (rd_T68 hs k).f2] : List Value).set j (.int .i64 v) = [.int .i64 x.f0.f0, .int .i64 x.f0.f1, .int .i64 x.f1, .int .i64 x.f2]) :
    Hr (w.setCell ⟨g, k * 4 + j, none⟩ (.int .i64 v)) base (some ⟨g, 0, none⟩) d (hs.set k x) ok := by
  obtain ⟨c, hcl, hM, hcc, hfr⟩ := Kd.R_elem h z68 (k : Int) (by omega) (by omega)
  rw [Int.toNat_natCast] at hM hcc
  have hc : c = [.int .i64 (rd_T68 hs k).f0.f0, .int .i64 (rd_T68 hs k).f0.f1, .int .i64 (rd_T68 hs k).f1, .int .i64 (rd_T68 hs k).f2] := by
    have := k68_openM hM
    exact this
  have e : c.take j ++ [.int .i64 v] ++ c.drop (j + 1) = [.int .i64 x.f0.f0, .int .i64 x.f0.f1, .int .i64 x.f1, .int .i64 x.f2] := by
    rw [← hx, hc]
    rcases j with _ | _ | _ | _ | j
    · rfl
    · rfl
    · rfl
    · rfl
    · omega
  have hs2 := (Kd.R_seg h (k : Int) (by omega) (by omega) (seg := [.int .i64 v]) (j := j) (by exact hcl) (by rw [Int.toNat_natCast]; exact hcc) (show j + 1 ≤ 4 by omega) (x' := x) (okp := fun k' => ok k' ∧ k' ≠ g) (by
    show k68.M w base _ x (c.take j ++ [.int .i64 v] ++ c.drop (j + 1))
    rw [e]; exact k68_mkM _ _ _ x) (fun _ hk => hk)).1
  rw [Int.toNat_natCast] at hs2
  unfold Hr
  rw [List.length_set]
  exact hs2
theorem Hr.at {w : World} {base g d : Nat} {hs : List S68} {ok : Nat → Prop} (h : Hr w base (some ⟨g, 0, none⟩) d hs ok) (k : Nat) (hk : k < hs.length) :
    w.cell? ⟨g, k * 4, none⟩ = some (.int .i64 (rd_T68 hs k).f0.f0) ∧ w.cell? ⟨g, k * 4 + 1, none⟩ = some (.int .i64 (rd_T68 hs k).f0.f1) ∧ w.cell? ⟨g, k * 4 + 2, none⟩ = some (.int .i64 (rd_T68 hs k).f1) ∧ w.cell? ⟨g, k * 4 + 3, none⟩ = some (.int .i64 (rd_T68 hs k).f2) ∧ ∀ j, w.frozen? ⟨g, k * 4 + j, none⟩ = false := by
  obtain ⟨c, hcl, hM, hcc, hfr⟩ := Kd.R_elem h z68 (k : Int) (by omega) (by omega)
  rw [Int.toNat_natCast] at hM hcc hfr
  obtain rfl := k68_openM hM
  exact ⟨hcc 0 _ rfl, hcc 1 _ rfl, hcc 2 _ rfl, hcc 3 _ rfl, hfr⟩
theorem Hr.form {w : World} {base : Nat} {A : Option Addr} {d : Nat} {hs : List S68} {ok : Nat → Prop} (h : Hr w base A d hs ok) (hp : 0 < hs.length) : ∃ g, A = some ⟨g, 0, none⟩ ∧ base ≤ g ∧ g < w.heap.size := by
  obtain ⟨g, cap, e, h1, h2, _⟩ := Kd.R_form h hp
  injection e with e1 e2 e3
  exact ⟨g, e1, h1, h2⟩
end Go.Proofs.Ytokhmghgghjmhaa.Q
namespace Go.Proofs.Ytokhmghgghjmhaa.Q
open Go.RowKit Go.Proofs.YtokhmghgghjmhaaW.PrintWords Go.Proofs.YtokhmghgghjmhaaW.PrintLast Go.Proofs.YtokhmghgghjmhaaW.PrintMore
set_option linter.unusedVariables false
set_option linter.unusedSimpArgs false
attribute [local go_sem] max2_mx min2_mn max_two min_two
set_option maxHeartbeats 4000000 in
set_option maxRecDepth 100000 in
theorem grace_walk {cs cl : Int} {A2 A3 A4 : Option Addr} {c2 c3 c4 : Nat} {hs : List S68} {hung : List Int} {looks : List S84} {A : Option Addr} {c : Nat} {words : List Int} {hh bb : Int} {w : World} (M : Ref w A2 A3 A4 c2 c3 c4 hs hung looks) (hW : Ls .u16 w A c words) (hwd : Words words) (hdn : 0 ≤ hh ∧ hh ≤ 255) (hbn : 0 ≤ bb ∧ bb ≤ 255) :
    Calls Try.prog 8 #[.agg #[.int .i64 cs, .int .i64 cl, .slice A2 hs.length c2, .slice A3 hung.length c3, .slice A4 looks.length c4], .slice A words.length c, .int .u8 hh, .int .u8 bb] w fun e w' => e = .returned (.bool true) ∧ Below w.heap.size w w' := by
  have HM := Aside0.mk M
  have HW := Aside0.mk hW
  have HWD := Aside0.mk hwd
  have HDN := Aside0.mk hdn
  have HBN := Aside0.mk hbn
  clear M hW hwd hdn hbn
  obtain ⟨W0, hW0⟩ : ∃ W0, w.alloc (.cells #[.int .i64 cs, .int .i64 cl, .slice A2 hs.length c2, .slice A3 hung.length c3, .slice A4 looks.length c4] 26) = W0 := ⟨_, rfl⟩
  have HB := Aside0.mk (Box.new hW0).2
  have HK := Aside0.mk (Box.new hW0).1
  have b0 := HK.out.at0
  have b1 := HK.out.at1
  have b2 := HK.out.at2
  have b3 := HK.out.at3
  have b4 := HK.out.at4
  go_enter Try.func8, Try.ntmps8
  go_wp2_with fail
  try rw [hW0]
  clear hW0
  obtain ⟨rdy, hrd⟩ : ∃ rdy, decide ((hs.length ≤ 30 ∧ hung.length ≤ 30 ∧ looks.length ≤ 30) ∧ checkB cs cl (hs.map toH) hung (looks.map toL) = 0) = rdy := ⟨_, rfl⟩
  have HRD := Aside0.mk hrd
  clear hrd
  refine (ready_q (HM.out.later HB.out) HRD.out).mono ?_
  rintro e w1 ⟨rfl, hb⟩
  replace HB := Aside0.mk (below_step HB.out hb)
  replace HK := Aside0.mk (HK.out.later hb)
  replace b0 := HK.out.at0
  replace b1 := HK.out.at1
  replace b2 := HK.out.at2
  replace b3 := HK.out.at3
  replace b4 := HK.out.at4
  clear hb
  cases rdy with
  | false =>
    go_wp2_with fail
    refine (awake_calls _).mono ?_
    rintro e w2 ⟨rfl, hb⟩
    replace HB := Aside0.mk (below_step HB.out hb)
    clear hb
    go_wp2_with fail
    go_ret
    exact ⟨rfl, HB.out⟩
  | true =>
  by_cases hz : hs.length = 0
  · have hz' : (hs.length : Int) = 0 := by omega
    have hz2 : ((hs.length : Int) == 0) = true := by rw [hz']; rfl
    clear hz hz'
    go_wp2_with fail
    refine (awake_calls _).mono ?_
    rintro e w3 ⟨rfl, hb⟩
    replace HB := Aside0.mk (below_step HB.out hb)
    clear hb
    go_wp2_with fail
    go_ret
    exact ⟨rfl, HB.out⟩
  have HT := Aside0.mk (of_decide_eq_true HRD.out).1
  have HC := Aside0.mk (of_decide_eq_true HRD.out).2
  have HV := Aside0.mk (valid_of HC.out)
  obtain ⟨p, hp, hP⟩ := placedw_f (hung := hung) (looks := looks) (cl := cl) HWD.out HV.out 3000 (Nat.le_refl _)
  have HP := Aside0.mk hP
  have HPF := Aside0.mk hp
  have HPL := Aside0.mk (show p.length ≤ 1000 from by have := hP.len; have := (of_decide_eq_true HRD.out).1; omega)
  clear hp hP
  have hz' : ((hs.length : Int) == 0) = false := beq_eq_false_iff_ne.2 (by omega)
  have hz3 : ¬ (hs.length : Int) = 0 := by omega
  obtain ⟨k, hk, hkl⟩ := mod_nat (m := hs.length) HDN.out.1 (by omega)
  have hhw : IntKind.i64.wrap hh = hh := IntWalk.i64_in _ (by have := HDN.out; omega)
  have HKL := Aside0.mk hkl
  go_wp2_with fail
  go_region_held3 (fun W' => Below w.heap.size w W' ∧ Box W' w.heap.size cs cl A2 A3 A4 hs.length hung.length looks.length c2 c3 c4 ∧ W'.cell? ⟨w.heap.size, 0, none⟩ = some (.int .i64 cs) ∧ W'.cell? ⟨w.heap.size, 1, none⟩ = some (.int .i64 cl) ∧ W'.cell? ⟨w.heap.size, 2, none⟩ = some (.slice A2 hs.length c2) ∧ W'.cell? ⟨w.heap.size, 3, none⟩ = some (.slice A3 hung.length c3) ∧ W'.cell? ⟨w.heap.size, 4, none⟩ = some (.slice A4 looks.length c4)) (first | exact ⟨below_drew HB.out, HK.out, b0, b1, b2, b3, b4⟩ | (go_split_ands; with_reducible exact ⟨below_step (by assumption) hbx.out, Box.later (by assumption) hbx.out, later hbx.out (by assumption), later hbx.out (by assumption), later hbx.out (by assumption), later hbx.out (by assumption), later hbx.out (by assumption)⟩)) ((first | (go_at_call 42; go_split_ands; refine (placedw_q (HM.out.later (by assumption)) (HW.out.later (by assumption)) HPF.out).mono ?_; rintro e wx ⟨B, d, rfl, hli, hbx⟩; replace hbx := Aside0.mk hbx; have HLI := Aside0.mk hli; clear hli)))
  go_split_ands
  replace HB : Aside0 (Below w.heap.size w wx) := ⟨by assumption⟩
  replace HK : Aside0 (Box wx w.heap.size cs cl A2 A3 A4 hs.length hung.length looks.length c2 c3 c4) := ⟨by assumption⟩
  replace b0 := HK.out.at0
  replace b1 := HK.out.at1
  replace b2 := HK.out.at2
  replace b3 := HK.out.at3
  replace b4 := HK.out.at4
  try rw [hk]
  clear hk hhw hz3 hz' hz hkl
  obtain ⟨ah, e2, _⟩ := HM.out.h2.2.2 (by have := HKL.out; omega)
  cases e2
  have hgr := (HV.out.grace k (by rw [List.length_map]; exact HKL.out))
  rw [rd_toH] at hgr
  have hgr : 0 ≤ (rd_T68 hs k).f2 ∧ (rd_T68 hs k).f2 ≤ 30 := hgr
  have HGR := Aside0.mk hgr
  have HCL := Aside0.mk (show 0 ≤ cl ∧ cl ≤ 99 from ⟨HV.out.k0, HV.out.k99⟩)
  have hbw : IntKind.i64.wrap bb = bb := IntWalk.i64_in _ (by have := HBN.out; omega)
  obtain ⟨q2, hq2⟩ : ∃ q2, Int.tdiv bb 2 = q2 := ⟨_, rfl⟩
  have hq : 0 ≤ q2 ∧ q2 ≤ 127 := by have := HBN.out; rw [← hq2, Int.tdiv_eq_ediv_of_nonneg (by omega)]; omega
  have hqw : IntKind.i64.wrap q2 = q2 := IntWalk.i64_in _ (by omega)
  obtain ⟨q8, hq8⟩ : ∃ q8, Int.tmod q2 8 = q8 := ⟨_, rfl⟩
  have hq9 : 0 ≤ q8 ∧ q8 ≤ 7 := by rw [← hq8, Int.tmod_eq_emod_of_nonneg (by omega)]; omega
  have HQ9 := Aside0.mk hq9
  have hqw8 : IntKind.i64.wrap q8 = q8 := IntWalk.i64_in _ (by omega)
  have hqa := hq.1
  have hqb := hq.2
  have hqc := hq9.1
  have hqd := hq9.2
  obtain ⟨gk, hgk⟩ : ∃ gk, (rd_T68 hs k).f2 = gk := ⟨_, rfl⟩
  have hga : 0 ≤ gk := by rw [← hgk]; exact hgr.1
  have hgb : gk ≤ 30 := by rw [← hgk]; exact hgr.2
  have HGK := Aside0.mk hgk
  clear hgk
  have hca := HCL.out.1
  have hcb := HCL.out.2
  clear hq hq9 hgr
  have hsum : IntKind.i64.wrap (gk + q8) = gk + q8 := IntWalk.i64_in _ (by omega)
  have hsum2 : IntKind.i64.wrap (cl + q8) = cl + q8 := IntWalk.i64_in _ (by omega)
  obtain ⟨gv, hgv⟩ : ∃ gv, mn 30 (gk + q8) = gv := ⟨_, rfl⟩
  obtain ⟨cv, hcv⟩ : ∃ cv, mn 99 (cl + q8) = cv := ⟨_, rfl⟩
  have HGV := Aside0.mk (show gk ≤ gv ∧ gv ≤ 30 from by rw [← hgv]; unfold mn; split <;> omega)
  have HCV := Aside0.mk (show cl ≤ cv ∧ cv ≤ 99 from by rw [← hcv]; unfold mn; split <;> omega)
  obtain ⟨par, hpar⟩ : ∃ par, Int.tmod bb 2 = par := ⟨_, rfl⟩
  obtain ⟨ao, eo, ho0, ho1, ho2, ho3⟩ := at_h68 (HM.out.later HB.out).h2 k HKL.out
  cases eo
  rw [HGK.out] at ho3
  by_cases hp0 : par = 0
  · subst hp0
    obtain ⟨W5, hW5⟩ : ∃ W5, wx.alloc (.cells #[.int .i64 cs, .int .i64 cl, .slice (some ah) hs.length c2, .slice A3 hung.length c3, .slice A4 looks.length c4] 26) = W5 := ⟨_, rfl⟩
    have HBX5 := Aside0.mk (Box.new hW5).2
    have HX5 := Aside0.mk (Box.new hW5).1
    have hg6 : w.heap.size < wx.heap.size := blk_lt HK.out
    have hge6 : wx.heap.size ≤ wx.heap.size := Nat.le_refl _
    have hlt6 : wx.heap.size < W5.heap.size := blk_lt HX5.out
    generalize hg : wx.heap.size = g6 at HX5 hg6 hlt6
    rw [hg] at hge6
    have HGE := Aside0.mk (show wx.heap.size ≤ g6 from by omega)
    have HG6 := Aside0.mk hg6
    have HL6 := Aside0.mk hlt6
    have y2 := (HK.out.later HBX5.out).at2
    have x2 := HX5.out.at2
    go_wp2_with (first | rw [hW5, hg] | rw [hW5] | ((with_reducible refine gate_dst (N := 35) rfl ?_); refine Kd.R_lit k68 (w0 := W5) W5.heap.size 68 ?hg (N := 35) ?hd (xs := ([] : List (S68))) (inner := []) (ok := fun _ => True) (okp := fun _ => True) ?hr ?hp (fun _ hk => hk) trivial (Below.refl _ _) (Nat.le_refl _) (by simp) ?_; (case hd => rfl); (case hg => rfl); (case hr => first | (go_simp; done) | (go_simp; rfl)); (case hp => exact (Reps.none _ _)); intro v5 w5 ho5 hb5 hg5 hnew5; have HO5 := Aside0.mk ho5; have HB55 := Aside0.mk hb5; have HRH := Aside0.mk (Kd.C_below HM.out.h2 (below_step (below_step HB.out HBX5.out) hb5)); have y2_5 := later hb5 y2; clear hg5 hnew5 ho5 hb5) | ((with_reducible refine gate_builtin (b := .append) (xs := #[.tmp 35, .tmp 37]) rfl ?_); at_builtin; refine Kd.R_append_rows k68 (w0 := W5) W5.heap.size rfl (.tmp 35) (.tmp 37) 22 68 (.agg #[(.int .i64 0), (.int .i64 0), (.int .i64 0), (.int .i64 0)]) 32 rfl Try.underlying22 info68 rfl (by decide) (by omega) _ ([] : List S68) hs _ _ _ (fun _ => True) (fun _ => False) rfl rfl ?aO ?aR (fun _ _ h => h) (fun _ h => h.elim) ?aF ?aB ?aS ?aL ?_; (case aR => exact HRH.out); (case aB => exact HB55.out); (case aF => exact fun _ _ => trivial); (case aO => exact HO5.out); (case aS => exact HB55.out.size); (case aL => have := HT.out; simp; omega); intro v6 w6 ho hb hg' hat; rw [List.nil_append] at ho; obtain ⟨B6, d6, e6⟩ := Kd.R_slice ho; subst e6; have HO6 := Aside0.mk (show Hr w6 W5.heap.size B6 d6 hs (fun _ => True) from ho); have HB6 := Aside0.mk hb; clear ho hb hg' hat HO5 HB55 HRH y2_5; have HX6 := Aside0.mk (HX5.out.later HB6.out); have x2_6 := HX6.out.at2; have xf_6 := blk_frozen HX6.out 2; have rz_6 := blk_lt HX6.out; obtain ⟨W7, hW7⟩ : ∃ W7, w6.setCell ⟨g6, 2, none⟩ (.slice B6 hs.length d6) = W7 := ⟨_, rfl⟩; have HX7 := Aside0.mk (show Box W7 g6 cs cl B6 A3 A4 hs.length hung.length looks.length d6 c3 c4 from by rw [← hW7]; exact blk_put HX6.out 2 _ rfl); have HBX7 := Aside0.mk (show Below wx.heap.size wx W7 from by rw [← hW7]; exact (below_step HBX5.out HB6.out).setCell (p := ⟨g6, 2, none⟩) HGE.out _); have HH7 := Aside0.mk (show Hr W7 W5.heap.size B6 d6 hs (fun k => True ∧ k ≠ g6) from by rw [← hW7]; exact HO6.out.far HX6.out _)) | rw [hW7] | rw [hW8])
    try rw [hW7]
    obtain ⟨gr, eB, hr1, hr2⟩ := HH7.out.form (by have := HKL.out; omega)
    cases eB
    have HGR1 := Aside0.mk hr1
    have hkl := HKL.out
    have hk0 : (0 : Int) ≤ (k : Int) := by omega
    have hk1 : (k : Int) < (hs.length : Int) := by omega
    have c1 := (HK.out.later HBX7.out).at2
    have c2' := HX7.out.at2
    have c3' := later HBX7.out ho3
    refine wp_region_held_drew (S := fun W' => Below wx.heap.size wx W' ∧ W'.cell? ⟨w.heap.size, 2, none⟩ = some (.slice (some ah) hs.length c2) ∧ W'.cell? ⟨g6, 2, none⟩ = some (.slice (some ⟨gr, 0, none⟩) hs.length d6) ∧ W'.cell? ⟨(ah.add (k * 4)).block, (ah.add (k * 4)).off + 3, none⟩ = some (.int .i64 gk)) (by kernel_rfl) ?hS (fun hHeld => ?_)
    case hS => exact ⟨below_drew HBX7.out, c1, c2', c3'⟩
    have HHD := Aside0.mk (show Hr W7.drew W5.heap.size (some ⟨gr, 0, none⟩) d6 hs (fun k => True ∧ k ≠ g6) from Kd.R_drew HH7.out)
    have HXD := Aside0.mk (show Box W7.drew g6 cs cl (some ⟨gr, 0, none⟩) A3 A4 hs.length hung.length looks.length d6 c3 c4 from blk_drew HX7.out)
    generalize W7.drew = wy at hHeld HHD HXD ⊢
    refine tkT 0 (some 43) (v := ?_) rfl rfl (.inl ⟨by rfl, ?_⟩) ?_
    rotate_left
    · (intro w hSw; (try dsimp only at hSw); go_simp; with_reducible rfl)
    try simp only [pS]
    refine tkT 1 (some 44) (v := ?_) rfl rfl (.inl ⟨by rfl, ?_⟩) ?_
    rotate_left
    · (intro w hSw; (try dsimp only at hSw); go_simp; with_reducible rfl)
    try simp only [pS]
    refine tkT 2 (some 45) (v := ?_) rfl rfl (.inl ⟨by rfl, ?_⟩) ?_
    rotate_left
    · (intro w hSw; (try dsimp only at hSw); go_simp; with_reducible rfl)
    try simp only [pS]
    refine tkT 3 (some 46) (v := ?_) rfl rfl (.inl ⟨by rfl, ?_⟩) ?_
    rotate_left
    · (intro w hSw; (try dsimp only at hSw); go_simp; with_reducible rfl)
    try simp only [pS]
    refine tkT 4 (some 47) (v := ?_) rfl rfl (.inl ⟨by rfl, ?_⟩) ?_
    rotate_left
    · (intro w hSw; (try dsimp only at hSw); go_simp; with_reducible rfl)
    try simp only [pS]
    refine tkT 5 (some 48) (v := ?_) rfl rfl (.inl ⟨by rfl, ?_⟩) ?_
    rotate_left
    · (intro w hSw; (try dsimp only at hSw); go_simp; with_reducible rfl)
    try simp only [pS]
    refine tkT 6 (some 49) (v := ?_) rfl rfl (.inl ⟨by rfl, ?_⟩) ?_
    rotate_left
    · (intro w hSw; (try dsimp only at hSw); go_simp; with_reducible rfl)
    try simp only [pS]
    refine tkT 7 (some 50) (v := ?_) rfl rfl (.inl ⟨by rfl, ?_⟩) ?_
    rotate_left
    · (intro w hSw; (try dsimp only at hSw); go_simp; with_reducible rfl)
    try simp only [pS]
    refine tkT 8 (some 51) (v := ?_) rfl rfl (.inl ⟨by rfl, ?_⟩) ?_
    rotate_left
    · (intro w hSw; (try dsimp only at hSw); go_simp; with_reducible rfl)
    try simp only [pS]
    refine tkT 9 (some 52) (v := ?_) rfl rfl (.inl ⟨by rfl, ?_⟩) ?_
    rotate_left
    · (intro w hSw; (try dsimp only at hSw); go_simp; with_reducible rfl)
    try simp only [pS]
    refine tkT 10 (some 53) (v := ?_) rfl rfl (.inl ⟨by rfl, ?_⟩) ?_
    rotate_left
    · (intro w hSw; (try dsimp only at hSw); go_simp; with_reducible rfl)
    try simp only [pS]
    refine tkT 11 (some 54) (v := ?_) rfl rfl (.inl ⟨by rfl, ?_⟩) ?_
    rotate_left
    · (intro w hSw; (try dsimp only at hSw); go_simp; with_reducible rfl)
    try simp only [pS]
    refine tkT 12 (some 55) (v := ?_) rfl rfl (.inl ⟨by rfl, ?_⟩) ?_
    rotate_left
    · (intro w hSw; (try dsimp only at hSw); go_simp; with_reducible rfl)
    try simp only [pS]
    refine tkT 13 (some 56) (v := ?_) rfl rfl (.inl ⟨by rfl, ?_⟩) ?_
    rotate_left
    · (intro w hSw; (try dsimp only at hSw); go_simp; with_reducible rfl)
    try simp only [pS]
    refine tkT 14 (some 57) (v := ?_) rfl rfl (.inl ⟨by rfl, ?_⟩) ?_
    rotate_left
    · (intro w hSw; (try dsimp only at hSw); go_simp; with_reducible rfl)
    try simp only [pS]
    refine tkT 15 (some 58) (v := ?_) rfl rfl (.inl ⟨by rfl, ?_⟩) ?_
    rotate_left
    · (intro w hSw; (try dsimp only at hSw); go_simp; with_reducible rfl)
    try simp only [pS]
    refine tkT 16 (some 59) (v := ?_) rfl rfl (.inl ⟨by rfl, ?_⟩) ?_
    rotate_left
    · (intro w hSw; (try dsimp only at hSw); go_simp; with_reducible rfl)
    try simp only [pS]
    refine wpAnyH_ready (rs := [17]) (by kernel_rfl) (by simp) ?_
    refine AllReadyH.cons (o := { dst := none, op := Op.store 3 (Operand.tmp 59) (Operand.tmp 57), type := 0, pos := "outright.go:301", after := #[{ on := 16, ground := Ground.data }, { on := 14, ground := Ground.data }, { on := 0, ground := Ground.phase }, { on := 1, ground := Ground.phase }, { on := 2, ground := Ground.phase }, { on := 3, ground := Ground.phase }, { on := 4, ground := Ground.phase }, { on := 5, ground := Ground.phase }, { on := 6, ground := Ground.phase }, { on := 7, ground := Ground.phase }, { on := 8, ground := Ground.phase }, { on := 9, ground := Ground.phase }, { on := 10, ground := Ground.phase }, { on := 11, ground := Ground.phase }, { on := 12, ground := Ground.phase }, { on := 13, ground := Ground.phase }, { on := 14, ground := Ground.phase }], guard := none }) rfl (fun K hK => ?_) (AllReadyH.nil)
    have p_ := (HHD.out.at k HKL.out).2.2.2.1
    have pf_ := (HHD.out.at k HKL.out).2.2.2.2 3
    have pz_ := hr2
    go_simp
    clear p_ pf_ pz_
    have HH8 := Aside0.mk (show Hr (wy.setCell ⟨gr, k * 4 + 3, none⟩ (.int .i64 gv)) W5.heap.size (some ⟨gr, 0, none⟩) d6 (hs.set k ⟨⟨(rd_T68 hs k).f0.f0, (rd_T68 hs k).f0.f1⟩, (rd_T68 hs k).f1, gv⟩) (fun k => True ∧ k ≠ g6) from HHD.out.put k HKL.out 3 (by decide) gv _ rfl)
    have HX9 := Aside0.mk (show Box (wy.setCell ⟨gr, k * 4 + 3, none⟩ (.int .i64 gv)) g6 cs cl (some ⟨gr, 0, none⟩) A3 A4 hs.length hung.length looks.length d6 c3 c4 from blk_far HXD.out (p := ⟨gr, k * 4 + 3, none⟩) (by have := HL6.out; have := HGR1.out; show g6 ≠ gr; omega) _)
    have HB9 := Aside0.mk (show Below wx.heap.size wx (wy.setCell ⟨gr, k * 4 + 3, none⟩ (.int .i64 gv)) from hHeld.1.setCell (p := ⟨gr, k * 4 + 3, none⟩) (by have := HL6.out; have := HGR1.out; have := HGE.out; show wx.heap.size ≤ gr; omega) _)
    clear HHD HXD
    generalize wy.setCell ⟨gr, k * 4 + 3, none⟩ (.int .i64 gv) = wz at HH8 HX9 HB9 ⊢
    refine hK.out _ _ ?_ ?_
    · ((try dsimp only); exact ⟨HB9.out, (HK.out.later HB9.out).at2, HX9.out.at2, later HB9.out ho3⟩)
    try clear hHeld
    intro hHeld
    clear hK K
    try simp only [pS]
    refine wpAnyH_done (by kernel_rfl) ?_ _
    have HM9 := Aside0.mk (show Ref wz (some ⟨gr, 0, none⟩) A3 A4 d6 c3 c4 (hs.set k ⟨⟨(rd_T68 hs k).f0.f0, (rd_T68 hs k).f0.f1⟩, (rd_T68 hs k).f1, gv⟩) hung looks from ⟨HH8.out.reads.1, HH8.out.reads.2, (HM.out.later (below_step HB.out HB9.out)).h3, HM.out.l3, (HM.out.later (below_step HB.out HB9.out)).h4, HM.out.l4⟩)
    clear HH8 c1 c2' c3' hHeld hk0 hk1 hkl hr1 hr2
    have hb := HB9.out
    replace HB := Aside0.mk (below_step HB.out hb)
    replace HK := Aside0.mk (HK.out.later hb)
    replace HLI := Aside0.mk (HLI.out.later hb)
    clear hb b0 b1 b2 b3 b4
    have b0 := HK.out.at0
    have b1 := HK.out.at1
    have b2 := HK.out.at2
    have b3 := HK.out.at3
    have b4 := HK.out.at4
    have e0 := HX9.out.at0
    have e1 := HX9.out.at1
    have e2 := HX9.out.at2
    have e3 := HX9.out.at3
    have e4 := HX9.out.at4
    obtain ⟨L, hL⟩ : ∃ L, truL (hs.map toH) hung (looks.map toL) = L := ⟨_, rfl⟩
    have HL := Aside0.mk hL
    clear hL
    go_wp2_with fail
    refine (truths_q (HM.out.later HB.out) HC.out HL.out).mono ?_
    rintro e w4 ⟨BT, bT, rfl, htr, hb⟩
    replace HB := Aside0.mk (below_step HB.out hb)
    replace HK := Aside0.mk (HK.out.later hb)
    replace HLI := Aside0.mk (HLI.out.later hb)
    replace HX9 := Aside0.mk (HX9.out.later hb)
    replace HM9 := Aside0.mk (HM9.out.later hb)
    replace b0 := HK.out.at0
    replace b1 := HK.out.at1
    replace b2 := HK.out.at2
    replace b3 := HK.out.at3
    replace b4 := HK.out.at4
    replace e0 := HX9.out.at0
    replace e1 := HX9.out.at1
    replace e2 := HX9.out.at2
    replace e3 := HX9.out.at3
    replace e4 := HX9.out.at4
    clear hb
    clear htr
    by_cases hLn : L = []
    · obtain rfl := hLn
      obtain ⟨bs, hbs⟩ : ∃ bs, bestR cs cl (hs.map toH) hung (looks.map toL) = bs := ⟨_, rfl⟩
      have HBS := Aside0.mk hbs
      have hbs2 : bs = ([], 0, 11) := by rw [← hbs]; exact best_none HC.out ((truL_nil HV.out.dry HV.out.n4).1 HL.out)
      clear hbs
      go_wp2_with fail
      refine (refcl_q (HM.out.later HB.out) (by have := HT.out; omega) (by have := HT.out; omega) (by have := HT.out; omega)).mono ?_
      rintro e w5 ⟨B2, B3, B4, d2, d3, d4, n2, n3, n4, rfl, hcl, hb⟩
      replace HB := Aside0.mk (below_step HB.out hb)
      replace HK := Aside0.mk (HK.out.later hb)
      replace HLI := Aside0.mk (HLI.out.later hb)
      replace HX9 := Aside0.mk (HX9.out.later hb)
      replace HM9 := Aside0.mk (HM9.out.later hb)
      replace b0 := HK.out.at0
      replace b1 := HK.out.at1
      replace b2 := HK.out.at2
      replace b3 := HK.out.at3
      replace b4 := HK.out.at4
      replace e0 := HX9.out.at0
      replace e1 := HX9.out.at1
      replace e2 := HX9.out.at2
      replace e3 := HX9.out.at3
      replace e4 := HX9.out.at4
      clear hb
      have HCC := Aside0.mk hcl
      clear hcl
      go_wp2_with fail
      refine (best_q HCC.out HBS.out).mono ?_
      rintro e w6 ⟨BB, bB, rfl, hx, hb⟩
      replace HB := Aside0.mk (below_step HB.out hb)
      replace HK := Aside0.mk (HK.out.later hb)
      replace HLI := Aside0.mk (HLI.out.later hb)
      replace HX9 := Aside0.mk (HX9.out.later hb)
      replace HM9 := Aside0.mk (HM9.out.later hb)
      replace b0 := HK.out.at0
      replace b1 := HK.out.at1
      replace b2 := HK.out.at2
      replace b3 := HK.out.at3
      replace b4 := HK.out.at4
      replace e0 := HX9.out.at0
      replace e1 := HX9.out.at1
      replace e2 := HX9.out.at2
      replace e3 := HX9.out.at3
      replace e4 := HX9.out.at4
      clear hb
      subst hbs2
      clear hx
      go_wp2_with fail
      refine (awake_calls _).mono ?_
      rintro e w7 ⟨rfl, hb⟩
      replace HB := Aside0.mk (below_step HB.out hb)
      clear hb
      go_wp2_with fail
      go_ret
      exact ⟨rfl, HB.out⟩
    have hLp : 0 < L.length := List.length_pos_iff.2 hLn
    have hL0 : ((L.length : Int) == 0) = false := beq_eq_false_iff_ne.2 (by omega)
    have HTN := Aside0.mk (show truthsT (hs.map toH) hung (looks.map toL) ≠ [] from fun e => hLn (HL.out ▸ (truL_nil HV.out.dry HV.out.n4).2 e))
    clear hLn
    have HLK := Aside0.mk (like_grace hs k HKL.out gv (fun i hi => by have := (HV.out.grace i (by rw [List.length_map]; exact hi)).2; rw [rd_toH] at this; exact this) (by rw [HGK.out]; exact HGV.out.1) HGV.out.2)
    have HPP := Aside0.mk (show Pl cs (hs.map toH).length p from by rw [List.length_map]; exact HP.out)
    have HTX := Aside0.mk (show ((hs.set k ⟨⟨(rd_T68 hs k).f0.f0, (rd_T68 hs k).f0.f1⟩, (rd_T68 hs k).f1, gv⟩)).length ≤ 30 ∧ hung.length ≤ 30 ∧ looks.length ≤ 30 from by rw [List.length_set]; exact HT.out)
    have HC1 := Aside0.mk (kept_w (cs := cs) (cl := cl) (cs' := cs) (cl' := cl) (HM.out.later HB.out) HM9.out HLI.out HPL.out HT.out HTX.out (fun i hi => kept_like HLK.out HC.out (Int.le_refl _) HV.out.k99 HPP.out HTN.out i (by rw [List.length_map]; exact hi)))
    rw [List.length_set] at HC1
    go_wp2_with fail
    refine HC1.out.mono ?_
    rintro e w8 ⟨rfl, hb⟩
    clear HC1
    replace HB := Aside0.mk (below_step HB.out hb)
    replace HK := Aside0.mk (HK.out.later hb)
    replace HLI := Aside0.mk (HLI.out.later hb)
    replace HX9 := Aside0.mk (HX9.out.later hb)
    replace HM9 := Aside0.mk (HM9.out.later hb)
    replace b0 := HK.out.at0
    replace b1 := HK.out.at1
    replace b2 := HK.out.at2
    replace b3 := HK.out.at3
    replace b4 := HK.out.at4
    replace e0 := HX9.out.at0
    replace e1 := HX9.out.at1
    replace e2 := HX9.out.at2
    replace e3 := HX9.out.at3
    replace e4 := HX9.out.at4
    clear hb
    have HC1 := Aside0.mk (sooner_w (cs := cs) (cl := cl) (cs' := cs) (cl' := cl) (HM.out.later HB.out) HM9.out HT.out HTX.out (soon_like HLK.out HC.out (Int.le_refl _) HV.out.k99 HTN.out))
    rw [List.length_set] at HC1
    go_wp2_with fail
    refine HC1.out.mono ?_
    rintro e w9 ⟨rfl, hb⟩
    clear HC1
    replace HB := Aside0.mk (below_step HB.out hb)
    replace HK := Aside0.mk (HK.out.later hb)
    replace HLI := Aside0.mk (HLI.out.later hb)
    replace HX9 := Aside0.mk (HX9.out.later hb)
    replace HM9 := Aside0.mk (HM9.out.later hb)
    replace b0 := HK.out.at0
    replace b1 := HK.out.at1
    replace b2 := HK.out.at2
    replace b3 := HK.out.at3
    replace b4 := HK.out.at4
    replace e0 := HX9.out.at0
    replace e1 := HX9.out.at1
    replace e2 := HX9.out.at2
    replace e3 := HX9.out.at3
    replace e4 := HX9.out.at4
    clear hb
    go_wp2_with fail
    refine (awake_calls _).mono ?_
    rintro e w10 ⟨rfl, hb⟩
    replace HB := Aside0.mk (below_step HB.out hb)
    clear hb
    go_wp2_with fail
    go_ret
    exact ⟨rfl, HB.out⟩
  · have hp1 : (par == 0) = false := beq_eq_false_iff_ne.2 hp0
    obtain ⟨W5, hW5⟩ : ∃ W5, wx.alloc (.cells #[.int .i64 cs, .int .i64 cl, .slice (some ah) hs.length c2, .slice A3 hung.length c3, .slice A4 looks.length c4] 26) = W5 := ⟨_, rfl⟩
    have HBX5 := Aside0.mk (Box.new hW5).2
    have HX5 := Aside0.mk (Box.new hW5).1
    have hg6 : w.heap.size < wx.heap.size := blk_lt HK.out
    have hge6 : wx.heap.size ≤ wx.heap.size := Nat.le_refl _
    have hlt6 : wx.heap.size < W5.heap.size := blk_lt HX5.out
    generalize hg : wx.heap.size = g6 at HX5 hg6 hlt6
    rw [hg] at hge6
    have HGE := Aside0.mk (show wx.heap.size ≤ g6 from by omega)
    have HG6 := Aside0.mk hg6
    have HL6 := Aside0.mk hlt6
    have y2 := (HK.out.later HBX5.out).at2
    have x2 := HX5.out.at2
    go_wp2_with (first | rw [hW5, hg] | rw [hW5] | ((with_reducible refine gate_dst (N := 35) rfl ?_); refine Kd.R_lit k68 (w0 := W5) W5.heap.size 68 ?hg (N := 35) ?hd (xs := ([] : List (S68))) (inner := []) (ok := fun _ => True) (okp := fun _ => True) ?hr ?hp (fun _ hk => hk) trivial (Below.refl _ _) (Nat.le_refl _) (by simp) ?_; (case hd => rfl); (case hg => rfl); (case hr => first | (go_simp; done) | (go_simp; rfl)); (case hp => exact (Reps.none _ _)); intro v5 w5 ho5 hb5 hg5 hnew5; have HO5 := Aside0.mk ho5; have HB55 := Aside0.mk hb5; have HRH := Aside0.mk (Kd.C_below HM.out.h2 (below_step (below_step HB.out HBX5.out) hb5)); have y2_5 := later hb5 y2; clear hg5 hnew5 ho5 hb5) | ((with_reducible refine gate_builtin (b := .append) (xs := #[.tmp 35, .tmp 37]) rfl ?_); at_builtin; refine Kd.R_append_rows k68 (w0 := W5) W5.heap.size rfl (.tmp 35) (.tmp 37) 22 68 (.agg #[(.int .i64 0), (.int .i64 0), (.int .i64 0), (.int .i64 0)]) 32 rfl Try.underlying22 info68 rfl (by decide) (by omega) _ ([] : List S68) hs _ _ _ (fun _ => True) (fun _ => False) rfl rfl ?aO ?aR (fun _ _ h => h) (fun _ h => h.elim) ?aF ?aB ?aS ?aL ?_; (case aR => exact HRH.out); (case aB => exact HB55.out); (case aF => exact fun _ _ => trivial); (case aO => exact HO5.out); (case aS => exact HB55.out.size); (case aL => have := HT.out; simp; omega); intro v6 w6 ho hb hg' hat; rw [List.nil_append] at ho; obtain ⟨B6, d6, e6⟩ := Kd.R_slice ho; subst e6; have HO6 := Aside0.mk (show Hr w6 W5.heap.size B6 d6 hs (fun _ => True) from ho); have HB6 := Aside0.mk hb; clear ho hb hg' hat HO5 HB55 HRH y2_5; have HX6 := Aside0.mk (HX5.out.later HB6.out); have x2_6 := HX6.out.at2; have xf_6 := blk_frozen HX6.out 2; have rz_6 := blk_lt HX6.out; obtain ⟨W7, hW7⟩ : ∃ W7, w6.setCell ⟨g6, 2, none⟩ (.slice B6 hs.length d6) = W7 := ⟨_, rfl⟩; have HX7 := Aside0.mk (show Box W7 g6 cs cl B6 A3 A4 hs.length hung.length looks.length d6 c3 c4 from by rw [← hW7]; exact blk_put HX6.out 2 _ rfl); have HBX7 := Aside0.mk (show Below wx.heap.size wx W7 from by rw [← hW7]; exact (below_step HBX5.out HB6.out).setCell (p := ⟨g6, 2, none⟩) HGE.out _); have HH7 := Aside0.mk (show Hr W7 W5.heap.size B6 d6 hs (fun k => True ∧ k ≠ g6) from by rw [← hW7]; exact HO6.out.far HX6.out _); have z1 := (HK.out.later HBX7.out).at1; have u1 := HX7.out.at1; have uf1 := blk_frozen HX7.out 1; have uz := blk_lt HX7.out; obtain ⟨W8, hW8⟩ : ∃ W8, W7.setCell ⟨g6, 1, none⟩ (.int .i64 cv) = W8 := ⟨_, rfl⟩; have HX9 := Aside0.mk (show Box W8 g6 cs cv B6 A3 A4 hs.length hung.length looks.length d6 c3 c4 from by rw [← hW8]; exact blk_put HX7.out 1 _ rfl); have HB9 := Aside0.mk (show Below wx.heap.size wx W8 from by rw [← hW8]; exact HBX7.out.setCell (p := ⟨g6, 1, none⟩) HGE.out _); have HH8 := Aside0.mk (show Hr W8 W5.heap.size B6 d6 hs (fun k => (True ∧ k ≠ g6) ∧ k ≠ g6) from by rw [← hW8]; exact HH7.out.far HX7.out _); have z0_ := (HK.out.later HB9.out).at0; have z1_ := (HK.out.later HB9.out).at1; have z2_ := (HK.out.later HB9.out).at2; have z3_ := (HK.out.later HB9.out).at3; have z4_ := (HK.out.later HB9.out).at4) | rw [hW7] | rw [hW8])
    try rw [hcv]
    try rw [hW8]
    have HM9 := Aside0.mk (show Ref W8 B6 A3 A4 d6 c3 c4 hs hung looks from ⟨HH8.out.reads.1, HH8.out.reads.2, (HM.out.later (below_step HB.out HB9.out)).h3, HM.out.l3, (HM.out.later (below_step HB.out HB9.out)).h4, HM.out.l4⟩)
    clear HH8 z1 u1 uf1 uz z0_ z1_ z2_ z3_ z4_
    have hb := HB9.out
    replace HB := Aside0.mk (below_step HB.out hb)
    replace HK := Aside0.mk (HK.out.later hb)
    replace HLI := Aside0.mk (HLI.out.later hb)
    clear hb b0 b1 b2 b3 b4
    have b0 := HK.out.at0
    have b1 := HK.out.at1
    have b2 := HK.out.at2
    have b3 := HK.out.at3
    have b4 := HK.out.at4
    have e0 := HX9.out.at0
    have e1 := HX9.out.at1
    have e2 := HX9.out.at2
    have e3 := HX9.out.at3
    have e4 := HX9.out.at4
    obtain ⟨L, hL⟩ : ∃ L, truL (hs.map toH) hung (looks.map toL) = L := ⟨_, rfl⟩
    have HL := Aside0.mk hL
    clear hL
    refine (truths_q (HM.out.later HB.out) HC.out HL.out).mono ?_
    rintro e w11 ⟨BT, bT, rfl, htr, hb⟩
    replace HB := Aside0.mk (below_step HB.out hb)
    replace HK := Aside0.mk (HK.out.later hb)
    replace HLI := Aside0.mk (HLI.out.later hb)
    replace HX9 := Aside0.mk (HX9.out.later hb)
    replace HM9 := Aside0.mk (HM9.out.later hb)
    replace b0 := HK.out.at0
    replace b1 := HK.out.at1
    replace b2 := HK.out.at2
    replace b3 := HK.out.at3
    replace b4 := HK.out.at4
    replace e0 := HX9.out.at0
    replace e1 := HX9.out.at1
    replace e2 := HX9.out.at2
    replace e3 := HX9.out.at3
    replace e4 := HX9.out.at4
    clear hb
    clear htr
    by_cases hLn : L = []
    · obtain rfl := hLn
      obtain ⟨bs, hbs⟩ : ∃ bs, bestR cs cl (hs.map toH) hung (looks.map toL) = bs := ⟨_, rfl⟩
      have HBS := Aside0.mk hbs
      have hbs2 : bs = ([], 0, 11) := by rw [← hbs]; exact best_none HC.out ((truL_nil HV.out.dry HV.out.n4).1 HL.out)
      clear hbs
      go_wp2_with fail
      refine (refcl_q (HM.out.later HB.out) (by have := HT.out; omega) (by have := HT.out; omega) (by have := HT.out; omega)).mono ?_
      rintro e w12 ⟨B2, B3, B4, d2, d3, d4, n2, n3, n4, rfl, hcl, hb⟩
      replace HB := Aside0.mk (below_step HB.out hb)
      replace HK := Aside0.mk (HK.out.later hb)
      replace HLI := Aside0.mk (HLI.out.later hb)
      replace HX9 := Aside0.mk (HX9.out.later hb)
      replace HM9 := Aside0.mk (HM9.out.later hb)
      replace b0 := HK.out.at0
      replace b1 := HK.out.at1
      replace b2 := HK.out.at2
      replace b3 := HK.out.at3
      replace b4 := HK.out.at4
      replace e0 := HX9.out.at0
      replace e1 := HX9.out.at1
      replace e2 := HX9.out.at2
      replace e3 := HX9.out.at3
      replace e4 := HX9.out.at4
      clear hb
      have HCC := Aside0.mk hcl
      clear hcl
      go_wp2_with fail
      refine (best_q HCC.out HBS.out).mono ?_
      rintro e w13 ⟨BB, bB, rfl, hx, hb⟩
      replace HB := Aside0.mk (below_step HB.out hb)
      replace HK := Aside0.mk (HK.out.later hb)
      replace HLI := Aside0.mk (HLI.out.later hb)
      replace HX9 := Aside0.mk (HX9.out.later hb)
      replace HM9 := Aside0.mk (HM9.out.later hb)
      replace b0 := HK.out.at0
      replace b1 := HK.out.at1
      replace b2 := HK.out.at2
      replace b3 := HK.out.at3
      replace b4 := HK.out.at4
      replace e0 := HX9.out.at0
      replace e1 := HX9.out.at1
      replace e2 := HX9.out.at2
      replace e3 := HX9.out.at3
      replace e4 := HX9.out.at4
      clear hb
      subst hbs2
      clear hx
      go_wp2_with fail
      refine (awake_calls _).mono ?_
      rintro e w14 ⟨rfl, hb⟩
      replace HB := Aside0.mk (below_step HB.out hb)
      clear hb
      go_wp2_with fail
      go_ret
      exact ⟨rfl, HB.out⟩
    have hLp : 0 < L.length := List.length_pos_iff.2 hLn
    have hL0 : ((L.length : Int) == 0) = false := beq_eq_false_iff_ne.2 (by omega)
    have HTN := Aside0.mk (show truthsT (hs.map toH) hung (looks.map toL) ≠ [] from fun e => hLn (HL.out ▸ (truL_nil HV.out.dry HV.out.n4).2 e))
    clear hLn
    have HLK := Aside0.mk (like_refl _ (fun i hi => (HV.out.grace i hi).2))
    have HPP := Aside0.mk (show Pl cs (hs.map toH).length p from by rw [List.length_map]; exact HP.out)
    have HTX := Aside0.mk (show (hs).length ≤ 30 ∧ hung.length ≤ 30 ∧ looks.length ≤ 30 from by exact HT.out)
    have HC1 := Aside0.mk (kept_w (cs := cs) (cl := cl) (cs' := cs) (cl' := cv) (HM.out.later HB.out) HM9.out HLI.out HPL.out HT.out HTX.out (fun i hi => kept_like HLK.out HC.out HCV.out.1 HCV.out.2 HPP.out HTN.out i (by rw [List.length_map]; exact hi)))
    go_wp2_with fail
    refine HC1.out.mono ?_
    rintro e w15 ⟨rfl, hb⟩
    clear HC1
    replace HB := Aside0.mk (below_step HB.out hb)
    replace HK := Aside0.mk (HK.out.later hb)
    replace HLI := Aside0.mk (HLI.out.later hb)
    replace HX9 := Aside0.mk (HX9.out.later hb)
    replace HM9 := Aside0.mk (HM9.out.later hb)
    replace b0 := HK.out.at0
    replace b1 := HK.out.at1
    replace b2 := HK.out.at2
    replace b3 := HK.out.at3
    replace b4 := HK.out.at4
    replace e0 := HX9.out.at0
    replace e1 := HX9.out.at1
    replace e2 := HX9.out.at2
    replace e3 := HX9.out.at3
    replace e4 := HX9.out.at4
    clear hb
    have HC1 := Aside0.mk (sooner_w (cs := cs) (cl := cl) (cs' := cs) (cl' := cv) (HM.out.later HB.out) HM9.out HT.out HTX.out (soon_like HLK.out HC.out HCV.out.1 HCV.out.2 HTN.out))
    go_wp2_with fail
    refine HC1.out.mono ?_
    rintro e w16 ⟨rfl, hb⟩
    clear HC1
    replace HB := Aside0.mk (below_step HB.out hb)
    replace HK := Aside0.mk (HK.out.later hb)
    replace HLI := Aside0.mk (HLI.out.later hb)
    replace HX9 := Aside0.mk (HX9.out.later hb)
    replace HM9 := Aside0.mk (HM9.out.later hb)
    replace b0 := HK.out.at0
    replace b1 := HK.out.at1
    replace b2 := HK.out.at2
    replace b3 := HK.out.at3
    replace b4 := HK.out.at4
    replace e0 := HX9.out.at0
    replace e1 := HX9.out.at1
    replace e2 := HX9.out.at2
    replace e3 := HX9.out.at3
    replace e4 := HX9.out.at4
    clear hb
    go_wp2_with fail
    refine (awake_calls _).mono ?_
    rintro e w17 ⟨rfl, hb⟩
    replace HB := Aside0.mk (below_step HB.out hb)
    clear hb
    go_wp2_with fail
    go_ret
    exact ⟨rfl, HB.out⟩
end Go.Proofs.Ytokhmghgghjmhaa.Q
