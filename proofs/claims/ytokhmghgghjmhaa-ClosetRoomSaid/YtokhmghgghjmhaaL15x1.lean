/- Part L15x1 of the proof (P1, P2, P3, YD, YT, YK, PR, RW, YH): contracts of functions, and plain lemmas about what they compute. -/
import Derived.Test.YtokhmghgghjmhaaA0
import Derived.Test.YtokhmghgghjmhaaA1
import Derived.Test.YtokhmghgghjmhaaA2
import Derived.Test.YtokhmghgghjmhaaA3
import Derived.Test.YtokhmghgghjmhaaA4
import Derived.Test.YtokhmghgghjmhaaB0
import Derived.Test.YtokhmghgghjmhaaB1
import Derived.Test.YtokhmghgghjmhaaB2
import Derived.Test.YtokhmghgghjmhaaB3
import Derived.Test.YtokhmghgghjmhaaB4
import Derived.Test.YtokhmghgghjmhaaB5
import Derived.Test.YtokhmghgghjmhaaB6
import Derived.Test.YtokhmghgghjmhaaL15x0
namespace Go.Proofs.Ytokhmghgghjmhaa.Q
open Go.RowKit Go.Proofs.YtokhmghgghjmhaaW.PrintWords Go.Proofs.YtokhmghgghjmhaaW.PrintLast Go.Proofs.YtokhmghgghjmhaaW.PrintMore
set_option linter.unusedVariables false
def atF (p : List Int) (x : Int) : Nat → Nat → Int
  | 0, _ => -1
  | d + 1, i => if rd p i = x then (i : Int) else atF p x d (i + 1)
theorem at_l0 (p : List Int) (x : Int) (hl : p.length ≤ 1000) : ∀ (d i k : Nat), i + d = p.length → d < k → posserref04_at.l0 k p x i = some (atF p x d i)
  | 0, i, k, h, hk => by
    obtain ⟨k, rfl⟩ : ∃ m, k = m + 1 := ⟨k - 1, by omega⟩
    simp only [posserref04_at.l0, atF]
    rw [if_neg (by omega)]
  | d + 1, i, k, h, hk => by
    obtain ⟨k, rfl⟩ : ∃ m, k = m + 1 := ⟨k - 1, by omega⟩
    have ih := at_l0 p x hl d (i + 1) k (by omega) (by omega)
    simp only [posserref04_at.l0, atF]
    rw [if_pos (by omega), if_pos (by omega), show wrap64 ((i : Int) + 1) = ((i + 1 : Nat) : Int) from by unfold wrap64; omega, ih]
    split <;> rfl
theorem at_f (p : List Int) (x : Int) (hl : p.length ≤ 1000) (k : Nat) (hk : 1000 < k) : posserref04_at.f k p x = some (atF p x p.length 0) := by
  unfold posserref04_at.f
  exact at_l0 p x hl p.length 0 k (by omega) (by omega)
theorem atF_tells (p : List Int) (x : Int) : ∀ (d i : Nat), i + d = p.length → (∃ j : Nat, i ≤ j ∧ j < p.length ∧ rd p j = x ∧ atF p x d i = j) ∨ ((∀ j : Nat, i ≤ j → j < p.length → rd p j ≠ x) ∧ atF p x d i = -1)
  | 0, i, h => .inr ⟨fun j h1 h2 => by omega, rfl⟩
  | d + 1, i, h => by
    simp only [atF]
    by_cases e : rd p i = x
    · exact .inl ⟨i, Nat.le_refl _, by omega, e, by rw [if_pos e]⟩
    · rw [if_neg e]
      rcases atF_tells p x d (i + 1) (by omega) with ⟨j, h1, h2, h3, h4⟩ | ⟨h1, h2⟩
      · exact .inl ⟨j, by omega, h2, h3, h4⟩
      · refine .inr ⟨fun j h3 h4 => ?_, h2⟩
        by_cases hj : j = i
        · subst hj; exact e
        · exact h1 j (by omega) h4
/-- What the horses in one closet add. -/
def sW (hs : List S139) (p : List Int) (x : Int) : Nat → Int
  | 0 => 0
  | k + 1 => sW hs p x k + (if rd p k = x then (rd_T139 hs k).f1 else 0)
theorem adds_sW (hs : List S139) (p : List Int) (i : Nat) : ∀ n, adds hs p i n = sW hs p (rd p i - 1) n + sW hs p (rd p i + 1) n
  | 0 => rfl
  | n + 1 => by
    simp only [adds, sW, adds_sW hs p i n, wet]
    by_cases h1 : rd p n = rd p i - 1
    · rw [if_pos (.inl (by omega)), if_pos h1, if_neg (by omega)]; omega
    · by_cases h2 : rd p n = rd p i + 1
      · rw [if_pos (.inr (by omega)), if_neg h1, if_pos h2]; omega
      · rw [if_neg (by omega), if_neg h1, if_neg h2]; omega
theorem sW_none (hs : List S139) (p : List Int) (x : Int) : ∀ n, (∀ j : Nat, j < n → rd p j ≠ x) → sW hs p x n = 0
  | 0, _ => rfl
  | n + 1, h => by
    simp only [sW]
    rw [sW_none hs p x n (fun j hj => h j (by omega)), if_neg (h n (by omega))]
    rfl
theorem sW_one (hs : List S139) (p : List Int) (x : Int) (j : Nat) (hx : rd p j = x) : ∀ n, j < n → (∀ m : Nat, m < n → m ≠ j → rd p m ≠ x) → sW hs p x n = (rd_T139 hs j).f1
  | 0, h, _ => by omega
  | n + 1, h, hm => by
    simp only [sW]
    by_cases e : j = n
    · subst e
      rw [sW_none hs p x j (fun m h1 => hm m (by omega) (by omega)), if_pos hx]
      omega
    · rw [sW_one hs p x j hx n (by omega) (fun m h1 h2 => hm m (by omega) h2), if_neg (hm n (by omega) (by omega))]
      omega
theorem at_sW {cs : Int} {n : Nat} {p : List Int} (P : Pl cs n p) (hs : List S139) (x : Int) : (atF p x p.length 0 = -1 ∧ sW hs p x p.length = 0) ∨ ∃ j : Nat, j < p.length ∧ atF p x p.length 0 = j ∧ sW hs p x p.length = (rd_T139 hs j).f1 := by
  rcases atF_tells p x p.length 0 (by omega) with ⟨j, _, h2, h3, h4⟩ | ⟨h1, h2⟩
  · exact .inr ⟨j, h2, h4, sW_one hs p x j h3 _ h2 (fun m h5 h6 e => P.apart m j h5 h2 h6 (e.trans h3.symm))⟩
  · exact .inl ⟨h2, sW_none hs p x _ (fun j hj => h1 j (Nat.zero_le _) hj)⟩
theorem minute_f {cs cl : Int} {hs : List S68} {hung : List Int} {looks : List S84} {p d : List Int} (P : Pl cs hs.length p) (hcs : cs ≤ 1000) (h4 : hs.length ≤ 4) (hw : Wets (hs.map toH)) (hd : d.length = hs.length) (hdb : ∀ i : Nat, 0 ≤ rd d i ∧ rd d i ≤ 60)
    (i : Nat) (hi : i < hs.length) (k : Nat) (hk : 1000 < k) : posserref04_Minute.f k cs cl hs hung looks p d i = some (mins (hs.map toH) p (fun j => rd d j) i) := by
  have hpl := P.len
  have hin := P.inside i (by omega)
  have hdi := hdb i
  have hA := adds_sW (hs.map toH) p i p.length
  have hm : mins (hs.map toH) p (fun j => rd d j) i = rd d i + (sW (hs.map toH) p (rd p i - 1) p.length + sW (hs.map toH) p (rd p i + 1) p.length) := by
    unfold mins
    rw [if_pos (by omega), hA]
  have hwb : ∀ j : Nat, j < hs.length → (rd_T139 (hs.map toH) j).f1 = (rd_T68 hs j).f1 ∧ 0 ≤ (rd_T68 hs j).f1 ∧ (rd_T68 hs j).f1 ≤ 9 := by
    intro j hj
    have h1 := hw j (by simpa using hj)
    have h2 := rd_toH hs j
    rw [h2] at h1 ⊢
    exact ⟨rfl, h1⟩
  unfold posserref04_Minute.f
  have e1 : wrap64 (rd p (i : Int) - 1) = rd p i - 1 := by unfold wrap64; omega
  have e2 : wrap64 (rd p (i : Int) + 1) = rd p i + 1 := by unfold wrap64; omega
  rw [if_pos (by omega), if_pos (by omega), if_pos (by omega), e1, e2, at_f p _ (by omega) k hk, at_f p _ (by omega) k hk, hm]
  simp only [Option.bind_some]
  rcases at_sW P (hs.map toH) (rd p i - 1) with ⟨a1, b1⟩ | ⟨j1, c1, a1, b1⟩
  · rw [a1, b1, if_neg (by omega)]
    rcases at_sW P (hs.map toH) (rd p i + 1) with ⟨a2, b2⟩ | ⟨j2, c2, a2, b2⟩
    · rw [a2, b2, if_neg (by omega)]
      simp
    · obtain ⟨g1, g2, g3⟩ := hwb j2 (by omega)
      rw [a2, b2, if_pos (by omega), if_pos (by omega), if_pos (by omega), g1]
      congr 1
      unfold wrap64
      omega
  · obtain ⟨f1, f2, f3⟩ := hwb j1 (by omega)
    rw [a1, b1, if_pos (by omega), if_pos (by omega), if_pos (by omega), f1]
    rcases at_sW P (hs.map toH) (rd p i + 1) with ⟨a2, b2⟩ | ⟨j2, c2, a2, b2⟩
    · rw [a2, b2, if_neg (by omega)]
      congr 1
      unfold wrap64
      omega
    · obtain ⟨g1, g2, g3⟩ := hwb j2 (by omega)
      rw [a2, b2, if_pos (by omega), if_pos (by omega), if_pos (by omega), g1]
      congr 1
      unfold wrap64
      omega
end Go.Proofs.Ytokhmghgghjmhaa.Q
namespace Go.Proofs.Ytokhmghgghjmhaa.Q
open Go.RowKit Go.Proofs.YtokhmghgghjmhaaW.PrintWords Go.Proofs.YtokhmghgghjmhaaW.PrintLast Go.Proofs.YtokhmghgghjmhaaW.PrintMore
set_option linter.unusedVariables false
def nthF (hs : List S139) : Nat → Nat → Nat → List Int
  | 0, _, _ => []
  | d + 1, i, n => ((rd_T139 hs i).f0.f0 + ((n % szN hs i : Nat) : Int)) :: nthF hs d (i + 1) (n / szN hs i)
/-- Each horse's dry numbers are some, and few. -/
def Dries (hs : List S139) : Prop := ∀ i : Nat, i < hs.length → 1 ≤ (rd_T139 hs i).f0.f0 ∧ (rd_T139 hs i).f0.f0 ≤ (rd_T139 hs i).f0.f1 ∧ (rd_T139 hs i).f0.f1 ≤ 60
theorem sz_ok {hs : List S139} (D : Dries hs) (i : Nat) (hi : i < hs.length) : (szN hs i : Int) = (rd_T139 hs i).f0.f1 + 1 - (rd_T139 hs i).f0.f0 ∧ 1 ≤ szN hs i ∧ szN hs i ≤ 60 := by
  have := D i hi
  unfold szN
  omega
theorem nthF_len (hs : List S139) : ∀ (d i n : Nat), (nthF hs d i n).length = d
  | 0, _, _ => rfl
  | d + 1, i, n => by simp only [nthF, List.length_cons, nthF_len hs d (i + 1)]
theorem rd_cons0 (a : Int) (l : List Int) : rd (a :: l) ((0 : Nat) : Int) = a := by rw [rd_nn]; rfl
theorem rd_cons (a : Int) (l : List Int) (j : Nat) : rd (a :: l) ((j + 1 : Nat) : Int) = rd l j := by rw [rd_nn, rd_nn]; rfl
theorem rd_out (l : List Int) (j : Nat) (h : l.length ≤ j) : rd l j = 0 := by
  rw [rd_nn, List.getD_eq_getElem?_getD, List.getElem?_eq_none h]; rfl
theorem nthF_box {hs : List S139} (D : Dries hs) : ∀ (d i n j : Nat), i + d = hs.length → j < d → (rd_T139 hs (i + j : Nat)).f0.f0 ≤ rd (nthF hs d i n) j ∧ rd (nthF hs d i n) j ≤ (rd_T139 hs (i + j : Nat)).f0.f1
  | 0, i, n, j, _, hj => by omega
  | d + 1, i, n, 0, h, hj => by
    have h1 := sz_ok D i (by omega)
    have h2 := Nat.mod_lt n h1.2.1
    simp only [nthF, Nat.add_zero]
    rw [rd_cons0]
    omega
  | d + 1, i, n, j + 1, h, hj => by
    have ih := nthF_box D d (i + 1) (n / szN hs i) j (by omega) (by omega)
    simp only [nthF]
    rw [rd_cons, show i + (j + 1) = i + 1 + j from by omega]
    exact ih
/-- Each row of dry numbers has a number. -/
theorem nthF_surj {hs : List S139} (D : Dries hs) : ∀ (d i : Nat) (y : Nat → Int), i + d = hs.length → (∀ j : Nat, j < d → (rd_T139 hs (i + j : Nat)).f0.f0 ≤ y j ∧ y j ≤ (rd_T139 hs (i + j : Nat)).f0.f1) →
    ∃ n, n < prN hs d i ∧ ∀ j : Nat, j < d → rd (nthF hs d i n) j = y j
  | 0, i, y, _, _ => ⟨0, by simp [prN], fun j hj => by omega⟩
  | d + 1, i, y, h, hy => by
    have h1 := sz_ok D i (by omega)
    have h0 := hy 0 (by omega)
    obtain ⟨m, hm, hmj⟩ := nthF_surj D d (i + 1) (fun j => y (j + 1)) (by omega) (fun j hj => by rw [show i + 1 + j = i + (j + 1) from by omega]; exact hy (j + 1) (by omega))
    simp only [Nat.add_zero] at h0
    obtain ⟨r, hr⟩ : ∃ r : Nat, (r : Int) = y 0 - (rd_T139 hs i).f0.f0 := ⟨(y 0 - (rd_T139 hs i).f0.f0).toNat, by omega⟩
    have hrs : r < szN hs i := by omega
    refine ⟨m * szN hs i + r, ?_, fun j hj => ?_⟩
    · simp only [prN]
      have : (m + 1) * szN hs i ≤ prN hs d (i + 1) * szN hs i := Nat.mul_le_mul_right _ hm
      rw [Nat.mul_comm (szN hs i)]
      rw [Nat.add_mul, Nat.one_mul] at this
      omega
    · have e1 : (m * szN hs i + r) % szN hs i = r := by rw [Nat.mul_comm, Nat.mul_add_mod, Nat.mod_eq_of_lt hrs]
      have e2 : (m * szN hs i + r) / szN hs i = m := by rw [Nat.mul_comm, Nat.mul_add_div (by omega), Nat.div_eq_of_lt hrs]; omega
      simp only [nthF]
      rw [e1, e2]
      cases j with
      | zero => rw [rd_cons0]; omega
      | succ j => rw [rd_cons]; exact hmj j (by omega)
/-- Each row in the ranges is among all. -/
theorem allN_of (hs : List S139) : ∀ (d h : Nat) (x y : Nat → Int), (∀ i, i < h ∨ h + d ≤ i → y i = x i) → (∀ i : Nat, h ≤ i → i < h + d → (rd_T139 hs i).f0.f0 ≤ y i ∧ y i ≤ (rd_T139 hs i).f0.f1) → y ∈ allN hs d h x
  | 0, h, x, y, h1, _ => by
    simp only [allN, List.mem_singleton]
    exact funext fun i => h1 i (by omega)
  | d + 1, h, x, y, h1, h2 => by
    have hh := h2 h (Nat.le_refl _) (by omega)
    simp only [allN, List.mem_flatMap]
    refine ⟨y h, ?_, ?_⟩
    · simp only [vals, List.mem_map, List.mem_range]
      exact ⟨(y h - (rd_T139 hs h).f0.f0).toNat, by omega, by omega⟩
    · refine allN_of hs d (h + 1) (upd x h (y h)) y (fun i hi => ?_) (fun i hi1 hi2 => h2 i (by omega) (by omega))
      unfold upd
      split
      · rename_i e; rw [e]
      · exact h1 i (by omega)
theorem dries_iff {hs : List S139} (y : Nat → Int) : y ∈ dries hs ↔ (∀ i, hs.length ≤ i → y i = 0) ∧ ∀ i : Nat, i < hs.length → (rd_T139 hs i).f0.f0 ≤ y i ∧ y i ≤ (rd_T139 hs i).f0.f1 := by
  constructor
  · intro h
    obtain ⟨h1, h2⟩ := allN_mem hs hs.length 0 _ y (by omega) h
    exact ⟨fun i hi => h1 i (.inr hi), fun i hi => h2 i (Nat.zero_le _) hi⟩
  · rintro ⟨h1, h2⟩
    exact allN_of hs hs.length 0 (fun _ => 0) y (fun i hi => h1 i (by omega)) (fun i _ hi => h2 i (by omega))
/-- The dry numbers with the numbers are all dry numbers. -/
theorem nth_dries {hs : List S139} (D : Dries hs) (n : Nat) : nums (nthF hs hs.length 0 n) ∈ dries hs := by
  refine (dries_iff _).2 ⟨fun i hi => rd_out _ _ (by rw [nthF_len]; exact hi), fun i hi => ?_⟩
  have := nthF_box D hs.length 0 n i (by omega) hi
  rwa [Nat.zero_add] at this
theorem dries_nth {hs : List S139} (D : Dries hs) {y : Nat → Int} (h : y ∈ dries hs) : ∃ n, n < prN hs hs.length 0 ∧ nums (nthF hs hs.length 0 n) = y := by
  obtain ⟨h1, h2⟩ := (dries_iff y).1 h
  obtain ⟨n, hn, hj⟩ := nthF_surj D hs.length 0 y (by omega) (fun j hj => by rw [Nat.zero_add]; exact h2 j hj)
  refine ⟨n, hn, funext fun i => ?_⟩
  by_cases hi : i < hs.length
  · exact hj i hi
  · rw [h1 i (by omega)]; exact rd_out _ _ (by rw [nthF_len]; omega)
theorem keep1_sub {hs : List S139} {hung : List Int} {looks : List S140} {ts : List (Nat → Int)} {d t : Nat → Int} (h : t ∈ ts) : t ∈ keep1 hs hung looks ts d := by
  unfold keep1
  split
  · exact List.mem_append_left _ h
  · exact h
theorem keep_sub {hs : List S139} {hung : List Int} {looks : List S140} : ∀ (pre ts : List (Nat → Int)) (t : Nat → Int), t ∈ ts → t ∈ pre.foldl (keep1 hs hung looks) ts
  | [], ts, t, h => h
  | d :: r, ts, t, h => keep_sub r _ t (keep1_sub h)
theorem keep_all {hs : List S139} {hung : List Int} {looks : List S140} (h4 : hs.length ≤ 4) : ∀ (pre ts : List (Nat → Int)), (∀ t ∈ ts, ∀ i, hs.length ≤ i → t i = 0) → (∀ t ∈ pre, ∀ i, hs.length ≤ i → t i = 0) →
    ∀ d ∈ pre, rightB hs hung looks d [] = true → d ∈ pre.foldl (keep1 hs hung looks) ts
  | [], ts, _, _, d, h, _ => by cases h
  | a :: r, ts, h0, h1, d, h, hr => by
    have hk : ∀ t ∈ keep1 hs hung looks ts a, ∀ i, hs.length ≤ i → t i = 0 := by
      intro t ht
      unfold keep1 at ht
      split at ht
      · rcases List.mem_append.1 ht with h | h
        · exact h0 t h
        · rw [List.mem_singleton] at h; subst h; exact h1 _ (List.mem_cons_self)
      · exact h0 t ht
    rcases List.mem_cons.1 h with rfl | h
    · refine keep_sub r _ d ?_
      unfold keep1
      by_cases hc : rightB hs hung looks d [] = true ∧ (ts = [] ∨ ne4 (rdN ts (ts.length - 1)) d = true)
      · rw [if_pos hc]; exact List.mem_append_right _ (List.mem_singleton.2 rfl)
      · rw [if_neg hc]
        have hne : ts ≠ [] := fun e => hc ⟨hr, .inl e⟩
        have heq : ne4 (rdN ts (ts.length - 1)) d = false := by
          cases e : ne4 (rdN ts (ts.length - 1)) d
          · rfl
          · exact absurd ⟨hr, .inr e⟩ hc
        have hlt : ts.length - 1 < ts.length := by have := List.length_pos_iff.2 hne; omega
        have hmem : rdN ts (ts.length - 1) ∈ ts := by
          unfold rdN
          rw [List.getD_eq_getElem?_getD, List.getElem?_eq_getElem hlt]
          exact List.getElem_mem hlt
        have : rdN ts (ts.length - 1) = d := by
          simp only [ne4, Bool.not_eq_false', Bool.and_eq_true, decide_eq_true_eq] at heq
          funext i
          by_cases hi : i < 4
          · rcases i with _ | _ | _ | _ | i
            · exact heq.1.1.1
            · exact heq.1.1.2
            · exact heq.1.2
            · exact heq.2
            · omega
          · rw [h0 _ hmem i (by omega), h1 d List.mem_cons_self i (by omega)]
        rw [← this]
        exact hmem
    · exact keep_all h4 r _ hk (fun t ht => h1 t (List.mem_cons_of_mem _ ht)) d h hr
theorem truths_iff {hs : List S139} {hung : List Int} {looks : List S140} (h4 : hs.length ≤ 4) (d : Nat → Int) : d ∈ truthsT hs hung looks ↔ d ∈ dries hs ∧ rightB hs hung looks d [] = true :=
  ⟨truths_mem, fun h => keep_all h4 (dries hs) [] (fun t ht => by cases ht) (fun t ht => ((dries_iff t).1 ht).1) d h.1 h.2⟩
end Go.Proofs.Ytokhmghgghjmhaa.Q
namespace Go.Proofs.Ytokhmghgghjmhaa.Q
open Go.RowKit Go.Proofs.YtokhmghgghjmhaaW.PrintWords Go.Proofs.YtokhmghgghjmhaaW.PrintLast Go.Proofs.YtokhmghgghjmhaaW.PrintMore
set_option linter.unusedVariables false
def bitF : List Bool → Nat → Int → Int
  | [], _, x => x
  | b :: l, i, x => bitF l (i + 1) (if b = true then Go.bits .or .i64 x (shl .i64 1 (IntKind.u64.wrap (i : Int))) else x)
theorem bit_full : ∀ l : List Bool, l.length ≤ 5 → (bitF l 0 0 = wrap64 ((shl .i64 1 (IntKind.u64.wrap (l.length : Int))) - 1) ↔ l.all id = true)
  | [], _ => by decide +kernel
  | [a], _ => by cases a <;> decide +kernel
  | [a, b], _ => by cases a <;> cases b <;> decide +kernel
  | [a, b, c], _ => by cases a <;> cases b <;> cases c <;> decide +kernel
  | [a, b, c, d], _ => by cases a <;> cases b <;> cases c <;> cases d <;> decide +kernel
  | [a, b, c, d, e], _ => by cases a <;> cases b <;> cases c <;> cases d <;> cases e <;> decide +kernel
  | _ :: _ :: _ :: _ :: _ :: _ :: _, h => by simp only [List.length_cons] at h; omega
def okF (hs : List S139) (hung : List Int) (looks : List S140) (d : Nat → Int) : Nat → Nat → List Bool
  | 0, _ => []
  | m + 1, i => lookOk hs hung d (rd_T140 looks i) :: okF hs hung looks d m (i + 1)
theorem okF_len (hs : List S139) (hung : List Int) (looks : List S140) (d : Nat → Int) : ∀ m i, (okF hs hung looks d m i).length = m
  | 0, _ => rfl
  | m + 1, i => by simp only [okF, List.length_cons, okF_len hs hung looks d m]
theorem okF_all (hs : List S139) (hung : List Int) (looks : List S140) (d : Nat → Int) : ∀ m i, (okF hs hung looks d m i).all id = true ↔ ∀ j : Nat, i ≤ j → j < i + m → lookOk hs hung d (rd_T140 looks j) = true
  | 0, i => by simp only [okF, List.all_nil, true_iff]; intro j h1 h2; omega
  | m + 1, i => by
    simp only [okF, List.all_cons, Bool.and_eq_true, okF_all hs hung looks d m (i + 1), id]
    constructor
    · rintro ⟨h1, h2⟩ j h3 h4
      by_cases e : j = i
      · subst e; exact h1
      · exact h2 j (by omega) (by omega)
    · exact fun h => ⟨h i (Nat.le_refl _) (by omega), fun j h1 h2 => h j (by omega) (by omega)⟩
theorem okF_right (hs : List S139) (hung : List Int) (looks : List S140) (d : Nat → Int) : (okF hs hung looks d looks.length 0).all id = rightB hs hung looks d [] := by
  rw [Bool.eq_iff_iff, okF_all]
  unfold rightB
  rw [decide_eq_true_eq]
  constructor
  · exact fun h i hi => .inr (h i (Nat.zero_le _) (by omega))
  · intro h j _ hj
    rcases h j (by omega) with h | h
    · simp at h
    · exact h
theorem u64_ok : ∀ i : Nat, i ≤ 5 → (0 : Int) ≤ IntKind.u64.wrap (i : Int)
  | 0, _ => by decide
  | 1, _ => by decide
  | 2, _ => by decide
  | 3, _ => by decide
  | 4, _ => by decide
  | 5, _ => by decide
  | _ + 6, h => by omega
section
variable {cs cl : Int} {hs : List S68} {hung : List Int} {looks : List S84}
theorem nth_l0 (D : Dries (hs.map toH)) (h4 : hs.length ≤ 4) : ∀ (d i n k : Nat) (acc : List Int), i + d = hs.length → d < k → n ≤ 12960000 → acc.length ≤ i →
    posserref04_Nth.l0 k n acc i cs cl hs hung looks = some (acc ++ nthF (hs.map toH) d i n)
  | 0, i, n, k, acc, h, hk, hn, ha => by
    obtain ⟨k, rfl⟩ : ∃ m, k = m + 1 := ⟨k - 1, by omega⟩
    simp only [posserref04_Nth.l0, nthF, List.append_nil]
    rw [if_neg (by omega)]
  | d + 1, i, n, k, acc, h, hk, hn, ha => by
    obtain ⟨k, rfl⟩ : ∃ m, k = m + 1 := ⟨k - 1, by omega⟩
    have hs1 := sz_ok D i (by simpa using (by omega : i < hs.length))
    have hD := D i (by simpa using (by omega : i < hs.length))
    have e1 := rd_toH hs i
    rw [e1] at hs1 hD
    simp only [toH] at hs1 hD
    have hw : wrap64 (wrap64 ((rd_T68 hs i).f0.f1 - (rd_T68 hs i).f0.f0) + 1) = (szN (hs.map toH) i : Int) := by unfold wrap64; omega
    have hdiv : n / szN (hs.map toH) i ≤ n := Nat.div_le_self _ _
    have hmod := Nat.mod_lt n hs1.2.1
    have ih := nth_l0 D h4 d (i + 1) (n / szN (hs.map toH) i) k (acc ++ [(rd_T68 hs i).f0.f0 + ((n % szN (hs.map toH) i : Nat) : Int)]) (by omega) (by omega) (by omega) (by simp only [List.length_append, List.length_singleton]; omega)
    simp only [posserref04_Nth.l0, posserref04_Size.f, Option.bind_some]
    rw [if_pos (by omega), if_pos (by omega), hw, if_neg (by omega), if_pos (by omega), if_neg (by omega)]
    rw [show Int.tdiv (n : Int) (szN (hs.map toH) i : Int) = ((n / szN (hs.map toH) i : Nat) : Int) from rfl, show Int.tmod (n : Int) (szN (hs.map toH) i : Int) = ((n % szN (hs.map toH) i : Nat) : Int) from rfl]
    rw [wrap_small (Nat.le_trans hdiv hn), show wrap64 ((rd_T68 hs i).f0.f0 + ((n % szN (hs.map toH) i : Nat) : Int)) = (rd_T68 hs i).f0.f0 + ((n % szN (hs.map toH) i : Nat) : Int) from by unfold wrap64; omega,
      show wrap64 ((i : Int) + 1) = ((i + 1 : Nat) : Int) from by unfold wrap64; omega, ih]
    simp only [nthF, e1, toH, List.append_assoc, List.singleton_append]
theorem nth_f (D : Dries (hs.map toH)) (h4 : hs.length ≤ 4) (n k : Nat) (hk : 1000 < k) (hn : n ≤ 12960000) : posserref04_Nth.f k cs cl hs hung looks n = some (nthF (hs.map toH) hs.length 0 n) := by
  unfold posserref04_Nth.f
  have := nth_l0 (cs := cs) (cl := cl) (hung := hung) (looks := looks) D h4 hs.length 0 n k [] (by omega) (by omega) hn (Nat.le_refl _)
  rw [List.nil_append] at this
  exact this
theorem right_l0 (V : Valid cs cl (hs.map toH) hung (looks.map toL)) (d : List Int) (hd : d.length = hs.length) (hdb : ∀ i : Nat, 0 ≤ rd d i ∧ rd d i ≤ 60) : ∀ (m i k : Nat) (x : Int), i + m = looks.length → m + 1001 < k →
    posserref04_Right.l0 k d x i cs cl hs hung looks = some (bitF (okF (hs.map toH) hung (looks.map toL) (nums d) m i) i x)
  | 0, i, k, x, h, hk => by
    obtain ⟨k, rfl⟩ : ∃ m, k = m + 1 := ⟨k - 1, by omega⟩
    simp only [posserref04_Right.l0, okF, bitF]
    rw [if_neg (by omega)]
  | m + 1, i, k, x, h, hk => by
    obtain ⟨k, rfl⟩ : ∃ m, k = m + 1 := ⟨k - 1, by omega⟩
    have hL := V.n5
    have hH := V.n4
    have hc4 := V.c4
    simp only [List.length_map] at hL hH
    have hlk := V.look i (by simpa using (by omega : i < looks.length))
    have e1 := rd_toL looks i
    rw [e1] at hlk
    simp only [toL, List.length_map] at hlk
    obtain ⟨j, hj⟩ : ∃ j : Nat, (j : Int) = (rd_T84 looks i).f0 := ⟨(rd_T84 looks i).f0.toNat, by omega⟩
    have P : Pl cs hs.length hung := ⟨by have := V.place; simpa using this, V.inside, fun a b ha hb hne e => by
      rcases Nat.lt_or_ge a b with h | h
      · exact V.apart b a hb h e.symm
      · exact V.apart a b ha (by omega) e⟩
    have hmin := minute_f (cl := cl) (hung := hung) (looks := looks) P (by omega) hH V.wet hd hdb j (by omega) k (by omega)
    have hlo : lookOk (hs.map toH) hung (nums d) (rd_T140 (looks.map toL) i) = ((rd_T84 looks i).f2 == decide (mins (hs.map toH) hung (nums d) j ≤ (rd_T84 looks i).f1)) := by
      have ht : (toL (rd_T84 looks i)).f0.toNat = j := by simp only [toL]; omega
      unfold lookOk
      rw [e1]
      simp only [ht]
      rfl
    have hu := u64_ok i (by omega)
    simp only [posserref04_Right.l0, okF, bitF]
    rw [if_pos (by omega), if_pos (by omega), ← hj, hmin]
    simp only [Option.bind_some]
    rw [hlo, show wrap64 ((i : Int) + 1) = ((i + 1 : Nat) : Int) from by unfold wrap64; omega]
    change (if (decide (mins (hs.map toH) hung (nums d) j ≤ (rd_T84 looks i).f1) == (rd_T84 looks i).f2) = true then _ else _) = _
    by_cases hb : (decide (mins (hs.map toH) hung (nums d) j ≤ (rd_T84 looks i).f1) == (rd_T84 looks i).f2) = true
    · have hb2 : ((rd_T84 looks i).f2 == decide (mins (hs.map toH) hung (nums d) j ≤ (rd_T84 looks i).f1)) = true := by rw [beq_iff_eq] at hb ⊢; exact hb.symm
      rw [if_pos hb, if_pos hu, if_pos hb2]
      exact right_l0 V d hd hdb m (i + 1) k _ (by omega) (by omega)
    · have hb2 : ¬ ((rd_T84 looks i).f2 == decide (mins (hs.map toH) hung (nums d) j ≤ (rd_T84 looks i).f1)) = true := by rw [beq_iff_eq] at hb ⊢; exact fun e => hb e.symm
      rw [if_neg hb, if_neg hb2]
      exact right_l0 V d hd hdb m (i + 1) k _ (by omega) (by omega)
theorem right_f (V : Valid cs cl (hs.map toH) hung (looks.map toL)) (d : List Int) (hd : d.length = hs.length) (hdb : ∀ i : Nat, 0 ≤ rd d i ∧ rd d i ≤ 60) (k : Nat) (hk : 2000 ≤ k) :
    posserref04_Right.f k cs cl hs hung looks d = some (bitF (okF (hs.map toH) hung (looks.map toL) (nums d) looks.length 0) 0 0) := by
  have h5 := V.n5
  simp only [List.length_map] at h5
  unfold posserref04_Right.f
  exact right_l0 V d hd hdb looks.length 0 k 0 (by omega) (by omega)
theorem full_f (h5 : looks.length ≤ 5) : posserref04_Full.f cs cl hs hung looks = some (wrap64 ((shl .i64 1 (IntKind.u64.wrap (looks.length : Int))) - 1)) := by
  unfold posserref04_Full.f
  have hu := u64_ok looks.length h5
  rw [if_pos hu]
/-- The reference's truths. -/
def truF (hs : List S139) (hung : List Int) (looks : List S140) : Nat → Nat → List (List Int)
  | 0, _ => []
  | m + 1, n => if rightB hs hung looks (nums (nthF hs hs.length 0 n)) [] = true then nthF hs hs.length 0 n :: truF hs hung looks m (n + 1) else truF hs hung looks m (n + 1)
theorem many_ok (hc : checkB cs cl (hs.map toH) hung (looks.map toL) = 0) : manyN hs hs.length = (prN (hs.map toH) hs.length 0 : Nat) ∧ prN (hs.map toH) hs.length 0 ≤ 2000 := by
  have V := valid_of hc
  have h4 := V.n4
  simp only [List.length_map] at h4
  have hall : allH (hs.map toH) = true := by
    unfold checkB at hc
    split at hc
    · omega
    split at hc
    · omega
    rename_i h1 h2
    cases e : allH (hs.map toH)
    · exact absurd (.inr (.inr (.inl e))) h2
    · rfl
  obtain ⟨h1, h2, _⟩ := many_prod hs h4 hall hs.length (Nat.le_refl _)
  have h3 : ¬ prodH (hs.map toH) (hs.map toH).length > 2000 := by
    unfold checkB at hc
    split at hc
    · omega
    split at hc
    · omega
    split at hc
    · omega
    · assumption
  rw [List.length_map, h2] at h3
  have h5 := pl_pr (hs.map toH) hs.length 0
  simp only [plN, Nat.one_mul, Nat.zero_add] at h5
  rw [h1, h5]
  unfold mn
  split <;> omega
theorem truths_l0 (hc : checkB cs cl (hs.map toH) hung (looks.map toL) = 0) : ∀ (m n k : Nat) (acc : List (List Int)), n + m = prN (hs.map toH) hs.length 0 → m + 3000 ≤ k → acc.length ≤ n →
    posserref04_Truths.l0 k acc n cs cl hs hung looks = some (acc ++ truF (hs.map toH) hung (looks.map toL) m n)
  | 0, n, k, acc, h, hk, ha => by
    obtain ⟨k, rfl⟩ : ∃ m, k = m + 1 := ⟨k - 1, by omega⟩
    have hM := many_ok hc
    have V := valid_of hc
    have h4 := V.n4
    simp only [List.length_map] at h4
    simp only [posserref04_Truths.l0, truF, List.append_nil]
    rw [many_f cs cl hs hung looks (by omega) k (by omega)]
    simp only [Option.bind_some]
    rw [if_neg (by omega)]
  | m + 1, n, k, acc, h, hk, ha => by
    obtain ⟨k, rfl⟩ : ∃ m, k = m + 1 := ⟨k - 1, by omega⟩
    have hM := many_ok hc
    have V := valid_of hc
    have h4 := V.n4
    have h5 := V.n5
    simp only [List.length_map] at h4 h5
    have D : Dries (hs.map toH) := V.dry
    have hlen := nthF_len (hs.map toH) hs.length 0 n
    have hlm : (hs.map toH).length = hs.length := List.length_map ..
    have hbd : ∀ i : Nat, 0 ≤ rd (nthF (hs.map toH) hs.length 0 n) i ∧ rd (nthF (hs.map toH) hs.length 0 n) i ≤ 60 := fun i => by
      have := dries_bd V (nth_dries D n) i
      rw [hlm] at this
      exact this
    have ih1 := truths_l0 hc m (n + 1) k
    simp only [posserref04_Truths.l0]
    rw [many_f cs cl hs hung looks (by omega) k (by omega)]
    simp only [Option.bind_some]
    rw [if_pos (by omega), nth_f D h4 n k (by omega) (by omega)]
    simp only [Option.bind_some]
    rw [right_f V _ hlen hbd k (by omega)]
    simp only [Option.bind_some]
    rw [full_f h5]
    simp only [Option.bind_some]
    have hbf := bit_full (okF (hs.map toH) hung (looks.map toL) (nums (nthF (hs.map toH) hs.length 0 n)) looks.length 0) (by rw [okF_len]; exact h5)
    rw [okF_len] at hbf
    have hokr := okF_right (hs.map toH) hung (looks.map toL) (nums (nthF (hs.map toH) hs.length 0 n))
    rw [List.length_map] at hokr
    rw [hokr] at hbf
    rw [show wrap64 ((n : Int) + 1) = ((n + 1 : Nat) : Int) from by unfold wrap64; omega]
    simp only [truF, hlm]
    by_cases hr : rightB (hs.map toH) hung (looks.map toL) (nums (nthF (hs.map toH) hs.length 0 n)) [] = true
    · rw [if_pos (hbf.2 hr), if_pos (by omega), if_pos hr, ih1 _ (by omega) (by omega) (by simp only [List.length_append, List.length_singleton]; omega)]
      simp only [List.append_assoc, List.singleton_append]
    · rw [if_neg (fun e => hr (hbf.1 e)), if_neg hr, ih1 _ (by omega) (by omega) (by omega)]
/-- All truths, as1 the reference tells them. -/
def truL (hs : List S139) (hung : List Int) (looks : List S140) : List (List Int) := truF hs hung looks (prN hs hs.length 0) 0
theorem truths_f (hc : checkB cs cl (hs.map toH) hung (looks.map toL) = 0) (k : Nat) (hk : 6000 ≤ k) : posserref04_Truths.f k cs cl hs hung looks = some (truL (hs.map toH) hung (looks.map toL)) := by
  have hM := many_ok hc
  unfold posserref04_Truths.f truL
  have := truths_l0 hc (prN (hs.map toH) hs.length 0) 0 k [] (by omega) (by omega) (Nat.le_refl _)
  rw [List.nil_append] at this
  rw [List.length_map]
  exact this
end
theorem mem_truF (hs : List S139) (hung : List Int) (looks : List S140) (l : List Int) : ∀ (m n : Nat), l ∈ truF hs hung looks m n ↔ ∃ j, n ≤ j ∧ j < n + m ∧ l = nthF hs hs.length 0 j ∧ rightB hs hung looks (nums (nthF hs hs.length 0 j)) [] = true
  | 0, n => by
    simp only [truF, List.not_mem_nil, false_iff]
    rintro ⟨j, h1, h2, _⟩
    omega
  | m + 1, n => by
    simp only [truF]
    by_cases hr : rightB hs hung looks (nums (nthF hs hs.length 0 n)) [] = true
    · rw [if_pos hr, List.mem_cons, mem_truF hs hung looks l m (n + 1)]
      constructor
      · rintro (h | ⟨j, h1, h2, h3⟩)
        · exact ⟨n, Nat.le_refl _, by omega, h, hr⟩
        · exact ⟨j, by omega, by omega, h3⟩
      · rintro ⟨j, h1, h2, h3, h4⟩
        by_cases e : j = n
        · subst e; exact .inl h3
        · exact .inr ⟨j, by omega, by omega, h3, h4⟩
    · rw [if_neg hr, mem_truF hs hung looks l m (n + 1)]
      constructor
      · rintro ⟨j, h1, h2, h3⟩
        exact ⟨j, by omega, by omega, h3⟩
      · rintro ⟨j, h1, h2, h3, h4⟩
        by_cases e : j = n
        · subst e; exact absurd h4 hr
        · exact ⟨j, by omega, by omega, h3, h4⟩
/-- The reference's truths are the program's. -/
theorem truL_iff {hs : List S139} {hung : List Int} {looks : List S140} (D : Dries hs) (h4 : hs.length ≤ 4) (t : Nat → Int) : t ∈ truthsT hs hung looks ↔ ∃ l ∈ truL hs hung looks, nums l = t := by
  rw [truths_iff h4]
  constructor
  · rintro ⟨h1, h2⟩
    obtain ⟨n, hn, rfl⟩ := dries_nth D h1
    exact ⟨_, (mem_truF hs hung looks _ _ 0).2 ⟨n, Nat.zero_le _, by omega, rfl, h2⟩, rfl⟩
  · rintro ⟨l, hl, rfl⟩
    obtain ⟨j, _, h2, rfl, h4'⟩ := (mem_truF hs hung looks l _ 0).1 hl
    exact ⟨nth_dries D j, h4'⟩
theorem truL_nil {hs : List S139} {hung : List Int} {looks : List S140} (D : Dries hs) (h4 : hs.length ≤ 4) : truL hs hung looks = [] ↔ truthsT hs hung looks = [] := by
  constructor
  · intro h
    refine List.eq_nil_iff_forall_not_mem.2 (fun t ht => ?_)
    obtain ⟨l, hl, _⟩ := (truL_iff D h4 t).1 ht
    rw [h] at hl
    cases hl
  · intro h
    refine List.eq_nil_iff_forall_not_mem.2 (fun l hl => ?_)
    have := (truL_iff D h4 (nums l)).2 ⟨l, hl, rfl⟩
    rw [h] at this
    cases this
end Go.Proofs.Ytokhmghgghjmhaa.Q
namespace Go.Proofs.Ytokhmghgghjmhaa.Q
open Go.RowKit Go.Proofs.YtokhmghgghjmhaaW.PrintWords Go.Proofs.YtokhmghgghjmhaaW.PrintLast Go.Proofs.YtokhmghgghjmhaaW.PrintMore
set_option linter.unusedVariables false
/-- Ranges that lie in memory. -/
def Bd (w : World) (A : Option Addr) (c : Nat) (l : List S61) : Prop := Kd.C k61 w A l.length l ∧ l.length ≤ c
theorem Bd.later {w w' : World} {A : Option Addr} {c : Nat} {l : List S61} (h : Bd w A c l) (hb : Below w.heap.size w w') : Bd w' A c l := ⟨Kd.C_below h.1 hb, h.2⟩
end Go.Proofs.Ytokhmghgghjmhaa.Q
namespace Go.Proofs.Ytokhmghgghjmhaa.Q
open Go.RowKit Go.Proofs.YtokhmghgghjmhaaW.PrintWords Go.Proofs.YtokhmghgghjmhaaW.PrintLast Go.Proofs.YtokhmghgghjmhaaW.PrintMore
set_option linter.unusedVariables false
/-- Truths that lie in memory. -/
def Tr (w : World) (A : Option Addr) (c : Nat) (L : List (List Int)) : Prop := Kd.C (Kd.slice 3 (Kd.int .i64)) w A L.length L ∧ L.length ≤ c
theorem Tr.later {w w' : World} {A : Option Addr} {c : Nat} {L : List (List Int)} (h : Tr w A c L) (hb : Below w.heap.size w w') : Tr w' A c L := ⟨Kd.C_below h.1 hb, h.2⟩
theorem Tr.at {w : World} {A : Option Addr} {c : Nat} {L : List (List Int)} (h : Tr w A c L) (i : Nat) (hi : i < L.length) : ∃ ad A0 c0, A = some ad ∧ w.cell? (ad.add i) = some (.slice A0 (rd_L9 L i).length c0) ∧ Ls .i64 w A0 c0 (rd_L9 L i) := by
  obtain ⟨ad, A0, c0, h1, h2, h3, h4⟩ := at_L9 h.1 i (by omega) (by omega)
  exact ⟨ad, A0, c0, h1, by rwa [Int.toNat_natCast] at h2, h4, h3⟩
theorem truths_q {cs cl : Int} {A2 A3 A4 : Option Addr} {c2 c3 c4 : Nat} {hs : List S68} {hung : List Int} {looks : List S84} {w : World} (M : Ref w A2 A3 A4 c2 c3 c4 hs hung looks) (hc : checkB cs cl (hs.map toH) hung (looks.map toL) = 0) {L : List (List Int)} (hL : truL (hs.map toH) hung (looks.map toL) = L) :
    Calls Try.prog 43 #[.agg #[.int .i64 cs, .int .i64 cl, .slice A2 hs.length c2, .slice A3 hung.length c3, .slice A4 looks.length c4]] w
      fun e w' => ∃ B d, e = .returned (.slice B L.length d) ∧ Tr w' B d L ∧ Below w.heap.size w w' := by
  have hf := truths_f hc 6000 (Nat.le_refl _)
  rw [hL] at hf
  refine (posserref04_Truths.calls 6000 cs cl A2 c2 hs A3 c3 hung A4 c4 looks L w M.h2 M.l2 M.h3 M.l3 M.h4 M.l4 hf).mono ?_
  rintro e w' ⟨v, rfl, hS, hb⟩
  have hR := Kd.S_R hS
  obtain ⟨B, d, rfl⟩ := Kd.R_slice hR
  have h2 := Kd.R_reads' hR
  exact ⟨B, d, rfl, ⟨h2.2.2, h2.2.1⟩, hb⟩
end Go.Proofs.Ytokhmghgghjmhaa.Q
namespace Go.Proofs.Ytokhmghgghjmhaa.Q
open Go.RowKit Go.Proofs.YtokhmghgghjmhaaW.PrintWords Go.Proofs.YtokhmghgghjmhaaW.PrintLast Go.Proofs.YtokhmghgghjmhaaW.PrintMore
set_option linter.unusedVariables false
set_option linter.unusedSimpArgs false
set_option maxHeartbeats 4000000 in
set_option maxRecDepth 100000 in
/-- The law's 'sooner'. -/
theorem sooner_w {cs cl cs' cl' : Int} {A2 A3 A4 A2' A3' A4' : Option Addr} {c2 c3 c4 c2' c3' c4' : Nat} {hs hs' : List S68} {hung hung' : List Int} {looks looks' : List S84} {w : World} (M : Ref w A2 A3 A4 c2 c3 c4 hs hung looks) (M' : Ref w A2' A3' A4' c2' c3' c4' hs' hung' looks') (hT : hs.length ≤ 30 ∧ hung.length ≤ 30 ∧ looks.length ≤ 30) (hT' : hs'.length ≤ 30 ∧ hung'.length ≤ 30 ∧ looks'.length ≤ 30) (hs9 : soonB (bestR cs cl (hs.map toH) hung (looks.map toL)) (bestR cs' cl' (hs'.map toH) hung' (looks'.map toL)) = true) :
    Calls Try.prog 51 #[.agg #[.int .i64 cs, .int .i64 cl, .slice A2 hs.length c2, .slice A3 hung.length c3, .slice A4 looks.length c4], .agg #[.int .i64 cs', .int .i64 cl', .slice A2' hs'.length c2', .slice A3' hung'.length c3', .slice A4' looks'.length c4']] w fun e w' => e = .returned (.bool true) ∧ Below w.heap.size w w' := by
  have HM := Aside0.mk M
  have HM2 := Aside0.mk M'
  have HT := Aside0.mk hT
  have HT2 := Aside0.mk hT'
  have HS9 := Aside0.mk hs9
  clear M M' hT hT' hs9
  obtain ⟨V0, hV0⟩ : ∃ V0, w.alloc (.cells #[.int .i64 cs, .int .i64 cl, .slice A2 hs.length c2, .slice A3 hung.length c3, .slice A4 looks.length c4] 26) = V0 := ⟨_, rfl⟩
  have HB1 := Aside0.mk (Box.new hV0).2
  have HK1 := Aside0.mk (Box.new hV0).1
  have hz : V0.heap.size = w.heap.size + 1 := by rw [← hV0]; simp
  obtain ⟨W0, hW0⟩ : ∃ W0, V0.alloc (.cells #[.int .i64 cs', .int .i64 cl', .slice A2' hs'.length c2', .slice A3' hung'.length c3', .slice A4' looks'.length c4'] 26) = W0 := ⟨_, rfl⟩
  have HB := Aside0.mk (below_step HB1.out (Box.new hW0).2)
  have HK := Aside0.mk (HK1.out.later (Box.new hW0).2)
  have HK2 := Aside0.mk (show Box W0 (w.heap.size + 1) cs' cl' A2' A3' A4' hs'.length hung'.length looks'.length c2' c3' c4' from hz ▸ (Box.new hW0).1)
  clear HB1 HK1
  have b0 := HK.out.at0
  have b1 := HK.out.at1
  have b2 := HK.out.at2
  have b3 := HK.out.at3
  have b4 := HK.out.at4
  have e0 := HK2.out.at0
  have e1 := HK2.out.at1
  have e2 := HK2.out.at2
  have e3 := HK2.out.at3
  have e4 := HK2.out.at4
  go_enter Try.func51, Try.ntmps51
  go_wp2_with fail
  try rw [hV0]
  try rw [hW0]
  clear hV0 hW0
  obtain ⟨x1, hx1⟩ : ∃ x1, bestR cs cl (hs.map toH) hung (looks.map toL) = x1 := ⟨_, rfl⟩
  obtain ⟨x2, hx2⟩ : ∃ x2, bestR cs' cl' (hs'.map toH) hung' (looks'.map toL) = x2 := ⟨_, rfl⟩
  have HX1 := Aside0.mk hx1
  have HX2 := Aside0.mk hx2
  rw [hx1, hx2] at HS9
  clear hx1 hx2
  refine (refcl_q (HM.out.later HB.out) (by have := HT.out; omega) (by have := HT.out; omega) (by have := HT.out; omega)).mono ?_
  rintro e w1 ⟨B2, B3, B4, d2, d3, d4, n2, n3, n4, rfl, hcl, hb⟩
  replace HB := Aside0.mk (below_step HB.out hb)
  replace HK := Aside0.mk (HK.out.later hb)
  replace HK2 := Aside0.mk (HK2.out.later hb)
  replace b0 := HK.out.at0
  replace b1 := HK.out.at1
  replace b2 := HK.out.at2
  replace b3 := HK.out.at3
  replace b4 := HK.out.at4
  replace e0 := HK2.out.at0
  replace e1 := HK2.out.at1
  replace e2 := HK2.out.at2
  replace e3 := HK2.out.at3
  replace e4 := HK2.out.at4
  clear hb
  have HCL := Aside0.mk hcl
  clear hcl
  go_wp2_with fail
  refine (best_q HCL.out HX1.out).mono ?_
  rintro e w2 ⟨BB, bB, rfl, hx, hb⟩
  replace HB := Aside0.mk (below_step HB.out hb)
  replace HK := Aside0.mk (HK.out.later hb)
  replace HK2 := Aside0.mk (HK2.out.later hb)
  replace b0 := HK.out.at0
  replace b1 := HK.out.at1
  replace b2 := HK.out.at2
  replace b3 := HK.out.at3
  replace b4 := HK.out.at4
  replace e0 := HK2.out.at0
  replace e1 := HK2.out.at1
  replace e2 := HK2.out.at2
  replace e3 := HK2.out.at3
  replace e4 := HK2.out.at4
  clear hb
  clear hx
  go_wp2_with fail
  refine (refcl_q (HM2.out.later HB.out) (by have := HT2.out; omega) (by have := HT2.out; omega) (by have := HT2.out; omega)).mono ?_
  rintro e w3 ⟨B21, B31, B41, d21, d31, d41, n21, n31, n41, rfl, hcl, hb⟩
  replace HB := Aside0.mk (below_step HB.out hb)
  replace HK := Aside0.mk (HK.out.later hb)
  replace HK2 := Aside0.mk (HK2.out.later hb)
  replace b0 := HK.out.at0
  replace b1 := HK.out.at1
  replace b2 := HK.out.at2
  replace b3 := HK.out.at3
  replace b4 := HK.out.at4
  replace e0 := HK2.out.at0
  replace e1 := HK2.out.at1
  replace e2 := HK2.out.at2
  replace e3 := HK2.out.at3
  replace e4 := HK2.out.at4
  clear hb
  have HCL := Aside0.mk hcl
  clear hcl
  go_wp2_with fail
  refine (best_q HCL.out HX2.out).mono ?_
  rintro e w4 ⟨BC, bC, rfl, hx, hb⟩
  replace HB := Aside0.mk (below_step HB.out hb)
  replace HK := Aside0.mk (HK.out.later hb)
  replace HK2 := Aside0.mk (HK2.out.later hb)
  replace b0 := HK.out.at0
  replace b1 := HK.out.at1
  replace b2 := HK.out.at2
  replace b3 := HK.out.at3
  replace b4 := HK.out.at4
  replace e0 := HK2.out.at0
  replace e1 := HK2.out.at1
  replace e2 := HK2.out.at2
  replace e3 := HK2.out.at3
  replace e4 := HK2.out.at4
  clear hb
  clear hx
  obtain ⟨l1, m1, e1'⟩ := x1
  obtain ⟨l2, m2, e2'⟩ := x2
  have h9 := HS9.out
  unfold soonB at h9
  by_cases h0 : e1' = 0
  · subst h0
    rw [if_pos rfl] at h9
    obtain ⟨h1, h2⟩ := of_decide_eq_true h9
    have h1 : e2' = 0 := h1
    have h2 : m2 ≤ m1 := h2
    subst h1
    clear h9
    go_wp2_with fail
    go_ret
    exact ⟨rfl, HB.out⟩
  · rw [if_neg h0] at h9
    obtain ⟨h1, h2⟩ := of_decide_eq_true h9
    have h1 : e1' = 10 := h1
    have h2 : e2' = 0 ∨ e2' = e1' := h2
    subst h1
    clear h9 h0
    rcases h2 with rfl | rfl
    · go_wp2_with fail
      go_ret
      exact ⟨rfl, HB.out⟩
    · go_wp2_with fail
      go_ret
      exact ⟨rfl, HB.out⟩
end Go.Proofs.Ytokhmghgghjmhaa.Q
namespace Go.Proofs.Ytokhmghgghjmhaa.Q
open Go.RowKit Go.Proofs.YtokhmghgghjmhaaW.PrintWords Go.Proofs.YtokhmghgghjmhaaW.PrintLast Go.Proofs.YtokhmghgghjmhaaW.PrintMore
set_option linter.unusedVariables false
theorem check_iff {cs cl : Int} {hs : List S139} {hung : List Int} {looks : List S140} : checkB cs cl hs hung looks = 0 ↔
    (cs ≤ 4 ∧ hs.length ≤ 4 ∧ looks.length ≤ 5) ∧ (1 ≤ cs ∧ (0 ≤ cl ∧ cl ≤ 99) ∧ allH hs = true ∧ placeB (wrap64 (cs - 1)) hs.length hung = true ∧ allL hs.length looks = true) ∧ prodH hs hs.length ≤ 2000 := by
  unfold checkB
  constructor
  · intro h
    split at h
    · omega
    rename_i h1
    split at h
    · omega
    rename_i h2
    split at h
    · omega
    rename_i h3
    refine ⟨by omega, ⟨by omega, ?_, ?_, ?_, ?_⟩, by omega⟩
    · exact Decidable.byContradiction fun e => h2 (.inr (.inl e))
    · exact (Bool.not_eq_false _).mp fun e => h2 (.inr (.inr (.inl e)))
    · exact (Bool.not_eq_false _).mp fun e => h2 (.inr (.inr (.inr (.inl e))))
    · exact (Bool.not_eq_false _).mp fun e => h2 (.inr (.inr (.inr (.inr e))))
  · rintro ⟨h1, ⟨h2, h3, h4, h5, h6⟩, h7⟩
    rw [if_neg (by omega), if_neg (by rw [h4, h5, h6]; simp; omega), if_neg (by omega)]
theorem place_mono {a b : Int} {n : Nat} {p : List Int} (h : a ≤ b) (hp : placeB a n p = true) : placeB b n p = true := by
  obtain ⟨h1, h2⟩ := of_decide_eq_true hp
  exact decide_eq_true ⟨h1, fun i hi => ⟨(h2 i hi).1, Int.le_trans (h2 i hi).2.1 h, (h2 i hi).2.2⟩⟩
/-- One closet more. -/
theorem check_cs {cs cs' cl : Int} {hs : List S139} {hung : List Int} {looks : List S140} (h : checkB cs cl hs hung looks = 0) (h1 : cs ≤ cs') (h4 : cs' ≤ 4) : checkB cs' cl hs hung looks = 0 := by
  obtain ⟨a, ⟨b1, b2, b3, b4, b5⟩, c⟩ := check_iff.1 h
  refine check_iff.2 ⟨by omega, ⟨by omega, b2, b3, place_mono ?_ b4, b5⟩, c⟩
  unfold wrap64; omega
theorem pl_cs {cs cs' : Int} {n : Nat} {p : List Int} (P : Pl cs n p) (h : cs ≤ cs') : Pl cs' n p := ⟨P.len, fun i hi => by have := P.inside i hi; omega, P.apart⟩
/-- No looks. -/
theorem check_nolooks {cs cl : Int} {hs : List S139} {hung : List Int} {looks : List S140} (h : checkB cs cl hs hung looks = 0) : checkB cs cl hs hung [] = 0 := by
  obtain ⟨a, ⟨b1, b2, b3, b4, b5⟩, c⟩ := check_iff.1 h
  exact check_iff.2 ⟨⟨a.1, a.2.1, by simp⟩, ⟨b1, b2, b3, b4, decide_eq_true fun i hi => absurd hi (by simp)⟩, c⟩
theorem right_nolooks (hs : List S139) (hung : List Int) (d : Nat → Int) : rightB hs hung [] d [] = true := decide_eq_true fun i hi => absurd hi (by simp)
theorem truths_nolooks {hs : List S139} {hung : List Int} (h4 : hs.length ≤ 4) (d : Nat → Int) : d ∈ truthsT hs hung [] ↔ d ∈ dries hs := by
  rw [truths_iff h4]; exact ⟨fun h => h.1, fun h => ⟨h, right_nolooks hs hung d⟩⟩
/-- The least dry numbers. -/
def lows (hs : List S139) : Nat → Int := fun i => if i < hs.length then (rd_T139 hs i).f0.f0 else 0
theorem lows_in {hs : List S139} (D : Dries hs) : lows hs ∈ dries hs := by
  refine (dries_iff _).2 ⟨fun i hi => ?_, fun i hi => ?_⟩
  · unfold lows; rw [if_neg (by omega)]
  · have := D i hi; unfold lows; rw [if_pos hi]; omega
section
variable {cs cl : Int} {hs : List S139} {hung : List Int} {m : Nat}
theorem rd139_tk (hs : List S139) (m i : Nat) (h : i < m) : rd_T139 (hs.take m) i = rd_T139 hs i := by
  unfold rd_T139
  rw [Int.toNat_natCast, List.getD_eq_getElem?_getD, List.getD_eq_getElem?_getD, List.getElem?_take, if_pos h]
theorem rd_tk (p : List Int) (m i : Nat) (h : i < m) : rd (p.take m) i = rd p i := by
  rw [rd_nn, rd_nn, List.getD_eq_getElem?_getD, List.getD_eq_getElem?_getD, List.getElem?_take, if_pos h]
theorem pl_take {n : Nat} {p : List Int} (P : Pl cs n p) (h : m ≤ n) : Pl cs m (p.take m) := by
  have hl := P.len
  have e : (p.take m).length = m := by rw [List.length_take]; omega
  refine ⟨e, fun i hi => ?_, fun i j hi hj hne => ?_⟩
  · rw [rd_tk p m i (by omega)]; exact P.inside i (by omega)
  · rw [rd_tk p m i (by omega), rd_tk p m j (by omega)]; exact P.apart i j (by omega) (by omega) hne
theorem prod_take (hs : List S139) (m : Nat) : ∀ k, k ≤ m → prodH (hs.take m) k = prodH hs k
  | 0, _ => rfl
  | k + 1, h => by simp only [prodH]; rw [prod_take hs m k (by omega), rd139_tk hs m k (by omega)]
theorem prod_pl2 {hs : List S139} (h4 : hs.length ≤ 4) (hv : allH hs = true) : ∀ n, n ≤ hs.length → prodH hs n = plN hs n ∧ 1 ≤ plN hs n ∧ plN hs n ≤ 60 ^ n
  | 0, _ => by simp [plN, prodH]
  | n + 1, h => by
    obtain ⟨h2, h3, h4'⟩ := prod_pl2 h4 hv n (by omega)
    have hn : n ≤ 3 := by omega
    have hp : 60 ^ n ≤ 60 ^ 3 := Nat.pow_le_pow_right (by omega) hn
    have hd2 := of_decide_eq_true (of_decide_eq_true hv n (by omega))
    have hs1 : (szN hs n : Int) = (rd_T139 hs n).f0.f1 + 1 - (rd_T139 hs n).f0.f0 := by unfold szN; omega
    have hs2 : 1 ≤ szN hs n ∧ szN hs n ≤ 60 := by omega
    have hw2 : wrap64 (wrap64 ((rd_T139 hs n).f0.f1 - (rd_T139 hs n).f0.f0) + 1) = (szN hs n : Int) := by unfold wrap64; omega
    simp only [plN, prodH]
    rw [hw2, h2]
    generalize plN hs n = P at h3 h4' ⊢
    generalize szN hs n = s at hs2 ⊢
    have hPs : P * s ≤ 60 ^ n * 60 := Nat.mul_le_mul h4' hs2.2
    have hP1 : P ≤ P * s := Nat.le_mul_of_pos_right P hs2.1
    have hbig : 60 ^ n * 60 ≤ 60 ^ 3 * 60 := Nat.mul_le_mul_right 60 hp
    have hT : P * s ≤ 12960000 := Nat.le_trans hPs (Nat.le_trans hbig (by decide))
    refine ⟨?_, by omega, by rw [Nat.pow_succ]; exact hPs⟩
    rw [show ((P : Int) * (s : Int)) = ((P * s : Nat) : Int) from by rw [Int.natCast_mul], wrap_small hT]
theorem prod_mono {hs : List S139} (h4 : hs.length ≤ 4) (hv : allH hs = true) (n : Nat) (h : n + 1 ≤ hs.length) : prodH hs n ≤ prodH hs (n + 1) := by
  have h1 := prod_pl2 h4 hv n (by omega)
  have h2 := prod_pl2 h4 hv (n + 1) h
  have hd2 := of_decide_eq_true (of_decide_eq_true hv n (by omega))
  have hs2 : 1 ≤ szN hs n := by unfold szN; omega
  have : plN hs n ≤ plN hs (n + 1) := by simp only [plN]; exact Nat.le_mul_of_pos_right _ hs2
  omega
/-- Without the last horse, and without looks. -/
theorem check_less (h : checkB cs cl hs hung [] = 0) (hm : m + 1 = hs.length) : checkB cs cl (hs.take m) (hung.take m) [] = 0 := by
  obtain ⟨a, ⟨b1, b2, b3, b4, b5⟩, c⟩ := check_iff.1 h
  have e : (hs.take m).length = m := by rw [List.length_take]; omega
  have P : Pl cs hs.length hung := by
    refine Pl.of ?_
    rwa [show wrap64 (cs - 1) = cs - 1 from by unfold wrap64; omega] at b4
  have Q := pl_take P (show m ≤ hs.length by omega)
  refine check_iff.2 ⟨⟨a.1, by omega, by simp⟩, ⟨b1, b2, decide_eq_true fun i hi => ?_, ?_, decide_eq_true fun i hi => absurd hi (by simp)⟩, ?_⟩
  · rw [rd139_tk hs m i (by omega)]; exact of_decide_eq_true b3 i (by omega)
  · rw [e, show wrap64 (cs - 1) = cs - 1 from by unfold wrap64; omega]
    refine decide_eq_true ⟨Q.len, fun i hi => ⟨(Q.inside i hi).1, (Q.inside i hi).2, ?_⟩⟩
    exact (contains_take _ i _ (by omega)).2 fun j hj => Q.apart j i (by omega) hi (by omega)
  · rw [e, prod_take hs m m (Nat.le_refl _)]
    have := prod_mono a.2.1 b3 m (by omega)
    rw [hm] at this
    omega
theorem adds_less (hs : List S139) (p : List Int) (i : Nat) (hi : i < m) : ∀ k, k ≤ m → adds (hs.take m) (p.take m) i k = adds hs p i k
  | 0, _ => rfl
  | k + 1, h => by
    simp only [adds]
    rw [adds_less hs p i hi k (by omega)]
    unfold wet
    rw [rd_tk p m i hi, rd_tk p m k (by omega), rd139_tk hs m k (by omega)]
theorem mins_less {p : List Int} (hl : p.length = m + 1) (d e : Nat → Int) (i : Nat) (hi : i < m) (hd : d i = e i) : mins hs p d i = mins (hs.take m) (p.take m) e i + wet hs p i m := by
  have e1 : (p.take m).length = m := by rw [List.length_take]; omega
  unfold mins
  rw [if_pos (by omega), if_pos (by omega), hl, e1, adds_less hs p i hi m (Nat.le_refl _)]
  simp only [adds]
  omega
/-- Without the last horse a good placement of all is one of the others, done no later. -/
theorem less_good (h : checkB cs cl hs hung [] = 0) (hm : m + 1 = hs.length) {q : List Int} (P : Pl cs hs.length q) (hok : okP cl hs (truthsT hs hung []) q) :
    okP cl (hs.take m) (truthsT (hs.take m) (hung.take m) []) (q.take m) ∧ vP cl (hs.take m) (truthsT (hs.take m) (hung.take m) []) (q.take m) ≤ vP cl hs (truthsT hs hung []) q := by
  have V := valid_of h
  have h' := check_less h hm
  have V' := valid_of h'
  have e : (hs.take m).length = m := by rw [List.length_take]; omega
  have hq := P.len
  have hT : truthsT hs hung [] ≠ [] := List.ne_nil_of_mem ((truths_nolooks V.n4 _).2 (lows_in V.dry))
  have hT' : truthsT (hs.take m) (hung.take m) [] ≠ [] := List.ne_nil_of_mem ((truths_nolooks V'.n4 _).2 (lows_in V'.dry))
  -- each truth of the fewer goes on
  have ext : ∀ t' ∈ truthsT (hs.take m) (hung.take m) [], ∃ t ∈ truthsT hs hung [], ∀ i, i < m → t i = t' i := by
    intro t' ht'
    obtain ⟨h1, h2⟩ := (dries_iff t').1 ((truths_nolooks V'.n4 t').1 ht')
    rw [e] at h1 h2
    refine ⟨fun i => if i < m then t' i else lows hs i, (truths_nolooks V.n4 _).2 ((dries_iff _).2 ⟨fun i hi => ?_, fun i hi => ?_⟩), fun i hi => by show (if i < m then t' i else lows hs i) = t' i; rw [if_pos hi]⟩
    · show (if i < m then t' i else lows hs i) = 0
      rw [if_neg (by omega)]; unfold lows; rw [if_neg (by omega)]
    · show (rd_T139 hs i).f0.f0 ≤ (if i < m then t' i else lows hs i) ∧ (if i < m then t' i else lows hs i) ≤ (rd_T139 hs i).f0.f1
      by_cases hi2 : i < m
      · rw [if_pos hi2]
        have := h2 i hi2
        rwa [rd139_tk hs m i hi2] at this
      · rw [if_neg hi2]
        have := V.dry i hi
        unfold lows; rw [if_pos hi]; omega
  have hg := (okP_iff cl hs _ q).1 hok
  have key : ∀ j : Nat, j < m → goodLo (hs.take m) (q.take m) (truthsT (hs.take m) (hung.take m) []) j ≤ goodLo hs q (truthsT hs hung []) j ∧ goodLo (hs.take m) (q.take m) (truthsT (hs.take m) (hung.take m) []) j ≤ goodHi cl (hs.take m) (q.take m) (truthsT (hs.take m) (hung.take m) []) j := by
    intro j hj
    have hw : 0 ≤ wet hs q j m := by have := wet_bd V.wet q j m (by omega); omega
    have g := hg j (by omega)
    have glo := fun t ht => (lo_le (hs := hs) (p := q) hT j _).1 (Int.le_refl (goodLo hs q (truthsT hs hung []) j)) t ht
    obtain ⟨s', hs', es⟩ := lo_at (hs := hs.take m) (p := q.take m) hT' j
    obtain ⟨s, hs1, es1⟩ := ext s' hs'
    have l1 := mins_less (hs := hs) (p := q) (by omega) s s' j hj (es1 j hj)
    have l2 := glo s hs1
    obtain ⟨k1, k2⟩ := (le_hi (cl := cl) (hs := hs) (p := q) hT j _).1 (Int.le_refl (goodHi cl hs q (truthsT hs hung []) j))
    refine ⟨by omega, (le_hi (cl := cl) hT' j _).2 ⟨by omega, fun t' ht' => ?_⟩⟩
    obtain ⟨t, ht, et⟩ := ext t' ht'
    have l3 := mins_less (hs := hs) (p := q) (by omega) t t' j hj (et j hj)
    have l4 := k2 t ht
    rw [rd139_tk hs m j hj]
    omega
  have hok' : okP cl (hs.take m) (truthsT (hs.take m) (hung.take m) []) (q.take m) := (okP_iff cl _ _ _).2 fun j hj => (key j (by omega)).2
  refine ⟨hok', (vP_le cl _ _ _ _ hok').2 ⟨?_, fun j hj => ?_⟩⟩
  · exact ((vP_le cl hs _ q _ hok).1 (Int.le_refl _)).1
  · have := ((vP_le cl hs _ q _ hok).1 (Int.le_refl _)).2 j (by omega)
    have := (key j (by omega)).1
    omega
end
theorem best_none {cs cl : Int} {hs : List S139} {hung : List Int} {looks : List S140} (hc : checkB cs cl hs hung looks = 0) (hT : truthsT hs hung looks = []) : bestR cs cl hs hung looks = ([], 0, 11) := by
  have : askCode cs cl hs hung looks true = 11 := by unfold askCode; rw [if_neg (by simp [hc]), if_neg (by simp), if_pos hT]
  unfold bestR
  rw [this, if_pos (by decide)]
theorem room_one {cs cs' cl : Int} {hs : List S139} {hung : List Int} {looks : List S140} (hc : checkB cs cl hs hung looks = 0) (hT : truthsT hs hung looks ≠ []) (h1 : cs ≤ cs') (h4 : cs' ≤ 4) :
    soonB (bestR cs cl hs hung looks) (bestR cs' cl hs hung looks) = true :=
  soon_ok hc hT (check_cs hc h1 h4) hT fun q P hok => ⟨q, pl_cs P h1, hok, Int.le_refl _⟩
theorem room_two {cs cl : Int} {hs : List S139} {hung : List Int} {looks : List S140} {m : Nat} (hc : checkB cs cl hs hung looks = 0) (hm : m + 1 = hs.length) :
    soonB (bestR cs cl hs hung []) (bestR cs cl (hs.take m) (hung.take m) []) = true := by
  have h := check_nolooks hc
  have h' := check_less h hm
  have V := valid_of h
  have V' := valid_of h'
  refine soon_ok h (List.ne_nil_of_mem ((truths_nolooks V.n4 _).2 (lows_in V.dry))) h' (List.ne_nil_of_mem ((truths_nolooks V'.n4 _).2 (lows_in V'.dry))) fun q P hok => ?_
  obtain ⟨h1, h2⟩ := less_good h hm P hok
  have e : (hs.take m).length = m := by rw [List.length_take]; omega
  exact ⟨q.take m, by rw [e]; exact pl_take P (by omega), h1, h2⟩
end Go.Proofs.Ytokhmghgghjmhaa.Q
namespace Go.Proofs.Ytokhmghgghjmhaa.Q
open Go.RowKit Go.Proofs.YtokhmghgghjmhaaW.PrintWords Go.Proofs.YtokhmghgghjmhaaW.PrintLast Go.Proofs.YtokhmghgghjmhaaW.PrintMore
set_option linter.unusedVariables false
set_option linter.unusedSimpArgs false
attribute [local go_sem] max2_mx min2_mn max_two min_two
set_option maxHeartbeats 4000000 in
set_option maxRecDepth 100000 in
theorem room_walk {cs cl : Int} {A2 A3 A4 : Option Addr} {c2 c3 c4 : Nat} {hs : List S68} {hung : List Int} {looks : List S84} {w : World} (M : Ref w A2 A3 A4 c2 c3 c4 hs hung looks) :
    Calls Try.prog 12 #[.agg #[.int .i64 cs, .int .i64 cl, .slice A2 hs.length c2, .slice A3 hung.length c3, .slice A4 looks.length c4]] w fun e w' => e = .returned (.bool true) ∧ Below w.heap.size w w' := by
  have HM := Aside0.mk M
  clear M
  obtain ⟨W0, hW0⟩ : ∃ W0, w.alloc (.cells #[.int .i64 cs, .int .i64 cl, .slice A2 hs.length c2, .slice A3 hung.length c3, .slice A4 looks.length c4] 26) = W0 := ⟨_, rfl⟩
  have HB := Aside0.mk (Box.new hW0).2
  have HK := Aside0.mk (Box.new hW0).1
  have b0 := HK.out.at0
  have b1 := HK.out.at1
  have b2 := HK.out.at2
  have b3 := HK.out.at3
  have b4 := HK.out.at4
  go_enter Try.func12, Try.ntmps12
  go_wp2_with fail
  try rw [hW0]
  clear hW0
  obtain ⟨rdy, hrd⟩ : ∃ rdy, decide ((hs.length ≤ 30 ∧ hung.length ≤ 30 ∧ looks.length ≤ 30) ∧ checkB cs cl (hs.map toH) hung (looks.map toL) = 0) = rdy := ⟨_, rfl⟩
  have HRD := Aside0.mk hrd
  clear hrd
  refine (ready_q (HM.out.later HB.out) HRD.out).mono ?_
  rintro e w1 ⟨rfl, hb⟩
  replace HB := Aside0.mk (below_step HB.out hb)
  replace HK := Aside0.mk (HK.out.later hb)
  replace b0 := HK.out.at0
  replace b1 := HK.out.at1
  replace b2 := HK.out.at2
  replace b3 := HK.out.at3
  replace b4 := HK.out.at4
  clear hb
  cases rdy with
  | false =>
    go_wp2_with fail
    refine (awake_calls _).mono ?_
    rintro e w2 ⟨rfl, hb⟩
    replace HB := Aside0.mk (below_step HB.out hb)
    clear hb
    go_wp2_with fail
    go_ret
    exact ⟨rfl, HB.out⟩
  | true =>
  have HT := Aside0.mk (of_decide_eq_true HRD.out).1
  have HC := Aside0.mk (of_decide_eq_true HRD.out).2
  have HV := Aside0.mk (valid_of HC.out)
  obtain ⟨L, hL⟩ : ∃ L, truL (hs.map toH) hung (looks.map toL) = L := ⟨_, rfl⟩
  have HL := Aside0.mk hL
  clear hL
  go_wp2_with fail
  refine (truths_q (HM.out.later HB.out) HC.out HL.out).mono ?_
  rintro e w3 ⟨BT, bT, rfl, htr, hb⟩
  replace HB := Aside0.mk (below_step HB.out hb)
  replace HK := Aside0.mk (HK.out.later hb)
  replace b0 := HK.out.at0
  replace b1 := HK.out.at1
  replace b2 := HK.out.at2
  replace b3 := HK.out.at3
  replace b4 := HK.out.at4
  clear hb
  clear htr
  by_cases hLn : L = []
  · obtain rfl := hLn
    obtain ⟨bs, hbs⟩ : ∃ bs, bestR cs cl (hs.map toH) hung (looks.map toL) = bs := ⟨_, rfl⟩
    have HBS := Aside0.mk hbs
    have hbs2 : bs = ([], 0, 11) := by rw [← hbs]; exact best_none HC.out ((truL_nil HV.out.dry HV.out.n4).1 HL.out)
    clear hbs
    go_wp2_with fail
    refine (refcl_q (HM.out.later HB.out) (by have := HT.out; omega) (by have := HT.out; omega) (by have := HT.out; omega)).mono ?_
    rintro e w4 ⟨B2, B3, B4, d2, d3, d4, n2, n3, n4, rfl, hcl, hb⟩
    replace HB := Aside0.mk (below_step HB.out hb)
    replace HK := Aside0.mk (HK.out.later hb)
    replace b0 := HK.out.at0
    replace b1 := HK.out.at1
    replace b2 := HK.out.at2
    replace b3 := HK.out.at3
    replace b4 := HK.out.at4
    clear hb
    have HCL := Aside0.mk hcl
    clear hcl
    go_wp2_with fail
    refine (best_q HCL.out HBS.out).mono ?_
    rintro e w5 ⟨BB, bB, rfl, hx, hb⟩
    replace HB := Aside0.mk (below_step HB.out hb)
    replace HK := Aside0.mk (HK.out.later hb)
    replace b0 := HK.out.at0
    replace b1 := HK.out.at1
    replace b2 := HK.out.at2
    replace b3 := HK.out.at3
    replace b4 := HK.out.at4
    clear hb
    subst hbs2
    clear hx
    go_wp2_with fail
    refine (awake_calls _).mono ?_
    rintro e w6 ⟨rfl, hb⟩
    replace HB := Aside0.mk (below_step HB.out hb)
    clear hb
    go_wp2_with fail
    go_ret
    exact ⟨rfl, HB.out⟩
  have hLp : 0 < L.length := List.length_pos_iff.2 hLn
  have hL0 : ((L.length : Int) == 0) = false := beq_eq_false_iff_ne.2 (by omega)
  have HTN := Aside0.mk (show truthsT (hs.map toH) hung (looks.map toL) ≠ [] from fun e => hLn (HL.out ▸ (truL_nil HV.out.dry HV.out.n4).2 e))
  clear hLn
  have hc4 : cs ≤ 4 := HV.out.c4
  have hc1 : 1 ≤ cs := HV.out.c1
  obtain ⟨cx, hcx⟩ : ∃ cx, mn 4 (cs + 1) = cx := ⟨_, rfl⟩
  have HX1 := Aside0.mk (show cs ≤ cx ∧ cx ≤ 4 from by rw [← hcx]; unfold mn; split <;> omega)
  have HS1 := Aside0.mk (room_one HC.out HTN.out HX1.out.1 HX1.out.2)
  obtain ⟨W5, hW5⟩ : ∃ W5, w3.alloc (.cells #[.int .i64 cs, .int .i64 cl, .slice A2 hs.length c2, .slice A3 hung.length c3, .slice A4 looks.length c4] 26) = W5 := ⟨_, rfl⟩
  have hb := (Box.new hW5).2
  have HX5 := Aside0.mk (Box.new hW5).1
  have hz5 : W5.heap.size = w3.heap.size + 1 := by rw [← hW5]; simp
  have HB5 := Aside0.mk (below_step HB.out hb)
  have HK5 := Aside0.mk (HK.out.later hb)
  have y0 := HK5.out.at0
  have y1 := HK5.out.at1
  have y2 := HK5.out.at2
  have y3 := HK5.out.at3
  have y4 := HK5.out.at4
  clear hb
  have hg6 : w.heap.size < w3.heap.size := blk_lt HK.out
  generalize hg : w3.heap.size = g6 at HX5 hz5 hg6
  have x0 := HX5.out.at0
  have x1 := HX5.out.at1
  have x2 := HX5.out.at2
  have x3 := HX5.out.at3
  have x4 := HX5.out.at4
  have xf := blk_frozen HX5.out 0
  have rz6 : g6 < W5.heap.size := blk_lt HX5.out
  obtain ⟨W6, hW6⟩ : ∃ W6, W5.setCell ⟨g6, 0, none⟩ (.int .i64 cx) = W6 := ⟨_, rfl⟩
  have HX6 := Aside0.mk (show Box W6 g6 cx cl A2 A3 A4 hs.length hung.length looks.length c2 c3 c4 from by rw [← hW6]; exact blk_put HX5.out 0 _ rfl)
  have HK6 := Aside0.mk (show Box W6 w.heap.size cs cl A2 A3 A4 hs.length hung.length looks.length c2 c3 c4 from by rw [← hW6]; exact blk_far HK5.out (p := ⟨g6, 0, none⟩) (Nat.ne_of_lt hg6) _)
  have HB6 := Aside0.mk (show Below w.heap.size w W6 from by rw [← hW6]; exact HB5.out.setCell (p := ⟨g6, 0, none⟩) (Nat.le_of_lt hg6) _)
  have z0 := HK6.out.at0
  have z1 := HK6.out.at1
  have z2 := HK6.out.at2
  have z3 := HK6.out.at3
  have z4 := HK6.out.at4
  have u0 := HX6.out.at0
  have u1 := HX6.out.at1
  have u2 := HX6.out.at2
  have u3 := HX6.out.at3
  have u4 := HX6.out.at4
  go_wp2_with (first | rw [hW5, hg] | rw [hcx, hW6] | rw [hcx] | rw [hW6] | rw [hW5])
  try rw [hW6]
  clear hW6 hW5 hcx hz5 x0 x1 x2 x3 x4 xf rz6 y0 y1 y2 y3 y4 z0 z1 z2 z3 z4 u0 u1 u2 u3 u4 b0 b1 b2 b3 b4 HK HB
  have HK := HK6
  have HB := HB6
  clear HK6 HB6 HK5 HB5 HX5 HX6
  have b0 := HK.out.at0
  have b1 := HK.out.at1
  have b2 := HK.out.at2
  have b3 := HK.out.at3
  have b4 := HK.out.at4
  refine (sooner_w (HM.out.later HB.out) (HM.out.later HB.out) HT.out HT.out HS1.out).mono ?_
  rintro e w7 ⟨rfl, hb⟩
  replace HB := Aside0.mk (below_step HB.out hb)
  replace HK := Aside0.mk (HK.out.later hb)
  replace b0 := HK.out.at0
  replace b1 := HK.out.at1
  replace b2 := HK.out.at2
  replace b3 := HK.out.at3
  replace b4 := HK.out.at4
  clear hb
  by_cases hn0 : hs.length = 0
  · have hn1 : ((hs.length : Int) == 0) = true := by rw [hn0]; rfl
    clear hn0
    go_wp2_with fail
    refine (awake_calls _).mono ?_
    rintro e w8 ⟨rfl, hb⟩
    replace HB := Aside0.mk (below_step HB.out hb)
    clear hb
    go_wp2_with fail
    go_ret
    exact ⟨rfl, HB.out⟩
  obtain ⟨m, hm⟩ : ∃ m, m + 1 = hs.length := ⟨hs.length - 1, by omega⟩
  have hn1 : ((hs.length : Int) == 0) = false := beq_eq_false_iff_ne.2 (by omega)
  have HMM := Aside0.mk hm
  have HS2 := Aside0.mk (room_two HC.out (show m + 1 = (hs.map toH).length by rw [List.length_map]; exact hm))
  have hhl : hung.length = hs.length := by have := HV.out.place; rwa [List.length_map] at this
  have HHL := Aside0.mk hhl
  obtain ⟨ad2, e2, _⟩ := HM.out.h2.2.2 (by omega)
  obtain ⟨ad3, e3, _⟩ := HM.out.h3.2.2 (by omega)
  cases e2
  cases e3
  clear hn0 hm hhl
  have HK0 := HK
  go_wp2_with fail
  refine wp_region_held_drew (S := fun W' => Below w7.heap.size w7 W' ∧ W'.cell? ⟨w.heap.size, 0, none⟩ = some (.int .i64 cs) ∧ W'.cell? ⟨w.heap.size, 1, none⟩ = some (.int .i64 cl) ∧ W'.cell? ⟨w.heap.size, 2, none⟩ = some (.slice (some ad2) hs.length c2) ∧ W'.cell? ⟨w.heap.size, 3, none⟩ = some (.slice (some ad3) hung.length c3) ∧ W'.cell? ⟨w.heap.size, 4, none⟩ = some (.slice A4 looks.length c4)) (by kernel_rfl) ?hS (fun hHeld => ?_)
  case hS => exact ⟨below_drew (Below.refl _ _), b0, b1, b2, b3, b4⟩
  generalize w7.drew = wx at hHeld ⊢
  refine tkT 0 (some 46) (v := ?_) rfl rfl (.inl ⟨by rfl, ?_⟩) ?_
  rotate_left
  · (intro w hSw; (try dsimp only at hSw); go_simp; with_reducible rfl)
  try simp only [pS]
  refine tkT 1 (some 47) (v := ?_) rfl rfl (.inl ⟨by rfl, ?_⟩) ?_
  rotate_left
  · (intro w hSw; (try dsimp only at hSw); go_simp; with_reducible rfl)
  try simp only [pS]
  refine wpAnyH_ready (rs := [2, 3]) (by kernel_rfl) (by simp) ?_
  refine AllReadyH.cons (o := { dst := some 8, op := Op.alloc 26, type := 0, pos := "outright.go:438", after := #[], guard := none }) rfl (fun K hK => ?_) (AllReadyH.cons (o := { dst := some 9, op := Op.alloc 26, type := 0, pos := "outright.go:438", after := #[], guard := none }) rfl (fun K hK => ?_) (AllReadyH.nil))
  focus
    go_simp
    have hg8 := Aside0.mk (show w7.heap.size ≤ wx.heap.size from hHeld.1.size)
    have hbx := Aside0.mk (below_alloc (Below.refl wx.heap.size wx) (.cells #[.int .i64 0, .int .i64 0, .slice none 0 0, .slice none 0 0, .slice none 0 0] 26))
    have HG8 := Aside0.mk (blk_new wx (.cells #[.int .i64 0, .int .i64 0, .slice none 0 0, .slice none 0 0, .slice none 0 0] 26))
    generalize hgz8 : wx.heap.size = g8 at hg8 HG8  ⊢
    generalize wx.alloc (.cells #[.int .i64 0, .int .i64 0, .slice none 0 0, .slice none 0 0, .slice none 0 0] 26) = wx at hbx HG8 ⊢
    refine hK.out _ _ ?_ ?_
    · ((try dsimp only); exact ⟨below_step hHeld.1 hbx.out, later (below_step hHeld.1 hbx.out) b0, later (below_step hHeld.1 hbx.out) b1, later (below_step hHeld.1 hbx.out) b2, later (below_step hHeld.1 hbx.out) b3, later (below_step hHeld.1 hbx.out) b4⟩)
    try clear hHeld
    intro hHeld
    clear hK K
    try simp only [pS]
    refine wpAnyH_ready (rs := [3]) (by kernel_rfl) (by simp) ?_
    refine AllReadyH.cons (o := { dst := some 9, op := Op.alloc 26, type := 0, pos := "outright.go:438", after := #[], guard := none }) rfl (fun K hK => ?_) (AllReadyH.nil)
    go_simp
    have hg9 := Aside0.mk (show w7.heap.size ≤ wx.heap.size from hHeld.1.size)
    have hbx := Aside0.mk (below_alloc (Below.refl wx.heap.size wx) (.cells #[.int .i64 0, .int .i64 0, .slice none 0 0, .slice none 0 0, .slice none 0 0] 26))
    have hne8_9 := Aside0.mk (Nat.ne_of_lt (blk_lt HG8.out))
    have HG9 := Aside0.mk (blk_new wx (.cells #[.int .i64 0, .int .i64 0, .slice none 0 0, .slice none 0 0, .slice none 0 0] 26))
    generalize hgz9 : wx.heap.size = g9 at hg9 HG9 hne8_9 ⊢
    generalize wx.alloc (.cells #[.int .i64 0, .int .i64 0, .slice none 0 0, .slice none 0 0, .slice none 0 0] 26) = wx at hbx HG9 ⊢
    replace HG8 := Aside0.mk (blk_below HG8.out hbx.out)
    refine hK.out _ _ ?_ ?_
    · ((try dsimp only); exact ⟨below_step hHeld.1 hbx.out, later (below_step hHeld.1 hbx.out) b0, later (below_step hHeld.1 hbx.out) b1, later (below_step hHeld.1 hbx.out) b2, later (below_step hHeld.1 hbx.out) b3, later (below_step hHeld.1 hbx.out) b4⟩)
    try clear hHeld
    intro hHeld
    clear hK K
    try simp only [pS]
    refine wpAnyH_ready (rs := [4]) (by kernel_rfl) (by simp) ?_
    refine AllReadyH.cons (o := { dst := none, op := Op.store 26 (Operand.tmp 8) (Operand.tmp 46), type := 0, pos := "outright.go:438", after := #[{ on := 2, ground := Ground.data }, { on := 0, ground := Ground.data }, { on := 0, ground := Ground.phase }, { on := 1, ground := Ground.textOnly Departure.lateStores }, { on := 2, ground := Ground.phase }, { on := 3, ground := Ground.phase }], guard := none }) rfl (fun K hK => ?_) (AllReadyH.nil)
    have rz8_ := blk_lt HG8.out
    have rf8_0 := blk_frozen HG8.out 0
    have rf8_1 := blk_frozen HG8.out 1
    have rf8_2 := blk_frozen HG8.out 2
    have rf8_3 := blk_frozen HG8.out 3
    have rf8_4 := blk_frozen HG8.out 4
    have r8_0 : wx.cell? ⟨g8, 0, none⟩ = some (.int .i64 0) := (blk_cell HG8.out 0).trans rfl
    have r8_1 : wx.cell? ⟨g8, 1, none⟩ = some (.int .i64 0) := (blk_cell HG8.out 1).trans rfl
    have r8_2 : wx.cell? ⟨g8, 2, none⟩ = some (.slice none 0 0) := (blk_cell HG8.out 2).trans rfl
    have r8_3 : wx.cell? ⟨g8, 3, none⟩ = some (.slice none 0 0) := (blk_cell HG8.out 3).trans rfl
    have r8_4 : wx.cell? ⟨g8, 4, none⟩ = some (.slice none 0 0) := (blk_cell HG8.out 4).trans rfl
    go_simp
    have HS8 := Aside0.mk (blk_put (blk_put (blk_put (blk_put (blk_put HG8.out 0 (.int .i64 cs) rfl) 1 (.int .i64 cl) rfl) 2 (.slice (some ad2) hs.length c2) rfl) 3 (.slice (some ad3) hung.length c3) rfl) 4 (.slice A4 looks.length c4) rfl)
    have HS0 := Aside0.mk (show Below w7.heap.size w7 (((((wx.setCell ⟨g8, 0, none⟩ (.int .i64 cs)).setCell ⟨g8, 1, none⟩ (.int .i64 cl)).setCell ⟨g8, 2, none⟩ (.slice (some ad2) hs.length c2)).setCell ⟨g8, 3, none⟩ (.slice (some ad3) hung.length c3)).setCell ⟨g8, 4, none⟩ (.slice A4 looks.length c4)) from (((((hHeld.1.setCell hg8.out (.int .i64 cs)).setCell hg8.out (.int .i64 cl)).setCell hg8.out (.slice (some ad2) hs.length c2)).setCell hg8.out (.slice (some ad3) hung.length c3)).setCell hg8.out (.slice A4 looks.length c4)))
    replace HG9 := Aside0.mk (blk_far (blk_far (blk_far (blk_far (blk_far HG9.out (p := ⟨g8, 0, none⟩) (by first | exact hne9_8.out | exact fun h => hne8_9.out h.symm) (.int .i64 cs)) (p := ⟨g8, 1, none⟩) (by first | exact hne9_8.out | exact fun h => hne8_9.out h.symm) (.int .i64 cl)) (p := ⟨g8, 2, none⟩) (by first | exact hne9_8.out | exact fun h => hne8_9.out h.symm) (.slice (some ad2) hs.length c2)) (p := ⟨g8, 3, none⟩) (by first | exact hne9_8.out | exact fun h => hne8_9.out h.symm) (.slice (some ad3) hung.length c3)) (p := ⟨g8, 4, none⟩) (by first | exact hne9_8.out | exact fun h => hne8_9.out h.symm) (.slice A4 looks.length c4))
    clear r8_0 rf8_0 r8_1 rf8_1 r8_2 rf8_2 r8_3 rf8_3 r8_4 rf8_4
    generalize (((((wx.setCell ⟨g8, 0, none⟩ (.int .i64 cs)).setCell ⟨g8, 1, none⟩ (.int .i64 cl)).setCell ⟨g8, 2, none⟩ (.slice (some ad2) hs.length c2)).setCell ⟨g8, 3, none⟩ (.slice (some ad3) hung.length c3)).setCell ⟨g8, 4, none⟩ (.slice A4 looks.length c4)) = wx at HS8 HS0 HG9 ⊢
    refine hK.out _ _ ?_ ?_
    · ((try dsimp only); exact ⟨HS0.out, later (HS0.out) b0, later (HS0.out) b1, later (HS0.out) b2, later (HS0.out) b3, later (HS0.out) b4⟩)
    try clear hHeld
    intro hHeld
    clear hK K
    try simp only [pS]
    refine wpAnyH_ready (rs := [5]) (by kernel_rfl) (by simp) ?_
    refine AllReadyH.cons (o := { dst := none, op := Op.store 26 (Operand.tmp 9) (Operand.tmp 47), type := 0, pos := "outright.go:438", after := #[{ on := 3, ground := Ground.data }, { on := 1, ground := Ground.data }, { on := 4, ground := Ground.chain }, { on := 0, ground := Ground.phase }, { on := 1, ground := Ground.phase }, { on := 2, ground := Ground.phase }, { on := 3, ground := Ground.phase }, { on := 4, ground := Ground.phase }], guard := none }) rfl (fun K hK => ?_) (AllReadyH.nil)
    have rz9_ := blk_lt HG9.out
    have rf9_0 := blk_frozen HG9.out 0
    have rf9_1 := blk_frozen HG9.out 1
    have rf9_2 := blk_frozen HG9.out 2
    have rf9_3 := blk_frozen HG9.out 3
    have rf9_4 := blk_frozen HG9.out 4
    have r9_0 : wx.cell? ⟨g9, 0, none⟩ = some (.int .i64 0) := (blk_cell HG9.out 0).trans rfl
    have r9_1 : wx.cell? ⟨g9, 1, none⟩ = some (.int .i64 0) := (blk_cell HG9.out 1).trans rfl
    have r9_2 : wx.cell? ⟨g9, 2, none⟩ = some (.slice none 0 0) := (blk_cell HG9.out 2).trans rfl
    have r9_3 : wx.cell? ⟨g9, 3, none⟩ = some (.slice none 0 0) := (blk_cell HG9.out 3).trans rfl
    have r9_4 : wx.cell? ⟨g9, 4, none⟩ = some (.slice none 0 0) := (blk_cell HG9.out 4).trans rfl
    go_simp
    have HS9 := Aside0.mk (blk_put (blk_put (blk_put (blk_put (blk_put HG9.out 0 (.int .i64 cs) rfl) 1 (.int .i64 cl) rfl) 2 (.slice (some ad2) hs.length c2) rfl) 3 (.slice (some ad3) hung.length c3) rfl) 4 (.slice A4 looks.length c4) rfl)
    have HS0 := Aside0.mk (show Below w7.heap.size w7 (((((wx.setCell ⟨g9, 0, none⟩ (.int .i64 cs)).setCell ⟨g9, 1, none⟩ (.int .i64 cl)).setCell ⟨g9, 2, none⟩ (.slice (some ad2) hs.length c2)).setCell ⟨g9, 3, none⟩ (.slice (some ad3) hung.length c3)).setCell ⟨g9, 4, none⟩ (.slice A4 looks.length c4)) from (((((hHeld.1.setCell hg9.out (.int .i64 cs)).setCell hg9.out (.int .i64 cl)).setCell hg9.out (.slice (some ad2) hs.length c2)).setCell hg9.out (.slice (some ad3) hung.length c3)).setCell hg9.out (.slice A4 looks.length c4)))
    replace HS8 := Aside0.mk (blk_far (blk_far (blk_far (blk_far (blk_far HS8.out (p := ⟨g9, 0, none⟩) (by first | exact hne8_9.out | exact fun h => hne9_8.out h.symm) (.int .i64 cs)) (p := ⟨g9, 1, none⟩) (by first | exact hne8_9.out | exact fun h => hne9_8.out h.symm) (.int .i64 cl)) (p := ⟨g9, 2, none⟩) (by first | exact hne8_9.out | exact fun h => hne9_8.out h.symm) (.slice (some ad2) hs.length c2)) (p := ⟨g9, 3, none⟩) (by first | exact hne8_9.out | exact fun h => hne9_8.out h.symm) (.slice (some ad3) hung.length c3)) (p := ⟨g9, 4, none⟩) (by first | exact hne8_9.out | exact fun h => hne9_8.out h.symm) (.slice A4 looks.length c4))
    clear r9_0 rf9_0 r9_1 rf9_1 r9_2 rf9_2 r9_3 rf9_3 r9_4 rf9_4
    generalize (((((wx.setCell ⟨g9, 0, none⟩ (.int .i64 cs)).setCell ⟨g9, 1, none⟩ (.int .i64 cl)).setCell ⟨g9, 2, none⟩ (.slice (some ad2) hs.length c2)).setCell ⟨g9, 3, none⟩ (.slice (some ad3) hung.length c3)).setCell ⟨g9, 4, none⟩ (.slice A4 looks.length c4)) = wx at HS9 HS0 HS8 ⊢
    refine hK.out _ _ ?_ ?_
    · ((try dsimp only); exact ⟨HS0.out, later (HS0.out) b0, later (HS0.out) b1, later (HS0.out) b2, later (HS0.out) b3, later (HS0.out) b4⟩)
    try clear hHeld
    intro hHeld
    clear hK K
    try simp only [pS]
    refine wpAnyH_done (by kernel_rfl) ?_ _
  rotate_left 1
  focus
    go_simp
    have hg9 := Aside0.mk (show w7.heap.size ≤ wx.heap.size from hHeld.1.size)
    have hbx := Aside0.mk (below_alloc (Below.refl wx.heap.size wx) (.cells #[.int .i64 0, .int .i64 0, .slice none 0 0, .slice none 0 0, .slice none 0 0] 26))
    have HG9 := Aside0.mk (blk_new wx (.cells #[.int .i64 0, .int .i64 0, .slice none 0 0, .slice none 0 0, .slice none 0 0] 26))
    generalize hgz9 : wx.heap.size = g9 at hg9 HG9  ⊢
    generalize wx.alloc (.cells #[.int .i64 0, .int .i64 0, .slice none 0 0, .slice none 0 0, .slice none 0 0] 26) = wx at hbx HG9 ⊢
    refine hK.out _ _ ?_ ?_
    · ((try dsimp only); exact ⟨below_step hHeld.1 hbx.out, later (below_step hHeld.1 hbx.out) b0, later (below_step hHeld.1 hbx.out) b1, later (below_step hHeld.1 hbx.out) b2, later (below_step hHeld.1 hbx.out) b3, later (below_step hHeld.1 hbx.out) b4⟩)
    try clear hHeld
    intro hHeld
    clear hK K
    try simp only [pS]
    refine wpAnyH_ready (rs := [2]) (by kernel_rfl) (by simp) ?_
    refine AllReadyH.cons (o := { dst := some 8, op := Op.alloc 26, type := 0, pos := "outright.go:438", after := #[], guard := none }) rfl (fun K hK => ?_) (AllReadyH.nil)
    go_simp
    have hg8 := Aside0.mk (show w7.heap.size ≤ wx.heap.size from hHeld.1.size)
    have hbx := Aside0.mk (below_alloc (Below.refl wx.heap.size wx) (.cells #[.int .i64 0, .int .i64 0, .slice none 0 0, .slice none 0 0, .slice none 0 0] 26))
    have hne9_8 := Aside0.mk (Nat.ne_of_lt (blk_lt HG9.out))
    have HG8 := Aside0.mk (blk_new wx (.cells #[.int .i64 0, .int .i64 0, .slice none 0 0, .slice none 0 0, .slice none 0 0] 26))
    generalize hgz8 : wx.heap.size = g8 at hg8 HG8 hne9_8 ⊢
    generalize wx.alloc (.cells #[.int .i64 0, .int .i64 0, .slice none 0 0, .slice none 0 0, .slice none 0 0] 26) = wx at hbx HG8 ⊢
    replace HG9 := Aside0.mk (blk_below HG9.out hbx.out)
    refine hK.out _ _ ?_ ?_
    · ((try dsimp only); exact ⟨below_step hHeld.1 hbx.out, later (below_step hHeld.1 hbx.out) b0, later (below_step hHeld.1 hbx.out) b1, later (below_step hHeld.1 hbx.out) b2, later (below_step hHeld.1 hbx.out) b3, later (below_step hHeld.1 hbx.out) b4⟩)
    try clear hHeld
    intro hHeld
    clear hK K
    try simp only [pS]
    refine wpAnyH_ready (rs := [4]) (by kernel_rfl) (by simp) ?_
    refine AllReadyH.cons (o := { dst := none, op := Op.store 26 (Operand.tmp 8) (Operand.tmp 46), type := 0, pos := "outright.go:438", after := #[{ on := 2, ground := Ground.data }, { on := 0, ground := Ground.data }, { on := 0, ground := Ground.phase }, { on := 1, ground := Ground.textOnly Departure.lateStores }, { on := 2, ground := Ground.phase }, { on := 3, ground := Ground.phase }], guard := none }) rfl (fun K hK => ?_) (AllReadyH.nil)
    have rz8_ := blk_lt HG8.out
    have rf8_0 := blk_frozen HG8.out 0
    have rf8_1 := blk_frozen HG8.out 1
    have rf8_2 := blk_frozen HG8.out 2
    have rf8_3 := blk_frozen HG8.out 3
    have rf8_4 := blk_frozen HG8.out 4
    have r8_0 : wx.cell? ⟨g8, 0, none⟩ = some (.int .i64 0) := (blk_cell HG8.out 0).trans rfl
    have r8_1 : wx.cell? ⟨g8, 1, none⟩ = some (.int .i64 0) := (blk_cell HG8.out 1).trans rfl
    have r8_2 : wx.cell? ⟨g8, 2, none⟩ = some (.slice none 0 0) := (blk_cell HG8.out 2).trans rfl
    have r8_3 : wx.cell? ⟨g8, 3, none⟩ = some (.slice none 0 0) := (blk_cell HG8.out 3).trans rfl
    have r8_4 : wx.cell? ⟨g8, 4, none⟩ = some (.slice none 0 0) := (blk_cell HG8.out 4).trans rfl
    go_simp
    have HS8 := Aside0.mk (blk_put (blk_put (blk_put (blk_put (blk_put HG8.out 0 (.int .i64 cs) rfl) 1 (.int .i64 cl) rfl) 2 (.slice (some ad2) hs.length c2) rfl) 3 (.slice (some ad3) hung.length c3) rfl) 4 (.slice A4 looks.length c4) rfl)
    have HS0 := Aside0.mk (show Below w7.heap.size w7 (((((wx.setCell ⟨g8, 0, none⟩ (.int .i64 cs)).setCell ⟨g8, 1, none⟩ (.int .i64 cl)).setCell ⟨g8, 2, none⟩ (.slice (some ad2) hs.length c2)).setCell ⟨g8, 3, none⟩ (.slice (some ad3) hung.length c3)).setCell ⟨g8, 4, none⟩ (.slice A4 looks.length c4)) from (((((hHeld.1.setCell hg8.out (.int .i64 cs)).setCell hg8.out (.int .i64 cl)).setCell hg8.out (.slice (some ad2) hs.length c2)).setCell hg8.out (.slice (some ad3) hung.length c3)).setCell hg8.out (.slice A4 looks.length c4)))
    replace HG9 := Aside0.mk (blk_far (blk_far (blk_far (blk_far (blk_far HG9.out (p := ⟨g8, 0, none⟩) (by first | exact hne9_8.out | exact fun h => hne8_9.out h.symm) (.int .i64 cs)) (p := ⟨g8, 1, none⟩) (by first | exact hne9_8.out | exact fun h => hne8_9.out h.symm) (.int .i64 cl)) (p := ⟨g8, 2, none⟩) (by first | exact hne9_8.out | exact fun h => hne8_9.out h.symm) (.slice (some ad2) hs.length c2)) (p := ⟨g8, 3, none⟩) (by first | exact hne9_8.out | exact fun h => hne8_9.out h.symm) (.slice (some ad3) hung.length c3)) (p := ⟨g8, 4, none⟩) (by first | exact hne9_8.out | exact fun h => hne8_9.out h.symm) (.slice A4 looks.length c4))
    clear r8_0 rf8_0 r8_1 rf8_1 r8_2 rf8_2 r8_3 rf8_3 r8_4 rf8_4
    generalize (((((wx.setCell ⟨g8, 0, none⟩ (.int .i64 cs)).setCell ⟨g8, 1, none⟩ (.int .i64 cl)).setCell ⟨g8, 2, none⟩ (.slice (some ad2) hs.length c2)).setCell ⟨g8, 3, none⟩ (.slice (some ad3) hung.length c3)).setCell ⟨g8, 4, none⟩ (.slice A4 looks.length c4)) = wx at HS8 HS0 HG9 ⊢
    refine hK.out _ _ ?_ ?_
    · ((try dsimp only); exact ⟨HS0.out, later (HS0.out) b0, later (HS0.out) b1, later (HS0.out) b2, later (HS0.out) b3, later (HS0.out) b4⟩)
    try clear hHeld
    intro hHeld
    clear hK K
    try simp only [pS]
    refine wpAnyH_ready (rs := [5]) (by kernel_rfl) (by simp) ?_
    refine AllReadyH.cons (o := { dst := none, op := Op.store 26 (Operand.tmp 9) (Operand.tmp 47), type := 0, pos := "outright.go:438", after := #[{ on := 3, ground := Ground.data }, { on := 1, ground := Ground.data }, { on := 4, ground := Ground.chain }, { on := 0, ground := Ground.phase }, { on := 1, ground := Ground.phase }, { on := 2, ground := Ground.phase }, { on := 3, ground := Ground.phase }, { on := 4, ground := Ground.phase }], guard := none }) rfl (fun K hK => ?_) (AllReadyH.nil)
    have rz9_ := blk_lt HG9.out
    have rf9_0 := blk_frozen HG9.out 0
    have rf9_1 := blk_frozen HG9.out 1
    have rf9_2 := blk_frozen HG9.out 2
    have rf9_3 := blk_frozen HG9.out 3
    have rf9_4 := blk_frozen HG9.out 4
    have r9_0 : wx.cell? ⟨g9, 0, none⟩ = some (.int .i64 0) := (blk_cell HG9.out 0).trans rfl
    have r9_1 : wx.cell? ⟨g9, 1, none⟩ = some (.int .i64 0) := (blk_cell HG9.out 1).trans rfl
    have r9_2 : wx.cell? ⟨g9, 2, none⟩ = some (.slice none 0 0) := (blk_cell HG9.out 2).trans rfl
    have r9_3 : wx.cell? ⟨g9, 3, none⟩ = some (.slice none 0 0) := (blk_cell HG9.out 3).trans rfl
    have r9_4 : wx.cell? ⟨g9, 4, none⟩ = some (.slice none 0 0) := (blk_cell HG9.out 4).trans rfl
    go_simp
    have HS9 := Aside0.mk (blk_put (blk_put (blk_put (blk_put (blk_put HG9.out 0 (.int .i64 cs) rfl) 1 (.int .i64 cl) rfl) 2 (.slice (some ad2) hs.length c2) rfl) 3 (.slice (some ad3) hung.length c3) rfl) 4 (.slice A4 looks.length c4) rfl)
    have HS0 := Aside0.mk (show Below w7.heap.size w7 (((((wx.setCell ⟨g9, 0, none⟩ (.int .i64 cs)).setCell ⟨g9, 1, none⟩ (.int .i64 cl)).setCell ⟨g9, 2, none⟩ (.slice (some ad2) hs.length c2)).setCell ⟨g9, 3, none⟩ (.slice (some ad3) hung.length c3)).setCell ⟨g9, 4, none⟩ (.slice A4 looks.length c4)) from (((((hHeld.1.setCell hg9.out (.int .i64 cs)).setCell hg9.out (.int .i64 cl)).setCell hg9.out (.slice (some ad2) hs.length c2)).setCell hg9.out (.slice (some ad3) hung.length c3)).setCell hg9.out (.slice A4 looks.length c4)))
    replace HS8 := Aside0.mk (blk_far (blk_far (blk_far (blk_far (blk_far HS8.out (p := ⟨g9, 0, none⟩) (by first | exact hne8_9.out | exact fun h => hne9_8.out h.symm) (.int .i64 cs)) (p := ⟨g9, 1, none⟩) (by first | exact hne8_9.out | exact fun h => hne9_8.out h.symm) (.int .i64 cl)) (p := ⟨g9, 2, none⟩) (by first | exact hne8_9.out | exact fun h => hne9_8.out h.symm) (.slice (some ad2) hs.length c2)) (p := ⟨g9, 3, none⟩) (by first | exact hne8_9.out | exact fun h => hne9_8.out h.symm) (.slice (some ad3) hung.length c3)) (p := ⟨g9, 4, none⟩) (by first | exact hne8_9.out | exact fun h => hne9_8.out h.symm) (.slice A4 looks.length c4))
    clear r9_0 rf9_0 r9_1 rf9_1 r9_2 rf9_2 r9_3 rf9_3 r9_4 rf9_4
    generalize (((((wx.setCell ⟨g9, 0, none⟩ (.int .i64 cs)).setCell ⟨g9, 1, none⟩ (.int .i64 cl)).setCell ⟨g9, 2, none⟩ (.slice (some ad2) hs.length c2)).setCell ⟨g9, 3, none⟩ (.slice (some ad3) hung.length c3)).setCell ⟨g9, 4, none⟩ (.slice A4 looks.length c4)) = wx at HS9 HS0 HS8 ⊢
    refine hK.out _ _ ?_ ?_
    · ((try dsimp only); exact ⟨HS0.out, later (HS0.out) b0, later (HS0.out) b1, later (HS0.out) b2, later (HS0.out) b3, later (HS0.out) b4⟩)
    try clear hHeld
    intro hHeld
    clear hK K
    try simp only [pS]
    refine wpAnyH_done (by kernel_rfl) ?_ _
  all_goals
    replace HB := Aside0.mk (below_step HB.out hHeld.1)
    replace HK := Aside0.mk (HK.out.later hHeld.1)
    replace b0 := HK.out.at0
    replace b1 := HK.out.at1
    replace b2 := HK.out.at2
    replace b3 := HK.out.at3
    replace b4 := HK.out.at4
    have hgw8 : w.heap.size < g8 := Nat.lt_of_lt_of_le (blk_lt (show Box w7 w.heap.size cs cl (some ad2) (some ad3) A4 hs.length hung.length looks.length c2 c3 c4 from HK0.out)) hg8.out
    have hgw9 : w.heap.size < g9 := Nat.lt_of_lt_of_le (blk_lt (show Box w7 w.heap.size cs cl (some ad2) (some ad3) A4 hs.length hung.length looks.length c2 c3 c4 from HK0.out)) hg9.out
    have hne89 : g8 ≠ g9 := by first | exact hne8_9.out | exact fun h => hne9_8.out h.symm
    have hne98 : g9 ≠ g8 := fun h => hne89 h.symm
    have s8 : wx.cell? ⟨g8, 4, none⟩ = some (.slice A4 looks.length c4) := (blk_cell HS8.out 4).trans rfl
    have f8 := blk_frozen HS8.out 4
    have rz8 := blk_lt HS8.out
    have rz9 := blk_lt HS9.out
    have s9 : wx.cell? ⟨g9, 4, none⟩ = some (.slice A4 looks.length c4) := (blk_cell HS9.out 4).trans rfl
    have f9 := blk_frozen HS9.out 4
    have s9' : (wx.setCell ⟨g8, 4, none⟩ (.slice none 0 0)).cell? ⟨g9, 4, none⟩ = some (.slice A4 looks.length c4) := (blk_cell (blk_far HS9.out (p := ⟨g8, 4, none⟩) hne98 _) 4).trans rfl
    have f9' := blk_frozen (blk_far HS9.out (p := ⟨g8, 4, none⟩) hne98 (.slice none 0 0)) 4
    obtain ⟨W14, hW14⟩ : ∃ W, (wx.setCell ⟨g8, 4, none⟩ (.slice none 0 0)).setCell ⟨g9, 4, none⟩ (.slice none 0 0) = W := ⟨_, rfl⟩
    have HY := Aside0.mk (show Box W14 g8 cs cl (some ad2) (some ad3) none hs.length hung.length 0 c2 c3 0 from by rw [← hW14]; exact blk_far (p := ⟨g9, 4, none⟩) (blk_put HS8.out 4 (.slice none 0 0) rfl) hne89 _)
    have HZ := Aside0.mk (show Box W14 g9 cs cl (some ad2) (some ad3) none hs.length hung.length 0 c2 c3 0 from by rw [← hW14]; exact blk_put (blk_far HS9.out (p := ⟨g8, 4, none⟩) hne98 _) 4 (.slice none 0 0) rfl)
    have HK14 := Aside0.mk (show Box W14 w.heap.size cs cl (some ad2) (some ad3) A4 hs.length hung.length looks.length c2 c3 c4 from by rw [← hW14]; exact blk_far (p := ⟨g9, 4, none⟩) (blk_far (p := ⟨g8, 4, none⟩) HK.out (Nat.ne_of_lt hgw8) _) (Nat.ne_of_lt hgw9) _)
    have HB14 := Aside0.mk (show Below w.heap.size w W14 from by rw [← hW14]; exact (HB.out.setCell (p := ⟨g8, 4, none⟩) (Nat.le_of_lt hgw8) _).setCell (p := ⟨g9, 4, none⟩) (Nat.le_of_lt hgw9) _)
    have k2 := HK14.out.at2
    have k3 := HK14.out.at3
    have hsub : (hs.length : Int) - 1 = (m : Int) := by have := HMM.out; omega
    have hsw : IntKind.i64.wrap ((hs.length : Int) - 1) = (m : Int) := by have := HMM.out; have := HT.out; rw [IntWalk.i64_in _ (by omega)]; omega
    have hsw2 : wrap64 ((hs.length : Int) - 1) = (m : Int) := by have := HMM.out; have := HT.out; unfold wrap64; omega
    have hm0 : (0 : Int) ≤ (m : Int) := by omega
    have hmw : IntKind.i64.wrap (m : Int) = (m : Int) := IntWalk.i64_in _ (by have := HMM.out; have := HT.out; omega)
    have hm2 : (m : Int) ≤ (c2 : Int) := by have := HMM.out; have := HM.out.l2; omega
    have hm3 : (m : Int) ≤ (c3 : Int) := by have := HMM.out; have := HM.out.l3; have := HHL.out; omega
    have hm2' : m ≤ c2 := by omega
    have hm3' : m ≤ c3 := by omega
    go_wp2_with (rw [hW14])
    try rw [hW14]
    clear hW14 s8 f8 s9 f9 s9' f9' rz8 rz9
    refine wp_region_held_drew (S := fun W' => Below w.heap.size w W' ∧ W'.cell? ⟨w.heap.size, 2, none⟩ = some (.slice (some ad2) hs.length c2) ∧ W'.cell? ⟨w.heap.size, 3, none⟩ = some (.slice (some ad3) hung.length c3)) (by kernel_rfl) ?hS (fun hHeld => ?_)
    case hS => exact ⟨below_drew HB14.out, k2, k3⟩
    have HYD := Aside0.mk (show Box W14.drew g8 cs cl (some ad2) (some ad3) none hs.length hung.length 0 c2 c3 0 from blk_drew HY.out)
    have HZD := Aside0.mk (show Box W14.drew g9 cs cl (some ad2) (some ad3) none hs.length hung.length 0 c2 c3 0 from blk_drew HZ.out)
    have HKD := Aside0.mk (show Box W14.drew w.heap.size cs cl (some ad2) (some ad3) A4 hs.length hung.length looks.length c2 c3 c4 from blk_drew HK14.out)
    generalize W14.drew = wx at hHeld HYD HZD HKD ⊢
    refine tkT 0 (some 50) (v := ?_) rfl rfl (.inl ⟨by rfl, ?_⟩) ?_
    rotate_left
    · (intro w hSw; (try dsimp only at hSw); go_simp; with_reducible rfl)
    try simp only [pS]
    refine tkT 1 (some 51) (v := ?_) rfl rfl (.inl ⟨by rfl, ?_⟩) ?_
    rotate_left
    · (intro w hSw; (try dsimp only at hSw); go_simp; with_reducible rfl)
    try simp only [pS]
    refine tkT 2 (some 52) (v := ?_) rfl rfl (.inl ⟨by rfl, ?_⟩) ?_
    rotate_left
    · (intro w hSw; (try dsimp only at hSw); go_simp; with_reducible rfl)
    try simp only [pS]
    refine tkT 3 (some 53) (v := ?_) rfl rfl (.inl ⟨by rfl, ?_⟩) ?_
    rotate_left
    · (intro w hSw; (try dsimp only at hSw); go_simp; with_reducible rfl)
    try simp only [pS]
    refine tkT 4 (some 54) (v := ?_) rfl rfl (.inl ⟨by rfl, ?_⟩) ?_
    rotate_left
    · (intro w hSw; (try dsimp only at hSw); go_simp; with_reducible rfl)
    try simp only [pS]
    refine tkT 5 (some 55) (v := ?_) rfl rfl (.inl ⟨by rfl, ?_⟩) ?_
    rotate_left
    · (intro w hSw; (try dsimp only at hSw); go_simp; with_reducible rfl)
    try simp only [pS]
    refine tkT 6 (some 56) (v := ?_) rfl rfl (.inl ⟨by rfl, ?_⟩) ?_
    rotate_left
    · (intro w hSw; (try dsimp only at hSw); go_simp; with_reducible rfl)
    try simp only [pS]
    refine tkT 7 (some 57) (v := ?_) rfl rfl (.inl ⟨by rfl, ?_⟩) ?_
    rotate_left
    · (intro w hSw; (try dsimp only at hSw); go_simp; with_reducible rfl)
    try simp only [pS]
    refine tkT 8 (some 58) (v := ?_) rfl rfl (.inl ⟨by rfl, ?_⟩) ?_
    rotate_left
    · (intro w hSw; (try dsimp only at hSw); go_simp; with_reducible rfl)
    try simp only [pS]
    refine tkT 9 (some 59) (v := ?_) rfl rfl (.inl ⟨by rfl, ?_⟩) ?_
    rotate_left
    · (intro w hSw; (try dsimp only at hSw); go_simp; with_reducible rfl)
    try simp only [pS]
    refine tkT 10 (some 60) (v := ?_) rfl rfl (.inl ⟨by rfl, ?_⟩) ?_
    rotate_left
    · (intro w hSw; (try dsimp only at hSw); go_simp; with_reducible rfl)
    try simp only [pS]
    refine wpAnyH_ready (rs := [11]) (by kernel_rfl) (by simp) ?_
    refine AllReadyH.cons (o := { dst := none, op := Op.store 22 (Operand.tmp 60) (Operand.tmp 54), type := 0, pos := "outright.go:440", after := #[{ on := 10, ground := Ground.data }, { on := 4, ground := Ground.data }, { on := 0, ground := Ground.phase }, { on := 1, ground := Ground.phase }, { on := 2, ground := Ground.phase }, { on := 3, ground := Ground.phase }, { on := 4, ground := Ground.phase }, { on := 5, ground := Ground.textOnly Departure.lateStores }, { on := 6, ground := Ground.textOnly Departure.lateStores }, { on := 7, ground := Ground.textOnly Departure.lateStores }, { on := 8, ground := Ground.textOnly Departure.lateStores }, { on := 9, ground := Ground.textOnly Departure.lateStoresUnsure }], guard := none }) rfl (fun K hK => ?_) (AllReadyH.nil)
    have p_ : wx.cell? ⟨g9, 2, none⟩ = some (.slice (some ad2) hs.length c2) := HZD.out.at2
    have pf_ := blk_frozen HZD.out 2
    have pz_ := blk_lt HZD.out
    go_simp
    clear p_ pf_ pz_
    have HZE := Aside0.mk (show Box (wx.setCell ⟨g9, 2, none⟩ (.slice (some ad2) m c2)) g9 cs cl (some ad2) (some ad3) none m hung.length 0 c2 c3 0 from blk_put HZD.out 2 (.slice (some ad2) m c2) rfl)
    have HYE := Aside0.mk (show Box (wx.setCell ⟨g9, 2, none⟩ (.slice (some ad2) m c2)) g8 cs cl (some ad2) (some ad3) none hs.length hung.length 0 c2 c3 0 from blk_far HYD.out (p := ⟨g9, 2, none⟩) hne89 _)
    have HKE := Aside0.mk (show Box (wx.setCell ⟨g9, 2, none⟩ (.slice (some ad2) m c2)) w.heap.size cs cl (some ad2) (some ad3) A4 hs.length hung.length looks.length c2 c3 c4 from blk_far HKD.out (p := ⟨g9, 2, none⟩) (Nat.ne_of_lt hgw9) _)
    have HBE := Aside0.mk (show Below w.heap.size w (wx.setCell ⟨g9, 2, none⟩ (.slice (some ad2) m c2)) from hHeld.1.setCell (p := ⟨g9, 2, none⟩) (Nat.le_of_lt hgw9) _)
    clear HZD HYD HKD
    generalize wx.setCell ⟨g9, 2, none⟩ (.slice (some ad2) m c2) = wx at HZE HYE HKE HBE ⊢
    have HZD := HZE
    have HYD := HYE
    have HKD := HKE
    clear HZE HYE HKE
    refine hK.out _ _ ?_ ?_
    · ((try dsimp only); exact ⟨HBE.out, HKD.out.at2, HKD.out.at3⟩)
    try clear hHeld
    intro hHeld
    clear hK K
    try simp only [pS]
    refine tkT 12 (some 61) (v := ?_) rfl rfl (.inl ⟨by rfl, ?_⟩) ?_
    rotate_left
    · (intro w hSw; (try dsimp only at hSw); go_simp; with_reducible rfl)
    try simp only [pS]
    refine wpAnyH_ready (rs := [13]) (by kernel_rfl) (by simp) ?_
    refine AllReadyH.cons (o := { dst := none, op := Op.store 23 (Operand.tmp 61) (Operand.tmp 59), type := 0, pos := "outright.go:440", after := #[{ on := 12, ground := Ground.data }, { on := 9, ground := Ground.data }, { on := 11, ground := Ground.chain }, { on := 0, ground := Ground.phase }, { on := 1, ground := Ground.phase }, { on := 2, ground := Ground.phase }, { on := 3, ground := Ground.phase }, { on := 4, ground := Ground.phase }, { on := 5, ground := Ground.phase }, { on := 6, ground := Ground.phase }, { on := 7, ground := Ground.phase }, { on := 8, ground := Ground.phase }, { on := 9, ground := Ground.phase }, { on := 10, ground := Ground.phase }, { on := 11, ground := Ground.phase }], guard := none }) rfl (fun K hK => ?_) (AllReadyH.nil)
    have p_ : wx.cell? ⟨g9, 3, none⟩ = some (.slice (some ad3) hung.length c3) := HZD.out.at3
    have pf_ := blk_frozen HZD.out 3
    have pz_ := blk_lt HZD.out
    go_simp
    clear p_ pf_ pz_
    have HZE := Aside0.mk (show Box (wx.setCell ⟨g9, 3, none⟩ (.slice (some ad3) m c3)) g9 cs cl (some ad2) (some ad3) none m m 0 c2 c3 0 from blk_put HZD.out 3 (.slice (some ad3) m c3) rfl)
    have HYE := Aside0.mk (show Box (wx.setCell ⟨g9, 3, none⟩ (.slice (some ad3) m c3)) g8 cs cl (some ad2) (some ad3) none hs.length hung.length 0 c2 c3 0 from blk_far HYD.out (p := ⟨g9, 3, none⟩) hne89 _)
    have HKE := Aside0.mk (show Box (wx.setCell ⟨g9, 3, none⟩ (.slice (some ad3) m c3)) w.heap.size cs cl (some ad2) (some ad3) A4 hs.length hung.length looks.length c2 c3 c4 from blk_far HKD.out (p := ⟨g9, 3, none⟩) (Nat.ne_of_lt hgw9) _)
    have HBE := Aside0.mk (show Below w.heap.size w (wx.setCell ⟨g9, 3, none⟩ (.slice (some ad3) m c3)) from hHeld.1.setCell (p := ⟨g9, 3, none⟩) (Nat.le_of_lt hgw9) _)
    clear HZD HYD HKD
    generalize wx.setCell ⟨g9, 3, none⟩ (.slice (some ad3) m c3) = wx at HZE HYE HKE HBE ⊢
    have HZD := HZE
    have HYD := HYE
    have HKD := HKE
    clear HZE HYE HKE
    refine hK.out _ _ ?_ ?_
    · ((try dsimp only); exact ⟨HBE.out, HKD.out.at2, HKD.out.at3⟩)
    try clear hHeld
    intro hHeld
    clear hK K
    try simp only [pS]
    refine wpAnyH_done (by kernel_rfl) ?_ _
    have HB := Aside0.mk hHeld.1
    clear hsub hsw hsw2 hm0 hmw k2 k3
    have y0 := HYD.out.at0
    have y1 := HYD.out.at1
    have y2 := HYD.out.at2
    have y3 := HYD.out.at3
    have y4 := HYD.out.at4
    have z0 := HZD.out.at0
    have z1 := HZD.out.at1
    have z2 := HZD.out.at2
    have z3 := HZD.out.at3
    have z4 := HZD.out.at4
    have hth : (hs.take m).length = m := by have := HMM.out; rw [List.length_take]; omega
    have htg : (hung.take m).length = m := by have := HMM.out; have := HHL.out; rw [List.length_take]; omega
    have hMy : Ref wx (some ad2) (some ad3) none c2 c3 0 hs hung [] := ⟨(HM.out.later HB.out).h2, HM.out.l2, (HM.out.later HB.out).h3, HM.out.l3, Kd.C_nil _ _, Nat.le_refl 0⟩
    have hMz : Ref wx (some ad2) (some ad3) none c2 c3 0 (hs.take m) (hung.take m) [] := ⟨takeC (HM.out.later HB.out).h2 (by have := HMM.out; omega), by rw [hth]; omega, takeC (HM.out.later HB.out).h3 (by have := HMM.out; have := HHL.out; omega), by rw [htg]; omega, Kd.C_nil _ _, Nat.le_refl 0⟩
    have HC9 := Aside0.mk (sooner_w (cs := cs) (cl := cl) (cs' := cs) (cl' := cl) hMy hMz ⟨HT.out.1, HT.out.2.1, Nat.zero_le _⟩ ⟨by rw [hth]; have := HMM.out; have := HT.out; omega, by rw [htg]; have := HMM.out; have := HT.out; omega, Nat.zero_le _⟩ (by have h := HS2.out; rw [← List.map_take] at h; exact h))
    rw [hth, htg] at HC9
    clear hMy hMz hth htg hm2 hm3 hm2' hm3'
    go_wp2_with fail
    refine HC9.out.mono ?_
    rintro e w99 ⟨rfl, hb⟩
    replace HB := Aside0.mk (below_step HB.out hb)
    clear hb HC9
    go_wp2_with fail
    refine (awake_calls _).mono ?_
    rintro e w9 ⟨rfl, hb⟩
    replace HB := Aside0.mk (below_step HB.out hb)
    clear hb
    go_wp2_with fail
    go_ret
    exact ⟨rfl, HB.out⟩
end Go.Proofs.Ytokhmghgghjmhaa.Q
namespace Go.Proofs.Ytokhmghgghjmhaa.Q
open Go.RowKit Go.Proofs.YtokhmghgghjmhaaW.PrintWords Go.Proofs.YtokhmghgghjmhaaW.PrintLast Go.Proofs.YtokhmghgghjmhaaW.PrintMore
set_option linter.unusedVariables false
/-- Horses of a law's own: a row of a block that it made. -/
def Hr (w : World) (base : Nat) (A : Option Addr) (d : Nat) (hs : List S68) (ok : Nat → Prop) : Prop := Kd.R k68 68 w base ok (.slice A hs.length d) hs
theorem Hr.later {w w' : World} {base : Nat} {A : Option Addr} {d : Nat} {hs : List S68} {ok : Nat → Prop} (h : Hr w base A d hs ok) (hb : Below w.heap.size w w') : Hr w' base A d hs ok := Kd.R_below h hb
theorem Hr.reads {w : World} {base : Nat} {A : Option Addr} {d : Nat} {hs : List S68} {ok : Nat → Prop} (h : Hr w base A d hs ok) : Kd.C k68 w A hs.length hs ∧ hs.length ≤ d := by
  have h2 := Kd.R_reads' h
  exact ⟨h2.2.2, h2.2.1⟩
/-- A field of one horse is written. -/
theorem Hr.put {w : World} {base g d : Nat} {hs : List S68} {ok : Nat → Prop} (h : Hr w base (some ⟨g, 0, none⟩) d hs ok) (k : Nat) (hk : k < hs.length) (j : Nat) (hj : j < 4) (v : Int) (x : S68)
    (hx : ([.int .i64 (rd_T68 hs k).f0.f0, .int .i64 (rd_T68 hs k).f0.f1, .int .i64 (rd_T68 hs k).f1, .int .i64 (rd_T68 hs k).f2] : List Value).set j (.int .i64 v) = [.int .i64 x.f0.f0, .int .i64 x.f0.f1, .int .i64 x.f1, .int .i64 x.f2]) :
    Hr (w.setCell ⟨g, k * 4 + j, none⟩ (.int .i64 v)) base (some ⟨g, 0, none⟩) d (hs.set k x) ok := by
  obtain ⟨c, hcl, hM, hcc, hfr⟩ := Kd.R_elem h z68 (k : Int) (by omega) (by omega)
  rw [Int.toNat_natCast] at hM hcc
  have hc : c = [.int .i64 (rd_T68 hs k).f0.f0, .int .i64 (rd_T68 hs k).f0.f1, .int .i64 (rd_T68 hs k).f1, .int .i64 (rd_T68 hs k).f2] := by
    have := k68_openM hM
    exact this
  have e : c.take j ++ [.int .i64 v] ++ c.drop (j + 1) = [.int .i64 x.f0.f0, .int .i64 x.f0.f1, .int .i64 x.f1, .int .i64 x.f2] := by
    rw [← hx, hc]
    rcases j with _ | _ | _ | _ | j
    · rfl
    · rfl
    · rfl
    · rfl
    · omega
  have hs2 := (Kd.R_seg h (k : Int) (by omega) (by omega) (seg := [.int .i64 v]) (j := j) (by exact hcl) (by rw [Int.toNat_natCast]; exact hcc) (show j + 1 ≤ 4 by omega) (x' := x) (okp := fun k' => ok k' ∧ k' ≠ g) (by
    show k68.M w base _ x (c.take j ++ [.int .i64 v] ++ c.drop (j + 1))
    rw [e]; exact k68_mkM _ _ _ x) (fun _ hk => hk)).1
  rw [Int.toNat_natCast] at hs2
  unfold Hr
  rw [List.length_set]
  exact hs2
theorem Hr.at {w : World} {base g d : Nat} {hs : List S68} {ok : Nat → Prop} (h : Hr w base (some ⟨g, 0, none⟩) d hs ok) (k : Nat) (hk : k < hs.length) :
    w.cell? ⟨g, k * 4, none⟩ = some (.int .i64 (rd_T68 hs k).f0.f0) ∧ w.cell? ⟨g, k * 4 + 1, none⟩ = some (.int .i64 (rd_T68 hs k).f0.f1) ∧ w.cell? ⟨g, k * 4 + 2, none⟩ = some (.int .i64 (rd_T68 hs k).f1) ∧ w.cell? ⟨g, k * 4 + 3, none⟩ = some (.int .i64 (rd_T68 hs k).f2) ∧ ∀ j, w.frozen? ⟨g, k * 4 + j, none⟩ = false := by
  obtain ⟨c, hcl, hM, hcc, hfr⟩ := Kd.R_elem h z68 (k : Int) (by omega) (by omega)
  rw [Int.toNat_natCast] at hM hcc hfr
  obtain rfl := k68_openM hM
  exact ⟨hcc 0 _ rfl, hcc 1 _ rfl, hcc 2 _ rfl, hcc 3 _ rfl, hfr⟩
theorem Hr.form {w : World} {base : Nat} {A : Option Addr} {d : Nat} {hs : List S68} {ok : Nat → Prop} (h : Hr w base A d hs ok) (hp : 0 < hs.length) : ∃ g, A = some ⟨g, 0, none⟩ ∧ base ≤ g ∧ g < w.heap.size := by
  obtain ⟨g, cap, e, h1, h2, _⟩ := Kd.R_form h hp
  injection e with e1 e2 e3
  exact ⟨g, e1, h1, h2⟩
end Go.Proofs.Ytokhmghgghjmhaa.Q
