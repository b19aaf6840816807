/- Part B3 of the proof (PB, PP, SW, PQ, GW, YL, R0, R1): contracts of functions, and plain lemmas about what they compute. -/
import Derived.Deep.Slices
import Derived.ChangeArms
import Derived.Test.YtokhmghgghjmhaaA0
import Derived.Test.YtokhmghgghjmhaaA1
import Derived.Test.YtokhmghgghjmhaaA2
import Derived.Test.YtokhmghgghjmhaaA3
import Derived.Test.YtokhmghgghjmhaaA4
import Derived.Test.YtokhmghgghjmhaaB0
import Derived.Test.YtokhmghgghjmhaaB1
import Derived.Test.YtokhmghgghjmhaaB2
namespace Go.Proofs.Ytokhmghgghjmhaa.Q
open Go.RowKit Go.Proofs.YtokhmghgghjmhaaW.PrintWords Go.Proofs.YtokhmghgghjmhaaW.PrintLast Go.Proofs.YtokhmghgghjmhaaW.PrintMore
set_option linter.unusedVariables false
/-- All placements with given first closets, in the order in which they are tried. -/
def lvs (cs : Int) : Nat → List Int → List (List Int)
  | 0, p => [p]
  | d + 1, p => (List.range cs.toNat).flatMap fun (i : Nat) => if p.contains (i : Int) then [] else lvs cs d (p ++ [(i : Int)])
theorem foldl_flat {α β γ : Type} (f : α → List β) (g : γ → β → γ) : ∀ (l : List α) (st : γ), (l.flatMap f).foldl g st = l.foldl (fun s x => (f x).foldl g s) st
  | [], _ => rfl
  | a :: l, st => by rw [List.flatMap_cons, List.foldl_append, List.foldl_cons, foldl_flat f g l]
theorem tryN_lvs (cs cl : Int) (hs : List S139) (ts : List (Nat → Int)) : ∀ (d : Nat) (p : List Int) (st : Option (List Int × Int)), tryN cs cl hs ts d p st = (lvs cs d p).foldl (fun s q => better cl hs ts q s) st
  | 0, p, st => rfl
  | d + 1, p, st => by
    simp only [tryN, lvs]
    rw [foldl_flat]
    congr 1
    funext s i
    split
    · rfl
    · exact tryN_lvs cs cl hs ts d _ s
theorem mem_lvs (cs : Int) : ∀ (d : Nat) (p q : List Int), q ∈ lvs cs d p ↔ ∃ s : List Int, q = p ++ s ∧ s.length = d ∧ (∀ x ∈ s, 0 ≤ x ∧ x ≤ cs - 1 ∧ x ∉ p) ∧ s.Nodup
  | 0, p, q => by
    simp only [lvs, List.mem_singleton]
    constructor
    · rintro rfl; exact ⟨[], by simp, rfl, by simp, List.nodup_nil⟩
    · rintro ⟨s, h, h0, _⟩
      obtain rfl := List.length_eq_zero_iff.1 h0
      rw [h, List.append_nil]
  | d + 1, p, q => by
    simp only [lvs, List.mem_flatMap, List.mem_range]
    constructor
    · rintro ⟨i, hi, hq⟩
      split at hq
      · cases hq
      · rename_i hc
        have hc : (i : Int) ∉ p := fun h => hc (List.contains_iff_mem.2 h)
        obtain ⟨s, rfl, hl, hx, hn⟩ := (mem_lvs cs d _ _).1 hq
        refine ⟨(i : Int) :: s, by simp, by simp [hl], ?_, ?_⟩
        · intro x hm
          rcases List.mem_cons.1 hm with rfl | hm
          · exact ⟨by omega, by omega, hc⟩
          · obtain ⟨h1, h2, h3⟩ := hx x hm
            exact ⟨h1, h2, fun h => h3 (List.mem_append_left _ h)⟩
        · refine List.nodup_cons.2 ⟨fun h => ?_, hn⟩
          exact (hx _ h).2.2 (List.mem_append_right _ (List.mem_singleton.2 rfl))
    · rintro ⟨s, rfl, hl, hx, hn⟩
      match s, hl with
      | a :: s, hl =>
        obtain ⟨h1, h2, h3⟩ := hx a (List.mem_cons_self ..)
        obtain ⟨h4, h5⟩ := List.nodup_cons.1 hn
        refine ⟨a.toNat, by omega, ?_⟩
        have e : ((a.toNat : Nat) : Int) = a := by omega
        rw [e, if_neg (fun h => h3 (List.contains_iff_mem.1 h))]
        refine (mem_lvs cs d _ _).2 ⟨s, by simp, by simpa using hl, fun x hm => ?_, h5⟩
        obtain ⟨g1, g2, g3⟩ := hx x (List.mem_cons_of_mem _ hm)
        refine ⟨g1, g2, fun h => ?_⟩
        rcases List.mem_append.1 h with h | h
        · exact g3 h
        · rw [List.mem_singleton.1 h] at hm; exact h4 hm
theorem rd_get (p : List Int) (i : Nat) (h : i < p.length) : rd p i = p[i] := by
  rw [rd_nn, List.getD_eq_getElem?_getD, List.getElem?_eq_getElem h]; rfl
theorem pl_iff {cs : Int} {n : Nat} {p : List Int} : Pl cs n p ↔ p.length = n ∧ (∀ x ∈ p, 0 ≤ x ∧ x ≤ cs - 1) ∧ p.Nodup := by
  constructor
  · intro P
    refine ⟨P.len, fun x hx => ?_, ?_⟩
    · obtain ⟨i, hi, rfl⟩ := List.getElem_of_mem hx
      rw [← rd_get p i hi]
      exact P.inside i hi
    · refine List.pairwise_iff_getElem.2 fun i j hi hj hij => ?_
      rw [← rd_get p i hi, ← rd_get p j hj]
      exact P.apart i j hi hj (by omega)
  · rintro ⟨h1, h2, h3⟩
    have h4 := List.pairwise_iff_getElem.1 h3
    refine ⟨h1, fun i hi => ?_, fun i j hi hj hne => ?_⟩
    · rw [rd_get p i hi]; exact h2 _ (List.getElem_mem hi)
    · rw [rd_get p i hi, rd_get p j hj]
      rcases Nat.lt_or_ge i j with h | h
      · exact h4 i j hi hj h
      · exact fun e => h4 j i hj hi (by omega) e.symm
theorem lvs_pl (cs : Int) (n : Nat) (q : List Int) : q ∈ lvs cs n [] ↔ Pl cs n q := by
  rw [mem_lvs, pl_iff]
  constructor
  · rintro ⟨s, rfl, h1, h2, h3⟩
    exact ⟨h1, fun x hx => ⟨(h2 x hx).1, (h2 x hx).2.1⟩, h3⟩
  · rintro ⟨h1, h2, h3⟩
    exact ⟨q, rfl, h1, fun x hx => ⟨(h2 x hx).1, (h2 x hx).2, by simp⟩, h3⟩
/-- One list is before another one, at some place. -/
def lexlt (a b : List Int) : Prop := ∃ k : Nat, k < a.length ∧ k < b.length ∧ (∀ j : Nat, j < k → rd a j = rd b j) ∧ rd a k < rd b k
theorem rd_app1 (p s : List Int) (j : Nat) (h : j < p.length) : rd (p ++ s) j = rd p j := by
  rw [rd_nn, rd_nn, List.getD_eq_getElem?_getD, List.getD_eq_getElem?_getD, List.getElem?_append_left h]
theorem rd_app2 (p s : List Int) (x : Int) : rd (p ++ x :: s) p.length = x := by
  rw [rd_nn, List.getD_eq_getElem?_getD, List.getElem?_append_right (Nat.le_refl _)]; simp
theorem lvs_sorted (cs : Int) : ∀ (d : Nat) (p : List Int), (lvs cs d p).Pairwise lexlt
  | 0, p => List.pairwise_singleton _ _
  | d + 1, p => by
    simp only [lvs]
    refine List.pairwise_flatMap.2 ⟨fun i _ => ?_, ?_⟩
    · split
      · exact List.Pairwise.nil
      · exact lvs_sorted cs d _
    · refine List.Pairwise.imp ?_ List.pairwise_lt_range
      intro i j hij x hx y hy
      split at hx
      · cases hx
      split at hy
      · cases hy
      obtain ⟨s, rfl, _⟩ := (mem_lvs cs d _ _).1 hx
      obtain ⟨t, rfl, _⟩ := (mem_lvs cs d _ _).1 hy
      rw [List.append_assoc, List.append_assoc, List.singleton_append, List.singleton_append]
      refine ⟨p.length, by simp, by simp, fun m hm => ?_, ?_⟩
      · rw [rd_app1 _ _ _ hm, rd_app1 _ _ _ hm]
      · rw [rd_app2, rd_app2]; omega
section
variable (cl : Int) (hs : List S139) (ts : List (Nat → Int))
def okP (p : List Int) : Prop := (doneR cl hs p ts).2 = hs.length
def vP (p : List Int) : Int := (doneR cl hs p ts).1
/-- What is found among some placements. -/
def Found (pre : List (List Int)) (st : Option (List Int × Int)) : Prop :=
  (st = none → ∀ q ∈ pre, ¬ okP cl hs ts q) ∧ ∀ x, st = some x → x.1 ∈ pre ∧ okP cl hs ts x.1 ∧ x.2 = vP cl hs ts x.1 ∧ ∀ q ∈ pre, okP cl hs ts q → x.2 < vP cl hs ts q ∨ (x.2 = vP cl hs ts q ∧ (q = x.1 ∨ lexlt x.1 q))
theorem found_all : ∀ (l pre : List (List Int)) (st : Option (List Int × Int)), (pre ++ l).Pairwise lexlt → Found cl hs ts pre st → Found cl hs ts (pre ++ l) (l.foldl (fun s q => better cl hs ts q s) st)
  | [], pre, st, _, h => by rw [List.append_nil]; exact h
  | q :: l, pre, st, hs', h => by
    have e : pre ++ q :: l = (pre ++ [q]) ++ l := by simp
    rw [List.foldl_cons, e]
    refine found_all l (pre ++ [q]) _ (by rw [← e]; exact hs') ?_
    have hlt : ∀ x ∈ pre, lexlt x q := fun x hx => (List.pairwise_append.1 hs').2.2 x hx q (List.mem_cons_self ..)
    unfold better
    split
    · rename_i hc
      refine And.intro (fun h => by cases h) (fun x hx => ?_)
      obtain rfl := Option.some.inj hx
      refine ⟨List.mem_append_right _ (List.mem_singleton.2 rfl), hc.1, rfl, fun q' hq' hok => ?_⟩
      rcases List.mem_append.1 hq' with hm | hm
      · cases st with
        | none => exact absurd hok (h.1 rfl q' hm)
        | some y =>
          have h1 := (h.2 y rfl).2.2.2 q' hm hok
          have h2 : vP cl hs ts q < y.2 := by
            rcases hc.2 with h2 | h2
            · cases h2
            · exact h2
          left
          show vP cl hs ts q < vP cl hs ts q'
          rcases h1 with h1 | h1 <;> omega
      · rw [List.mem_singleton.1 hm]; exact .inr ⟨rfl, .inl rfl⟩
    · rename_i hc
      cases st with
      | none =>
        refine ⟨fun _ q' hq' => ?_, fun x hx => by cases hx⟩
        rcases List.mem_append.1 hq' with hm | hm
        · exact h.1 rfl q' hm
        · rw [List.mem_singleton.1 hm]; exact fun hok => hc ⟨hok, .inl rfl⟩
      | some y =>
        refine ⟨(fun h => nomatch h), fun x hx => ?_⟩
        obtain rfl := Option.some.inj hx
        obtain ⟨g1, g2, g3, g4⟩ := h.2 y rfl
        refine ⟨List.mem_append_left _ g1, g2, g3, fun q' hq' hok => ?_⟩
        rcases List.mem_append.1 hq' with hm | hm
        · exact g4 q' hm hok
        · rw [List.mem_singleton.1 hm] at hok ⊢
          have h2 : ¬ vP cl hs ts q < y.2 := fun h => hc ⟨hok, .inr h⟩
          rcases Int.lt_or_eq_of_le (Int.not_lt.1 h2) with h3 | h3
          · exact .inl h3
          · exact .inr ⟨h3, .inr (hlt _ g1)⟩
/-- The best placement: none, or the first of those that are done in the least minute. -/
theorem best_tells (cs : Int) (n : Nat) : Found cl hs ts (lvs cs n []) (tryN cs cl hs ts n [] none) := by
  rw [tryN_lvs]
  have := found_all cl hs ts (lvs cs n []) [] none (by rw [List.nil_append]; exact lvs_sorted cs n []) (And.intro (fun _ q hq => by cases hq) (fun x hx => by cases hx))
  rwa [List.nil_append] at this
theorem stF_neg (p : List Int) : ∀ (d i : Nat), stF cl hs p ts d i < 0 ↔ ∀ j : Nat, i ≤ j → j < i + d → goodLo hs p ts j ≤ goodHi cl hs p ts j
  | 0, i => by
    simp only [stF]
    exact ⟨fun _ j h1 h2 => by omega, fun _ => by decide⟩
  | d + 1, i => by
    simp only [stF]
    split
    · rename_i h
      constructor
      · intro h2; omega
      · intro h2; have := h2 i (Nat.le_refl _) (by omega); omega
    · rename_i h
      rw [stF_neg p d (i + 1)]
      constructor
      · intro h2 j h3 h4
        by_cases e : j = i
        · subst e; omega
        · exact h2 j (by omega) (by omega)
      · exact fun h2 j h3 h4 => h2 j (by omega) (by omega)
theorem stF_first (p : List Int) : ∀ (d i : Nat), ¬ stF cl hs p ts d i < 0 → ∃ m : Nat, m < i + d ∧ stF cl hs p ts d i = m ∧ (∀ j : Nat, i ≤ j → j < m → goodLo hs p ts j ≤ goodHi cl hs p ts j) ∧ ¬ goodLo hs p ts m ≤ goodHi cl hs p ts m
  | 0, i, h => by simp only [stF] at h; exact absurd (by decide) h
  | d + 1, i, h => by
    simp only [stF] at h ⊢
    by_cases hg : goodLo hs p ts i > goodHi cl hs p ts i
    · rw [if_pos hg]
      exact ⟨i, by omega, rfl, fun j h1 h2 => by omega, by omega⟩
    · rw [if_neg hg] at h ⊢
      obtain ⟨m, h1, h2, h3, h4⟩ := stF_first p d (i + 1) h
      refine ⟨m, by omega, h2, fun j h5 h6 => ?_, h4⟩
      by_cases e : j = i
      · subst e; omega
      · exact h3 j (by omega) h6
theorem okP_iff (p : List Int) : okP cl hs ts p ↔ ∀ j : Nat, j < hs.length → goodLo hs p ts j ≤ goodHi cl hs p ts j := by
  unfold okP
  rw [(done_st cl hs p ts).1, stF_neg]
  exact ⟨fun h j hj => h j (Nat.zero_le _) (by omega), fun h j _ hj => h j (by omega)⟩
theorem dn_le (p : List Int) (t : Int) : ∀ (d i : Nat) (n : Int), (∀ j : Nat, i ≤ j → j < i + d → goodLo hs p ts j ≤ goodHi cl hs p ts j) → ((dn cl hs p ts d i n).1 ≤ t ↔ n ≤ t ∧ ∀ j : Nat, i ≤ j → j < i + d → goodLo hs p ts j ≤ t)
  | 0, i, n, h => by
    simp only [dn]
    exact ⟨fun h => ⟨h, fun j h1 h2 => by omega⟩, fun h => h.1⟩
  | d + 1, i, n, h => by
    have h0 := h i (Nat.le_refl _) (by omega)
    simp only [dn]
    rw [if_neg (by omega), dn_le p t d (i + 1) _ (fun j h1 h2 => h j (by omega) (by omega))]
    have hm : mx n (goodLo hs p ts i) ≤ t ↔ n ≤ t ∧ goodLo hs p ts i ≤ t := by unfold mx; split <;> omega
    rw [hm]
    constructor
    · rintro ⟨⟨h1, h2⟩, h3⟩
      refine ⟨h1, fun j h4 h5 => ?_⟩
      by_cases e : j = i
      · subst e; exact h2
      · exact h3 j (by omega) (by omega)
    · rintro ⟨h1, h2⟩
      exact ⟨⟨h1, h2 i (Nat.le_refl _) (by omega)⟩, fun j h3 h4 => h2 j (by omega) (by omega)⟩
theorem vP_le (p : List Int) (t : Int) (h : okP cl hs ts p) : vP cl hs ts p ≤ t ↔ 0 ≤ t ∧ ∀ j : Nat, j < hs.length → goodLo hs p ts j ≤ t := by
  have h1 := (okP_iff cl hs ts p).1 h
  unfold vP doneR
  rw [dn_le cl hs ts p t hs.length 0 0 (fun j _ h2 => h1 j (by omega))]
  exact ⟨fun h => ⟨h.1, fun j h2 => h.2 j (Nat.zero_le _) (by omega)⟩, fun h => ⟨h.1, fun j _ h2 => h.2 j (by omega)⟩⟩
end
theorem ask_zero {cs cl : Int} {hs : List S139} {hung : List Int} {looks : List S140} {b : Bool} : askCode cs cl hs hung looks b = 0 ↔ checkB cs cl hs hung looks = 0 ∧ b = true ∧ truthsT hs hung looks ≠ [] := by
  unfold askCode
  constructor
  · intro h
    split at h
    · rename_i h1; exact absurd h h1
    rename_i h1
    split at h
    · omega
    rename_i h2
    split at h
    · omega
    rename_i h3
    exact ⟨Decidable.not_not.1 h1, by simpa using h2, h3⟩
  · rintro ⟨h1, h2, h3⟩
    rw [if_neg (by simp [h1]), if_neg (by simp [h2]), if_neg h3]
/-- Best of one and of another: the second is done no later. -/
theorem best_code {cs cl : Int} {hs : List S139} {hung : List Int} {looks : List S140} (h : checkB cs cl hs hung looks = 0) (hT : truthsT hs hung looks ≠ []) :
    ((bestR cs cl hs hung looks).2.2 = 10 ∧ (bestR cs cl hs hung looks).2.1 = 0 ∧ (bestR cs cl hs hung looks).1 = [] ∧ ∀ q, Pl cs hs.length q → ¬ okP cl hs (truthsT hs hung looks) q) ∨
    ((bestR cs cl hs hung looks).2.2 = 0 ∧ Pl cs hs.length (bestR cs cl hs hung looks).1 ∧ okP cl hs (truthsT hs hung looks) (bestR cs cl hs hung looks).1 ∧ (bestR cs cl hs hung looks).2.1 = vP cl hs (truthsT hs hung looks) (bestR cs cl hs hung looks).1 ∧
      ∀ q, Pl cs hs.length q → okP cl hs (truthsT hs hung looks) q → (bestR cs cl hs hung looks).2.1 < vP cl hs (truthsT hs hung looks) q ∨ ((bestR cs cl hs hung looks).2.1 = vP cl hs (truthsT hs hung looks) q ∧ (q = (bestR cs cl hs hung looks).1 ∨ lexlt (bestR cs cl hs hung looks).1 q))) := by
  have hF := best_tells cl hs (truthsT hs hung looks) cs hs.length
  have hz : askCode cs cl hs hung looks true = 0 := ask_zero.2 ⟨h, rfl, hT⟩
  unfold bestR
  rw [if_neg (by simp [hz])]
  cases e : tryN cs cl hs (truthsT hs hung looks) hs.length [] none with
  | none => exact .inl ⟨rfl, rfl, rfl, fun q hq => hF.1 e q ((lvs_pl cs hs.length q).2 hq)⟩
  | some x =>
    obtain ⟨h1, h2, h3, h4⟩ := hF.2 x e
    exact .inr ⟨rfl, (lvs_pl _ _ _).1 h1, h2, h3, fun q hq hok => h4 q ((lvs_pl _ _ _).2 hq) hok⟩
theorem lo_le {hs : List S139} {p : List Int} {T : List (Nat → Int)} (hT : T ≠ []) (i : Nat) (t : Int) : goodLo hs p T i ≤ t ↔ ∀ d ∈ T, mins hs p d i ≤ t := by
  obtain ⟨h1, _, d, hd, h3⟩ := bnd_tells (qv false hs p i) T hT
  unfold goodLo
  constructor
  · intro h e he; exact Int.le_trans (h1 e he).2 h
  · intro h; rw [← h3]; exact h d hd
theorem le_hi {cl : Int} {hs : List S139} {p : List Int} {T : List (Nat → Int)} (hT : T ≠ []) (i : Nat) (t : Int) : t ≤ goodHi cl hs p T i ↔ t ≤ cl ∧ ∀ d ∈ T, t ≤ mins hs p d i + (rd_T139 hs i).f2 := by
  obtain ⟨h1, ⟨d, hd, h3⟩, _⟩ := bnd_tells (qv true hs p i) T hT
  have hm : t ≤ goodHi cl hs p T i ↔ t ≤ cl ∧ t ≤ (bnd (qv true hs p i) T).1 := by unfold goodHi mn; split <;> omega
  rw [hm]
  constructor
  · rintro ⟨h, h2⟩; exact ⟨h, fun e he => Int.le_trans h2 (h1 e he).1⟩
  · rintro ⟨h, h2⟩; refine ⟨h, ?_⟩; rw [← h3]; exact h2 d hd
theorem lo_at {hs : List S139} {p : List Int} {T : List (Nat → Int)} (hT : T ≠ []) (i : Nat) : ∃ d ∈ T, mins hs p d i = goodLo hs p T i := by
  obtain ⟨_, _, d, hd, h3⟩ := bnd_tells (qv false hs p i) T hT
  exact ⟨d, hd, h3⟩
/-- What the law's 'good' says. -/
def goodL (cs cl : Int) (hs : List S139) (hung : List Int) (looks : List S140) (p : List Int) (h : Int) : Int × Int × Bool :=
  if (goodR cs cl hs hung looks p h).2.2 = 10 then (1, 0, true)
  else ((goodR cs cl hs hung looks p h).1, (goodR cs cl hs hung looks p h).2.1, decide ((goodR cs cl hs hung looks p h).2.2 = 0 ∧ (goodR cs cl hs hung looks p h).1 ≤ (goodR cs cl hs hung looks p h).2.1 ∧ 0 ≤ (goodR cs cl hs hung looks p h).1 ∧ (goodR cs cl hs hung looks p h).2.1 ≤ cl))
theorem fine_pl {cs cl : Int} {hs : List S139} {hung : List Int} {looks : List S140} {p : List Int} (V : Valid cs cl hs hung looks) : fineB cs hs p = true ↔ Pl cs hs.length p := by
  have h1 := V.c1
  have h4 := V.c4
  unfold fineB
  rw [show wrap64 (cs - 1) = cs - 1 from by unfold wrap64; omega]
  constructor
  · exact Pl.of
  · intro P
    refine decide_eq_true ⟨P.len, fun i hi => ⟨(P.inside i hi).1, (P.inside i hi).2, ?_⟩⟩
    exact (contains_take p i (rd p i) (by omega)).2 fun j hj => P.apart j i (by omega) hi (by omega)
theorem horse_ok {n h : Nat} (hh : h < n) (hn : n ≤ 1000) : horseB n (h : Int) = true := decide_eq_true ⟨by omega, by unfold wrap64; omega⟩
theorem lo_pos2 {cs cl : Int} {hs : List S139} {hung : List Int} {looks : List S140} {p : List Int} (V : Valid cs cl hs hung looks) (P : Pl cs hs.length p) (hT : truthsT hs hung looks ≠ []) (i : Nat) : 0 ≤ goodLo hs p (truthsT hs hung looks) i := by
  obtain ⟨t, ht, e⟩ := lo_at (p := p) hT i
  rw [← e]
  exact (mins_bd V.wet p t P.len V.n4 (fun i => dries_bd V (truths_mem ht).1 i) i).1
theorem goodR_ok {cs cl : Int} {hs : List S139} {hung : List Int} {looks : List S140} {p : List Int} (hc : checkB cs cl hs hung looks = 0) (P : Pl cs hs.length p) (hT : truthsT hs hung looks ≠ []) (i : Nat) (hi : i < hs.length) :
    goodR cs cl hs hung looks p i = if goodLo hs p (truthsT hs hung looks) i > goodHi cl hs p (truthsT hs hung looks) i then (0, 0, 10) else (goodLo hs p (truthsT hs hung looks) i, goodHi cl hs p (truthsT hs hung looks) i, 0) := by
  have V := valid_of hc
  have h4 := V.n4
  have hz : askCode cs cl hs hung looks (fineB cs hs p && horseB hs.length (i : Int)) = 0 := ask_zero.2 ⟨hc, by rw [(fine_pl V).2 P, horse_ok hi (by omega)]; rfl, hT⟩
  unfold goodR
  rw [if_neg (by simp [hz]), Int.toNat_natCast]
theorem goodL_ok {cs cl : Int} {hs : List S139} {hung : List Int} {looks : List S140} {p : List Int} (hc : checkB cs cl hs hung looks = 0) (P : Pl cs hs.length p) (hT : truthsT hs hung looks ≠ []) (i : Nat) (hi : i < hs.length) :
    goodL cs cl hs hung looks p i = if goodLo hs p (truthsT hs hung looks) i ≤ goodHi cl hs p (truthsT hs hung looks) i then (goodLo hs p (truthsT hs hung looks) i, goodHi cl hs p (truthsT hs hung looks) i, true) else (1, 0, true) := by
  have V := valid_of hc
  have hlo := lo_pos2 V P hT i
  have hhi := ((le_hi (cl := cl) (hs := hs) (p := p) hT i _).1 (Int.le_refl _)).1
  have e := goodR_ok hc P hT i hi
  by_cases h : goodLo hs p (truthsT hs hung looks) i ≤ goodHi cl hs p (truthsT hs hung looks) i
  · rw [if_neg (Int.not_lt.2 h)] at e
    unfold goodL
    rw [e, if_pos h]
    show (if (0 : Int) = 10 then _ else _) = _
    rw [if_neg (by decide), decide_eq_true ⟨rfl, h, hlo, hhi⟩]
  · rw [if_pos (Int.not_le.1 h)] at e
    unfold goodL
    rw [e, if_neg h]
    rfl
/-- Are all good minutes of all horses kept? -/
def keptB (cs cl : Int) (hs : List S139) (hung : List Int) (looks : List S140) (cs' cl' : Int) (hs' : List S139) (hung' : List Int) (looks' : List S140) (p : List Int) (i : Nat) : Bool :=
  (goodL cs cl hs hung looks p i).2.2 && (goodL cs' cl' hs' hung' looks' p i).2.2 &&
    !(decide ((goodL cs cl hs hung looks p i).1 ≤ (goodL cs cl hs hung looks p i).2.1) && (decide ((goodL cs' cl' hs' hung' looks' p i).1 > (goodL cs cl hs hung looks p i).1) || decide ((goodL cs' cl' hs' hung' looks' p i).2.1 < (goodL cs cl hs hung looks p i).2.1)))
theorem kept_ok {cs cl cs' cl' : Int} {hs hs' : List S139} {hung hung' : List Int} {looks looks' : List S140} {p : List Int} (hc : checkB cs cl hs hung looks = 0) (P : Pl cs hs.length p) (hT : truthsT hs hung looks ≠ [])
    (hc' : checkB cs' cl' hs' hung' looks' = 0) (P' : Pl cs' hs'.length p) (hT' : truthsT hs' hung' looks' ≠ []) (i : Nat) (hi : i < hs.length) (hi' : i < hs'.length)
    (h1 : goodLo hs p (truthsT hs hung looks) i ≤ goodHi cl hs p (truthsT hs hung looks) i → goodLo hs' p (truthsT hs' hung' looks') i ≤ goodLo hs p (truthsT hs hung looks) i ∧ goodHi cl hs p (truthsT hs hung looks) i ≤ goodHi cl' hs' p (truthsT hs' hung' looks') i) :
    keptB cs cl hs hung looks cs' cl' hs' hung' looks' p i = true := by
  unfold keptB
  rw [goodL_ok hc P hT i hi, goodL_ok hc' P' hT' i hi']
  by_cases h : goodLo hs p (truthsT hs hung looks) i ≤ goodHi cl hs p (truthsT hs hung looks) i
  · obtain ⟨h2, h3⟩ := h1 h
    rw [if_pos h, if_pos (by omega)]
    simp [h]
    omega
  · rw [if_neg h]
    split <;> simp
/-- Is the second best placement done no later than the first? -/
def soonB (a b : List Int × Int × Int) : Bool := if a.2.2 = 0 then decide (b.2.2 = 0 ∧ b.2.1 ≤ a.2.1) else decide (a.2.2 = 10 ∧ (b.2.2 = 0 ∨ b.2.2 = a.2.2))
theorem soon_ok {cs cl cs' cl' : Int} {hs hs' : List S139} {hung hung' : List Int} {looks looks' : List S140} (hc : checkB cs cl hs hung looks = 0) (hT : truthsT hs hung looks ≠ [])
    (hc' : checkB cs' cl' hs' hung' looks' = 0) (hT' : truthsT hs' hung' looks' ≠ [])
    (h : ∀ q, Pl cs hs.length q → okP cl hs (truthsT hs hung looks) q → ∃ q', Pl cs' hs'.length q' ∧ okP cl' hs' (truthsT hs' hung' looks') q' ∧ vP cl' hs' (truthsT hs' hung' looks') q' ≤ vP cl hs (truthsT hs hung looks) q) :
    soonB (bestR cs cl hs hung looks) (bestR cs' cl' hs' hung' looks') = true := by
  unfold soonB
  rcases best_code hc hT with ⟨h1, h2, h3, h4⟩ | ⟨h1, h2, h3, h4, h5⟩
  · rw [if_neg (by omega)]
    rcases best_code hc' hT' with ⟨g1, g2, g3, g4⟩ | ⟨g1, g2, g3, g4, g5⟩
    · exact decide_eq_true ⟨h1, .inr (by omega)⟩
    · exact decide_eq_true ⟨h1, .inl g1⟩
  · rw [if_pos h1]
    obtain ⟨q', a1, a2, a3⟩ := h _ h2 h3
    rcases best_code hc' hT' with ⟨g1, g2, g3, g4⟩ | ⟨g1, g2, g3, g4, g5⟩
    · exact absurd a2 (g4 q' a1)
    · refine decide_eq_true ⟨g1, ?_⟩
      rcases g5 q' a1 a2 with h6 | ⟨h6, _⟩ <;> omega
end Go.Proofs.Ytokhmghgghjmhaa.Q
namespace Go.Proofs.Ytokhmghgghjmhaa.Q
open Go.RowKit Go.Proofs.YtokhmghgghjmhaaW.PrintWords Go.Proofs.YtokhmghgghjmhaaW.PrintLast Go.Proofs.YtokhmghgghjmhaaW.PrintMore
set_option linter.unusedVariables false
/-- Words, as1 they lie in memory: each from 0 to 65535. -/
def Words (l : List Int) : Prop := ∀ i : Nat, 0 ≤ rd l i ∧ rd l i ≤ 65535
def wordF (l : List Int) (n : Nat) : Int := if l.length = 0 then 0 else rd l (n % l.length : Nat)
theorem word_f {l : List Int} (W : Words l) (n : Nat) : posserlaw04_word.f l n = some (wordF l n) ∧ 0 ≤ wordF l n ∧ wordF l n ≤ 65535 := by
  unfold posserlaw04_word.f wordF
  by_cases h : l.length = 0
  · rw [if_pos (by omega), if_pos h]; exact ⟨rfl, by omega, by omega⟩
  · have hm : Int.tmod (n : Int) (l.length : Int) = ((n % l.length : Nat) : Int) := by rw [Int.tmod_eq_emod_of_nonneg (by omega)]; omega
    have hlt := Nat.mod_lt n (show 0 < l.length by omega)
    have hw := W (n % l.length)
    rw [if_neg (by omega), if_neg h, hm, if_pos (by omega), if_pos (by omega), show wrap64 (rd l ((n % l.length : Nat) : Int)) = rd l ((n % l.length : Nat) : Int) from by unfold wrap64; omega]
    exact ⟨rfl, hw⟩
theorem used_l0 (l : List Int) (x : Int) (hl : l.length ≤ 1000) : ∀ (d i k : Nat), i + d = l.length → d < k → posserlaw04_used.l0 k l x i = some ((l.drop i).contains x)
  | 0, i, k, h, hk => by
    obtain ⟨k, rfl⟩ : ∃ m, k = m + 1 := ⟨k - 1, by omega⟩
    simp only [posserlaw04_used.l0]
    rw [if_neg (by omega), List.drop_of_length_le (by omega)]
    rfl
  | d + 1, i, k, h, hk => by
    obtain ⟨k, rfl⟩ : ∃ m, k = m + 1 := ⟨k - 1, by omega⟩
    have ih := used_l0 l x hl d (i + 1) k (by omega) (by omega)
    simp only [posserlaw04_used.l0]
    rw [if_pos (by omega), if_pos (by omega), List.drop_eq_getElem_cons (show i < l.length by omega), ← rd_get l i (by omega), List.contains_cons]
    by_cases e : rd l (i : Int) = x
    · rw [if_pos e, e, beq_self_eq_true]; rfl
    · rw [if_neg e, show wrap64 ((i : Int) + 1) = ((i + 1 : Nat) : Int) from by unfold wrap64; omega, ih, beq_eq_false_iff_ne.2 (fun h => e h.symm), Bool.false_or]
theorem used_f (l : List Int) (x : Int) (hl : l.length ≤ 1000) (k : Nat) (hk : 1000 < k) : posserlaw04_used.f k l x = some (l.contains x) := by
  have := used_l0 l x hl l.length 0 k (by omega) (by omega)
  rwa [List.drop_zero] at this
section
variable {cs cl : Int} {hs : List S68} {hung : List Int} {looks : List S84} {words : List Int}
/-- The next numbers are tried till one is free. -/
theorem placed_l1 (hcs : 1 ≤ cs ∧ cs ≤ 4) (out : List Int) (ho : out.length ≤ 1000) (i : Nat) : ∀ (j k : Nat) (x : Int), 0 ≤ x → x < cs → ((x + j) % cs) ∉ out → (∀ m : Nat, m < j → ((x + m) % cs) ∈ out) → 1001 + j < k →
    posserlaw04_Placed.l1 k words out i x cs cl hs hung looks = posserlaw04_Placed.l0 (k - j - 1) words (out ++ [(x + j) % cs]) ((i : Int) + 1) cs cl hs hung looks ∨ ¬ ((i : Int) + 1 = wrap64 ((i : Int) + 1))
  | 0, k, x, h0, h1, hn, _, hk => by
    obtain ⟨k, rfl⟩ : ∃ m, k = m + 1 := ⟨k - 1, by omega⟩
    by_cases hw : (i : Int) + 1 = wrap64 ((i : Int) + 1)
    · left
      have e : (x + ((0 : Nat) : Int)) % cs = x := by rw [Int.emod_eq_of_lt (by omega) (by omega)]; omega
      rw [e] at hn ⊢
      simp only [posserlaw04_Placed.l1]
      rw [used_f out x ho k (by omega)]
      simp only [Option.bind_some]
      rw [if_neg (by rw [List.contains_iff_mem]; exact hn), if_pos (by omega), ← hw]
      rfl
    · exact .inr hw
  | j + 1, k, x, h0, h1, hn, hall, hk => by
    obtain ⟨k, rfl⟩ : ∃ m, k = m + 1 := ⟨k - 1, by omega⟩
    have hx : x ∈ out := by
      have := hall 0 (by omega)
      rwa [show (x + ((0 : Nat) : Int)) % cs = x from by rw [Int.emod_eq_of_lt (by omega) (by omega)]; omega] at this
    have et : Int.tmod (wrap64 (x + 1)) cs = (x + 1) % cs := by
      rw [show wrap64 (x + 1) = x + 1 from by unfold wrap64; omega, Int.tmod_eq_emod_of_nonneg (by omega)]
    have hb := Int.emod_nonneg (x + 1) (show cs ≠ 0 by omega)
    have hc := Int.emod_lt_of_pos (x + 1) (show 0 < cs by omega)
    have hmod : ∀ m : Nat, ((x + 1) % cs + m) % cs = (x + (m + 1 : Nat)) % cs := fun m => by rw [Int.emod_add_emod]; congr 1; omega
    have ih := placed_l1 hcs out ho i j k ((x + 1) % cs) hb hc (by rw [hmod j]; exact hn) (fun m hm => by rw [hmod m]; exact hall (m + 1) (by omega)) (by omega)
    rw [hmod j] at ih
    simp only [posserlaw04_Placed.l1]
    rw [used_f out x ho k (by omega)]
    simp only [Option.bind_some]
    rw [if_pos (List.contains_iff_mem.2 hx), if_neg (by omega), et]
    rcases ih with ih | ih
    · left; rw [ih, show k + 1 - (j + 1) - 1 = k - j - 1 from by omega]
    · exact .inr ih
/-- Some number is free, if fewer are taken than there are. -/
theorem free_one (hcs : 1 ≤ cs ∧ cs ≤ 4) (out : List Int) (hlen : (out.length : Int) < cs) (x : Int) (h0 : 0 ≤ x) (h1 : x < cs) : ∃ j : Nat, j < 4 ∧ ((x + j) % cs) ∉ out ∧ ∀ m : Nat, m < j → ((x + m) % cs) ∈ out := by
  have hex : ∃ j : Nat, j < cs.toNat ∧ ((x + j) % cs) ∉ out := by
    refine Decidable.byContradiction fun hno => ?_
    have hall : ∀ j : Nat, j < cs.toNat → ((x + j) % cs) ∈ out := fun j hj => Decidable.byContradiction fun h => hno ⟨j, hj, h⟩
    have hsub : ∀ y ∈ (List.range cs.toNat).map (fun (n : Nat) => (n : Int)), y ∈ out := by
      intro y hy
      obtain ⟨n, hn, rfl⟩ := List.mem_map.1 hy
      have hn := List.mem_range.1 hn
      by_cases h : x ≤ n
      · have := hall ((n : Int) - x).toNat (by omega)
        rwa [show (x + (((n : Int) - x).toNat : Nat)) % cs = n from by rw [show x + (((n : Int) - x).toNat : Nat) = n by omega, Int.emod_eq_of_lt (by omega) (by omega)]] at this
      · have := hall ((n : Int) - x + cs).toNat (by omega)
        rwa [show (x + (((n : Int) - x + cs).toNat : Nat)) % cs = n from by rw [show x + (((n : Int) - x + cs).toNat : Nat) = n + cs by omega, Int.add_emod_right, Int.emod_eq_of_lt (by omega) (by omega)]] at this
    have hnd : ((List.range cs.toNat).map (fun (n : Nat) => (n : Int))).Nodup := by
      refine List.Pairwise.map _ (fun a b hab => ?_) List.nodup_range
      show (a : Int) ≠ b
      omega
    have := nodup_len _ _ hnd hsub
    rw [List.length_map, List.length_range] at this
    omega
  obtain ⟨n, hn, hfree⟩ := hex
  have : ∀ n : Nat, ((x + n) % cs) ∉ out → ∃ j : Nat, j ≤ n ∧ ((x + j) % cs) ∉ out ∧ ∀ m : Nat, m < j → ((x + m) % cs) ∈ out := by
    intro n
    induction n using Nat.strongRecOn with
    | ind n ih =>
      intro h
      by_cases hm : ∃ m : Nat, m < n ∧ ((x + m) % cs) ∉ out
      · obtain ⟨m, hm1, hm2⟩ := hm
        obtain ⟨j, h1, h2⟩ := ih m hm1 hm2
        exact ⟨j, by omega, h2⟩
      · exact ⟨n, Nat.le_refl _, h, fun m hm1 => Decidable.byContradiction fun h => hm ⟨m, hm1, h⟩⟩
  obtain ⟨j, h1, h2, h3⟩ := this n hfree
  exact ⟨j, by omega, h2, h3⟩
theorem placed_l0 (W : Words words) (hcs : 1 ≤ cs ∧ cs ≤ 4) (hn : (hs.length : Int) ≤ cs) : ∀ (d i k : Nat) (out : List Int), i + d = hs.length → out.length = i → (∀ x ∈ out, 0 ≤ x ∧ x ≤ cs - 1) → out.Nodup → 2000 + 10 * d ≤ k →
    ∃ p, posserlaw04_Placed.l0 k words out i cs cl hs hung looks = some p ∧ Pl cs hs.length p
  | 0, i, k, out, h, hl, hb, hd, hk => by
    obtain ⟨k, rfl⟩ : ∃ m, k = m + 1 := ⟨k - 1, by omega⟩
    refine ⟨out, ?_, pl_iff.2 ⟨by omega, hb, hd⟩⟩
    simp only [posserlaw04_Placed.l0]
    rw [if_neg (by omega)]
  | d + 1, i, k, out, h, hl, hb, hd, hk => by
    obtain ⟨k, rfl⟩ : ∃ m, k = m + 1 := ⟨k - 1, by omega⟩
    obtain ⟨w1, w2, w3⟩ := word_f W i
    have et : Int.tmod (wordF words i) cs = wordF words i % cs := Int.tmod_eq_emod_of_nonneg w2
    have x0 := Int.emod_nonneg (wordF words i) (show cs ≠ 0 by omega)
    have x1 := Int.emod_lt_of_pos (wordF words i) (show 0 < cs by omega)
    obtain ⟨j, j4, jn, jm⟩ := free_one hcs out (by omega) _ x0 x1
    have h1 := placed_l1 (cl := cl) (hs := hs) (hung := hung) (looks := looks) (words := words) hcs out (by omega) i j k _ x0 x1 jn jm (by omega)
    have y0 := Int.emod_nonneg (wordF words i % cs + j) (show cs ≠ 0 by omega)
    have y1 := Int.emod_lt_of_pos (wordF words i % cs + j) (show 0 < cs by omega)
    obtain ⟨p, hp, hP⟩ := placed_l0 W hcs hn d (i + 1) (k - j - 1) (out ++ [(wordF words i % cs + j) % cs]) (by omega) (by simp [hl]) (fun x hx => by
      rcases List.mem_append.1 hx with hx | hx
      · exact hb x hx
      · rw [List.mem_singleton.1 hx]; omega) (List.nodup_append.2 ⟨hd, List.pairwise_singleton _ _, fun a ha b hb' e => by rw [List.mem_singleton.1 hb'] at e; rw [e] at ha; exact jn ha⟩) (by omega)
    refine ⟨p, ?_, hP⟩
    simp only [posserlaw04_Placed.l0]
    rw [if_pos (by omega), w1]
    simp only [Option.bind_some]
    rw [if_neg (by omega), et]
    rcases h1 with h1 | h1
    · rw [h1, show (i : Int) + 1 = ((i + 1 : Nat) : Int) from by omega]; exact hp
    · exact absurd (by unfold wrap64; omega) h1
/-- There are no more horses than closets. -/
theorem horses_le (V : Valid cs cl (hs.map toH) hung (looks.map toL)) : (hs.length : Int) ≤ cs := by
  have P : Pl cs hung.length hung := ⟨rfl, V.inside, fun i j hi hj hne e => by
    rcases Nat.lt_or_ge j i with h | h
    · exact V.apart i j hi h e
    · exact V.apart j i hj (by omega) e.symm⟩
  obtain ⟨h1, h2, h3⟩ := pl_iff.1 P
  have hc := V.c1
  have hp := V.place
  rw [List.length_map] at hp
  have := nodup_len hung ((List.range cs.toNat).map (fun (n : Nat) => (n : Int))) h3 (fun x hx => List.mem_map.2 ⟨x.toNat, List.mem_range.2 (by have := h2 x hx; omega), by have := h2 x hx; omega⟩)
  rw [List.length_map, List.length_range] at this
  omega
/-- A placement by words is one. -/
theorem placedw_f (W : Words words) (V : Valid cs cl (hs.map toH) hung (looks.map toL)) (k : Nat) (hk : 3000 ≤ k) : ∃ p, posserlaw04_Placed.f k cs cl hs hung looks words = some p ∧ Pl cs hs.length p := by
  have h4 := V.n4
  rw [List.length_map] at h4
  unfold posserlaw04_Placed.f
  exact placed_l0 W ⟨V.c1, V.c4⟩ (horses_le V) hs.length 0 k [] (by omega) rfl (fun x hx => by cases hx) List.nodup_nil (by omega)
/-- Are closets ready for a statement? -/
theorem ready_f : posserlaw04_ready.f cs cl hs hung looks = some (decide ((hs.length ≤ 30 ∧ hung.length ≤ 30 ∧ looks.length ≤ 30) ∧ checkB cs cl (hs.map toH) hung (looks.map toL) = 0)) := by
  unfold posserlaw04_ready.f
  rw [thin_f]
  simp only [Option.bind_some]
  by_cases ht : hs.length ≤ 30 ∧ hung.length ≤ 30 ∧ looks.length ≤ 30
  · rw [if_pos (decide_eq_true ht)]
    unfold posserlaw04_fault.f posserref04_Fault.f
    simp only [Option.bind_some, faultB]
    congr 1
    by_cases hc : checkB cs cl (hs.map toH) hung (looks.map toL) = 0
    · rw [decide_eq_true ⟨ht, hc⟩]; exact beq_iff_eq.2 hc
    · rw [decide_eq_false (fun h => hc h.2)]; exact beq_eq_false_iff_ne.2 hc
  · rw [decide_eq_false ht, decide_eq_false (fun h => ht h.1)]; rfl
end
end Go.Proofs.Ytokhmghgghjmhaa.Q
namespace Go.Proofs.Ytokhmghgghjmhaa.Q
open Go.RowKit Go.Proofs.YtokhmghgghjmhaaW.PrintWords Go.Proofs.YtokhmghgghjmhaaW.PrintLast Go.Proofs.YtokhmghgghjmhaaW.PrintMore
set_option linter.unusedVariables false
/-- The reference's closets, as1 they lie in memory. -/
structure Ref (w : World) (A2 A3 A4 : Option Addr) (c2 c3 c4 : Nat) (hs : List S68) (hung : List Int) (looks : List S84) : Prop where
  h2 : Kd.C k68 w A2 hs.length hs
  l2 : hs.length ≤ c2
  h3 : Kd.C (Kd.int .i64) w A3 hung.length hung
  l3 : hung.length ≤ c3
  h4 : Kd.C k84 w A4 looks.length looks
  l4 : looks.length ≤ c4
theorem Ref.later {w w1 : World} {A2 A3 A4 : Option Addr} {c2 c3 c4 : Nat} {hs : List S68} {hung : List Int} {looks : List S84} (m : Ref w A2 A3 A4 c2 c3 c4 hs hung looks) (hb : Below w.heap.size w w1) : Ref w1 A2 A3 A4 c2 c3 c4 hs hung looks :=
  ⟨Kd.C_below m.h2 hb, m.l2, Kd.C_below m.h3 hb, m.l3, Kd.C_below m.h4 hb, m.l4⟩
/-- The program's closets that are made of them. -/
def Cls (w : World) (A2 A3 A4 : Option Addr) (c2 c3 c4 n2 n3 n4 : Nat) (hs : List S68) (hung : List Int) (looks : List S84) : Prop :=
  n2 = (hs.map toH).length ∧ n3 = hung.length ∧ n4 = (looks.map toL).length ∧ Mem w A2 A3 A4 c2 c3 c4 (hs.map toH) hung (looks.map toL)
theorem Cls.later {w w' : World} {A2 A3 A4 : Option Addr} {c2 c3 c4 n2 n3 n4 : Nat} {hs : List S68} {hung : List Int} {looks : List S84} (h : Cls w A2 A3 A4 c2 c3 c4 n2 n3 n4 hs hung looks) (hb : Below w.heap.size w w') : Cls w' A2 A3 A4 c2 c3 c4 n2 n3 n4 hs hung looks := ⟨h.1, h.2.1, h.2.2.1, h.2.2.2.later hb⟩
section
variable {cs cl : Int} {A2 A3 A4 : Option Addr} {c2 c3 c4 : Nat} {hs : List S68} {hung : List Int} {looks : List S84} {w : World}
theorem refcl_q (M : Ref w A2 A3 A4 c2 c3 c4 hs hung looks) (h1 : hs.length ≤ 1000) (h2 : hung.length ≤ 1000) (h3 : looks.length ≤ 1000) :
    Calls Try.prog 26 #[.agg #[.int .i64 cs, .int .i64 cl, .slice A2 hs.length c2, .slice A3 hung.length c3, .slice A4 looks.length c4]] w
      fun e w' => ∃ A2 A3 A4 c2 c3 c4 n2 n3 n4, e = .returned (.agg #[.int .i64 cs, .int .i64 cl, .slice A2 n2 c2, .slice A3 n3 c3, .slice A4 n4 c4]) ∧ Cls w' A2 A3 A4 c2 c3 c4 n2 n3 n4 hs hung looks ∧ Below w.heap.size w w' := by
  refine (posserlaw04_Closet.calls 3000 cs cl A2 c2 hs A3 c3 hung A4 c4 looks _ _ _ _ _ w M.h2 M.l2 M.h3 M.l3 M.h4 M.l4 (closet_f h1 h2 h3 3000 (Nat.le_refl _))).mono ?_
  rintro e w' ⟨v2, v3, v4, rfl, r2, r3, r4, hb⟩
  obtain ⟨B2, d2, rfl⟩ := Kd.R_slice r2
  obtain ⟨B3, d3, rfl⟩ := Kd.R_slice r3
  obtain ⟨B4, d4, rfl⟩ := Kd.R_slice r4
  have e2 := Kd.R_reads' r2
  have e3 := Kd.R_reads' r3
  have e4 := Kd.R_reads' r4
  exact ⟨B2, B3, B4, d2, d3, d4, _, _, _, rfl, ⟨rfl, rfl, rfl, e2.2.2, e3.2.2, e4.2.2, e2.2.1, e3.2.1, e4.2.1⟩, hb⟩
theorem list_q {A : Option Addr} {c : Nat} {l : List Int} (hC : Kd.C (Kd.int .i64) w A l.length l) (hl : l.length ≤ c) (h : l.length ≤ 1000) :
    Calls Try.prog 27 #[.slice A l.length c] w fun e w' => ∃ B d, e = .returned (.slice B l.length d) ∧ (Kd.C (Kd.int .i64) w' B l.length l ∧ l.length ≤ d) ∧ Below w.heap.size w w' := by
  refine (posserlaw04_list.calls A c l l w hC hl (list_f l h)).mono ?_
  rintro e w' ⟨v, rfl, hR, hb⟩
  obtain ⟨B, d, rfl, h1, h2⟩ := R_C hR
  exact ⟨B, d, rfl, ⟨h1, h2⟩, hb⟩
end
end Go.Proofs.Ytokhmghgghjmhaa.Q
namespace Go.Proofs.Ytokhmghgghjmhaa.Q
open Go.RowKit Go.Proofs.YtokhmghgghjmhaaW.PrintWords Go.Proofs.YtokhmghgghjmhaaW.PrintLast Go.Proofs.YtokhmghgghjmhaaW.PrintMore
set_option linter.unusedVariables false
section
variable {cs cl : Int} {A2 A3 A4 A A' : Option Addr} {c2 c3 c4 c c' n2 n3 n4 : Nat} {hs : List S68} {hung : List Int} {looks : List S84} {p d : List Int} {w : World}
theorem play_q {s : List Int × Int} (C : Cls w A2 A3 A4 c2 c3 c4 n2 n3 n4 hs hung looks) (hC : Kd.C (Kd.int .i64) w A p.length p ∧ p.length ≤ c) (hD : Kd.C (Kd.int .i64) w A' d.length d ∧ d.length ≤ c') (hs' : playR cs cl (hs.map toH) hung (looks.map toL) p d = s) :
    Calls Try.prog 48 #[.agg #[.int .i64 cs, .int .i64 cl, .slice A2 n2 c2, .slice A3 n3 c3, .slice A4 n4 c4], .slice A p.length c, .slice A' d.length c'] w
      fun e w' => ∃ B b, e = .returned (.tuple #[.slice B s.1.length b, .int .i64 s.2]) ∧ (Kd.C (Kd.int .i64) w' B s.1.length s.1 ∧ s.1.length ≤ b) ∧ Below w.heap.size w w' := by
  obtain ⟨rfl, rfl, rfl, M⟩ := C
  refine (playX_calls cs cl M hC.1 hC.2 hD.1 hD.2).mono ?_
  rw [hs']
  rintro e w' ⟨v, rfl, hR, hb⟩
  obtain ⟨B, b, rfl, h1, h2⟩ := R_C hR
  exact ⟨B, b, rfl, ⟨h1, h2⟩, hb⟩
theorem truth_q {s : Bool} (C : Cls w A2 A3 A4 c2 c3 c4 n2 n3 n4 hs hung looks) (hD : Kd.C (Kd.int .i64) w A' d.length d ∧ d.length ≤ c') (hs' : proveTR cs cl (hs.map toH) hung (looks.map toL) d = s) :
    Calls Try.prog 62 #[.agg #[.int .i64 cs, .int .i64 cl, .slice A2 n2 c2, .slice A3 n3 c3, .slice A4 n4 c4], .slice A' d.length c'] w fun e w' => e = .returned (.bool s) ∧ Below w.heap.size w w' := by
  obtain ⟨rfl, rfl, rfl, M⟩ := C
  have := proveTruth_calls cs cl M hD.1 hD.2
  rw [hs'] at this
  exact this
theorem check_q {s : Int} (C : Cls w A2 A3 A4 c2 c3 c4 n2 n3 n4 hs hung looks) (hs' : checkB cs cl (hs.map toH) hung (looks.map toL) = s) :
    Calls Try.prog 63 #[.agg #[.int .i64 cs, .int .i64 cl, .slice A2 n2 c2, .slice A3 n3 c3, .slice A4 n4 c4]] w fun e w' => e = .returned (.int .i64 s) ∧ Below w.heap.size w w' := by
  obtain ⟨rfl, rfl, rfl, M⟩ := C
  have := check_calls cs cl M
  rw [hs'] at this
  exact this
theorem right_q {h t : Int} {s : Int × Int} (C : Cls w A2 A3 A4 c2 c3 c4 n2 n3 n4 hs hung looks) (hC : Kd.C (Kd.int .i64) w A p.length p ∧ p.length ≤ c) (hn : hs.length ≤ 1000) (hs' : rightR cs cl (hs.map toH) hung (looks.map toL) p h t = s) :
    Calls Try.prog 71 #[.agg #[.int .i64 cs, .int .i64 cl, .slice A2 n2 c2, .slice A3 n3 c3, .slice A4 n4 c4], .slice A p.length c, .int .i64 h, .int .i64 t] w fun e w' => e = .returned (.tuple #[.int .i64 s.1, .int .i64 s.2]) ∧ Below w.heap.size w w' := by
  obtain ⟨rfl, rfl, rfl, M⟩ := C
  have := rightX_calls cs cl h t M hC.1 hC.2 (by rw [List.length_map]; exact hn)
  rw [hs'] at this
  exact this
theorem good_q {h : Int} {s : Int × Int × Int} (C : Cls w A2 A3 A4 c2 c3 c4 n2 n3 n4 hs hung looks) (hC : Kd.C (Kd.int .i64) w A p.length p ∧ p.length ≤ c) (hn : hs.length ≤ 1000) (hs' : goodR cs cl (hs.map toH) hung (looks.map toL) p h = s) :
    Calls Try.prog 54 #[.agg #[.int .i64 cs, .int .i64 cl, .slice A2 n2 c2, .slice A3 n3 c3, .slice A4 n4 c4], .slice A p.length c, .int .i64 h] w fun e w' => e = .returned (.tuple #[.agg #[.int .i64 s.1, .int .i64 s.2.1], .int .i64 s.2.2]) ∧ Below w.heap.size w w' := by
  obtain ⟨rfl, rfl, rfl, M⟩ := C
  have := goodX_calls cs cl h M hC.1 hC.2 (by rw [List.length_map]; exact hn)
  rw [hs'] at this
  exact this
theorem best_q {s : List Int × Int × Int} (C : Cls w A2 A3 A4 c2 c3 c4 n2 n3 n4 hs hung looks) (hs' : bestR cs cl (hs.map toH) hung (looks.map toL) = s) :
    Calls Try.prog 49 #[.agg #[.int .i64 cs, .int .i64 cl, .slice A2 n2 c2, .slice A3 n3 c3, .slice A4 n4 c4]] w
      fun e w' => ∃ B b, e = .returned (.tuple #[.slice B s.1.length b, .int .i64 s.2.1, .int .i64 s.2.2]) ∧ (Kd.C (Kd.int .i64) w' B s.1.length s.1 ∧ s.1.length ≤ b) ∧ Below w.heap.size w w' := by
  obtain ⟨rfl, rfl, rfl, M⟩ := C
  refine (bestX_calls cs cl M).mono ?_
  rw [hs']
  rintro e w' ⟨v, rfl, hR, hb⟩
  obtain ⟨B, b, rfl, h1, h2⟩ := R_C hR
  exact ⟨B, b, rfl, ⟨h1, h2⟩, hb⟩
theorem leave_q {s : List Int × Int} (C : Cls w A2 A3 A4 c2 c3 c4 n2 n3 n4 hs hung looks) (hs' : leaveR cs cl (hs.map toH) hung (looks.map toL) = s) :
    Calls Try.prog 35 #[.agg #[.int .i64 cs, .int .i64 cl, .slice A2 n2 c2, .slice A3 n3 c3, .slice A4 n4 c4]] w
      fun e w' => ∃ B b, e = .returned (.tuple #[.slice B s.1.length b, .int .i64 s.2]) ∧ (Kd.C (Kd.int .i64) w' B s.1.length s.1 ∧ s.1.length ≤ b) ∧ Below w.heap.size w w' := by
  obtain ⟨rfl, rfl, rfl, M⟩ := C
  refine (leaveX_calls cs cl M).mono ?_
  rw [hs']
  rintro e w' ⟨v, rfl, hR, hb⟩
  obtain ⟨B, b, rfl, h1, h2⟩ := R_C hR
  exact ⟨B, b, rfl, ⟨h1, h2⟩, hb⟩
theorem first_q {s : Int × Int} (C : Cls w A2 A3 A4 c2 c3 c4 n2 n3 n4 hs hung looks) (hs' : firstR cs cl (hs.map toH) hung (looks.map toL) = s) :
    Calls Try.prog 34 #[.agg #[.int .i64 cs, .int .i64 cl, .slice A2 n2 c2, .slice A3 n3 c3, .slice A4 n4 c4]] w fun e w' => e = .returned (.tuple #[.int .i64 s.1, .int .i64 s.2]) ∧ Below w.heap.size w w' := by
  obtain ⟨rfl, rfl, rfl, M⟩ := C
  have := firstX_calls cs cl M
  rw [hs'] at this
  exact this
theorem place_q {t : Int} {s : Bool} (C : Cls w A2 A3 A4 c2 c3 c4 n2 n3 n4 hs hung looks) (hC : Kd.C (Kd.int .i64) w A p.length p ∧ p.length ≤ c) (hn : hs.length ≤ 1000) (hs' : provePR cs cl (hs.map toH) hung (looks.map toL) p t = s) :
    Calls Try.prog 66 #[.agg #[.int .i64 cs, .int .i64 cl, .slice A2 n2 c2, .slice A3 n3 c3, .slice A4 n4 c4], .slice A p.length c, .int .i64 t] w fun e w' => e = .returned (.bool s) ∧ Below w.heap.size w w' := by
  obtain ⟨rfl, rfl, rfl, M⟩ := C
  have := provePlace_calls cs cl t M hC.1 hC.2 (by rw [List.length_map]; exact hn)
  rw [hs'] at this
  exact this
end
end Go.Proofs.Ytokhmghgghjmhaa.Q
namespace Go.Proofs.Ytokhmghgghjmhaa.Q
open Go.RowKit Go.Proofs.YtokhmghgghjmhaaW.PrintWords Go.Proofs.YtokhmghgghjmhaaW.PrintLast Go.Proofs.YtokhmghgghjmhaaW.PrintMore
set_option linter.unusedVariables false
set_option linter.unusedSimpArgs false
set_option maxHeartbeats 4000000 in
set_option maxRecDepth 100000 in
/-- The law's 'good'. -/
theorem good_w {cs cl : Int} {A2 A3 A4 A : Option Addr} {c2 c3 c4 c : Nat} {hs : List S68} {hung : List Int} {looks : List S84} {p : List Int} {h : Int} {w : World} {s : Int × Int × Bool} (M : Ref w A2 A3 A4 c2 c3 c4 hs hung looks) (hC : Kd.C (Kd.int .i64) w A p.length p ∧ p.length ≤ c)
    (hT : hs.length ≤ 30 ∧ hung.length ≤ 30 ∧ looks.length ≤ 30) (hp : p.length ≤ 1000) (hs' : goodL cs cl (hs.map toH) hung (looks.map toL) p h = s) :
    Calls Try.prog 45 #[.agg #[.int .i64 cs, .int .i64 cl, .slice A2 hs.length c2, .slice A3 hung.length c3, .slice A4 looks.length c4], .slice A p.length c, .int .i64 h] w
      fun e w' => e = .returned (.tuple #[.agg #[.int .i64 s.1, .int .i64 s.2.1], .bool s.2.2]) ∧ Below w.heap.size w w' := by
  have HM := Aside0.mk M
  have HC := Aside0.mk hC
  have HT := Aside0.mk hT
  have HP := Aside0.mk hp
  obtain ⟨g, hg⟩ : ∃ g, goodR cs cl (hs.map toH) hung (looks.map toL) p h = g := ⟨_, rfl⟩
  have HG := Aside0.mk hg
  have HS : Aside0 ((if g.2.2 = 10 then (1, 0, true) else (g.1, g.2.1, decide (g.2.2 = 0 ∧ g.1 ≤ g.2.1 ∧ 0 ≤ g.1 ∧ g.2.1 ≤ cl))) = s) := ⟨by rw [← hs', ← hg]; rfl⟩
  clear M hC hT hp hg hs'
  obtain ⟨g1, g2, g3⟩ := g
  obtain ⟨W0, hW0⟩ : ∃ W0, (w.alloc (.cells #[.int .i64 cs, .int .i64 cl, .slice A2 hs.length c2, .slice A3 hung.length c3, .slice A4 looks.length c4] 26)).alloc (.cells #[.int .i64 0, .int .i64 0] 61) = W0 := ⟨_, rfl⟩
  have HB0 := Aside0.mk (show Below w.heap.size w W0 from by rw [← hW0]; repeat (first | exact Below.refl _ _ | apply below_alloc))
  have HBK := Aside0.mk (show W0.heap[w.heap.size]? = some (.cells #[.int .i64 cs, .int .i64 cl, .slice A2 hs.length c2, .slice A3 hung.length c3, .slice A4 looks.length c4] 26 (0, 0)) from by rw [← hW0]; repeat (first | (refine blk_new_ ?_; simp; done) | refine blk_alloc ?_ _))
  have HRB := Aside0.mk (show W0.heap[w.heap.size + 1]? = some (.cells #[.int .i64 0, .int .i64 0] 61 (0, 0)) from by rw [← hW0]; refine blk_new_ ?_; simp)
  have b0 : W0.cell? ⟨w.heap.size, 0, none⟩ = some (.int .i64 cs) := (blk_cell HBK.out 0).trans rfl
  have b1 : W0.cell? ⟨w.heap.size, 1, none⟩ = some (.int .i64 cl) := (blk_cell HBK.out 1).trans rfl
  have b2 : W0.cell? ⟨w.heap.size, 2, none⟩ = some (.slice A2 hs.length c2) := (blk_cell HBK.out 2).trans rfl
  have b3 : W0.cell? ⟨w.heap.size, 3, none⟩ = some (.slice A3 hung.length c3) := (blk_cell HBK.out 3).trans rfl
  have b4 : W0.cell? ⟨w.heap.size, 4, none⟩ = some (.slice A4 looks.length c4) := (blk_cell HBK.out 4).trans rfl
  go_enter Try.func45, Try.ntmps45
  go_wp2_with fail
  try rw [hW0]
  clear hW0
  refine (refcl_q (HM.out.later HB0.out) (by have := HT.out; omega) (by have := HT.out; omega) (by have := HT.out; omega)).mono ?_
  rintro e w1 ⟨B2, B3, B4, d2, d3, d4, n2, n3, n4, rfl, hcl, hb⟩
  have HB1 := Aside0.mk (below_step HB0.out hb)
  have HK1 := Aside0.mk (blk_below HBK.out hb)
  have HR1 := Aside0.mk (blk_below HRB.out hb)
  have HCL := Aside0.mk hcl
  clear hb hcl b0 b1 b2 b3 b4
  go_wp2_with fail
  refine (list_q (Kd.C_below HC.out.1 HB1.out) HC.out.2 (by have := HP.out; omega)).mono ?_
  rintro e w2 ⟨B, d, rfl, hli, hb⟩
  have HB2 := Aside0.mk (below_step HB1.out hb)
  have HK2 := Aside0.mk (blk_below HK1.out hb)
  have HR2 := Aside0.mk (blk_below HR1.out hb)
  have HCL2 := Aside0.mk (HCL.out.later hb)
  have HLI := Aside0.mk hli
  clear hb hli
  go_wp2_with fail
  refine (good_q HCL2.out HLI.out (by have := HT.out; omega) HG.out).mono ?_
  rintro e w3 ⟨rfl, hb⟩
  have HB3 := Aside0.mk (below_step HB2.out hb)
  have HK3 := Aside0.mk (blk_below HK2.out hb)
  have HR3 := Aside0.mk (blk_below HR2.out hb)
  clear hb
  have rz3 := blk_lt HR3.out
  obtain ⟨W4, hW4⟩ : ∃ W4, w3.alloc (.cells #[.int .i64 g1, .int .i64 g2] 61) = W4 := ⟨_, rfl⟩
  have HB4 := Aside0.mk (show Below w3.heap.size w3 W4 from by rw [← hW4]; exact below_alloc (Below.refl _ _) _)
  have HQ4 := Aside0.mk (show W4.heap[w3.heap.size]? = some (.cells #[.int .i64 g1, .int .i64 g2] 61 (0, 0)) from by rw [← hW4]; exact blk_new _ _)
  have HK4 := Aside0.mk (blk_below HK3.out HB4.out)
  have HR4 := Aside0.mk (blk_below HR3.out HB4.out)
  by_cases h10 : g3 = 10
  · subst h10
    have HS2 : Aside0 ((1, 0, true) = s) := ⟨HS.out⟩
    obtain rfl := HS2.out
    go_wp2_with fail
    try rw [hW4]
    clear hW4
    refine (posserlaw04_between.calls 1 0 _ _ _ rfl).mono ?_
    rintro e w5 ⟨rfl, hb⟩
    have HR5 := Aside0.mk (blk_below HR4.out hb)
    have HB5 := Aside0.mk (below_step (below_step HB3.out HB4.out) hb)
    clear hb
    have r0 : w5.cell? ⟨w.heap.size + 1, 0, none⟩ = some (.int .i64 0) := (blk_cell HR5.out 0).trans rfl
    have r1 : w5.cell? ⟨w.heap.size + 1, 1, none⟩ = some (.int .i64 0) := (blk_cell HR5.out 1).trans rfl
    have rf0 := blk_frozen HR5.out 0
    have rf1 := blk_frozen HR5.out 1
    go_wp2_with fail
    refine bodyPost_ret (results_list (rs := [.cell 6 61, .tmp 7]) rfl (by simp) (.cell (w.heap.size + 1) 61 #[.int .i64 1, .int .i64 0] (0, 0) _ rfl (blk_put (blk_put HR5.out 0 _ rfl) 1 _ rfl) Try.underlying61 rfl (by kernel_rfl) (.tmp .nil))) rfl ⟨rfl, (HB5.out.setCell (by simp) _).setCell (by simp) _⟩
  have h10b : (g3 == 10) = false := beq_eq_false_iff_ne.2 h10
  have HS2 : Aside0 ((g1, g2, decide (g3 = 0 ∧ g1 ≤ g2 ∧ 0 ≤ g1 ∧ g2 ≤ cl)) = s) := ⟨by have := HS.out; rwa [if_neg h10] at this⟩
  clear h10
  have HBW := Aside0.mk (below_step HB3.out HB4.out)
  have q0 : W4.drew.cell? ⟨w3.heap.size, 0, none⟩ = some (.int .i64 g1) := (blk_cell (blk_drew HQ4.out) 0).trans rfl
  have q1 : W4.drew.cell? ⟨w3.heap.size, 1, none⟩ = some (.int .i64 g2) := (blk_cell (blk_drew HQ4.out) 1).trans rfl
  have q2 : W4.drew.cell? ⟨w.heap.size, 1, none⟩ = some (.int .i64 cl) := (blk_cell (blk_drew HK4.out) 1).trans rfl
  have r0 : W4.cell? ⟨w.heap.size + 1, 0, none⟩ = some (.int .i64 0) := (blk_cell HR4.out 0).trans rfl
  have r1 : W4.cell? ⟨w.heap.size + 1, 1, none⟩ = some (.int .i64 0) := (blk_cell HR4.out 1).trans rfl
  have q3 : W4.cell? ⟨w.heap.size, 1, none⟩ = some (.int .i64 cl) := (blk_cell HK4.out 1).trans rfl
  have hne : w3.heap.size ≠ w.heap.size + 1 := by omega
  have hne2 : w.heap.size ≠ w.heap.size + 1 := by omega
  have rf0 := blk_frozen HR4.out 0
  have rf1 := blk_frozen HR4.out 1
  go_wp2_with fail
  try rw [hW4]
  clear hW4
  have HF : Aside0 (∃ b1 b2 b3 b4 : Bool, (g3 == 0) = b1 ∧ decide (g1 ≤ g2) = b2 ∧ decide (g1 ≥ 0) = b3 ∧ decide (g2 ≤ cl) = b4 ∧ (b1 = false ∨ b1 = true ∧ b2 = false ∨ b1 = true ∧ b2 = true ∧ b3 = false ∨ b1 = true ∧ b2 = true ∧ b3 = true ∧ b4 = false ∨ b1 = true ∧ b2 = true ∧ b3 = true ∧ b4 = true)) := ⟨_, _, _, _, rfl, rfl, rfl, rfl, by cases (g3 == 0) <;> cases decide (g1 ≤ g2) <;> cases decide (g1 ≥ 0) <;> cases decide (g2 ≤ cl) <;> simp⟩
  obtain ⟨b1, b2, b3, b4, e1, e2, e3, e4, hb⟩ := HF.out
  have HS3 : Aside0 ((g1, g2, b1 && b2 && b3 && b4) = s) := ⟨by rw [← HS2.out, ← e1, ← e2, ← e3, ← e4]; by_cases x1 : g3 = 0 <;> by_cases x2 : g1 ≤ g2 <;> by_cases x3 : 0 ≤ g1 <;> by_cases x4 : g2 ≤ cl <;> simp [x1, x2, x3, x4]⟩
  obtain rfl := HS3.out
  rcases hb with rfl | ⟨rfl, rfl⟩ | ⟨rfl, rfl, rfl⟩ | ⟨rfl, rfl, rfl, rfl⟩ | ⟨rfl, rfl, rfl, rfl⟩
  all_goals
    refine wp_region_held_drew (S := fun W' => Below w.heap.size w W' ∧ W'.cell? ⟨w3.heap.size, 0, none⟩ = some (.int .i64 g1) ∧ W'.cell? ⟨w3.heap.size, 1, none⟩ = some (.int .i64 g2) ∧ W'.cell? ⟨w.heap.size, 1, none⟩ = some (.int .i64 cl)) (by kernel_rfl) ?hS (fun hHeld => ?_)
    case hS => exact ⟨below_drew HBW.out, q0, q1, q2⟩
    refine tkT 0 (some 22) (v := ?_) rfl rfl (.inl ⟨by rfl, ?_⟩) ?_
    rotate_left
    · (intro w hSw; (try dsimp only at hSw); go_simp; with_reducible rfl)
    try simp only [pS]
    refine tkT 1 (some 23) (v := ?_) rfl rfl (.inl ⟨by rfl, ?_⟩) ?_
    rotate_left
    · (intro w hSw; (try dsimp only at hSw); go_simp; with_reducible rfl)
    try simp only [pS]
    refine tkT 2 (some 24) (v := ?_) rfl rfl (.inl ⟨by rfl, ?_⟩) ?_
    rotate_left
    · (intro w hSw; (try dsimp only at hSw); go_simp; with_reducible rfl)
    try simp only [pS]
    refine tkT 3 (some 25) (v := ?_) rfl rfl (.inl ⟨by rfl, ?_⟩) ?_
    rotate_left
    · (intro w hSw; (try dsimp only at hSw); go_simp; with_reducible rfl)
    try simp only [pS]
    first | (refine tkT 4 (some 26) (v := undef) rfl rfl (.inr ⟨by rfl, rfl⟩) ?_) | (refine tkT 4 (some 26) (v := ?_) rfl rfl (.inl ⟨by rfl, ?_⟩) ?_; rotate_left; · (intro w hSw; (try dsimp only at hSw); go_simp; with_reducible rfl))
    try simp only [pS]
    first | (refine tkT 5 (some 27) (v := undef) rfl rfl (.inr ⟨by rfl, rfl⟩) ?_) | (refine tkT 5 (some 27) (v := ?_) rfl rfl (.inl ⟨by rfl, ?_⟩) ?_; rotate_left; · (intro w hSw; (try dsimp only at hSw); go_simp; with_reducible rfl))
    try simp only [pS]
    first | (refine tkT 6 (some 28) (v := undef) rfl rfl (.inr ⟨by rfl, rfl⟩) ?_) | (refine tkT 6 (some 28) (v := ?_) rfl rfl (.inl ⟨by rfl, ?_⟩) ?_; rotate_left; · (intro w hSw; (try dsimp only at hSw); go_simp; with_reducible rfl))
    try simp only [pS]
    first | (refine tkT 7 (some 29) (v := undef) rfl rfl (.inr ⟨by rfl, rfl⟩) ?_) | (refine tkT 7 (some 29) (v := ?_) rfl rfl (.inl ⟨by rfl, ?_⟩) ?_; rotate_left; · (intro w hSw; (try dsimp only at hSw); go_simp; with_reducible rfl))
    try simp only [pS]
    first | (refine tkT 8 (some 30) (v := undef) rfl rfl (.inr ⟨by rfl, rfl⟩) ?_) | (refine tkT 8 (some 30) (v := ?_) rfl rfl (.inl ⟨by rfl, ?_⟩) ?_; rotate_left; · (intro w hSw; (try dsimp only at hSw); go_simp; with_reducible rfl))
    try simp only [pS]
    refine tkT 9 (some 31) (v := ?_) rfl rfl (.inl ⟨by rfl, ?_⟩) ?_
    rotate_left
    · (intro w hSw; (try dsimp only at hSw); go_simp; with_reducible rfl)
    try simp only [pS]
    refine tkT 10 (some 32) (v := ?_) rfl rfl (.inl ⟨by rfl, ?_⟩) ?_
    rotate_left
    · (intro w hSw; (try dsimp only at hSw); go_simp; with_reducible rfl)
    try simp only [pS]
    first | (refine tkT 11 (some 33) (v := undef) rfl rfl (.inr ⟨by rfl, rfl⟩) ?_) | (refine tkT 11 (some 33) (v := ?_) rfl rfl (.inl ⟨by rfl, ?_⟩) ?_; rotate_left; · (intro w hSw; (try dsimp only at hSw); go_simp; with_reducible rfl))
    try simp only [pS]
    first | (refine tkT 12 (some 34) (v := undef) rfl rfl (.inr ⟨by rfl, rfl⟩) ?_) | (refine tkT 12 (some 34) (v := ?_) rfl rfl (.inl ⟨by rfl, ?_⟩) ?_; rotate_left; · (intro w hSw; (try dsimp only at hSw); go_simp; with_reducible rfl))
    try simp only [pS]
    first | (refine tkT 13 (some 35) (v := undef) rfl rfl (.inr ⟨by rfl, rfl⟩) ?_) | (refine tkT 13 (some 35) (v := ?_) rfl rfl (.inl ⟨by rfl, ?_⟩) ?_; rotate_left; · (intro w hSw; (try dsimp only at hSw); go_simp; with_reducible rfl))
    try simp only [pS]
    refine tkT 14 (some 36) (v := ?_) rfl rfl (.inl ⟨by rfl, ?_⟩) ?_
    rotate_left
    · (intro w hSw; (try dsimp only at hSw); go_simp; with_reducible rfl)
    try simp only [pS]
    refine tkT 15 (some 37) (v := ?_) rfl rfl (.inl ⟨by rfl, ?_⟩) ?_
    rotate_left
    · (intro w hSw; (try dsimp only at hSw); go_simp; with_reducible rfl)
    try simp only [pS]
    first | (refine tkT 16 (some 38) (v := undef) rfl rfl (.inr ⟨by rfl, rfl⟩) ?_) | (refine tkT 16 (some 38) (v := ?_) rfl rfl (.inl ⟨by rfl, ?_⟩) ?_; rotate_left; · (intro w hSw; (try dsimp only at hSw); go_simp; with_reducible rfl))
    try simp only [pS]
    first | (refine tkT 17 (some 39) (v := undef) rfl rfl (.inr ⟨by rfl, rfl⟩) ?_) | (refine tkT 17 (some 39) (v := ?_) rfl rfl (.inl ⟨by rfl, ?_⟩) ?_; rotate_left; · (intro w hSw; (try dsimp only at hSw); go_simp; with_reducible rfl))
    try simp only [pS]
    first | (refine tkT 18 (some 40) (v := undef) rfl rfl (.inr ⟨by rfl, rfl⟩) ?_) | (refine tkT 18 (some 40) (v := ?_) rfl rfl (.inl ⟨by rfl, ?_⟩) ?_; rotate_left; · (intro w hSw; (try dsimp only at hSw); go_simp; with_reducible rfl))
    try simp only [pS]
    first | (refine tkT 19 (some 41) (v := undef) rfl rfl (.inr ⟨by rfl, rfl⟩) ?_) | (refine tkT 19 (some 41) (v := ?_) rfl rfl (.inl ⟨by rfl, ?_⟩) ?_; rotate_left; · (intro w hSw; (try dsimp only at hSw); go_simp; with_reducible rfl))
    try simp only [pS]
    first | (refine tkT 20 (some 42) (v := undef) rfl rfl (.inr ⟨by rfl, rfl⟩) ?_) | (refine tkT 20 (some 42) (v := ?_) rfl rfl (.inl ⟨by rfl, ?_⟩) ?_; rotate_left; · (intro w hSw; (try dsimp only at hSw); go_simp; with_reducible rfl))
    try simp only [pS]
    refine tkT 21 (some 43) (v := ?_) rfl rfl (.inl ⟨by rfl, ?_⟩) ?_
    rotate_left
    · (intro w hSw; (try dsimp only at hSw); go_simp; with_reducible rfl)
    try simp only [pS]
    refine wpAnyH_ready (rs := [22]) (by kernel_rfl) (by simp) ?_
    refine AllReadyH.cons (o := { dst := none, op := Op.store 61 (Operand.tmp 6) (Operand.tmp 22), type := 0, pos := "outright.go:149", after := #[{ on := 0, ground := Ground.data }, { on := 15, ground := Ground.chain }, { on := 0, ground := Ground.phase }, { on := 1, ground := Ground.textOnly Departure.lateStores }, { on := 2, ground := Ground.textOnly Departure.lateStores }, { on := 3, ground := Ground.textOnly Departure.lateStores }, { on := 4, ground := Ground.textOnly Departure.lateStores }, { on := 5, ground := Ground.textOnly Departure.lateStores }, { on := 6, ground := Ground.textOnly Departure.lateStores }, { on := 7, ground := Ground.textOnly Departure.lateStores }, { on := 8, ground := Ground.textOnly Departure.lateStores }, { on := 9, ground := Ground.textOnly Departure.lateStores }, { on := 10, ground := Ground.textOnly Departure.lateStores }, { on := 11, ground := Ground.textOnly Departure.lateStores }, { on := 12, ground := Ground.textOnly Departure.lateStores }, { on := 13, ground := Ground.textOnly Departure.lateStores }, { on := 14, ground := Ground.textOnly Departure.lateStores }, { on := 15, ground := Ground.textOnly Departure.lateStores }, { on := 16, ground := Ground.textOnly Departure.lateStores }, { on := 17, ground := Ground.textOnly Departure.lateStores }, { on := 18, ground := Ground.textOnly Departure.lateStores }, { on := 19, ground := Ground.textOnly Departure.lateStores }, { on := 20, ground := Ground.textOnly Departure.lateStores }, { on := 21, ground := Ground.textOnly Departure.lateStores }], guard := none }) rfl (fun K hK => ?_) ?_
    go_simp
    refine hK.out _ _ ?_ ?_
    · ((try dsimp only); exact ⟨below_drew ((HBW.out.setCell (by simp) _).setCell (by simp) _), (blk_cell (blk_far (blk_far HQ4.out hne _) hne _) 0).trans rfl, (blk_cell (blk_far (blk_far HQ4.out hne _) hne _) 1).trans rfl, (blk_cell (blk_far (blk_far HK4.out hne2 _) hne2 _) 1).trans rfl⟩)
    try clear hHeld
    intro hHeld
    clear hK K
    try simp only [pS]
    refine tkT 23 (some 7) (v := ?_) rfl rfl (.inl ⟨by rfl, ?_⟩) ?_
    rotate_left
    · (intro w hSw; (try dsimp only at hSw); go_simp; with_reducible rfl)
    try simp only [pS]
    refine wpAnyH_done (by kernel_rfl) ?_ _
    rotate_left
    exact AllReadyH.nil
    go_wp2_with fail
    refine bodyPost_ret (results_list (rs := [.cell 6 61, .tmp 7]) rfl (by simp) (.cell (w.heap.size + 1) 61 #[.int .i64 g1, .int .i64 g2] (0, 0) _ rfl (blk_drew (blk_put (blk_put HR4.out 0 _ rfl) 1 _ rfl)) Try.underlying61 rfl (by kernel_rfl) (.tmp .nil))) rfl ⟨rfl, hHeld.1⟩
end Go.Proofs.Ytokhmghgghjmhaa.Q
namespace Go.Proofs.Ytokhmghgghjmhaa.Q
open Go.RowKit Go.Proofs.YtokhmghgghjmhaaW.PrintWords Go.Proofs.YtokhmghgghjmhaaW.PrintLast Go.Proofs.YtokhmghgghjmhaaW.PrintMore
set_option linter.unusedVariables false
def Box (w : World) (g : Nat) (cs cl : Int) (A2 A3 A4 : Option Addr) (n2 n3 n4 c2 c3 c4 : Nat) : Prop := w.heap[g]? = some (.cells #[.int .i64 cs, .int .i64 cl, .slice A2 n2 c2, .slice A3 n3 c3, .slice A4 n4 c4] 26 (0, 0))
section
variable {w w' : World} {g : Nat} {cs cl : Int} {A2 A3 A4 : Option Addr} {n2 n3 n4 c2 c3 c4 : Nat}
theorem Box.later (h : Box w g cs cl A2 A3 A4 n2 n3 n4 c2 c3 c4) (hb : Below w.heap.size w w') : Box w' g cs cl A2 A3 A4 n2 n3 n4 c2 c3 c4 := blk_below h hb
theorem Box.at0 (h : Box w g cs cl A2 A3 A4 n2 n3 n4 c2 c3 c4) : w.cell? ⟨g, 0, none⟩ = some (.int .i64 cs) := (blk_cell h 0).trans rfl
theorem Box.at1 (h : Box w g cs cl A2 A3 A4 n2 n3 n4 c2 c3 c4) : w.cell? ⟨g, 1, none⟩ = some (.int .i64 cl) := (blk_cell h 1).trans rfl
theorem Box.at2 (h : Box w g cs cl A2 A3 A4 n2 n3 n4 c2 c3 c4) : w.cell? ⟨g, 2, none⟩ = some (.slice A2 n2 c2) := (blk_cell h 2).trans rfl
theorem Box.at3 (h : Box w g cs cl A2 A3 A4 n2 n3 n4 c2 c3 c4) : w.cell? ⟨g, 3, none⟩ = some (.slice A3 n3 c3) := (blk_cell h 3).trans rfl
theorem Box.at4 (h : Box w g cs cl A2 A3 A4 n2 n3 n4 c2 c3 c4) : w.cell? ⟨g, 4, none⟩ = some (.slice A4 n4 c4) := (blk_cell h 4).trans rfl
theorem Box.new {W0 : World} (h : w.alloc (.cells #[.int .i64 cs, .int .i64 cl, .slice A2 n2 c2, .slice A3 n3 c3, .slice A4 n4 c4] 26) = W0) : Box W0 w.heap.size cs cl A2 A3 A4 n2 n3 n4 c2 c3 c4 ∧ Below w.heap.size w W0 := by
  subst h; exact ⟨blk_new _ _, below_alloc (Below.refl _ _) _⟩
end
/-- A list of numbers that lies in memory. -/
def Ls (k : IntKind) (w : World) (A : Option Addr) (c : Nat) (l : List Int) : Prop := Kd.C (Kd.int k) w A l.length l ∧ l.length ≤ c
theorem Ls.later {k : IntKind} {w w' : World} {A : Option Addr} {c : Nat} {l : List Int} (h : Ls k w A c l) (hb : Below w.heap.size w w') : Ls k w' A c l := ⟨Kd.C_below h.1 hb, h.2⟩
section
variable {cs cl : Int} {A2 A3 A4 A : Option Addr} {c2 c3 c4 c : Nat} {hs : List S68} {hung : List Int} {looks : List S84} {words : List Int} {w : World}
theorem ready_q (M : Ref w A2 A3 A4 c2 c3 c4 hs hung looks) {r : Bool} (hr : decide ((hs.length ≤ 30 ∧ hung.length ≤ 30 ∧ looks.length ≤ 30) ∧ checkB cs cl (hs.map toH) hung (looks.map toL) = 0) = r) :
    Calls Try.prog 41 #[.agg #[.int .i64 cs, .int .i64 cl, .slice A2 hs.length c2, .slice A3 hung.length c3, .slice A4 looks.length c4]] w fun e w' => e = .returned (.bool r) ∧ Below w.heap.size w w' :=
  posserlaw04_ready.calls cs cl A2 c2 hs A3 c3 hung A4 c4 looks r w M.h2 M.l2 M.h3 M.l3 M.h4 M.l4 (by rw [ready_f, hr])
theorem placedw_q (M : Ref w A2 A3 A4 c2 c3 c4 hs hung looks) (hW : Ls .u16 w A c words) {p : List Int} (hp : posserlaw04_Placed.f 3000 cs cl hs hung looks words = some p) :
    Calls Try.prog 42 #[.agg #[.int .i64 cs, .int .i64 cl, .slice A2 hs.length c2, .slice A3 hung.length c3, .slice A4 looks.length c4], .slice A words.length c] w
      fun e w' => ∃ B d, e = .returned (.slice B p.length d) ∧ Ls .i64 w' B d p ∧ Below w.heap.size w w' := by
  refine (posserlaw04_Placed.calls 3000 cs cl A2 c2 hs A3 c3 hung A4 c4 looks A c words p w M.h2 M.l2 M.h3 M.l3 M.h4 M.l4 hW.1 hW.2 hp).mono ?_
  rintro e w' ⟨v, rfl, hR, hb⟩
  obtain ⟨B, d, rfl, h1, h2⟩ := R_C hR
  exact ⟨B, d, rfl, ⟨h1, h2⟩, hb⟩
theorem list_qq {l : List Int} (hC : Ls .i64 w A c l) (h : l.length ≤ 1000) :
    Calls Try.prog 27 #[.slice A l.length c] w fun e w' => ∃ B d, e = .returned (.slice B l.length d) ∧ Ls .i64 w' B d l ∧ Below w.heap.size w w' := list_q hC.1 hC.2 h
end
end Go.Proofs.Ytokhmghgghjmhaa.Q
namespace Go.Proofs.Ytokhmghgghjmhaa.Q
open Go.RowKit Go.ChangeShapes Go.WideShapes Go.Deep Go.Proofs.YtokhmghgghjmhaaW.PrintWords Go.Proofs.YtokhmghgghjmhaaW.PrintLast Go.Proofs.YtokhmghgghjmhaaW.PrintMore
set_option linter.unusedVariables false
set_option maxRecDepth 100000
section
variable {H : Type} {enc : TypeId × Value → H} {w : World} {base : Nat} {sp : Nat → Bool} {held : Bool}
/-- A slice that is read, as1 a row: each element by its own reading; with what is told of each. -/
theorem open_rowQ {α : Type} {Q : α → Prop} (d : Kd α) {t e : TypeId} {fuel : Nat} {cs : List Value} {x : DataW H × List MemPlace} (ht : Try.prog.underlying t = some (.slice e)) (hc : Try.prog.cellsOf e = d.sz) (hsz : 0 < d.sz)
    (hel : ∀ (fuel : Nat) (cs : List Value) (x : DataW H × List MemPlace), DataW.trod enc Try.prog w base sp held fuel e cs = some x → ∃ p, d.K w p cs ∧ Q p)
    (h : DataW.trod enc Try.prog w base sp held fuel t cs = some x) : ∃ (A : Option Addr) (xs : List α) (c : Nat), cs = [.slice A xs.length c] ∧ d.C w A xs.length xs ∧ xs.length ≤ c ∧ ∀ p ∈ xs, Q p := by
  rcases open_slice ht h with ⟨rfl, _⟩ | ⟨a, len, cap, m, n, D, Pl, rfl, _, hl, hm, hmm, _, hx⟩
  · exact ⟨none, [], 0, rfl, ⟨rfl, by simp, fun h => absurd h (by simp)⟩, Nat.le_refl 0, fun p hp => by cases hp⟩
  have hlm : len ≤ m := by rw [hmm]; split <;> omega
  have each : ∀ i : Fin len, ∃ (p : α) (cs' : List Value), d.K w p cs' ∧ cs'.length = d.sz ∧ (∀ j, j < d.sz → w.cell? (a.add (i.1 * d.sz + j)) = cs'[j]?) ∧ Q p := by
    intro i
    obtain ⟨cs', h1, h2⟩ := hx i.1 (by have := i.2; omega)
    obtain ⟨p, hp, hq⟩ := hel _ _ _ h2
    rw [hc] at h1
    obtain ⟨_, hlen, hcell⟩ := World.cells?_some h1
    exact ⟨p, cs', hp, hlen, fun j hj => by rw [← Go.Deep.add_add]; exact hcell j hj, hq⟩
  refine ⟨some a, (List.finRange len).map fun i => (each i).choose, cap, by simp, ⟨by simp, ?_, fun _ => ⟨a, rfl, fun j p hj => ?_⟩⟩, by simpa using hl, fun p hp => ?_⟩
  · have : maxLen ≤ 9223372036854775807 := by decide
    simp only [List.length_map, List.length_finRange]
    omega
  · rw [List.getElem?_map] at hj
    have hjl : j < len := by
      rcases Nat.lt_or_ge j len with h | h
      · exact h
      · rw [List.getElem?_eq_none (by simpa using h)] at hj
        cases hj
    rw [List.getElem?_eq_getElem (by simpa using hjl), Option.map_some, Option.some.injEq] at hj
    obtain ⟨cs', hK, hlen, hcell, _⟩ := (each ((List.finRange len)[j]'(by simpa using hjl))).choose_spec
    rw [hj] at hK
    refine ⟨cs', hlen, hK, fun i u hu => ?_⟩
    have hi : i < d.sz := by rw [← hlen]; exact (List.getElem?_eq_some_iff.1 hu).1
    have := hcell i hi
    rw [hu] at this
    simpa using this
  · obtain ⟨i, _, rfl⟩ := List.mem_map.1 hp
    obtain ⟨_, _, _, _, hq⟩ := (each i).choose_spec
    exact hq
theorem open_rowC {α : Type} (d : Kd α) {t e : TypeId} {fuel : Nat} {cs : List Value} {x : DataW H × List MemPlace} (ht : Try.prog.underlying t = some (.slice e)) (hc : Try.prog.cellsOf e = d.sz) (hsz : 0 < d.sz)
    (hel : ∀ (fuel : Nat) (cs : List Value) (x : DataW H × List MemPlace), DataW.trod enc Try.prog w base sp held fuel e cs = some x → ∃ p, d.K w p cs)
    (h : DataW.trod enc Try.prog w base sp held fuel t cs = some x) : ∃ (A : Option Addr) (xs : List α) (c : Nat), cs = [.slice A xs.length c] ∧ d.C w A xs.length xs ∧ xs.length ≤ c := by
  obtain ⟨A, xs, c, h1, h2, h3, _⟩ := open_rowQ (Q := fun _ => True) d ht hc hsz (fun f cs x h => by obtain ⟨p, hp⟩ := hel f cs x h; exact ⟨p, hp, trivial⟩) h
  exact ⟨A, xs, c, h1, h2, h3⟩
theorem trod_int3 {fuel : Nat} {cs : List Value} {x : DataW H × List MemPlace} (h : DataW.trod enc Try.prog w base sp held fuel 3 cs = some x) : ∃ n : Int, cs = [.int .i64 n] := by
  obtain ⟨n, rfl, _⟩ := DataW.trod_int Try.underlying3 h
  exact ⟨n, rfl⟩
theorem trod_66 {fuel : Nat} {cs : List Value} {x : DataW H × List MemPlace} (h : DataW.trod enc Try.prog w base sp held fuel 66 cs = some x) : ∃ p : S66, cs = [.int .i64 p.f0, .int .i64 p.f1] := by
  obtain ⟨xs, n, _, _, hl, hlen, hf⟩ := DataW.trod_struct Try.underlying66 h
  have hl2 : cs.length = 2 := hl.trans (by kernel_rfl)
  match cs, hl2, xs, hlen with
  | [c0, c1], _, [y0, y1], _ =>
    obtain ⟨a, ha⟩ := trod_int3 (hf 0 _ rfl)
    obtain ⟨b, hb⟩ := trod_int3 (hf 1 _ rfl)
    have hc3 : Try.prog.cellsOf 3 = 1 := by kernel_rfl
    simp [hc3] at ha hb
    exact ⟨⟨a, b⟩, by rw [ha, hb]⟩
theorem trod_68 {fuel : Nat} {cs : List Value} {x : DataW H × List MemPlace} (h : DataW.trod enc Try.prog w base sp held fuel 68 cs = some x) : ∃ p : S68, k68.K w p cs := by
  obtain ⟨xs, n, _, _, hl, hlen, hf⟩ := DataW.trod_struct Try.underlying68 h
  have hl2 : cs.length = 4 := hl.trans (by kernel_rfl)
  match cs, hl2, xs, hlen with
  | [c0, c1, c2, c3], _, [y0, y1, y2], _ =>
    obtain ⟨r, hr⟩ := trod_66 (hf 0 _ rfl)
    obtain ⟨a, ha⟩ := trod_int3 (hf 1 _ rfl)
    obtain ⟨b, hb⟩ := trod_int3 (hf 2 _ rfl)
    have hc3 : Try.prog.cellsOf 3 = 1 := by kernel_rfl
    have hc66 : Try.prog.cellsOf 66 = 2 := by kernel_rfl
    simp [hc3, hc66] at hr ha hb
    obtain ⟨h0, h1⟩ := hr
    subst h0 h1 ha hb
    exact ⟨⟨r, a, b⟩, k68_mk w ⟨r, a, b⟩⟩
theorem trod_84 {fuel : Nat} {cs : List Value} {x : DataW H × List MemPlace} (h : DataW.trod enc Try.prog w base sp held fuel 84 cs = some x) : ∃ p : S84, k84.K w p cs := by
  obtain ⟨xs, n, _, _, hl, hlen, hf⟩ := DataW.trod_struct Try.underlying84 h
  have hl2 : cs.length = 3 := hl.trans (by kernel_rfl)
  match cs, hl2, xs, hlen with
  | [c0, c1, c2], _, [y0, y1, y2], _ =>
    obtain ⟨r, hr⟩ := trod_int3 (hf 0 _ rfl)
    obtain ⟨a, ha⟩ := trod_int3 (hf 1 _ rfl)
    obtain ⟨b, hb, _⟩ := DataW.trod_bool Try.underlying4 (hf 2 _ rfl)
    have hc3 : Try.prog.cellsOf 3 = 1 := by kernel_rfl
    have hc4 : Try.prog.cellsOf 4 = 1 := by kernel_rfl
    simp [hc3, hc4] at hr ha hb
    subst hr ha hb
    exact ⟨⟨r, a, b⟩, k84_mk w ⟨r, a, b⟩⟩
theorem trod_ints {fuel : Nat} {cs : List Value} {x : DataW H × List MemPlace} (h : DataW.trod enc Try.prog w base sp held fuel 23 cs = some x) : ∃ (A : Option Addr) (xs : List Int) (c : Nat), cs = [.slice A xs.length c] ∧ (Kd.int .i64).C w A xs.length xs ∧ xs.length ≤ c :=
  open_rowC (Kd.int .i64) Try.underlying23 (by kernel_rfl) (by decide) (fun fuel cs x h => by obtain ⟨n, rfl⟩ := trod_int3 h; exact ⟨n, rfl⟩) h
/-- Closets that are read, opened. -/
theorem open_closet {b0 : Nat} {v : Value} {d : DataW H} {p : List MemPlace} (hv : Value.okWide Try.prog w .any b0 26 v) (h : DataW.Trod enc Try.prog w base sp held 26 v d p) :
    ∃ (cs cl : Int) (A2 : Option Addr) (hs : List S68) (c2 : Nat) (A3 : Option Addr) (hung : List Int) (c3 : Nat) (A4 : Option Addr) (looks : List S84) (c4 : Nat),
      v = .agg #[.int .i64 cs, .int .i64 cl, .slice A2 hs.length c2, .slice A3 hung.length c3, .slice A4 looks.length c4] ∧ (k68.C w A2 hs.length hs ∧ hs.length ≤ c2) ∧ ((Kd.int .i64).C w A3 hung.length hung ∧ hung.length ≤ c3) ∧ (k84.C w A4 looks.length looks ∧ looks.length ≤ c4) := by
  obtain ⟨cs, rfl, hsz⟩ := okWide_struct Try.underlying26 hv
  obtain ⟨fuel, hf0⟩ := h
  obtain ⟨xs, n, _, _, hl, hlen, hf⟩ := DataW.trod_struct Try.underlying26 hf0
  have hl2 : cs.toList.length = 5 := hl.trans (by kernel_rfl)
  obtain ⟨l⟩ := cs
  match l, hl2, xs, hlen with
  | [v0, v1, v2, v3, v4], _, [y0, y1, y2, y3, y4], _ =>
    obtain ⟨a, ha⟩ := trod_int3 (hf 0 _ rfl)
    obtain ⟨b, hb⟩ := trod_int3 (hf 1 _ rfl)
    obtain ⟨A2, hs, c2, e2, C2, l2⟩ := open_rowC k68 Try.underlying22 (by kernel_rfl) (by decide) (fun fuel cs x h => trod_68 h) (hf 2 _ rfl)
    obtain ⟨A3, hung, c3, e3, C3, l3⟩ := trod_ints (hf 3 _ rfl)
    obtain ⟨A4, looks, c4, e4, C4, l4⟩ := open_rowC k84 Try.underlying24 (by kernel_rfl) (by decide) (fun fuel cs x h => trod_84 h) (hf 4 _ rfl)
    have hc3 : Try.prog.cellsOf 3 = 1 := by kernel_rfl
    have hc22 : Try.prog.cellsOf 22 = 1 := by kernel_rfl
    have hc23 : Try.prog.cellsOf 23 = 1 := by kernel_rfl
    have hc24 : Try.prog.cellsOf 24 = 1 := by kernel_rfl
    simp [Value.cells, hc3, hc22, hc23, hc24] at ha hb e2 e3 e4
    subst ha hb e2 e3 e4
    exact ⟨a, b, A2, hs, c2, A3, hung, c3, A4, looks, c4, rfl, ⟨C2, l2⟩, ⟨C3, l3⟩, ⟨C4, l4⟩⟩
/-- A list of numbers that is read, opened. -/
theorem open_list {b0 : Nat} {v : Value} {d : DataW H} {p : List MemPlace} (hv : Value.okWide Try.prog w .any b0 23 v) (h : DataW.Trod enc Try.prog w base sp held 23 v d p) :
    ∃ (A : Option Addr) (l : List Int) (c : Nat), v = .slice A l.length c ∧ (Kd.int .i64).C w A l.length l ∧ l.length ≤ c := by
  obtain ⟨a, len, cap, rfl⟩ := okWide_slice Try.underlying23 hv
  obtain ⟨f, hf⟩ := h
  obtain ⟨A, xs, c, e, hC, hl⟩ := trod_ints hf
  simp only [Value.cells, List.cons.injEq, and_true] at e
  exact ⟨A, xs, c, e, hC, hl⟩
end
end Go.Proofs.Ytokhmghgghjmhaa.Q
namespace Go.Proofs.Ytokhmghgghjmhaa.Q
open Go.RowKit Go.ChangeShapes Go.WideShapes Go.Deep Go.Proofs.YtokhmghgghjmhaaW.PrintWords Go.Proofs.YtokhmghgghjmhaaW.PrintLast Go.Proofs.YtokhmghgghjmhaaW.PrintMore
set_option linter.unusedVariables false
section
variable {H : Type} {enc : TypeId × Value → H} {w : World} {base : Nat} {sp : Nat → Bool} {held : Bool}
theorem u16_range {n : Int} (h : (Lit.int .u16 n).wf = true) : 0 ≤ n ∧ n ≤ 65535 := by
  simp only [Lit.wf, Bool.and_eq_true, decide_eq_true_eq] at h
  obtain ⟨h1, h2⟩ := h
  have e1 : IntKind.u16.min = 0 := by decide
  have e2 : IntKind.u16.max = 65535 := by decide
  omega
theorem u8_range {n : Int} (h : (Lit.int .u8 n).wf = true) : 0 ≤ n ∧ n ≤ 255 := by
  simp only [Lit.wf, Bool.and_eq_true, decide_eq_true_eq] at h
  obtain ⟨h1, h2⟩ := h
  have e1 : IntKind.u8.min = 0 := by decide
  have e2 : IntKind.u8.max = 255 := by decide
  omega
set_option maxRecDepth 100000 in
/-- A list of words that is read, opened. -/
theorem open_words {b0 : Nat} {v : Value} {d : DataW H} {p : List MemPlace} (hv : Value.okWide Try.prog w .any b0 56 v) (h : DataW.Trod enc Try.prog w base sp held 56 v d p) :
    ∃ (A : Option Addr) (l : List Int) (c : Nat), v = .slice A l.length c ∧ Ls .u16 w A c l ∧ Words l := by
  obtain ⟨a, len, cap, rfl⟩ := okWide_slice Try.underlying56 hv
  obtain ⟨f, hf⟩ := h
  obtain ⟨A, xs, c, e, hC, hl, hq⟩ := open_rowQ (Q := fun n : Int => 0 ≤ n ∧ n ≤ 65535) (Kd.int .u16) Try.underlying56 (by kernel_rfl) (by decide) (fun fuel cs x h => by
    obtain ⟨n, rfl, _, hw⟩ := DataW.trod_int Try.underlying65 h
    exact ⟨n, rfl, u16_range hw⟩) hf
  simp only [Value.cells, List.cons.injEq, and_true] at e
  refine ⟨A, xs, c, e, ⟨hC, hl⟩, fun i => ?_⟩
  by_cases hi : i < xs.length
  · rw [rd_get xs i hi]; exact hq _ (List.getElem_mem hi)
  · rw [rd_nn, List.getD_eq_getElem?_getD, List.getElem?_eq_none (by omega)]; exact ⟨by decide, by decide⟩
end
end Go.Proofs.Ytokhmghgghjmhaa.Q
