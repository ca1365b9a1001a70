/- Lines and texts, words and lines tell each other: the plain laws. -/
import Derived.Test.YtefkhjbgkaknmaaDoorW2b
set_option linter.unusedVariables false
namespace Go.Proofs.YtefkhjbgkaknmaaDoor

theorem join_ln : ∀ (l cur : List UInt8), l.getLast?.map UInt8.toNat = some 10 → joinFeed (lnGo l cur) = cur ++ l
  | [], cur, h => by simp at h
  | [c], cur, h => by
    simp at h
    have : c = 10 := UInt8.toNat_inj.1 (by rw [h]; rfl)
    subst this
    rw [lnGo, if_pos (by decide), lnGo, joinFeed, joinFeed]
  | c :: d :: r, cur, h => by
    have h' : (d :: r).getLast?.map UInt8.toNat = some 10 := by simpa using h
    rw [lnGo]
    by_cases hc : c.toNat = 10
    · have : c = 10 := UInt8.toNat_inj.1 (by rw [hc]; rfl)
      subst this
      rw [if_pos (by decide), joinFeed, join_ln (d :: r) [] h']; simp
    · rw [if_neg hc, join_ln (d :: r) (cur ++ [c]) h']; simp
theorem ln_feed : ∀ (l cur : List UInt8), hasFeed cur = false → (lnGo l cur).any hasFeed = false
  | [], cur, h => rfl
  | c :: r, cur, h => by
    rw [lnGo]
    by_cases hc : c.toNat = 10
    · rw [if_pos hc, List.any_cons, h, ln_feed r [] rfl]; rfl
    · rw [if_neg hc]
      refine ln_feed r _ ?_
      rw [hasFeed, List.any_append, ← hasFeed, h]; simp [hc]
theorem ln_join : ∀ (s : List UInt8) (r cur : List UInt8), hasFeed s = false → lnGo (s ++ 10 :: r) cur = (cur ++ s) :: lnGo r []
  | [], r, cur, h => by rw [List.nil_append, lnGo, if_pos (by decide)]; simp
  | c :: s, r, cur, h => by
    rw [hasFeed, List.any_cons, Bool.or_eq_false_iff] at h
    have hc : c.toNat ≠ 10 := by simpa using h.1
    rw [List.cons_append, lnGo, if_neg hc, ln_join s r _ h.2]; simp
theorem ln_back : ∀ (l : List (List UInt8)), l.any hasFeed = false → lnGo (joinFeed l) [] = l
  | [], h => rfl
  | s :: r, h => by
    rw [List.any_cons, Bool.or_eq_false_iff] at h
    rw [joinFeed, ln_join s _ _ h.1, ln_back r h.2]; simp
theorem jf_last : ∀ (l : List (List UInt8)), l ≠ [] → (joinFeed l).getLast?.map UInt8.toNat = some 10
  | [], h => absurd rfl h
  | [s], h => by rw [joinFeed, joinFeed]; simp
  | s :: t :: r, h => by
    have := jf_last (t :: r) (by simp)
    rw [joinFeed, List.getLast?_append, List.getLast?_cons]
    cases hq : (joinFeed (t :: r)).getLast? with
    | none => rw [hq] at this; simp at this
    | some x => rw [hq] at this; simpa using this

theorem lines_codes (s : List UInt8) : (linesL s).2 = 0 ∨ ((linesL s).1 = [] ∧ ((linesL s).2 = 4 ∨ (linesL s).2 = 11)) := by
  unfold linesL
  by_cases h1 : 16384 < s.length ∨ 512 < feedsL s
  · rw [if_pos h1]; simp
  · rw [if_neg h1]
    by_cases h2 : 0 < s.length ∧ (s.getLast?.map UInt8.toNat) ≠ some 10
    · rw [if_pos h2]; simp
    · rw [if_neg h2]; simp
theorem text_codes (l : List (List UInt8)) : (textL l).2 = 0 ∨ ((textL l).1 = [] ∧ ((textL l).2 = 4 ∨ (textL l).2 = 11)) := by
  unfold textL
  by_cases h1 : 512 < l.length
  · rw [if_pos h1]; simp
  · rw [if_neg h1]
    by_cases h2 : sizeGo l 0 = false
    · rw [if_pos h2]; simp
    · rw [if_neg h2]
      by_cases h3 : l.any hasFeed = true
      · rw [if_pos h3]; simp
      · rw [if_neg h3]; simp
theorem text_lines (s : List UInt8) (h : (linesL s).2 = 0) : textL (linesL s).1 = (s, 0) := by
  unfold linesL at h ⊢
  by_cases h1 : 16384 < s.length ∨ 512 < feedsL s
  · rw [if_pos h1] at h; simp at h
  · rw [if_neg h1] at h ⊢
    by_cases h2 : 0 < s.length ∧ (s.getLast?.map UInt8.toNat) ≠ some 10
    · rw [if_pos h2] at h; simp at h
    · rw [if_neg h2]
      have hj : joinFeed (lnGo s []) = s := by
        cases s with
        | nil => rfl
        | cons c r =>
          have : ((c :: r).getLast?.map UInt8.toNat) = some 10 := by
            rcases Decidable.em (((c :: r).getLast?.map UInt8.toNat) = some 10) with h3 | h3
            · exact h3
            · exact absurd ⟨by simp, h3⟩ h2
          rw [join_ln _ _ this]; rfl
      have hlen := ln_len s []
      have hfeed := ln_feed s [] rfl
      simp only
      unfold textL
      rw [if_neg (by omega), if_neg (by rw [(sizeGo_iff _ 0 (by omega)).2 (by rw [hj]; omega)]; simp), if_neg (by rw [hfeed]; simp), hj]
theorem lines_text (l : List (List UInt8)) (h : (textL l).2 = 0) : linesL (textL l).1 = (l, 0) := by
  unfold textL at h ⊢
  by_cases h1 : 512 < l.length
  · rw [if_pos h1] at h; simp at h
  · rw [if_neg h1] at h ⊢
    by_cases h2 : sizeGo l 0 = false
    · rw [if_pos h2] at h; simp at h
    · rw [if_neg h2] at h ⊢
      by_cases h3 : l.any hasFeed = true
      · rw [if_pos h3] at h; simp at h
      · rw [if_neg h3]
        have hb := ln_back l (by simpa using h3)
        have hlen := ln_len (joinFeed l) []
        rw [hb] at hlen
        have hsz := (sizeGo_iff l 0 (by omega)).1 (by simpa using h2)
        simp only
        unfold linesL
        rw [if_neg (by omega), if_neg ?_, hb]
        rintro ⟨h4, h5⟩
        cases l with
        | nil => simp [joinFeed] at h4
        | cons a r => exact h5 (jf_last (a :: r) (by simp))

theorem pt_ne (l cur : List UInt8) : ptGo l cur ≠ [] := by
  cases l with
  | nil => simp [ptGo]
  | cons c r =>
    induction r generalizing c cur with
    | nil => rw [ptGo]; split <;> simp [ptGo]
    | cons d r ih => rw [ptGo]; split
                     · simp
                     · exact ih _ _
theorem jb_cons (s : List UInt8) (l : List (List UInt8)) (h : l ≠ []) : joinBlank (s :: l) = s ++ 32 :: joinBlank l := by
  cases l with
  | nil => exact absurd rfl h
  | cons a r => rfl
theorem join_pt : ∀ (l cur : List UInt8), joinBlank (ptGo l cur) = cur ++ l
  | [], cur => by rw [ptGo]; simp [joinBlank]
  | c :: r, cur => by
    rw [ptGo]
    by_cases hc : c.toNat = 32
    · have : c = 32 := UInt8.toNat_inj.1 (by rw [hc]; rfl)
      subst this
      rw [if_pos (by decide), jb_cons _ _ (pt_ne r []), join_pt r []]; simp
    · rw [if_neg hc, join_pt r _]; simp
def noBlank (s : List UInt8) : Prop := ∀ c ∈ s, c.toNat ≠ 32
theorem word_nb {s : List UInt8} (h : wordL s = true) : noBlank s ∧ s ≠ [] := by
  rw [wordL, Bool.and_eq_true, decide_eq_true_eq] at h
  refine ⟨fun c hc => ?_, List.length_pos_iff.1 h.2⟩
  have := List.all_eq_true.1 h.1 c hc
  simp [okB] at this
  omega
theorem pt_word : ∀ (s cur : List UInt8), noBlank s → ptGo s cur = [cur ++ s]
  | [], cur, h => by rw [ptGo]; simp
  | c :: r, cur, h => by
    rw [ptGo, if_neg (h c (by simp)), pt_word r _ (fun d hd => h d (by simp [hd]))]; simp
theorem pt_join : ∀ (s r cur : List UInt8), noBlank s → ptGo (s ++ 32 :: r) cur = (cur ++ s) :: ptGo r []
  | [], r, cur, h => by rw [List.nil_append, ptGo, if_pos (by decide)]; simp
  | c :: s, r, cur, h => by
    rw [List.cons_append, ptGo, if_neg (h c (by simp)), pt_join s r _ (fun d hd => h d (by simp [hd]))]; simp
theorem pt_back : ∀ (l : List (List UInt8)), l ≠ [] → l.all wordL = true → ptGo (joinBlank l) [] = l
  | [], h, _ => absurd rfl h
  | [s], _, h => by
    rw [List.all_cons, Bool.and_eq_true] at h
    rw [joinBlank, pt_word s [] (word_nb h.1).1]; rfl
  | s :: t :: r, _, h => by
    rw [List.all_cons, Bool.and_eq_true] at h
    rw [jb_cons _ _ (by simp), pt_join s _ [] (word_nb h.1).1, pt_back (t :: r) (by simp) h.2]; rfl
theorem pt_mem_len : ∀ (l cur x : List UInt8), x ∈ ptGo l cur → x.length ≤ cur.length + l.length
  | [], cur, x, h => by rw [ptGo] at h; simp at h; subst h; simp
  | c :: r, cur, x, h => by
    rw [ptGo] at h
    by_cases hc : c.toNat = 32
    · rw [if_pos hc] at h
      rcases List.mem_cons.1 h with rfl | h
      · simp
      · have := pt_mem_len r [] x h; simp at this ⊢; omega
    · rw [if_neg hc] at h
      have := pt_mem_len r _ x h; simp at this ⊢; omega

theorem words_codes (s : List UInt8) : (wordsL s).2 = 0 ∨ ((wordsL s).1 = [] ∧ ((wordsL s).2 = 4 ∨ (wordsL s).2 = 11)) := by
  unfold wordsL
  by_cases h1 : 16384 < s.length
  · rw [if_pos h1]; simp
  · rw [if_neg h1]
    by_cases h2 : s.length = 0
    · rw [if_pos h2]; simp
    · rw [if_neg h2]
      by_cases h3 : (ptGo s []).all wordL = true
      · rw [if_pos h3]; simp
      · rw [if_neg h3]; simp
theorem line_codes (l : List (List UInt8)) : (lineL l).2 = 0 ∨ ((lineL l).1 = [] ∧ ((lineL l).2 = 4 ∨ (lineL l).2 = 11)) := by
  unfold lineL
  by_cases h1 : l.all wordL = false
  · rw [if_pos h1]; simp
  · rw [if_neg h1]
    by_cases h2 : 16384 < (joinBlank l).length
    · rw [if_pos h2]; simp
    · rw [if_neg h2]; simp
theorem line_words (s : List UInt8) (h : (wordsL s).2 = 0) : lineL (wordsL s).1 = (s, 0) ∧ ∀ x ∈ (wordsL s).1, wordsL x = ([x], 0) := by
  unfold wordsL at h ⊢
  by_cases h1 : 16384 < s.length
  · rw [if_pos h1] at h; simp at h
  · rw [if_neg h1] at h ⊢
    by_cases h2 : s.length = 0
    · rw [if_pos h2]
      have : s = [] := List.length_eq_zero_iff.1 h2
      subst this
      exact ⟨rfl, fun x hx => by simp at hx⟩
    · rw [if_neg h2] at h ⊢
      by_cases h3 : (ptGo s []).all wordL = true
      · rw [if_pos h3]
        have hj : joinBlank (ptGo s []) = s := join_pt s []
        refine ⟨?_, fun x hx => ?_⟩
        · simp only
          unfold lineL
          rw [if_neg (by rw [h3]; simp), if_neg (by rw [hj]; omega), hj]
        · have hw := List.all_eq_true.1 h3 x hx
          obtain ⟨hb, hne⟩ := word_nb hw
          have hl := pt_mem_len s [] x hx
          simp at hl
          have hp := pt_word x [] hb
          rw [List.nil_append] at hp
          rw [if_neg (by omega), if_neg (fun e => hne (List.length_eq_zero_iff.1 e)), hp, if_pos (by simp [hw])]
      · rw [if_neg h3] at h; simp at h
theorem words_line (l : List (List UInt8)) (h : (lineL l).2 = 0) : wordsL (lineL l).1 = (l, 0) := by
  unfold lineL at h ⊢
  by_cases h1 : l.all wordL = false
  · rw [if_pos h1] at h; simp at h
  · rw [if_neg h1] at h ⊢
    by_cases h2 : 16384 < (joinBlank l).length
    · rw [if_pos h2] at h; simp at h
    · rw [if_neg h2]
      have hall : l.all wordL = true := by simpa using h1
      simp only
      cases l with
      | nil => rfl
      | cons a r =>
        have hp := pt_back (a :: r) (by simp) hall
        have hne : (joinBlank (a :: r)).length ≠ 0 := by
          intro e
          rw [List.length_eq_zero_iff.1 e] at hp
          rw [List.all_cons, Bool.and_eq_true] at hall
          have := (word_nb hall.1).2
          simp [ptGo] at hp
          exact this (by first | exact hp.1 | exact hp.1.symm)
        unfold wordsL
        rw [if_neg h2, if_neg hne, hp, if_pos hall]
end Go.Proofs.YtefkhjbgkaknmaaDoor
