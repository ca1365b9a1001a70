/- Ballots: the law BallotOrder, walked. -/
import Derived.Test.YtnhfbabenifbkaaGreatDoorWl1m
set_option maxRecDepth 100000
set_option maxHeartbeats 4000000
set_option linter.unusedVariables false
set_option linter.unusedSimpArgs false
namespace Go.Proofs.YtnhfbabenifbkaaGreatDoor
theorem btf : (true == false) = false := rfl
theorem bft : (false == true) = false := rfl
theorem ahead_irr : ∀ l : List Int, aheadL l l = false
  | [] => rfl
  | a :: r => by unfold aheadL; rw [if_pos rfl]; exact ahead_irr r
theorem ahead_asym : ∀ l m : List Int, aheadL l m = true → aheadL m l = false
  | [], [], h => by cases h
  | [], _ :: _, _ => rfl
  | _ :: _, [], h => by cases h
  | a :: r, b :: s, h => by
    unfold aheadL at h ⊢
    by_cases e : a = b
    · rw [if_pos e] at h; rw [if_pos e.symm]; exact ahead_asym r s h
    · rw [if_neg e] at h; rw [if_neg (Ne.symm e)]
      have := of_decide_eq_true h
      exact decide_eq_false (by omega)
theorem ahead_tot : ∀ l m : List Int, aheadL l m = false → aheadL m l = false → l = m
  | [], [], _, _ => rfl
  | [], _ :: _, h, _ => by cases h
  | _ :: _, [], _, h => by cases h
  | a :: r, b :: s, h, h2 => by
    unfold aheadL at h h2
    by_cases e : a = b
    · rw [if_pos e] at h; rw [if_pos e.symm] at h2; rw [e, ahead_tot r s h h2]
    · rw [if_neg e] at h; rw [if_neg (Ne.symm e)] at h2
      have := of_decide_eq_false h
      have := of_decide_eq_false h2
      omega
theorem ahead_trans : ∀ l m n : List Int, aheadL l m = true → aheadL m n = true → aheadL l n = true
  | [], [], _, h, _ => by cases h
  | [], _ :: _, [], _, h => by cases h
  | [], _ :: _, _ :: _, _, _ => rfl
  | _ :: _, [], _, h, _ => by cases h
  | _ :: _, _ :: _, [], _, h => by cases h
  | a :: r, b :: s, c :: t, h, h2 => by
    unfold aheadL at h h2 ⊢
    by_cases e : a = b
    · rw [if_pos e] at h
      subst e
      by_cases e2 : a = c
      · rw [if_pos e2] at h2; rw [if_pos e2]; exact ahead_trans r s t h h2
      · rw [if_neg e2] at h2 ⊢; exact h2
    · rw [if_neg e] at h
      have h1 := of_decide_eq_true h
      by_cases e2 : b = c
      · subst e2; rw [if_neg e]; exact h
      · rw [if_neg e2] at h2
        have h3 := of_decide_eq_true h2
        rw [if_neg (by omega)]
        exact decide_eq_true (by omega)
theorem less_irr (k : Int) (l : List Int) : lessL k l k l = false := by simp [lessL, ahead_irr]
theorem less_asym {k j : Int} {l m : List Int} (h : lessL k l j m = true) : lessL j m k l = false := by
  simp only [lessL, Bool.or_eq_true, Bool.and_eq_true, decide_eq_true_eq] at h
  rcases h with h | ⟨rfl, h⟩
  · simp only [lessL, Bool.or_eq_false_iff, Bool.and_eq_false_iff, decide_eq_false_iff_not]; exact ⟨by omega, .inl (by omega)⟩
  · simp [lessL, ahead_asym l m h]
theorem less_tot (k j : Int) (l m : List Int) : (lessL k l j m || lessL j m k l) = !sameL k l j m := by
  by_cases e : k = j
  · subst e
    by_cases e2 : l = m
    · subst e2; simp [lessL, sameL, ahead_irr]
    · have : (aheadL l m || aheadL m l) = true := by
        cases h1 : aheadL l m with
        | true => rfl
        | false =>
          cases h2 : aheadL m l with
          | true => rfl
          | false => exact absurd (ahead_tot l m h1 h2) e2
      simp only [lessL, sameL, e2, and_false, decide_false, Bool.not_false, decide_true, Bool.true_and, Int.lt_irrefl, Bool.false_or]
      exact this
  · by_cases h : k < j
    · simp [lessL, sameL, e, h]
    · have : j < k := by omega
      simp [lessL, sameL, e, this]
theorem less_trans {k j i : Int} {l m n : List Int} (h : lessL k l j m = true) (h2 : lessL j m i n = true) : lessL k l i n = true := by
  simp only [lessL, Bool.or_eq_true, Bool.and_eq_true, decide_eq_true_eq] at h h2 ⊢
  rcases h with h | ⟨rfl, h⟩
  · rcases h2 with h2 | ⟨rfl, _⟩
    · left; omega
    · left; exact h
  · rcases h2 with h2 | ⟨rfl, h2⟩
    · left; exact h2
    · right; exact ⟨rfl, ahead_trans l m n h h2⟩
variable {L : Lib} (hL : L.T = tab.get)
include hL
theorem order_v (hw : VFn L 10 [] (.bool true)) (k j i : Int) (l m n : List Int) (hl : l.length ≤ 17592186043904) (hm : m.length ≤ 17592186043904) (hn : n.length ≤ 17592186043904) : VFn L 7 [(.agg [.int .u8 k, tl mrow 1 (l) none]), (.agg [.int .u8 j, tl mrow 1 (m) none]), (.agg [.int .u8 i, tl mrow 1 (n) none])] (.bool true) := by
  have hl2 : l.length < 4611686018427387904 := by omega
  have hm2 : m.length < 4611686018427387904 := by omega
  have hn2 : n.length < 4611686018427387904 := by omega
  have s1 : (1 : Nat) = 1 ∨ l = [] := .inl rfl
  have s2 : (1 : Nat) = 1 ∨ m = [] := .inl rfl
  have s3 : (1 : Nat) = 1 ∨ n = [] := .inl rfl
  have ht := less_tot k j l m
  have hi := less_irr k l
  refine VFn.start (F := T7.1) (by rw [hL]; rfl) rfl rfl rfl ?_
  (repeat' (first | refine wSeq rfl ?_ | refine wBlock rfl ?_ | refine wSkip rfl ?_ | refine wExit rfl ?_ | refine wRet rfl ?_ | refine wCondT rfl rfl ?_ | refine wCondF rfl rfl ?_ | refine wOpsP rfl ?_ | refine wDraw rfl rfl ?_ | simp only [seval, push_cast, ↓reduceIte, ↓bP_some, ↓aP_true, reduceCtorEq]))
  refine opsP_bor [3] rfl (vs' := [tl brw 2 [(k, l), (j, m), (i, n)] (some 3)]) rfl (great_v hL _ _ (show 3 < 4611686018427387904 by decide)) rfl ?_
  cases hg : ([(k, l), (j, m), (i, n)].any fun b => decide (60 < b.2.length)) with
  | true =>
    (repeat' (first | refine wSeq rfl ?_ | refine wBlock rfl ?_ | refine wSkip rfl ?_ | refine wExit rfl ?_ | refine wRet rfl ?_ | refine wCondT rfl rfl ?_ | refine wCondF rfl rfl ?_ | refine wOps rfl ?_ | refine wDraw rfl rfl ?_ | refine opsV_call rfl rfl (hw) ?_ | simp only [seval, push_cast, ↓reduceIte, ↓bP_some, ↓aP_true, reduceCtorEq]))
    exact FnQ.ret rfl rfl
  | false =>
    cases h1 : lessL k l j m with
    | true =>
      have h2 := less_asym h1
      have h3 : sameL k l j m = false := by rw [h1, h2] at ht; simpa using ht.symm
      cases h4 : lessL j m i n with
      | true =>
        have h5 := less_trans h1 h4
        (repeat' (first | refine wSeq rfl ?_ | refine wBlock rfl ?_ | refine wSkip rfl ?_ | refine wExit rfl ?_ | refine wRet rfl ?_ | refine wCondT rfl rfl ?_ | refine wCondF rfl rfl ?_ | refine wOps rfl ?_ | refine wDraw rfl rfl ?_ | refine opsV_call rfl rfl (hw) ?_ | refine opsV_call rfl rfl (same_v hL _ _ _ _ _ _ _ _ s1 s2 hl2 hm2) ?_ | refine opsV_call rfl rfl (less_b_v hL _ _ _ _ _ _ _ _ (.inl rfl) (.inl rfl) (by assumption) (by assumption)) ?_ | simp only [seval, push_cast, ↓reduceIte, ↓bP_some, ↓aP_true, reduceCtorEq, h1, h2, h3, h4, h5, hi, beq_self_eq_true, btf, bft]))
        exact FnQ.ret rfl rfl
      | false =>
        (repeat' (first | refine wSeq rfl ?_ | refine wBlock rfl ?_ | refine wSkip rfl ?_ | refine wExit rfl ?_ | refine wRet rfl ?_ | refine wCondT rfl rfl ?_ | refine wCondF rfl rfl ?_ | refine wOps rfl ?_ | refine wDraw rfl rfl ?_ | refine opsV_call rfl rfl (hw) ?_ | refine opsV_call rfl rfl (same_v hL _ _ _ _ _ _ _ _ s1 s2 hl2 hm2) ?_ | refine opsV_call rfl rfl (less_b_v hL _ _ _ _ _ _ _ _ (.inl rfl) (.inl rfl) (by assumption) (by assumption)) ?_ | simp only [seval, push_cast, ↓reduceIte, ↓bP_some, ↓aP_true, reduceCtorEq, h1, h2, h3, h4, hi, beq_self_eq_true, btf, bft]))
        exact FnQ.ret rfl rfl
    | false =>
      cases h2 : lessL j m k l with
      | true =>
        have h3 : sameL k l j m = false := by rw [h1, h2] at ht; simpa using ht.symm
        (repeat' (first | refine wSeq rfl ?_ | refine wBlock rfl ?_ | refine wSkip rfl ?_ | refine wExit rfl ?_ | refine wRet rfl ?_ | refine wCondT rfl rfl ?_ | refine wCondF rfl rfl ?_ | refine wOps rfl ?_ | refine wDraw rfl rfl ?_ | refine opsV_call rfl rfl (hw) ?_ | refine opsV_call rfl rfl (same_v hL _ _ _ _ _ _ _ _ s1 s2 hl2 hm2) ?_ | refine opsV_call rfl rfl (less_b_v hL _ _ _ _ _ _ _ _ (.inl rfl) (.inl rfl) (by assumption) (by assumption)) ?_ | simp only [seval, push_cast, ↓reduceIte, ↓bP_some, ↓aP_true, reduceCtorEq, h1, h2, h3, hi, beq_self_eq_true, btf, bft]))
        exact FnQ.ret rfl rfl
      | false =>
        have h3 : sameL k l j m = true := by rw [h1, h2] at ht; simpa using ht.symm
        (repeat' (first | refine wSeq rfl ?_ | refine wBlock rfl ?_ | refine wSkip rfl ?_ | refine wExit rfl ?_ | refine wRet rfl ?_ | refine wCondT rfl rfl ?_ | refine wCondF rfl rfl ?_ | refine wOps rfl ?_ | refine wDraw rfl rfl ?_ | refine opsV_call rfl rfl (hw) ?_ | refine opsV_call rfl rfl (same_v hL _ _ _ _ _ _ _ _ s1 s2 hl2 hm2) ?_ | refine opsV_call rfl rfl (less_b_v hL _ _ _ _ _ _ _ _ (.inl rfl) (.inl rfl) (by assumption) (by assumption)) ?_ | simp only [seval, push_cast, ↓reduceIte, ↓bP_some, ↓aP_true, reduceCtorEq, h1, h2, h3, hi, beq_self_eq_true, btf, bft]))
        exact FnQ.ret rfl rfl
omit hL
theorem order_al (k : Int) (l : List Int) (hk : 0 ≤ k ∧ k ≤ 255) (hl : l.length ≤ 17592186043904) (hb : ∀ n ∈ l, -9223372036854775808 ≤ n ∧ n ≤ 9223372036854775807) (j : Int) (m : List Int) (hj : 0 ≤ j ∧ j ≤ 255) (hm : m.length ≤ 17592186043904) (hb2 : ∀ n ∈ m, -9223372036854775808 ≤ n ∧ n ≤ 9223372036854775807) (i : Int) (n : List Int) (hi : 0 ≤ i ∧ i ≤ 255) (hn : n.length ≤ 17592186043904) (hb3 : ∀ x ∈ n, -9223372036854775808 ≤ x ∧ x ≤ 9223372036854775807) : VFn LL 7 [(.agg [.int .u8 k, tl mrow 1 (l) none]), (.agg [.int .u8 j, tl mrow 1 (m) none]), (.agg [.int .u8 i, tl mrow 1 (n) none])] (.bool true) :=
  order_v rfl wakes_v k j i l m n hl hm hn
end Go.Proofs.YtnhfbabenifbkaaGreatDoor
