/- Ballots: the reference, walked. -/
import Derived.Test.YtnhfbabenifbkaaGreatDoorWg1
import Derived.Test.YtnhfbabenifbkaaGreatDoorBPl5
set_option maxRecDepth 100000
set_option maxHeartbeats 4000000
set_option linter.unusedVariables false
set_option linter.unusedSimpArgs false
namespace Go.Proofs.YtnhfbabenifbkaaGreatDoor
variable {L : Lib} (hL : L.T = tab.get)
include hL
theorem rplace_v (s : Nat) (l : List Int) (c : Option Nat) (x : Int) (hs : s = 1 ∨ l = []) (hl : l.length < 4611686018427387904) : VFn L 41 [tl mrow s l c, .int .i64 x] (.int .i64 (placeL l x)) := by
  refine VFn.start (F := T41.1) (by rw [hL]; rfl) rfl rfl rfl ?_
  (repeat' (first | refine wSeq rfl ?_ | refine wBlock rfl ?_ | refine wSkip rfl ?_ | refine wExit rfl ?_ | refine wRet rfl ?_ | refine wCondT rfl rfl ?_ | refine wCondF rfl rfl ?_ | refine wOps rfl ?_ | refine wDraw rfl rfl ?_ | simp only [seval, push_cast, ↓reduceIte, ↓bP_some, ↓aP_true, reduceCtorEq]))
  refine wCnt rfl 5 l.length (fun _ => []) (fun j => placeL l x = placeGo l x j) rfl (place_start l x) ?_ ?_
  · intro j hj hI
    obtain ⟨a, ha, _⟩ := get_of hj
    obtain rfl := size_of hs hj
    by_cases e : a = x
    · subst e
      (repeat' (first | refine wSeq rfl ?_ | refine wBlock rfl ?_ | refine wSkip rfl ?_ | refine wExit rfl ?_ | refine wRet rfl ?_ | refine wCondT rfl rfl ?_ | refine wCondF rfl rfl ?_ | refine wOps rfl ?_ | refine wDraw rfl rfl ?_ | simp only [seval, push_cast, ↓reduceIte, ↓bP_some, ↓aP_true, reduceCtorEq, iaQ_tl hj, ha, hj]))
      rw [hI, place_hit ha rfl]
      exact FnQ.ret rfl rfl
    · (repeat' (first | refine wSeq rfl ?_ | refine wBlock rfl ?_ | refine wSkip rfl ?_ | refine wExit rfl ?_ | refine wRet rfl ?_ | refine wCondT rfl rfl ?_ | refine wCondF rfl rfl ?_ | refine wOps rfl ?_ | refine wDraw rfl rfl ?_ | simp only [seval, push_cast, ↓reduceIte, ↓bP_some, ↓aP_true, reduceCtorEq, iaQ_tl hj, ha, hj, ne_both e, wrap_succ (show j < 9223372036854775807 by omega)]))
      exact qR_n rfl rfl (by rw [hI, place_miss ha e])
  · intro hI
    (repeat' (first | refine wSeq rfl ?_ | refine wBlock rfl ?_ | refine wSkip rfl ?_ | refine wExit rfl ?_ | refine wRet rfl ?_ | refine wCondT rfl rfl ?_ | refine wCondF rfl rfl ?_ | refine wOps rfl ?_ | refine wDraw rfl rfl ?_ | simp only [seval, push_cast, ↓reduceIte, ↓bP_some, ↓aP_true, reduceCtorEq]))
    rw [hI, place_end (by omega)]
    exact FnQ.ret rfl rfl
theorem ramong_v (k : Int) (s : Nat) (l : List Int) (c : Option Nat) : VFn L 37 [(.agg [.int .u8 k, tl mrow s (l) c])] (.int .i64 (amongL k l)) := by
  refine VFn.start (F := T37.1) (by rw [hL]; rfl) rfl rfl rfl ?_
  by_cases h : k = 3
  · subst h
    (repeat' (first | refine wSeq rfl ?_ | refine wBlock rfl ?_ | refine wSkip rfl ?_ | refine wExit rfl ?_ | refine wRet rfl ?_ | refine wCondT rfl rfl ?_ | refine wCondF rfl rfl ?_ | refine wOps rfl ?_ | refine wDraw rfl rfl ?_ | simp only [seval, push_cast, ↓reduceIte, ↓bP_some, ↓aP_true, reduceCtorEq]))
    exact FnQ.ret rfl rfl
  · (repeat' (first | refine wSeq rfl ?_ | refine wBlock rfl ?_ | refine wSkip rfl ?_ | refine wExit rfl ?_ | refine wRet rfl ?_ | refine wCondT rfl rfl ?_ | refine wCondF rfl rfl ?_ | refine wOps rfl ?_ | refine wDraw rfl rfl ?_ | simp only [seval, push_cast, ↓reduceIte, ↓bP_some, ↓aP_true, reduceCtorEq, h]))
    rw [show amongL k l = 10 from if_neg h]
    exact FnQ.ret rfl rfl
theorem rfine_v (k cands : Int) (s : Nat) (l : List Int) (c : Option Nat) (hs : s = 1 ∨ l = []) (hl : l.length < 4611686018427387904) : VFn L 40 [(.agg [.int .u8 k, tl mrow s (l) c]), .int .i64 cands] (.bool (fineL k l cands)) := by
  refine VFn.start (F := T40.1) (by rw [hL]; rfl) rfl rfl rfl ?_
  by_cases h3 : k = 3
  · subst h3
    (repeat' (first | refine wSeq rfl ?_ | refine wBlock rfl ?_ | refine wSkip rfl ?_ | refine wExit rfl ?_ | refine wRet rfl ?_ | refine wCondT rfl rfl ?_ | refine wCondF rfl rfl ?_ | refine wOps rfl ?_ | refine wDraw rfl rfl ?_ | simp only [seval, push_cast, ↓reduceIte, ↓bP_some, ↓aP_true, reduceCtorEq]))
    refine wCnt rfl 6 l.length (fun _ => []) (fun j => Fine3 l j) rfl (fine3_zero l) ?_ ?_
    · intro j hj hI
      obtain ⟨x, hx, _⟩ := get_of hj
      obtain rfl := size_of hs hj
      by_cases q1 : x < 0
      · (repeat' (first | refine wSeq rfl ?_ | refine wBlock rfl ?_ | refine wSkip rfl ?_ | refine wExit rfl ?_ | refine wRet rfl ?_ | refine wCondT rfl rfl ?_ | refine wCondF rfl rfl ?_ | refine wOps rfl ?_ | refine wDraw rfl rfl ?_ | simp only [seval, push_cast, ↓reduceIte, ↓bP_some, ↓aP_true, reduceCtorEq, iaQ_tl hj, hx, hj, q1]))
        rw [fine3_out hx (by omega)]
        exact FnQ.ret rfl rfl
      by_cases q2 : 10 < x
      · (repeat' (first | refine wSeq rfl ?_ | refine wBlock rfl ?_ | refine wSkip rfl ?_ | refine wExit rfl ?_ | refine wRet rfl ?_ | refine wCondT rfl rfl ?_ | refine wCondF rfl rfl ?_ | refine wOps rfl ?_ | refine wDraw rfl rfl ?_ | simp only [seval, push_cast, ↓reduceIte, ↓bP_some, ↓aP_true, reduceCtorEq, iaQ_tl hj, hx, hj, q1, q2]))
        rw [fine3_out hx (by omega)]
        exact FnQ.ret rfl rfl
      · (repeat' (first | refine wSeq rfl ?_ | refine wBlock rfl ?_ | refine wSkip rfl ?_ | refine wExit rfl ?_ | refine wRet rfl ?_ | refine wCondT rfl rfl ?_ | refine wCondF rfl rfl ?_ | refine wOps rfl ?_ | refine wDraw rfl rfl ?_ | simp only [seval, push_cast, ↓reduceIte, ↓bP_some, ↓aP_true, reduceCtorEq, iaQ_tl hj, hx, hj, q1, q2, wrap_succ (show j < 9223372036854775807 by omega)]))
        exact qR_n rfl rfl (fine3_step hI hx (by omega) (by omega))
    · intro hI
      (repeat' (first | refine wSeq rfl ?_ | refine wBlock rfl ?_ | refine wSkip rfl ?_ | refine wExit rfl ?_ | refine wRet rfl ?_ | refine wCondT rfl rfl ?_ | refine wCondF rfl rfl ?_ | refine wOps rfl ?_ | refine wDraw rfl rfl ?_ | simp only [seval, push_cast, ↓reduceIte, ↓bP_some, ↓aP_true, reduceCtorEq]))
      rw [fine3_ok hI (by omega)]
      exact FnQ.ret rfl rfl
  · by_cases h1 : k = 1
    · subst h1
      (repeat' (first | refine wSeq rfl ?_ | refine wBlock rfl ?_ | refine wSkip rfl ?_ | refine wExit rfl ?_ | refine wRet rfl ?_ | refine wCondT rfl rfl ?_ | refine wCondF rfl rfl ?_ | refine wOps rfl ?_ | refine wDraw rfl rfl ?_ | simp only [seval, push_cast, ↓reduceIte, ↓bP_some, ↓aP_true, reduceCtorEq]))
      refine wCnt rfl 7 l.length (fun _ => []) (fun j => Fine1 l cands j) rfl (fine1_zero l cands) ?_ ?_
      · intro j hj hI
        obtain ⟨x, hx, _⟩ := get_of hj
        obtain rfl := size_of hs hj
        by_cases q1 : x < 0
        · (repeat' (first | refine wSeq rfl ?_ | refine wBlock rfl ?_ | refine wSkip rfl ?_ | refine wExit rfl ?_ | refine wRet rfl ?_ | refine wCondT rfl rfl ?_ | refine wCondF rfl rfl ?_ | refine wOps rfl ?_ | refine wDraw rfl rfl ?_ | simp only [seval, push_cast, ↓reduceIte, ↓bP_some, ↓aP_true, reduceCtorEq, iaQ_tl hj, hx, hj, q1]))
          rw [fine1_out hx (by omega)]
          exact FnQ.ret rfl rfl
        by_cases q2 : cands ≤ x
        · (repeat' (first | refine wSeq rfl ?_ | refine wBlock rfl ?_ | refine wSkip rfl ?_ | refine wExit rfl ?_ | refine wRet rfl ?_ | refine wCondT rfl rfl ?_ | refine wCondF rfl rfl ?_ | refine wOps rfl ?_ | refine wDraw rfl rfl ?_ | simp only [seval, push_cast, ↓reduceIte, ↓bP_some, ↓aP_true, reduceCtorEq, iaQ_tl hj, hx, hj, q1, q2]))
          rw [fine1_out hx (by omega)]
          exact FnQ.ret rfl rfl
        have hlj : (l.take j).length < 4611686018427387904 := by rw [List.length_take]; omega
        by_cases q3 : 0 ≤ placeL (l.take j) x
        · by_cases q4 : 0 < j
          all_goals
            (repeat' (first | refine wSeq rfl ?_ | refine wBlock rfl ?_ | refine wSkip rfl ?_ | refine wExit rfl ?_ | refine wRet rfl ?_ | refine wCondT rfl rfl ?_ | refine wCondF rfl rfl ?_ | refine wOps rfl ?_ | refine wDraw rfl rfl ?_ | refine opsV_call rfl rfl (rplace_v hL 1 _ _ _ (.inl rfl) hlj) ?_ | simp only [seval, push_cast, ↓reduceIte, ↓bP_some, ↓aP_true, reduceCtorEq, iaQ_tl hj, hx, hj, q1, q2, q3, q4, Int.natCast_pos, sliceV_hi one_ok (Nat.le_of_lt hj)]))
            rw [fine1_dup hx q3]
            exact FnQ.ret rfl rfl
        · by_cases q4 : 0 < j
          all_goals
            (repeat' (first | refine wSeq rfl ?_ | refine wBlock rfl ?_ | refine wSkip rfl ?_ | refine wExit rfl ?_ | refine wRet rfl ?_ | refine wCondT rfl rfl ?_ | refine wCondF rfl rfl ?_ | refine wOps rfl ?_ | refine wDraw rfl rfl ?_ | refine opsV_call rfl rfl (rplace_v hL 1 _ _ _ (.inl rfl) hlj) ?_ | simp only [seval, push_cast, ↓reduceIte, ↓bP_some, ↓aP_true, reduceCtorEq, iaQ_tl hj, hx, hj, q1, q2, q3, q4, Int.natCast_pos, wrap_succ (show j < 9223372036854775807 by omega), sliceV_hi one_ok (Nat.le_of_lt hj)]))
            exact qR_n rfl rfl (fine1_step hI hx (by omega) (by omega) (by omega))
      · intro hI
        (repeat' (first | refine wSeq rfl ?_ | refine wBlock rfl ?_ | refine wSkip rfl ?_ | refine wExit rfl ?_ | refine wRet rfl ?_ | refine wCondT rfl rfl ?_ | refine wCondF rfl rfl ?_ | refine wOps rfl ?_ | refine wDraw rfl rfl ?_ | simp only [seval, push_cast, ↓reduceIte, ↓bP_some, ↓aP_true, reduceCtorEq]))
        rw [fine1_ok hI (by omega)]
        exact FnQ.ret rfl rfl
    · by_cases h2 : k = 2
      · subst h2
        (repeat' (first | refine wSeq rfl ?_ | refine wBlock rfl ?_ | refine wSkip rfl ?_ | refine wExit rfl ?_ | refine wRet rfl ?_ | refine wCondT rfl rfl ?_ | refine wCondF rfl rfl ?_ | refine wOps rfl ?_ | refine wDraw rfl rfl ?_ | simp only [seval, push_cast, ↓reduceIte, ↓bP_some, ↓aP_true, reduceCtorEq]))
        refine wCnt rfl 7 l.length (fun _ => []) (fun j => Fine2 l cands j) rfl (fine2_zero l cands) ?_ ?_
        · intro j hj hI
          obtain ⟨x, hx, _⟩ := get_of hj
          obtain rfl := size_of hs hj
          by_cases q1 : x < 0
          · (repeat' (first | refine wSeq rfl ?_ | refine wBlock rfl ?_ | refine wSkip rfl ?_ | refine wExit rfl ?_ | refine wRet rfl ?_ | refine wCondT rfl rfl ?_ | refine wCondF rfl rfl ?_ | refine wOps rfl ?_ | refine wDraw rfl rfl ?_ | simp only [seval, push_cast, ↓reduceIte, ↓bP_some, ↓aP_true, reduceCtorEq, iaQ_tl hj, hx, hj, q1]))
            rw [fine2_out hx (by omega)]
            exact FnQ.ret rfl rfl
          by_cases q2 : cands ≤ x
          · (repeat' (first | refine wSeq rfl ?_ | refine wBlock rfl ?_ | refine wSkip rfl ?_ | refine wExit rfl ?_ | refine wRet rfl ?_ | refine wCondT rfl rfl ?_ | refine wCondF rfl rfl ?_ | refine wOps rfl ?_ | refine wDraw rfl rfl ?_ | simp only [seval, push_cast, ↓reduceIte, ↓bP_some, ↓aP_true, reduceCtorEq, iaQ_tl hj, hx, hj, q1, q2]))
            rw [fine2_out hx (by omega)]
            exact FnQ.ret rfl rfl
          have hlj : (l.take j).length < 4611686018427387904 := by rw [List.length_take]; omega
          by_cases q4 : 0 < j
          · obtain ⟨i, rfl⟩ : ∃ i, j = i + 1 := ⟨j - 1, by omega⟩
            have hi : i < l.length := by omega
            obtain ⟨y, hy, _⟩ := get_of hi
            have e1 : IntKind.i64.wrap (i : Int) = i := wrap_nat (by omega)
            have e2 : (0 : Int) < (i : Int) + 1 := by omega
            have e3 : IntKind.i64.wrap ((i : Int) + 1 + 1) = (i : Int) + 1 + 1 := wrap_succ (j := i + 1) (by omega)
            have e4 : (i : Int) + 1 < l.length := by omega
            by_cases q5 : x ≤ y
            · (repeat' (first | refine wSeq rfl ?_ | refine wBlock rfl ?_ | refine wSkip rfl ?_ | refine wExit rfl ?_ | refine wRet rfl ?_ | refine wCondT rfl rfl ?_ | refine wCondF rfl rfl ?_ | refine wOps rfl ?_ | refine wDraw rfl rfl ?_ | simp only [seval, push_cast, ↓reduceIte, ↓bP_some, ↓aP_true, reduceCtorEq, iaQ_tl hj, iaQ_tl hi, hx, hy, hj, q1, q2, q5, e1, e2, e4]))
              rw [fine2_low hy hx q5]
              exact FnQ.ret rfl rfl
            · have hab := fine2_above (x := x) hI hy (by omega)
              have hno := fine2_none (x := x) hab
              have q3 : ¬ 0 ≤ placeL (l.take (i + 1)) x := by omega
              (repeat' (first | refine wSeq rfl ?_ | refine wBlock rfl ?_ | refine wSkip rfl ?_ | refine wExit rfl ?_ | refine wRet rfl ?_ | refine wCondT rfl rfl ?_ | refine wCondF rfl rfl ?_ | refine wOps rfl ?_ | refine wDraw rfl rfl ?_ | refine opsV_call rfl rfl (rplace_v hL 1 _ _ _ (.inl rfl) hlj) ?_ | simp only [seval, push_cast, ↓reduceIte, ↓bP_some, ↓aP_true, reduceCtorEq, iaQ_tl hj, iaQ_tl hi, hx, hy, hj, q1, q2, q3, q5, e1, e2, e3, e4, sliceV_hi one_ok (Nat.le_of_lt hj)]))
              exact qR_n rfl rfl (fine2_step hI hx (by omega) (by omega) hab)
          · obtain rfl : j = 0 := by omega
            have q3 : ¬ 0 ≤ placeL (l.take 0) x := by simp [placeL]
            have e2 : (0 : Int) < l.length := by omega
            (repeat' (first | refine wSeq rfl ?_ | refine wBlock rfl ?_ | refine wSkip rfl ?_ | refine wExit rfl ?_ | refine wRet rfl ?_ | refine wCondT rfl rfl ?_ | refine wCondF rfl rfl ?_ | refine wOps rfl ?_ | refine wDraw rfl rfl ?_ | refine opsV_call rfl rfl (rplace_v hL 1 _ _ _ (.inl rfl) hlj) ?_ | simp only [seval, push_cast, ↓reduceIte, ↓bP_some, ↓aP_true, reduceCtorEq, iaQ_tl hj, hx, hj, q1, q2, q3, e2, sliceV_hi one_ok (Nat.le_of_lt hj)]))
            exact qR_n rfl rfl (fine2_step hI hx (by omega) (by omega) (by simp))
        · intro hI
          (repeat' (first | refine wSeq rfl ?_ | refine wBlock rfl ?_ | refine wSkip rfl ?_ | refine wExit rfl ?_ | refine wRet rfl ?_ | refine wCondT rfl rfl ?_ | refine wCondF rfl rfl ?_ | refine wOps rfl ?_ | refine wDraw rfl rfl ?_ | simp only [seval, push_cast, ↓reduceIte, ↓bP_some, ↓aP_true, reduceCtorEq]))
          rw [fine2_ok hI (by omega)]
          exact FnQ.ret rfl rfl
      · (repeat' (first | refine wSeq rfl ?_ | refine wBlock rfl ?_ | refine wSkip rfl ?_ | refine wExit rfl ?_ | refine wRet rfl ?_ | refine wCondT rfl rfl ?_ | refine wCondF rfl rfl ?_ | refine wOps rfl ?_ | refine wDraw rfl rfl ?_ | simp only [seval, push_cast, ↓reduceIte, ↓bP_some, ↓aP_true, reduceCtorEq, h1, h2, h3]))
        rw [fine_else h1 h2 h3]
        exact FnQ.ret rfl rfl
theorem rcheck_v (k cands : Int) (s : Nat) (l : List Int) (c : Option Nat) (hs : s = 1 ∨ l = []) (hl : l.length < 4611686018427387904) : VFn L 14 [(.agg [.int .u8 k, tl mrow s (l) c]), .int .i64 cands] (.int .i64 (checkL k l cands)) := by
  refine VFn.start (F := T14.1) (by rw [hL]; rfl) rfl rfl rfl ?_
  by_cases ha : cands < 1
  · (repeat' (first | refine wSeq rfl ?_ | refine wBlock rfl ?_ | refine wSkip rfl ?_ | refine wExit rfl ?_ | refine wRet rfl ?_ | refine wCondT rfl rfl ?_ | refine wCondF rfl rfl ?_ | refine wOps rfl ?_ | refine wDraw rfl rfl ?_ | simp only [seval, push_cast, ↓reduceIte, ↓bP_some, ↓aP_true, reduceCtorEq, ha]))
    rw [show checkL k l cands = 2 by unfold checkL; rw [if_pos (.inl ha)]]
    exact FnQ.ret rfl rfl
  by_cases hb : 10 < cands
  · (repeat' (first | refine wSeq rfl ?_ | refine wBlock rfl ?_ | refine wSkip rfl ?_ | refine wExit rfl ?_ | refine wRet rfl ?_ | refine wCondT rfl rfl ?_ | refine wCondF rfl rfl ?_ | refine wOps rfl ?_ | refine wDraw rfl rfl ?_ | simp only [seval, push_cast, ↓reduceIte, ↓bP_some, ↓aP_true, reduceCtorEq, ha, hb]))
    rw [show checkL k l cands = 2 by unfold checkL; rw [if_pos (.inr hb)]]
    exact FnQ.ret rfl rfl
  cases hf : fineL k l cands with
  | false =>
    (repeat' (first | refine wSeq rfl ?_ | refine wBlock rfl ?_ | refine wSkip rfl ?_ | refine wExit rfl ?_ | refine wRet rfl ?_ | refine wCondT rfl rfl ?_ | refine wCondF rfl rfl ?_ | refine wOps rfl ?_ | refine wDraw rfl rfl ?_ | refine opsV_call rfl rfl (rfine_v hL _ _ _ _ _ hs hl) ?_ | simp only [seval, push_cast, ↓reduceIte, ↓bP_some, ↓aP_true, reduceCtorEq, ha, hb, hf]))
    rw [show checkL k l cands = 8 by unfold checkL; rw [if_neg (by omega), if_pos hf]]
    exact FnQ.ret rfl rfl
  | true =>
    (repeat' (first | refine wSeq rfl ?_ | refine wBlock rfl ?_ | refine wSkip rfl ?_ | refine wExit rfl ?_ | refine wRet rfl ?_ | refine wCondT rfl rfl ?_ | refine wCondF rfl rfl ?_ | refine wOps rfl ?_ | refine wDraw rfl rfl ?_ | refine opsV_call rfl rfl (rfine_v hL _ _ _ _ _ hs hl) ?_ | simp only [seval, push_cast, ↓reduceIte, ↓bP_some, ↓aP_true, reduceCtorEq, ha, hb, hf]))
    rw [show checkL k l cands = 0 by unfold checkL; rw [if_neg (by omega), if_neg (by rw [hf]; simp)]]
    exact FnQ.ret rfl rfl
theorem rints_v (s t : Nat) (l m : List Int) (c d : Option Nat) (hs : s = 1 ∨ l = []) (ht : t = 1 ∨ m = []) (hl : l.length < 4611686018427387904) (hm : m.length < 4611686018427387904) : VFn L 29 [tl mrow s l c, tl mrow t m d] (.bool (decide (l = m))) := by
  refine VFn.start (F := T29.1) (by rw [hL]; rfl) rfl rfl rfl ?_
  by_cases hlen : l.length = m.length
  · (repeat' (first | refine wSeq rfl ?_ | refine wBlock rfl ?_ | refine wSkip rfl ?_ | refine wExit rfl ?_ | refine wRet rfl ?_ | refine wCondT rfl rfl ?_ | refine wCondF rfl rfl ?_ | refine wOps rfl ?_ | refine wDraw rfl rfl ?_ | simp only [seval, push_cast, ↓reduceIte, ↓bP_some, ↓aP_true, reduceCtorEq, hlen]))
    refine wCnt rfl 5 l.length (fun _ => []) (fun j => l.take j = m.take j) rfl rfl ?_ ?_
    · intro j hj hI
      obtain ⟨a, ha, _⟩ := get_of hj
      obtain ⟨b, hb, _⟩ := get_of (show j < m.length by omega)
      obtain rfl := size_of hs hj
      obtain rfl := size_of ht (show j < m.length by omega)
      by_cases e : a = b
      · subst e
        (repeat' (first | refine wSeq rfl ?_ | refine wBlock rfl ?_ | refine wSkip rfl ?_ | refine wExit rfl ?_ | refine wRet rfl ?_ | refine wCondT rfl rfl ?_ | refine wCondF rfl rfl ?_ | refine wOps rfl ?_ | refine wDraw rfl rfl ?_ | simp only [seval, push_cast, ↓reduceIte, ↓bP_some, ↓aP_true, reduceCtorEq, iaQ_tl hj, iaQ_tl (show j < m.length by omega), ha, hb, hj, wrap_succ (show j < 9223372036854775807 by omega)]))
        exact qR_n rfl rfl (by rw [take_snoc ha, take_snoc hb, hI])
      · (repeat' (first | refine wSeq rfl ?_ | refine wBlock rfl ?_ | refine wSkip rfl ?_ | refine wExit rfl ?_ | refine wRet rfl ?_ | refine wCondT rfl rfl ?_ | refine wCondF rfl rfl ?_ | refine wOps rfl ?_ | refine wDraw rfl rfl ?_ | simp only [seval, push_cast, ↓reduceIte, ↓bP_some, ↓aP_true, reduceCtorEq, iaQ_tl hj, iaQ_tl (show j < m.length by omega), ha, hb, hj, ne_both e]))
        rw [show decide (l = m) = false from decide_eq_false fun h => e (by subst h; rw [ha] at hb; cases hb; rfl)]
        exact FnQ.ret rfl rfl
    · intro hI
      (repeat' (first | refine wSeq rfl ?_ | refine wBlock rfl ?_ | refine wSkip rfl ?_ | refine wExit rfl ?_ | refine wRet rfl ?_ | refine wCondT rfl rfl ?_ | refine wCondF rfl rfl ?_ | refine wOps rfl ?_ | refine wDraw rfl rfl ?_ | simp only [seval, push_cast, ↓reduceIte, ↓bP_some, ↓aP_true, reduceCtorEq, hlen]))
      rw [show decide (l = m) = true from decide_eq_true (by rwa [take_all, hlen, take_all] at hI)]
      exact FnQ.ret rfl rfl
  · (repeat' (first | refine wSeq rfl ?_ | refine wBlock rfl ?_ | refine wSkip rfl ?_ | refine wExit rfl ?_ | refine wRet rfl ?_ | refine wCondT rfl rfl ?_ | refine wCondF rfl rfl ?_ | refine wOps rfl ?_ | refine wDraw rfl rfl ?_ | simp only [seval, push_cast, ↓reduceIte, ↓bP_some, ↓aP_true, reduceCtorEq, hlen]))
    rw [show decide (l = m) = false from decide_eq_false fun h => hlen (by rw [h])]
    exact FnQ.ret rfl rfl
theorem rsame_v (k j : Int) (s t : Nat) (l m : List Int) (c d : Option Nat) (hs : s = 1 ∨ l = []) (ht : t = 1 ∨ m = []) (hl : l.length < 4611686018427387904) (hm : m.length < 4611686018427387904) : VFn L 18 [(.agg [.int .u8 k, tl mrow s (l) c]), (.agg [.int .u8 j, tl mrow t (m) d])] (.bool (sameL k l j m)) := by
  refine VFn.start (F := T18.1) (by rw [hL]; rfl) rfl rfl rfl ?_
  by_cases hk : k = j
  · subst hk
    (repeat' (first | refine wSeq rfl ?_ | refine wBlock rfl ?_ | refine wSkip rfl ?_ | refine wExit rfl ?_ | refine wRet rfl ?_ | refine wCondT rfl rfl ?_ | refine wCondF rfl rfl ?_ | refine wOps rfl ?_ | refine wDraw rfl rfl ?_ | refine opsV_call rfl rfl (rints_v hL _ _ _ _ _ _ hs ht hl hm) ?_ | simp only [seval, push_cast, ↓reduceIte, ↓bP_some, ↓aP_true, reduceCtorEq]))
    rw [show sameL k l k m = decide (l = m) by simp [sameL]]
    exact FnQ.ret rfl rfl
  · (repeat' (first | refine wSeq rfl ?_ | refine wBlock rfl ?_ | refine wSkip rfl ?_ | refine wExit rfl ?_ | refine wRet rfl ?_ | refine wCondT rfl rfl ?_ | refine wCondF rfl rfl ?_ | refine wOps rfl ?_ | refine wDraw rfl rfl ?_ | refine opsV_call rfl rfl (rints_v hL _ _ _ _ _ _ hs ht hl hm) ?_ | simp only [seval, push_cast, ↓reduceIte, ↓bP_some, ↓aP_true, reduceCtorEq, hk]))
    rw [show sameL k l j m = false by simp [sameL, hk]]
    exact FnQ.ret rfl rfl
theorem rahead_v (s t : Nat) (l m : List Int) (c d : Option Nat) (hs : s = 1 ∨ l = []) (ht : t = 1 ∨ m = []) (hl : l.length < 4611686018427387904) (hm : m.length < 4611686018427387904) : VFn L 44 [tl mrow s l c, tl mrow t m d] (.bool (aheadL l m)) := by
  refine VFn.start (F := T44.1) (by rw [hL]; rfl) rfl rfl rfl ?_
  (repeat' (first | refine wSeq rfl ?_ | refine wBlock rfl ?_ | refine wSkip rfl ?_ | refine wExit rfl ?_ | refine wRet rfl ?_ | refine wCondT rfl rfl ?_ | refine wCondF rfl rfl ?_ | refine wOps rfl ?_ | refine wDraw rfl rfl ?_ | simp only [seval, push_cast, ↓reduceIte, ↓bP_some, ↓aP_true, reduceCtorEq]))
  refine wWhile rfl (fun j : Nat => [(0, tl mrow s l c), (1, tl mrow t m d), (5, V.int IntKind.i64 j)]) (fun _ => []) (fun j => l.length - j) (fun j => j ≤ l.length ∧ j ≤ m.length ∧ aheadL l m = aheadL (l.drop j) (m.drop j)) 0 rfl rfl ⟨by omega, by omega, rfl⟩ ?_
  rintro j ⟨hjl, hjm, hI⟩
  by_cases hj : j < l.length
  · obtain ⟨a, ha, _⟩ := get_of hj
    obtain rfl := size_of hs hj
    by_cases hm' : j < m.length
    · obtain ⟨b, hb, _⟩ := get_of hm'
      obtain rfl := size_of ht hm'
      by_cases e : a = b
      · subst e
        (repeat' (first | refine wSeq rfl ?_ | refine wBlock rfl ?_ | refine wSkip rfl ?_ | refine wExit rfl ?_ | refine wRet rfl ?_ | refine wCondT rfl rfl ?_ | refine wCondF rfl rfl ?_ | refine wOps rfl ?_ | refine wDraw rfl rfl ?_ | simp only [seval, push_cast, ↓reduceIte, ↓bP_some, ↓aP_true, reduceCtorEq, iaQ_tl hj, iaQ_tl hm', ha, hb, hj, hm', wrap_succ (show j < 9223372036854775807 by omega)]))
        exact qW_n (j + 1) rfl rfl ⟨by omega, by omega, by omega, by rw [hI, drop_at ha, drop_at hb]; exact if_pos rfl⟩
      · (repeat' (first | refine wSeq rfl ?_ | refine wBlock rfl ?_ | refine wSkip rfl ?_ | refine wExit rfl ?_ | refine wRet rfl ?_ | refine wCondT rfl rfl ?_ | refine wCondF rfl rfl ?_ | refine wOps rfl ?_ | refine wDraw rfl rfl ?_ | simp only [seval, push_cast, ↓reduceIte, ↓bP_some, ↓aP_true, reduceCtorEq, iaQ_tl hj, iaQ_tl hm', ha, hb, hj, hm', ne_both e]))
        rw [show aheadL l m = decide (a < b) by rw [hI, drop_at ha, drop_at hb]; exact if_neg e]
        exact FnQ.ret rfl rfl
    · have hlt : ¬ l.length < m.length := by omega
      (repeat' (first | refine wSeq rfl ?_ | refine wBlock rfl ?_ | refine wSkip rfl ?_ | refine wExit rfl ?_ | refine wRet rfl ?_ | refine wCondT rfl rfl ?_ | refine wCondF rfl rfl ?_ | refine wOps rfl ?_ | refine wDraw rfl rfl ?_ | simp only [seval, push_cast, ↓reduceIte, ↓bP_some, ↓aP_true, reduceCtorEq, hj, hm', hlt]))
      rw [show aheadL l m = false by rw [hI, drop_at ha, List.drop_eq_nil_of_le (show m.length ≤ j by omega)]; rfl]
      exact FnQ.ret rfl rfl
  · by_cases hm' : j < m.length
    · obtain ⟨b, hb, _⟩ := get_of hm'
      have hlt : l.length < m.length := by omega
      (repeat' (first | refine wSeq rfl ?_ | refine wBlock rfl ?_ | refine wSkip rfl ?_ | refine wExit rfl ?_ | refine wRet rfl ?_ | refine wCondT rfl rfl ?_ | refine wCondF rfl rfl ?_ | refine wOps rfl ?_ | refine wDraw rfl rfl ?_ | simp only [seval, push_cast, ↓reduceIte, ↓bP_some, ↓aP_true, reduceCtorEq, hj, hlt]))
      rw [show aheadL l m = true by rw [hI, drop_at hb, List.drop_eq_nil_of_le (show l.length ≤ j by omega)]; rfl]
      exact FnQ.ret rfl rfl
    · have hlt : ¬ l.length < m.length := by omega
      (repeat' (first | refine wSeq rfl ?_ | refine wBlock rfl ?_ | refine wSkip rfl ?_ | refine wExit rfl ?_ | refine wRet rfl ?_ | refine wCondT rfl rfl ?_ | refine wCondF rfl rfl ?_ | refine wOps rfl ?_ | refine wDraw rfl rfl ?_ | simp only [seval, push_cast, ↓reduceIte, ↓bP_some, ↓aP_true, reduceCtorEq, hj, hlt]))
      rw [show aheadL l m = false by rw [hI, List.drop_eq_nil_of_le (show l.length ≤ j by omega), List.drop_eq_nil_of_le (show m.length ≤ j by omega)]; rfl]
      exact FnQ.ret rfl rfl
theorem rless_v (k j : Int) (s t : Nat) (l m : List Int) (c d : Option Nat) (hs : s = 1 ∨ l = []) (ht : t = 1 ∨ m = []) (hl : l.length < 4611686018427387904) (hm : m.length < 4611686018427387904) : VFn L 20 [(.agg [.int .u8 k, tl mrow s (l) c]), (.agg [.int .u8 j, tl mrow t (m) d])] (.bool (lessL k l j m)) := by
  refine VFn.start (F := T20.1) (by rw [hL]; rfl) rfl rfl rfl ?_
  by_cases h1 : k < j
  · (repeat' (first | refine wSeq rfl ?_ | refine wBlock rfl ?_ | refine wSkip rfl ?_ | refine wExit rfl ?_ | refine wRet rfl ?_ | refine wCondT rfl rfl ?_ | refine wCondF rfl rfl ?_ | refine wOps rfl ?_ | refine wDraw rfl rfl ?_ | simp only [seval, push_cast, ↓reduceIte, ↓bP_some, ↓aP_true, reduceCtorEq, h1]))
    rw [show lessL k l j m = true by simp [lessL, h1]]
    exact FnQ.ret rfl rfl
  by_cases hk : k = j
  · subst hk
    (repeat' (first | refine wSeq rfl ?_ | refine wBlock rfl ?_ | refine wSkip rfl ?_ | refine wExit rfl ?_ | refine wRet rfl ?_ | refine wCondT rfl rfl ?_ | refine wCondF rfl rfl ?_ | refine wOps rfl ?_ | refine wDraw rfl rfl ?_ | refine opsV_call rfl rfl (rahead_v hL _ _ _ _ _ _ hs ht hl hm) ?_ | simp only [seval, push_cast, ↓reduceIte, ↓bP_some, ↓aP_true, reduceCtorEq, h1]))
    rw [show lessL k l k m = aheadL l m by simp [lessL]]
    exact FnQ.ret rfl rfl
  · (repeat' (first | refine wSeq rfl ?_ | refine wBlock rfl ?_ | refine wSkip rfl ?_ | refine wExit rfl ?_ | refine wRet rfl ?_ | refine wCondT rfl rfl ?_ | refine wCondF rfl rfl ?_ | refine wOps rfl ?_ | refine wDraw rfl rfl ?_ | refine opsV_call rfl rfl (rahead_v hL _ _ _ _ _ _ hs ht hl hm) ?_ | simp only [seval, push_cast, ↓reduceIte, ↓bP_some, ↓aP_true, reduceCtorEq, h1, hk]))
    rw [show lessL k l j m = false by simp [lessL, h1, hk]]
    exact FnQ.ret rfl rfl
theorem rgreat_v (k : Int) (s : Nat) (l : List Int) (c : Option Nat) : VFn L 32 [(.agg [.int .u8 k, tl mrow s (l) c])] (.bool (decide (60 < l.length))) := by
  refine VFn.start (F := T32.1) (by rw [hL]; rfl) rfl rfl rfl ?_
  (repeat' (first | refine wSeq rfl ?_ | refine wBlock rfl ?_ | refine wSkip rfl ?_ | refine wExit rfl ?_ | refine wRet rfl ?_ | refine wCondT rfl rfl ?_ | refine wCondF rfl rfl ?_ | refine wOps rfl ?_ | refine wDraw rfl rfl ?_ | simp only [seval, push_cast, ↓reduceIte, ↓bP_some, ↓aP_true, reduceCtorEq]))
  rw [show decide (60 < l.length) = decide ((60 : Int) < l.length) from decide_eq_decide.2 (by omega)]
  exact FnQ.ret rfl rfl
theorem rprefers_v (k : Int) (s : Nat) (l : List Int) (c : Option Nat) (x y : Int) (hs : s = 1 ∨ l = []) (hl : l.length < 4611686018427387904) : VFn L 16 [(.agg [.int .u8 k, tl mrow s (l) c]), .int .i64 x, .int .i64 y] (.bool (prefersL k l x y)) := by
  refine VFn.start (F := T16.1) (by rw [hL]; rfl) rfl rfl rfl ?_
  by_cases hx : x < 0
  · (repeat' (first | refine wSeq rfl ?_ | refine wBlock rfl ?_ | refine wSkip rfl ?_ | refine wExit rfl ?_ | refine wRet rfl ?_ | refine wCondT rfl rfl ?_ | refine wCondF rfl rfl ?_ | refine wOps rfl ?_ | refine wDraw rfl rfl ?_ | simp only [seval, push_cast, ↓reduceIte, ↓bP_some, ↓aP_true, reduceCtorEq, hx]))
    rw [show prefersL k l x y = false by unfold prefersL; rw [if_pos (.inl hx)]]
    exact FnQ.ret rfl rfl
  by_cases hy : y < 0
  · (repeat' (first | refine wSeq rfl ?_ | refine wBlock rfl ?_ | refine wSkip rfl ?_ | refine wExit rfl ?_ | refine wRet rfl ?_ | refine wCondT rfl rfl ?_ | refine wCondF rfl rfl ?_ | refine wOps rfl ?_ | refine wDraw rfl rfl ?_ | simp only [seval, push_cast, ↓reduceIte, ↓bP_some, ↓aP_true, reduceCtorEq, hx, hy]))
    rw [show prefersL k l x y = false by unfold prefersL; rw [if_pos (.inr hy)]]
    exact FnQ.ret rfl rfl
  have hxy : ¬ (x < 0 ∨ y < 0) := by omega
  obtain ⟨nx, rfl⟩ : ∃ n : Nat, x = n := ⟨x.toNat, by omega⟩
  obtain ⟨ny, rfl⟩ : ∃ n : Nat, y = n := ⟨y.toNat, by omega⟩
  by_cases h1 : k = 1
  · subst h1
    by_cases q1 : 0 ≤ placeL l nx
    · by_cases q2 : placeL l ny < 0
      · (repeat' (first | refine wSeq rfl ?_ | refine wBlock rfl ?_ | refine wSkip rfl ?_ | refine wExit rfl ?_ | refine wRet rfl ?_ | refine wCondT rfl rfl ?_ | refine wCondF rfl rfl ?_ | refine wOps rfl ?_ | refine wDraw rfl rfl ?_ | refine opsV_call rfl rfl (rplace_v hL _ _ _ _ hs hl) ?_ | simp only [seval, push_cast, ↓reduceIte, ↓bP_some, ↓aP_true, reduceCtorEq, hx, hy, q1, q2]))
        rw [show prefersL 1 l nx ny = true by unfold prefersL; rw [if_neg hxy, if_pos rfl]; simp [q1, q2]]
        exact FnQ.ret rfl rfl
      · (repeat' (first | refine wSeq rfl ?_ | refine wBlock rfl ?_ | refine wSkip rfl ?_ | refine wExit rfl ?_ | refine wRet rfl ?_ | refine wCondT rfl rfl ?_ | refine wCondF rfl rfl ?_ | refine wOps rfl ?_ | refine wDraw rfl rfl ?_ | refine opsV_call rfl rfl (rplace_v hL _ _ _ _ hs hl) ?_ | simp only [seval, push_cast, ↓reduceIte, ↓bP_some, ↓aP_true, reduceCtorEq, hx, hy, q1, q2]))
        rw [show prefersL 1 l nx ny = decide (placeL l nx < placeL l ny) by unfold prefersL; rw [if_neg hxy, if_pos rfl]; simp [q1, q2]]
        exact FnQ.ret rfl rfl
    · (repeat' (first | refine wSeq rfl ?_ | refine wBlock rfl ?_ | refine wSkip rfl ?_ | refine wExit rfl ?_ | refine wRet rfl ?_ | refine wCondT rfl rfl ?_ | refine wCondF rfl rfl ?_ | refine wOps rfl ?_ | refine wDraw rfl rfl ?_ | refine opsV_call rfl rfl (rplace_v hL _ _ _ _ hs hl) ?_ | simp only [seval, push_cast, ↓reduceIte, ↓bP_some, ↓aP_true, reduceCtorEq, hx, hy, q1]))
      rw [show prefersL 1 l nx ny = false by unfold prefersL; rw [if_neg hxy, if_pos rfl]; simp [q1]]
      exact FnQ.ret rfl rfl
  by_cases h2 : k = 2
  · subst h2
    by_cases q1 : 0 ≤ placeL l nx
    · (repeat' (first | refine wSeq rfl ?_ | refine wBlock rfl ?_ | refine wSkip rfl ?_ | refine wExit rfl ?_ | refine wRet rfl ?_ | refine wCondT rfl rfl ?_ | refine wCondF rfl rfl ?_ | refine wOps rfl ?_ | refine wDraw rfl rfl ?_ | refine opsV_call rfl rfl (rplace_v hL _ _ _ _ hs hl) ?_ | simp only [seval, push_cast, ↓reduceIte, ↓bP_some, ↓aP_true, reduceCtorEq, hx, hy, q1, h1]))
      rw [show prefersL 2 l nx ny = decide (placeL l ny < 0) by unfold prefersL; rw [if_neg hxy, if_neg (by decide), if_pos rfl]; simp [q1]]
      exact FnQ.ret rfl rfl
    · (repeat' (first | refine wSeq rfl ?_ | refine wBlock rfl ?_ | refine wSkip rfl ?_ | refine wExit rfl ?_ | refine wRet rfl ?_ | refine wCondT rfl rfl ?_ | refine wCondF rfl rfl ?_ | refine wOps rfl ?_ | refine wDraw rfl rfl ?_ | refine opsV_call rfl rfl (rplace_v hL _ _ _ _ hs hl) ?_ | simp only [seval, push_cast, ↓reduceIte, ↓bP_some, ↓aP_true, reduceCtorEq, hx, hy, q1, h1]))
      rw [show prefersL 2 l nx ny = false by unfold prefersL; rw [if_neg hxy, if_neg (by decide), if_pos rfl]; simp [q1]]
      exact FnQ.ret rfl rfl
  by_cases h3 : k = 3
  · subst h3
    have e3 : prefersL 3 l nx ny = (decide ((nx : Int) < l.length) && decide ((ny : Int) < l.length) && decide (l[ny]?.getD 0 < l[nx]?.getD 0)) := by unfold prefersL; rw [if_neg hxy, if_neg (by decide), if_neg (by decide), if_pos rfl]; rfl
    by_cases q1 : nx < l.length
    · by_cases q2 : ny < l.length
      · obtain ⟨a, ha, _⟩ := get_of q1
        obtain ⟨b, hb, _⟩ := get_of q2
        obtain rfl := size_of hs q1
        (repeat' (first | refine wSeq rfl ?_ | refine wBlock rfl ?_ | refine wSkip rfl ?_ | refine wExit rfl ?_ | refine wRet rfl ?_ | refine wCondT rfl rfl ?_ | refine wCondF rfl rfl ?_ | refine wOps rfl ?_ | refine wDraw rfl rfl ?_ | refine opsV_call rfl rfl (rplace_v hL _ _ _ _ hs hl) ?_ | simp only [seval, push_cast, ↓reduceIte, ↓bP_some, ↓aP_true, reduceCtorEq, hx, hy, q1, q2, h1, h2, ha, hb, iaQ_tl q1, iaQ_tl q2]))
        rw [e3, ha, hb, decide_eq_true (show (nx : Int) < l.length by omega), decide_eq_true (show (ny : Int) < l.length by omega)]
        exact FnQ.ret rfl rfl
      · (repeat' (first | refine wSeq rfl ?_ | refine wBlock rfl ?_ | refine wSkip rfl ?_ | refine wExit rfl ?_ | refine wRet rfl ?_ | refine wCondT rfl rfl ?_ | refine wCondF rfl rfl ?_ | refine wOps rfl ?_ | refine wDraw rfl rfl ?_ | refine opsV_call rfl rfl (rplace_v hL _ _ _ _ hs hl) ?_ | simp only [seval, push_cast, ↓reduceIte, ↓bP_some, ↓aP_true, reduceCtorEq, hx, hy, q1, q2, h1, h2]))
        rw [e3, decide_eq_false (show ¬ (ny : Int) < l.length by omega), Bool.and_false]
        exact FnQ.ret rfl rfl
    · (repeat' (first | refine wSeq rfl ?_ | refine wBlock rfl ?_ | refine wSkip rfl ?_ | refine wExit rfl ?_ | refine wRet rfl ?_ | refine wCondT rfl rfl ?_ | refine wCondF rfl rfl ?_ | refine wOps rfl ?_ | refine wDraw rfl rfl ?_ | refine opsV_call rfl rfl (rplace_v hL _ _ _ _ hs hl) ?_ | simp only [seval, push_cast, ↓reduceIte, ↓bP_some, ↓aP_true, reduceCtorEq, hx, hy, q1, h1, h2]))
      rw [e3, decide_eq_false (show ¬ (nx : Int) < l.length by omega)]
      exact FnQ.ret rfl rfl
  · (repeat' (first | refine wSeq rfl ?_ | refine wBlock rfl ?_ | refine wSkip rfl ?_ | refine wExit rfl ?_ | refine wRet rfl ?_ | refine wCondT rfl rfl ?_ | refine wCondF rfl rfl ?_ | refine wOps rfl ?_ | refine wDraw rfl rfl ?_ | refine opsV_call rfl rfl (rplace_v hL _ _ _ _ hs hl) ?_ | simp only [seval, push_cast, ↓reduceIte, ↓bP_some, ↓aP_true, reduceCtorEq, hx, hy, h1, h2, h3]))
    rw [show prefersL k l nx ny = false by unfold prefersL; rw [if_neg hxy, if_neg h1, if_neg h2, if_neg h3]]
    exact FnQ.ret rfl rfl
theorem rfirst_v (k : Int) (s : Nat) (l : List Int) (c : Option Nat) (hs : s = 1 ∨ l = []) (hl : l.length < 4611686018427387904) : VFn L 12 [(.agg [.int .u8 k, tl mrow s (l) c])] (.tup [.int .i64 (firstL k l).1, .bool (firstL k l).2]) := by
  refine VFn.start (F := T12.1) (by rw [hL]; rfl) rfl rfl rfl ?_
  by_cases hal : checkL k l (amongL k l) = 0
  · have ha := alone_of hal
    by_cases hl0 : l = []
    · subst hl0
      (repeat' (first | refine wSeq rfl ?_ | refine wBlock rfl ?_ | refine wSkip rfl ?_ | refine wExit rfl ?_ | refine wRet rfl ?_ | refine wCondT rfl rfl ?_ | refine wCondF rfl rfl ?_ | refine wOps rfl ?_ | refine wDraw rfl rfl ?_ | refine opsV_call rfl rfl (ramong_v hL _ _ _ _) ?_ | refine opsV_call rfl rfl (rcheck_v hL _ _ _ _ _ hs hl) ?_ | simp only [seval, push_cast, ↓reduceIte, ↓bP_some, ↓aP_true, reduceCtorEq, hal, List.length_nil]))
      rw [show firstL k [] = (0, false) by unfold firstL; rw [if_pos (.inr rfl)]]
      exact FnQ.ret rfl rfl
    have hn : 0 < l.length := List.length_pos_iff.2 hl0
    have hn0 : ¬ (l.length : Int) = 0 := by omega
    obtain ⟨x, hx, _⟩ := get_of hn
    obtain rfl := size_of hs hn
    rcases alone_kind hal with rfl | rfl | rfl
    · (repeat' (first | refine wSeq rfl ?_ | refine wBlock rfl ?_ | refine wSkip rfl ?_ | refine wExit rfl ?_ | refine wRet rfl ?_ | refine wCondT rfl rfl ?_ | refine wCondF rfl rfl ?_ | refine wOps rfl ?_ | refine wDraw rfl rfl ?_ | refine opsV_call rfl rfl (ramong_v hL _ _ _ _) ?_ | refine opsV_call rfl rfl (rcheck_v hL _ _ _ _ _ hs hl) ?_ | simp only [seval, push_cast, ↓reduceIte, ↓bP_some, ↓aP_true, reduceCtorEq, hal, hn0, hx, iaQ_tl hn]))
      rw [first_one ha hx]
      exact FnQ.ret rfl rfl
    · by_cases h1 : l.length = 1
      · have h2 : (l.length : Int) = 1 := by omega
        (repeat' (first | refine wSeq rfl ?_ | refine wBlock rfl ?_ | refine wSkip rfl ?_ | refine wExit rfl ?_ | refine wRet rfl ?_ | refine wCondT rfl rfl ?_ | refine wCondF rfl rfl ?_ | refine wOps rfl ?_ | refine wDraw rfl rfl ?_ | refine opsV_call rfl rfl (ramong_v hL _ _ _ _) ?_ | refine opsV_call rfl rfl (rcheck_v hL _ _ _ _ _ hs hl) ?_ | simp only [seval, push_cast, ↓reduceIte, ↓bP_some, ↓aP_true, reduceCtorEq, hal, hn0, hx, iaQ_tl hn, h2]))
        rw [first_mark ha hx h1]
        exact FnQ.ret rfl rfl
      · have h2 : ¬ (l.length : Int) = 1 := by omega
        (repeat' (first | refine wSeq rfl ?_ | refine wBlock rfl ?_ | refine wSkip rfl ?_ | refine wExit rfl ?_ | refine wRet rfl ?_ | refine wCondT rfl rfl ?_ | refine wCondF rfl rfl ?_ | refine wOps rfl ?_ | refine wDraw rfl rfl ?_ | refine opsV_call rfl rfl (ramong_v hL _ _ _ _) ?_ | refine opsV_call rfl rfl (rcheck_v hL _ _ _ _ _ hs hl) ?_ | simp only [seval, push_cast, ↓reduceIte, ↓bP_some, ↓aP_true, reduceCtorEq, hal, hn0, hx, iaQ_tl hn, h2]))
        rw [first_marks ha hx h1]
        exact FnQ.ret rfl rfl
    · have hf := first_score ha hx
      (repeat' (first | refine wSeq rfl ?_ | refine wBlock rfl ?_ | refine wSkip rfl ?_ | refine wExit rfl ?_ | refine wRet rfl ?_ | refine wCondT rfl rfl ?_ | refine wCondF rfl rfl ?_ | refine wOps rfl ?_ | refine wDraw rfl rfl ?_ | refine opsV_call rfl rfl (ramong_v hL _ _ _ _) ?_ | refine opsV_call rfl rfl (rcheck_v hL _ _ _ _ _ hs hl) ?_ | simp only [seval, push_cast, ↓reduceIte, ↓bP_some, ↓aP_true, reduceCtorEq, hal, hn0]))
      refine wCnt rfl 5 l.length (fun _ => []) (fun i => firstL 3 l = topGo l i (l.drop i)) rfl hf ?_ ?_
      · intro i hi hI
        obtain ⟨y, hy, _⟩ := get_of hi
        have hwi := wrap_succ (show i < 9223372036854775807 by omega)
        (repeat' (first | refine wSeq rfl ?_ | refine wBlock rfl ?_ | refine wSkip rfl ?_ | refine wExit rfl ?_ | refine wRet rfl ?_ | refine wCondT rfl rfl ?_ | refine wCondF rfl rfl ?_ | refine wOps rfl ?_ | refine wDraw rfl rfl ?_ | simp only [seval, push_cast, ↓reduceIte, ↓bP_some, ↓aP_true, reduceCtorEq, iaQ_tl hi, hy, hi]))
        refine wCnt rfl 7 l.length (fun K => [(6, .bool (topTo l i y K))]) (fun _ => True) (by rw [top_zero]; rfl) trivial ?_ ?_
        · intro j hj _
          obtain ⟨z, hz, _⟩ := get_of hj
          cases ht : topTo l i y j with
          | false =>
            (repeat' (first | refine wSeq rfl ?_ | refine wBlock rfl ?_ | refine wSkip rfl ?_ | refine wExit rfl ?_ | refine wRet rfl ?_ | refine wCondT rfl rfl ?_ | refine wCondF rfl rfl ?_ | refine wOps rfl ?_ | refine wDraw rfl rfl ?_ | simp only [seval, push_cast, ↓reduceIte, ↓bP_some, ↓aP_true, reduceCtorEq, hj, ht, top_false ht, wrap_succ (show j < 9223372036854775807 by omega)]))
            exact qR_n rfl rfl trivial
          | true =>
            by_cases e : j = i
            · subst e
              (repeat' (first | refine wSeq rfl ?_ | refine wBlock rfl ?_ | refine wSkip rfl ?_ | refine wExit rfl ?_ | refine wRet rfl ?_ | refine wCondT rfl rfl ?_ | refine wCondF rfl rfl ?_ | refine wOps rfl ?_ | refine wDraw rfl rfl ?_ | simp only [seval, push_cast, ↓reduceIte, ↓bP_some, ↓aP_true, reduceCtorEq, hj, ht, top_own ht, wrap_succ (show j < 9223372036854775807 by omega)]))
              exact qR_n rfl rfl trivial
            · (repeat' (first | refine wSeq rfl ?_ | refine wBlock rfl ?_ | refine wSkip rfl ?_ | refine wExit rfl ?_ | refine wRet rfl ?_ | refine wCondT rfl rfl ?_ | refine wCondF rfl rfl ?_ | refine wOps rfl ?_ | refine wDraw rfl rfl ?_ | simp only [seval, push_cast, ↓reduceIte, ↓bP_some, ↓aP_true, reduceCtorEq, iaQ_tl hj, iaQ_tl hi, hz, hy, hj, ht, top_other ht hz e, ne_both e, wrap_succ (show j < 9223372036854775807 by omega)]))
              exact qR_n rfl rfl trivial
        · intro _
          cases ht : topTo l i y l.length with
          | true =>
            (repeat' (first | refine wSeq rfl ?_ | refine wBlock rfl ?_ | refine wSkip rfl ?_ | refine wExit rfl ?_ | refine wRet rfl ?_ | refine wCondT rfl rfl ?_ | refine wCondF rfl rfl ?_ | refine wOps rfl ?_ | refine wDraw rfl rfl ?_ | simp only [seval, push_cast, ↓reduceIte, ↓bP_some, ↓aP_true, reduceCtorEq, ht]))
            rw [hI, topGo_yes hy ht]
            exact FnQ.ret rfl rfl
          | false =>
            (repeat' (first | refine wSeq rfl ?_ | refine wBlock rfl ?_ | refine wSkip rfl ?_ | refine wExit rfl ?_ | refine wRet rfl ?_ | refine wCondT rfl rfl ?_ | refine wCondF rfl rfl ?_ | refine wOps rfl ?_ | refine wDraw rfl rfl ?_ | simp only [seval, push_cast, ↓reduceIte, ↓bP_some, ↓aP_true, reduceCtorEq, ht, hwi]))
            exact qR_n rfl rfl (by rw [hI, topGo_no hy ht])
      · intro hI
        (repeat' (first | refine wSeq rfl ?_ | refine wBlock rfl ?_ | refine wSkip rfl ?_ | refine wExit rfl ?_ | refine wRet rfl ?_ | refine wCondT rfl rfl ?_ | refine wCondF rfl rfl ?_ | refine wOps rfl ?_ | refine wDraw rfl rfl ?_ | simp only [seval, push_cast, ↓reduceIte, ↓bP_some, ↓aP_true, reduceCtorEq]))
        rw [hI, topGo_end (by omega)]
        exact FnQ.ret rfl rfl
  · (repeat' (first | refine wSeq rfl ?_ | refine wBlock rfl ?_ | refine wSkip rfl ?_ | refine wExit rfl ?_ | refine wRet rfl ?_ | refine wCondT rfl rfl ?_ | refine wCondF rfl rfl ?_ | refine wOps rfl ?_ | refine wDraw rfl rfl ?_ | refine opsV_call rfl rfl (ramong_v hL _ _ _ _) ?_ | refine opsV_call rfl rfl (rcheck_v hL _ _ _ _ _ hs hl) ?_ | simp only [seval, push_cast, ↓reduceIte, ↓bP_some, ↓aP_true, reduceCtorEq, hal]))
    rw [show firstL k l = (0, false) by unfold firstL; rw [if_pos (.inl (by unfold aloneL; exact decide_eq_false hal))]]
    exact FnQ.ret rfl rfl
end Go.Proofs.YtnhfbabenifbkaaGreatDoor
