/- Ballots: the program's functions, walked: Check, alone, First, Prefers, Same, Less. -/
import Derived.Test.YtnhfbabenifbkaaGreatDoorWb1
set_option maxRecDepth 100000
set_option maxHeartbeats 4000000
set_option linter.unusedVariables false
set_option linter.unusedSimpArgs false
namespace Go.Proofs.YtnhfbabenifbkaaGreatDoor
variable {L : Lib} (hL : L.T = tab.get)
include hL
theorem check_v (k cands : Int) (s : Nat) (l : List Int) (c : Option Nat) (hs : s = 1 ∨ l = []) (hl : l.length < 4611686018427387904) : VFn L 13 [(.agg [.int .u8 k, tl mrow s (l) c]), .int .i64 cands] (.int .i64 (checkL k l cands)) := by
  refine VFn.start (F := T13.1) (by rw [hL]; rfl) rfl rfl rfl ?_
  cases hw : (decide (1 ≤ cands) && decide (cands < 11)) with
  | false =>
    (repeat' (first | refine wSeq rfl ?_ | refine wBlock rfl ?_ | refine wSkip rfl ?_ | refine wExit rfl ?_ | refine wRet rfl ?_ | refine wCondT rfl rfl ?_ | refine wCondF rfl rfl ?_ | refine wOps rfl ?_ | refine wDraw rfl rfl ?_ | refine opsV_call rfl rfl (within_v hL _ _ _) ?_ | simp only [seval, push_cast, ↓reduceIte, ↓bP_some, ↓aP_true, reduceCtorEq, hw]))
    rw [show checkL k l cands = 2 by unfold checkL; rw [if_pos]; simp at hw; omega]
    exact FnQ.ret rfl rfl
  | true =>
    have hc : 1 ≤ cands ∧ cands ≤ 10 := by simp at hw; omega
    cases hf : fineL k l cands with
    | false =>
      (repeat' (first | refine wSeq rfl ?_ | refine wBlock rfl ?_ | refine wSkip rfl ?_ | refine wExit rfl ?_ | refine wRet rfl ?_ | refine wCondT rfl rfl ?_ | refine wCondF rfl rfl ?_ | refine wOps rfl ?_ | refine wDraw rfl rfl ?_ | refine opsV_call rfl rfl (within_v hL _ _ _) ?_ | refine opsV_call rfl rfl (fine_v hL _ _ _ _ _ hs hl hc.2) ?_ | simp only [seval, push_cast, ↓reduceIte, ↓bP_some, ↓aP_true, reduceCtorEq, hw, hf]))
      rw [show checkL k l cands = 8 by unfold checkL; rw [if_neg (by omega), if_pos hf]]
      exact FnQ.ret rfl rfl
    | true =>
      (repeat' (first | refine wSeq rfl ?_ | refine wBlock rfl ?_ | refine wSkip rfl ?_ | refine wExit rfl ?_ | refine wRet rfl ?_ | refine wCondT rfl rfl ?_ | refine wCondF rfl rfl ?_ | refine wOps rfl ?_ | refine wDraw rfl rfl ?_ | refine opsV_call rfl rfl (within_v hL _ _ _) ?_ | refine opsV_call rfl rfl (fine_v hL _ _ _ _ _ hs hl hc.2) ?_ | simp only [seval, push_cast, ↓reduceIte, ↓bP_some, ↓aP_true, reduceCtorEq, hw, hf]))
      rw [show checkL k l cands = 0 by unfold checkL; rw [if_neg (by omega), if_neg (by rw [hf]; simp)]]
      exact FnQ.ret rfl rfl
theorem alone_v (k : Int) (s : Nat) (l : List Int) (c : Option Nat) (hs : s = 1 ∨ l = []) (hl : l.length < 4611686018427387904) : VFn L 34 [(.agg [.int .u8 k, tl mrow s (l) c])] (.bool (aloneL k l)) := by
  refine VFn.start (F := T34.1) (by rw [hL]; rfl) rfl rfl rfl ?_
  by_cases h3 : k = 3
  · subst h3
    (repeat' (first | refine wSeq rfl ?_ | refine wBlock rfl ?_ | refine wSkip rfl ?_ | refine wExit rfl ?_ | refine wRet rfl ?_ | refine wCondT rfl rfl ?_ | refine wCondF rfl rfl ?_ | refine wOps rfl ?_ | refine wDraw rfl rfl ?_ | refine opsV_call rfl rfl (check_v hL _ _ _ _ _ hs hl) ?_ | simp only [seval, push_cast, ↓reduceIte, ↓bP_some, ↓aP_true, reduceCtorEq]))
    exact FnQ.ret rfl rfl
  · (repeat' (first | refine wSeq rfl ?_ | refine wBlock rfl ?_ | refine wSkip rfl ?_ | refine wExit rfl ?_ | refine wRet rfl ?_ | refine wCondT rfl rfl ?_ | refine wCondF rfl rfl ?_ | refine wOps rfl ?_ | refine wDraw rfl rfl ?_ | refine opsV_call rfl rfl (fine_v hL _ _ _ _ _ hs hl (by decide)) ?_ | simp only [seval, push_cast, ↓reduceIte, ↓bP_some, ↓aP_true, reduceCtorEq, h3]))
    rw [show aloneL k l = fineL k l 10 by unfold aloneL amongL; rw [if_neg h3]; unfold checkL; rw [if_neg (by omega)]; cases fineL k l 10 <;> rfl]
    exact FnQ.ret rfl rfl
def firstV (k : Int) (l : List Int) : V := .tup [.int .i64 (firstL k l).1, .bool (firstL k l).2]
theorem first_v (k : Int) (s : Nat) (l : List Int) (c : Option Nat) (hs : s = 1 ∨ l = []) (hl : l.length < 4611686018427387904) : VFn L 11 [(.agg [.int .u8 k, tl mrow s (l) c])] (firstV k l) := by
  refine VFn.start (F := T11.1) (by rw [hL]; rfl) rfl rfl rfl ?_
  cases hal : aloneL k l with
  | false =>
    (repeat' (first | refine wSeq rfl ?_ | refine wBlock rfl ?_ | refine wSkip rfl ?_ | refine wExit rfl ?_ | refine wRet rfl ?_ | refine wCondT rfl rfl ?_ | refine wCondF rfl rfl ?_ | refine wOps rfl ?_ | refine wDraw rfl rfl ?_ | refine opsV_call rfl rfl (alone_v hL _ _ _ _ hs hl) ?_ | simp only [seval, push_cast, ↓reduceIte, ↓bP_some, ↓aP_true, reduceCtorEq, hal]))
    rw [show firstV k l = .tup [.int .i64 0, .bool false] by unfold firstV firstL; rw [if_pos (.inl hal)]]
    exact FnQ.ret rfl rfl
  | true =>
    have hkind : k = 1 ∨ k = 2 ∨ k = 3 := alone_kind (by unfold aloneL at hal; exact of_decide_eq_true hal)
    by_cases hl0 : l = []
    · subst hl0
      (repeat' (first | refine wSeq rfl ?_ | refine wBlock rfl ?_ | refine wSkip rfl ?_ | refine wExit rfl ?_ | refine wRet rfl ?_ | refine wCondT rfl rfl ?_ | refine wCondF rfl rfl ?_ | refine wOps rfl ?_ | refine wDraw rfl rfl ?_ | refine opsV_call rfl rfl (alone_v hL _ _ _ _ hs hl) ?_ | simp only [seval, push_cast, ↓reduceIte, ↓bP_some, ↓aP_true, reduceCtorEq, hal, List.length_nil]))
      rw [show firstV k [] = .tup [.int .i64 0, .bool false] by unfold firstV firstL; rw [if_pos (.inr rfl)]]
      exact FnQ.ret rfl rfl
    have hn : 0 < l.length := List.length_pos_iff.2 hl0
    have hn0 : ¬ (l.length : Int) = 0 := by omega
    obtain ⟨x, hx, _⟩ := get_of hn
    obtain rfl := size_of hs hn
    rcases hkind with rfl | rfl | rfl
    · (repeat' (first | refine wSeq rfl ?_ | refine wBlock rfl ?_ | refine wSkip rfl ?_ | refine wExit rfl ?_ | refine wRet rfl ?_ | refine wCondT rfl rfl ?_ | refine wCondF rfl rfl ?_ | refine wOps rfl ?_ | refine wDraw rfl rfl ?_ | refine opsV_call rfl rfl (alone_v hL _ _ _ _ hs hl) ?_ | simp only [seval, push_cast, ↓reduceIte, ↓bP_some, ↓aP_true, reduceCtorEq, hal, hn0, hx, iaQ_tl hn]))
      rw [show firstV 1 l = .tup [.int .i64 x, .bool true] by unfold firstV; rw [first_one hal hx]]
      exact FnQ.ret rfl rfl
    · by_cases h1 : l.length = 1
      · have h2 : ¬ (1 : Int) < l.length := by omega
        (repeat' (first | refine wSeq rfl ?_ | refine wBlock rfl ?_ | refine wSkip rfl ?_ | refine wExit rfl ?_ | refine wRet rfl ?_ | refine wCondT rfl rfl ?_ | refine wCondF rfl rfl ?_ | refine wOps rfl ?_ | refine wDraw rfl rfl ?_ | refine opsV_call rfl rfl (alone_v hL _ _ _ _ hs hl) ?_ | simp only [seval, push_cast, ↓reduceIte, ↓bP_some, ↓aP_true, reduceCtorEq, hal, hn0, hx, iaQ_tl hn, h2]))
        rw [show firstV 2 l = .tup [.int .i64 x, .bool true] by unfold firstV; rw [first_mark hal hx h1]]
        exact FnQ.ret rfl rfl
      · have h2 : (1 : Int) < l.length := by omega
        (repeat' (first | refine wSeq rfl ?_ | refine wBlock rfl ?_ | refine wSkip rfl ?_ | refine wExit rfl ?_ | refine wRet rfl ?_ | refine wCondT rfl rfl ?_ | refine wCondF rfl rfl ?_ | refine wOps rfl ?_ | refine wDraw rfl rfl ?_ | refine opsV_call rfl rfl (alone_v hL _ _ _ _ hs hl) ?_ | simp only [seval, push_cast, ↓reduceIte, ↓bP_some, ↓aP_true, reduceCtorEq, hal, hn0, hx, iaQ_tl hn, h2]))
        rw [show firstV 2 l = .tup [.int .i64 0, .bool false] by unfold firstV; rw [first_marks hal hx h1]]
        exact FnQ.ret rfl rfl
    · have hf := first_score hal hx
      (repeat' (first | refine wSeq rfl ?_ | refine wBlock rfl ?_ | refine wSkip rfl ?_ | refine wExit rfl ?_ | refine wRet rfl ?_ | refine wCondT rfl rfl ?_ | refine wCondF rfl rfl ?_ | refine wOps rfl ?_ | refine wDraw rfl rfl ?_ | refine opsV_call rfl rfl (alone_v hL _ _ _ _ hs hl) ?_ | refine opsV_call rfl rfl (max_v hL _ _ _ hs hl hl0) ?_ | simp only [seval, push_cast, ↓reduceIte, ↓bP_some, ↓aP_true, reduceCtorEq, hal, hn0]))
      have hpos := alone_score_pos hal
      obtain ⟨hmem, hmax⟩ := max_spec hl0
      have hM0 := (hpos _ hmem).1
      refine wCnt rfl 41 l.length (fun j => [(5, .int .i64 ((placesTo l (Lib.maxOf l) j).length : Nat))]) (fun _ => True) rfl trivial ?_ ?_
      · intro j hj _
        obtain ⟨a, ha, _⟩ := get_of hj
        have hpl := places_le l (Lib.maxOf l) j
        by_cases e : a = Lib.maxOf l
        · have hp := places_hit ha e
          subst e
          (repeat' (first | refine wSeq rfl ?_ | refine wBlock rfl ?_ | refine wSkip rfl ?_ | refine wExit rfl ?_ | refine wRet rfl ?_ | refine wCondT rfl rfl ?_ | refine wCondF rfl rfl ?_ | refine wOps rfl ?_ | refine wDraw rfl rfl ?_ | simp only [seval, push_cast, ↓reduceIte, ↓bP_some, ↓aP_true, reduceCtorEq, iaQ_tl hj, ha, hj, wrap_succ (show j < 9223372036854775807 by omega), hp, wrap_succ (show (placesTo l (Lib.maxOf l) j).length < 9223372036854775807 by omega)]))
          exact qR_n rfl rfl trivial
        · have hp := places_miss ha e
          (repeat' (first | refine wSeq rfl ?_ | refine wBlock rfl ?_ | refine wSkip rfl ?_ | refine wExit rfl ?_ | refine wRet rfl ?_ | refine wCondT rfl rfl ?_ | refine wCondF rfl rfl ?_ | refine wOps rfl ?_ | refine wDraw rfl rfl ?_ | simp only [seval, push_cast, ↓reduceIte, ↓bP_some, ↓aP_true, reduceCtorEq, iaQ_tl hj, ha, hj, wrap_succ (show j < 9223372036854775807 by omega), hp, ne_both e]))
          exact qR_n rfl rfl trivial
      · intro _
        by_cases hz : Lib.maxOf l = 0
        · (repeat' (first | refine wSeq rfl ?_ | refine wBlock rfl ?_ | refine wSkip rfl ?_ | refine wExit rfl ?_ | refine wRet rfl ?_ | refine wCondT rfl rfl ?_ | refine wCondF rfl rfl ?_ | refine wOps rfl ?_ | refine wDraw rfl rfl ?_ | simp only [seval, push_cast, ↓reduceIte, ↓bP_some, ↓aP_true, reduceCtorEq, hz]))
          rw [show firstV 3 l = .tup [.int .i64 0, .bool false] by unfold firstV; rw [hf, top_low hl0 (by omega)]]
          exact FnQ.ret rfl rfl
        · by_cases h1 : 1 < (placesTo l (Lib.maxOf l) l.length).length
          · have h1' : (1 : Int) < ((placesTo l (Lib.maxOf l) l.length).length : Nat) := by omega
            (repeat' (first | refine wSeq rfl ?_ | refine wBlock rfl ?_ | refine wSkip rfl ?_ | refine wExit rfl ?_ | refine wRet rfl ?_ | refine wCondT rfl rfl ?_ | refine wCondF rfl rfl ?_ | refine wOps rfl ?_ | refine wDraw rfl rfl ?_ | simp only [seval, push_cast, ↓reduceIte, ↓bP_some, ↓aP_true, reduceCtorEq, hz, h1']))
            rw [show firstV 3 l = .tup [.int .i64 0, .bool false] by unfold firstV; rw [hf, top_two hl0 h1]]
            exact FnQ.ret rfl rfl
          · have h1' : ¬ (1 : Int) < ((placesTo l (Lib.maxOf l) l.length).length : Nat) := by omega
            (repeat' (first | refine wSeq rfl ?_ | refine wBlock rfl ?_ | refine wSkip rfl ?_ | refine wExit rfl ?_ | refine wRet rfl ?_ | refine wCondT rfl rfl ?_ | refine wCondF rfl rfl ?_ | refine wOps rfl ?_ | refine wDraw rfl rfl ?_ | refine opsV_call rfl rfl (index_v hL _ _ _ _ hs hl) ?_ | simp only [seval, push_cast, ↓reduceIte, ↓bP_some, ↓aP_true, reduceCtorEq, hz, h1']))
            rw [show firstV 3 l = .tup [.int .i64 (placeL l (Lib.maxOf l)), .bool true] by unfold firstV; rw [hf, top_one hl0 (by omega) h1]]
            exact FnQ.ret rfl rfl
theorem prefers_v (k : Int) (s : Nat) (l : List Int) (c : Option Nat) (x y : Int) (hs : s = 1 ∨ l = []) (hl : l.length < 4611686018427387904) : VFn L 15 [(.agg [.int .u8 k, tl mrow s (l) c]), .int .i64 x, .int .i64 y] (.bool (prefersL k l x y)) := by
  refine VFn.start (F := T15.1) (by rw [hL]; rfl) rfl rfl rfl ?_
  by_cases hx : x < 0
  · (repeat' (first | refine wSeq rfl ?_ | refine wBlock rfl ?_ | refine wSkip rfl ?_ | refine wExit rfl ?_ | refine wRet rfl ?_ | refine wCondT rfl rfl ?_ | refine wCondF rfl rfl ?_ | refine wOps rfl ?_ | refine wDraw rfl rfl ?_ | simp only [seval, push_cast, ↓reduceIte, ↓bP_some, ↓aP_true, reduceCtorEq, hx]))
    rw [show prefersL k l x y = false by unfold prefersL; rw [if_pos (.inl hx)]]
    exact FnQ.ret rfl rfl
  by_cases hy : y < 0
  · (repeat' (first | refine wSeq rfl ?_ | refine wBlock rfl ?_ | refine wSkip rfl ?_ | refine wExit rfl ?_ | refine wRet rfl ?_ | refine wCondT rfl rfl ?_ | refine wCondF rfl rfl ?_ | refine wOps rfl ?_ | refine wDraw rfl rfl ?_ | simp only [seval, push_cast, ↓reduceIte, ↓bP_some, ↓aP_true, reduceCtorEq, hx, hy]))
    rw [show prefersL k l x y = false by unfold prefersL; rw [if_pos (.inr hy)]]
    exact FnQ.ret rfl rfl
  have hxy : ¬ (x < 0 ∨ y < 0) := by omega
  obtain ⟨nx, rfl⟩ : ∃ n : Nat, x = n := ⟨x.toNat, by omega⟩
  obtain ⟨ny, rfl⟩ : ∃ n : Nat, y = n := ⟨y.toNat, by omega⟩
  by_cases h1 : k = 1
  · subst h1
    by_cases q1 : 0 ≤ placeL l nx
    · by_cases q2 : placeL l ny < 0
      · (repeat' (first | refine wSeq rfl ?_ | refine wBlock rfl ?_ | refine wSkip rfl ?_ | refine wExit rfl ?_ | refine wRet rfl ?_ | refine wCondT rfl rfl ?_ | refine wCondF rfl rfl ?_ | refine wOps rfl ?_ | refine wDraw rfl rfl ?_ | refine opsV_call rfl rfl (index_v hL _ _ _ _ hs hl) ?_ | simp only [seval, push_cast, ↓reduceIte, ↓bP_some, ↓aP_true, reduceCtorEq, hx, hy, q1, q2]))
        rw [show prefersL 1 l nx ny = true by unfold prefersL; rw [if_neg hxy, if_pos rfl]; simp [q1, q2]]
        exact FnQ.ret rfl rfl
      · (repeat' (first | refine wSeq rfl ?_ | refine wBlock rfl ?_ | refine wSkip rfl ?_ | refine wExit rfl ?_ | refine wRet rfl ?_ | refine wCondT rfl rfl ?_ | refine wCondF rfl rfl ?_ | refine wOps rfl ?_ | refine wDraw rfl rfl ?_ | refine opsV_call rfl rfl (index_v hL _ _ _ _ hs hl) ?_ | simp only [seval, push_cast, ↓reduceIte, ↓bP_some, ↓aP_true, reduceCtorEq, hx, hy, q1, q2]))
        rw [show prefersL 1 l nx ny = decide (placeL l nx < placeL l ny) by unfold prefersL; rw [if_neg hxy, if_pos rfl]; simp [q1, q2]]
        exact FnQ.ret rfl rfl
    · (repeat' (first | refine wSeq rfl ?_ | refine wBlock rfl ?_ | refine wSkip rfl ?_ | refine wExit rfl ?_ | refine wRet rfl ?_ | refine wCondT rfl rfl ?_ | refine wCondF rfl rfl ?_ | refine wOps rfl ?_ | refine wDraw rfl rfl ?_ | refine opsV_call rfl rfl (index_v hL _ _ _ _ hs hl) ?_ | simp only [seval, push_cast, ↓reduceIte, ↓bP_some, ↓aP_true, reduceCtorEq, hx, hy, q1]))
      rw [show prefersL 1 l nx ny = false by unfold prefersL; rw [if_neg hxy, if_pos rfl]; simp [q1]]
      exact FnQ.ret rfl rfl
  by_cases h2 : k = 2
  · subst h2
    by_cases q1 : 0 ≤ placeL l nx
    · (repeat' (first | refine wSeq rfl ?_ | refine wBlock rfl ?_ | refine wSkip rfl ?_ | refine wExit rfl ?_ | refine wRet rfl ?_ | refine wCondT rfl rfl ?_ | refine wCondF rfl rfl ?_ | refine wOps rfl ?_ | refine wDraw rfl rfl ?_ | refine opsV_call rfl rfl (index_v hL _ _ _ _ hs hl) ?_ | simp only [seval, push_cast, ↓reduceIte, ↓bP_some, ↓aP_true, reduceCtorEq, hx, hy, q1, h1]))
      rw [show prefersL 2 l nx ny = decide (placeL l ny < 0) by unfold prefersL; rw [if_neg hxy, if_neg (by decide), if_pos rfl]; simp [q1]]
      exact FnQ.ret rfl rfl
    · (repeat' (first | refine wSeq rfl ?_ | refine wBlock rfl ?_ | refine wSkip rfl ?_ | refine wExit rfl ?_ | refine wRet rfl ?_ | refine wCondT rfl rfl ?_ | refine wCondF rfl rfl ?_ | refine wOps rfl ?_ | refine wDraw rfl rfl ?_ | refine opsV_call rfl rfl (index_v hL _ _ _ _ hs hl) ?_ | simp only [seval, push_cast, ↓reduceIte, ↓bP_some, ↓aP_true, reduceCtorEq, hx, hy, q1, h1]))
      rw [show prefersL 2 l nx ny = false by unfold prefersL; rw [if_neg hxy, if_neg (by decide), if_pos rfl]; simp [q1]]
      exact FnQ.ret rfl rfl
  by_cases h3 : k = 3
  · subst h3
    have e3 : prefersL 3 l nx ny = (decide ((nx : Int) < l.length) && decide ((ny : Int) < l.length) && decide (l[ny]?.getD 0 < l[nx]?.getD 0)) := by unfold prefersL; rw [if_neg hxy, if_neg (by decide), if_neg (by decide), if_pos rfl]; rfl
    by_cases q1 : nx < l.length
    · by_cases q2 : ny < l.length
      · obtain ⟨a, ha, _⟩ := get_of q1
        obtain ⟨b, hb, _⟩ := get_of q2
        obtain rfl := size_of hs q1
        (repeat' (first | refine wSeq rfl ?_ | refine wBlock rfl ?_ | refine wSkip rfl ?_ | refine wExit rfl ?_ | refine wRet rfl ?_ | refine wCondT rfl rfl ?_ | refine wCondF rfl rfl ?_ | refine wOps rfl ?_ | refine wDraw rfl rfl ?_ | refine opsV_call rfl rfl (index_v hL _ _ _ _ hs hl) ?_ | simp only [seval, push_cast, ↓reduceIte, ↓bP_some, ↓aP_true, reduceCtorEq, hx, hy, q1, q2, h1, h2, ha, hb, iaQ_tl q1, iaQ_tl q2]))
        rw [e3, ha, hb, decide_eq_true (show (nx : Int) < l.length by omega), decide_eq_true (show (ny : Int) < l.length by omega)]
        exact FnQ.ret rfl rfl
      · (repeat' (first | refine wSeq rfl ?_ | refine wBlock rfl ?_ | refine wSkip rfl ?_ | refine wExit rfl ?_ | refine wRet rfl ?_ | refine wCondT rfl rfl ?_ | refine wCondF rfl rfl ?_ | refine wOps rfl ?_ | refine wDraw rfl rfl ?_ | refine opsV_call rfl rfl (index_v hL _ _ _ _ hs hl) ?_ | simp only [seval, push_cast, ↓reduceIte, ↓bP_some, ↓aP_true, reduceCtorEq, hx, hy, q1, q2, h1, h2]))
        rw [e3, decide_eq_false (show ¬ (ny : Int) < l.length by omega), Bool.and_false]
        exact FnQ.ret rfl rfl
    · (repeat' (first | refine wSeq rfl ?_ | refine wBlock rfl ?_ | refine wSkip rfl ?_ | refine wExit rfl ?_ | refine wRet rfl ?_ | refine wCondT rfl rfl ?_ | refine wCondF rfl rfl ?_ | refine wOps rfl ?_ | refine wDraw rfl rfl ?_ | refine opsV_call rfl rfl (index_v hL _ _ _ _ hs hl) ?_ | simp only [seval, push_cast, ↓reduceIte, ↓bP_some, ↓aP_true, reduceCtorEq, hx, hy, q1, h1, h2]))
      rw [e3, decide_eq_false (show ¬ (nx : Int) < l.length by omega)]
      exact FnQ.ret rfl rfl
  · (repeat' (first | refine wSeq rfl ?_ | refine wBlock rfl ?_ | refine wSkip rfl ?_ | refine wExit rfl ?_ | refine wRet rfl ?_ | refine wCondT rfl rfl ?_ | refine wCondF rfl rfl ?_ | refine wOps rfl ?_ | refine wDraw rfl rfl ?_ | refine opsV_call rfl rfl (index_v hL _ _ _ _ hs hl) ?_ | simp only [seval, push_cast, ↓reduceIte, ↓bP_some, ↓aP_true, reduceCtorEq, hx, hy, h1, h2, h3]))
    rw [show prefersL k l nx ny = false by unfold prefersL; rw [if_neg hxy, if_neg h1, if_neg h2, if_neg h3]]
    exact FnQ.ret rfl rfl
theorem same_v (k j : Int) (s t : Nat) (l m : List Int) (c d : Option Nat) (hs : s = 1 ∨ l = []) (ht : t = 1 ∨ m = []) (hl : l.length < 4611686018427387904) (hm : m.length < 4611686018427387904) : VFn L 17 [(.agg [.int .u8 k, tl mrow s (l) c]), (.agg [.int .u8 j, tl mrow t (m) d])] (.bool (sameL k l j m)) := by
  refine VFn.start (F := T17.1) (by rw [hL]; rfl) rfl rfl rfl ?_
  by_cases hk : k = j
  · subst hk
    (repeat' (first | refine wSeq rfl ?_ | refine wBlock rfl ?_ | refine wSkip rfl ?_ | refine wExit rfl ?_ | refine wRet rfl ?_ | refine wCondT rfl rfl ?_ | refine wCondF rfl rfl ?_ | refine wOps rfl ?_ | refine wDraw rfl rfl ?_ | refine opsV_call rfl rfl (equal_v hL _ _ _ _ _ _ hs ht hl hm) ?_ | simp only [seval, push_cast, ↓reduceIte, ↓bP_some, ↓aP_true, reduceCtorEq]))
    rw [show sameL k l k m = decide (l = m) by simp [sameL]]
    exact FnQ.ret rfl rfl
  · (repeat' (first | refine wSeq rfl ?_ | refine wBlock rfl ?_ | refine wSkip rfl ?_ | refine wExit rfl ?_ | refine wRet rfl ?_ | refine wCondT rfl rfl ?_ | refine wCondF rfl rfl ?_ | refine wOps rfl ?_ | refine wDraw rfl rfl ?_ | refine opsV_call rfl rfl (equal_v hL _ _ _ _ _ _ hs ht hl hm) ?_ | simp only [seval, push_cast, ↓reduceIte, ↓bP_some, ↓aP_true, reduceCtorEq, hk]))
    rw [show sameL k l j m = false by simp [sameL, hk]]
    exact FnQ.ret rfl rfl
theorem less_b_v (k j : Int) (s t : Nat) (l m : List Int) (c d : Option Nat) (hs : s = 1 ∨ l = []) (ht : t = 1 ∨ m = []) (hl : l.length < 4611686018427387904) (hm : m.length < 4611686018427387904) : VFn L 19 [(.agg [.int .u8 k, tl mrow s (l) c]), (.agg [.int .u8 j, tl mrow t (m) d])] (.bool (lessL k l j m)) := by
  refine VFn.start (F := T19.1) (by rw [hL]; rfl) rfl rfl rfl ?_
  by_cases hk : k = j
  · subst hk
    (repeat' (first | refine wSeq rfl ?_ | refine wBlock rfl ?_ | refine wSkip rfl ?_ | refine wExit rfl ?_ | refine wRet rfl ?_ | refine wCondT rfl rfl ?_ | refine wCondF rfl rfl ?_ | refine wOps rfl ?_ | refine wDraw rfl rfl ?_ | refine opsV_call rfl rfl (compare_v hL _ _ _ _ _ _ hs ht hl hm) ?_ | simp only [seval, push_cast, ↓reduceIte, ↓bP_some, ↓aP_true, reduceCtorEq]))
    rw [show lessL k l k m = decide (cmpL l m < 0) by simp [lessL, cmpL_ahead]]
    exact FnQ.ret rfl rfl
  · (repeat' (first | refine wSeq rfl ?_ | refine wBlock rfl ?_ | refine wSkip rfl ?_ | refine wExit rfl ?_ | refine wRet rfl ?_ | refine wCondT rfl rfl ?_ | refine wCondF rfl rfl ?_ | refine wOps rfl ?_ | refine wDraw rfl rfl ?_ | simp only [seval, push_cast, ↓reduceIte, ↓bP_some, ↓aP_true, reduceCtorEq, hk]))
    rw [show lessL k l j m = decide (k < j) by simp [lessL, hk]]
    exact FnQ.ret rfl rfl
end Go.Proofs.YtnhfbabenifbkaaGreatDoor
