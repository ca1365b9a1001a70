/- Ballots: the program's functions, walked. · Ballots: the program's functions, walked: Check, alone, First, Prefers, Same, Less. · Ballots: the reference, walked. · Margins: gains, by the program and by the reference, walked. -/
import Derived.Test.YtncdaicaljpgfaaGreatM1
import Derived.Test.YtncdaicaljpgfaaGreatM5
import Derived.Test.YtncdaicaljpgfaaGreatM3
set_option maxRecDepth 100000
set_option linter.unusedVariables false
set_option linter.unusedSimpArgs false
namespace Go.Proofs.YtncdaicaljpgfaaGreat
variable {L : Lib} (hL : L.T = tab.get)
include hL
theorem within_v (n lo hi : Int) : VFn L 38 [.int .i64 n, .int .i64 lo, .int .i64 hi] (.bool (decide (lo ≤ n) && decide (n < hi))) := by
  refine VFn.start (F := T38.1) (by rw [hL]; rfl) rfl rfl rfl ?_
  by_cases h : lo ≤ n
  · (repeat' (first | refine wSeq rfl ?_ | refine wBlock rfl ?_ | refine wSkip rfl ?_ | refine wExit rfl ?_ | refine wRet rfl ?_ | refine wCondT rfl rfl ?_ | refine wCondF rfl rfl ?_ | refine wOps rfl ?_ | refine wDraw rfl rfl ?_ | simp only [seval, push_cast, ↓reduceIte, ↓bP_some, ↓aP_true, reduceCtorEq, h]))
    exact FnQ.ret rfl rfl
  · (repeat' (first | refine wSeq rfl ?_ | refine wBlock rfl ?_ | refine wSkip rfl ?_ | refine wExit rfl ?_ | refine wRet rfl ?_ | refine wCondT rfl rfl ?_ | refine wCondF rfl rfl ?_ | refine wOps rfl ?_ | refine wDraw rfl rfl ?_ | simp only [seval, push_cast, ↓reduceIte, ↓bP_some, ↓aP_true, reduceCtorEq, h]))
    exact FnQ.ret rfl rfl
omit hL
def badMark (k cands m : Int) : Bool := if k = 3 then !(decide (0 ≤ m) && decide (m < 11)) else !(decide (0 ≤ m) && decide (m < cands))
def marksOk (k : Int) (l : List Int) (cands : Int) : Bool := l.all (fun m => !badMark k cands m)
def fineR (k : Int) (l : List Int) (cands : Int) : Bool := marksOk k l cands && (if k = 3 then decide ((l.length : Int) = cands) else if k = 2 then sortedB l && decide l.Nodup else if k = 1 then decide l.Nodup else false)
theorem fineR_bad {k cands : Int} {l : List Int} {j : Nat} {x : Int} (hx : l[j]? = some x) (hb : badMark k cands x = true) : fineR k l cands = false := by
  have : marksOk k l cands = false := by
    rw [Bool.eq_false_iff]
    intro h
    have := List.all_eq_true.1 h x (List.mem_of_getElem? hx)
    rw [hb] at this; cases this
  unfold fineR
  rw [this]; rfl
theorem marksOk_of {k cands : Int} {l : List Int} (h : ∀ i x, i < l.length → l[i]? = some x → badMark k cands x = false) : marksOk k l cands = true := List.all_eq_true.2 fun x hx => by
  obtain ⟨i, hi⟩ := List.mem_iff_getElem?.1 hx
  rw [h i x (List.getElem?_eq_some_iff.1 hi).1 hi]; rfl
theorem all_snoc {α : Type} {P : α → Prop} {l : List α} {j : Nat} {x : α} (hx : l[j]? = some x) (hI : ∀ i x, i < j → l[i]? = some x → P x) (h : P x) : ∀ i x, i < j + 1 → l[i]? = some x → P x := fun i y hi hy => by
  by_cases e : i = j
  · subst e; rw [hx] at hy; cases hy; exact h
  · exact hI i y (by omega) hy
def seenRow (p : List Int) : List V := (List.range 10).map fun i : Nat => V.bool (decide ((i : Int) ∈ p))
theorem seenRow_get {p : List Int} {n : Nat} (h : n < 10) : (seenRow p)[n]? = some (.bool (decide ((n : Int) ∈ p))) := by simp [seenRow, h]
theorem seenRow_len {p : List Int} : (seenRow p).length = 10 := by simp [seenRow]
theorem seenRow_set {p : List Int} {n : Nat} (h : n < 10) : (seenRow p).take n ++ [V.bool true] ++ (seenRow p).drop (n + 1) = seenRow (p ++ [(n : Int)]) := by
  apply List.ext_getElem?
  intro i
  by_cases hi : i < 10
  · rw [seenRow_get hi, List.append_assoc, List.getElem?_append]
    have hl : (List.take n (seenRow p)).length = n := by rw [List.length_take, seenRow_len]; omega
    rw [hl]
    by_cases h1 : i < n
    · rw [if_pos h1, List.getElem?_take, if_pos h1, seenRow_get hi]
      have : ¬ ((i : Int) = (n : Int)) := by omega
      simp [this]
    · rw [if_neg h1]
      by_cases h2 : i = n
      · subst h2; simp
      · rw [List.getElem?_append_right (by simp; omega), List.length_singleton, List.getElem?_drop, show n + 1 + (i - n - 1) = i by omega, seenRow_get hi]
        have : ¬ ((i : Int) = (n : Int)) := by omega
        simp [this]
  · rw [List.getElem?_eq_none (by simp [seenRow_len]; omega), List.getElem?_eq_none (by rw [seenRow_len]; omega)]
theorem fine_seen {k : Int} {s : Nat} {l : List Int} {c : Option Nat} (hs : s = 1 ∨ l = []) (hl : l.length < 4611686018427387904) (hb : ∀ x ∈ l, 0 ≤ x ∧ x < 10) {Q : Exit → Env → Heap → Prop} (hq : ∀ b H', b = decide l.Nodup → Q .ret [(4, .bool b)] H') :
    SWP L 0 T39.1.ntmps T39.1.body.r.r.l.r.l.r.l.r.l.r.l (qB T39.1.body.r.r.l.r.l.r.l.r.l.r.id (qN L 0 T39.1.ntmps T39.1.body.r.r.l.r.l.r.l.r.r Q))
    [(7, V.ptr 1 10 0 0), (55, tl mrow s l c), (56, V.int IntKind.i64 ↑l.length), (57, V.int IntKind.i64 0)]
    [some (Blk.arr 2 [[V.int IntKind.u8 k, tl mrow s l c]]), some (Blk.arr 10 [seenRow []])] := by
  refine wCntH rfl 57 l.length (fun _ => []) (fun j => [some (Blk.arr 2 [[V.int IntKind.u8 k, tl mrow s l c]]), some (Blk.arr 10 [seenRow (l.take j)])]) (fun j => (l.take j).Nodup) rfl rfl (by simp) ?_ ?_
  · intro j hj hI
    obtain ⟨x, hx, hm⟩ := get_of hj
    obtain rfl := size_of hs hj
    obtain ⟨h0, h10⟩ := hb x hm
    obtain ⟨n, rfl⟩ : ∃ n : Nat, x = n := ⟨x.toNat, by omega⟩
    have hn : n < 10 := by omega
    have hn9 : n ≤ 9 := by omega
    have hw := wrap_succ (show j < 9223372036854775807 by omega)
    have htk := take_snoc hx
    have hsg := seenRow_get (p := l.take j) hn
    cases hmem : decide ((n : Int) ∈ l.take j) with
    | true =>
      (repeat' (first | refine wSeq rfl ?_ | refine wBlock rfl ?_ | refine wSkip rfl ?_ | refine wExit rfl ?_ | refine wRet rfl ?_ | refine wCondT rfl rfl ?_ | refine wCondF rfl rfl ?_ | refine wOps rfl ?_ | refine wDraw rfl rfl ?_ | simp only [seval, push_cast, ↓reduceIte, ↓bP_some, ↓aP_true, reduceCtorEq, iaQ_tl hj, hx, hj, hn, hn9, Nat.mul_one, hsg, hmem]))
      refine hq _ _ ?_
      symm
      rw [decide_eq_false_iff_not]
      intro h
      have := h.sublist (List.take_sublist (j + 1) l)
      rw [htk, List.nodup_append] at this
      exact this.2.2 _ (of_decide_eq_true hmem) _ (by simp) rfl
    | false =>
      (repeat' (first | refine wSeq rfl ?_ | refine wBlock rfl ?_ | refine wSkip rfl ?_ | refine wExit rfl ?_ | refine wRet rfl ?_ | refine wCondT rfl rfl ?_ | refine wCondF rfl rfl ?_ | refine wOps rfl ?_ | refine wDraw rfl rfl ?_ | simp only [seval, push_cast, ↓reduceIte, ↓bP_some, ↓aP_true, reduceCtorEq, iaQ_tl hj, hx, hj, hn, hn9, Nat.mul_one, hsg, hmem, seenRow_len, seenRow_set hn, hw]))
      refine qR_n rfl (by rw [htk]) ?_
      rw [htk, List.nodup_append]
      refine ⟨hI, by simp, fun a ha b hb e => ?_⟩
      rw [List.mem_singleton] at hb
      subst hb; subst e; exact of_decide_eq_false hmem ha
  · intro hI
    (repeat' (first | refine wSeq rfl ?_ | refine wBlock rfl ?_ | refine wSkip rfl ?_ | refine wExit rfl ?_ | refine wRet rfl ?_ | refine wCondT rfl rfl ?_ | refine wCondF rfl rfl ?_ | refine wOps rfl ?_ | refine wDraw rfl rfl ?_ | simp only [seval, push_cast, ↓reduceIte, ↓bP_some, ↓aP_true, reduceCtorEq]))
    refine hq _ _ ?_
    symm
    rw [decide_eq_true_iff]
    rwa [take_all] at hI
include hL
theorem fineR_v (k cands : Int) (s : Nat) (l : List Int) (c : Option Nat) (hs : s = 1 ∨ l = []) (hl : l.length < 4611686018427387904) (hc : cands ≤ 10) : VFn L 39 [.agg [.int .u8 k, tl mrow s l c], .int .i64 cands] (.bool (fineR k l cands)) := by
  refine VFn.start (F := T39.1) (by rw [hL]; rfl) rfl rfl rfl ?_
  (repeat' (first | refine wSeq rfl ?_ | refine wBlock rfl ?_ | refine wSkip rfl ?_ | refine wExit rfl ?_ | refine wRet rfl ?_ | refine wCondT rfl rfl ?_ | refine wCondF rfl rfl ?_ | refine wOps rfl ?_ | refine wDraw rfl rfl ?_ | simp only [seval, push_cast, ↓reduceIte, ↓bP_some, ↓aP_true, reduceCtorEq]))
  refine wCnt rfl 13 l.length (fun _ => []) (fun j => ∀ i x, i < j → l[i]? = some x → badMark k cands x = false) rfl (fun i x h => by omega) ?_ ?_
  · intro j hj hI
    obtain ⟨x, hx, hm⟩ := get_of hj
    obtain rfl := size_of hs hj
    have hw := wrap_succ (show j < 9223372036854775807 by omega)
    by_cases hk : k = 3
    · subst hk
      cases hb : (decide (0 ≤ x) && decide (x < 11)) with
      | false =>
        (repeat' (first | refine wSeq rfl ?_ | refine wBlock rfl ?_ | refine wSkip rfl ?_ | refine wExit rfl ?_ | refine wRet rfl ?_ | refine wCondT rfl rfl ?_ | refine wCondF rfl rfl ?_ | refine wOps rfl ?_ | refine wDraw rfl rfl ?_ | refine opsV_call rfl rfl (within_v hL _ _ _) ?_ | simp only [seval, push_cast, ↓reduceIte, ↓bP_some, ↓aP_true, reduceCtorEq, iaQ_tl hj, hx, hj, hb]))
        rw [fineR_bad hx (by simp [badMark, hb])]
        exact FnQ.ret rfl rfl
      | true =>
        (repeat' (first | refine wSeq rfl ?_ | refine wBlock rfl ?_ | refine wSkip rfl ?_ | refine wExit rfl ?_ | refine wRet rfl ?_ | refine wCondT rfl rfl ?_ | refine wCondF rfl rfl ?_ | refine wOps rfl ?_ | refine wDraw rfl rfl ?_ | refine opsV_call rfl rfl (within_v hL _ _ _) ?_ | simp only [seval, push_cast, ↓reduceIte, ↓bP_some, ↓aP_true, reduceCtorEq, iaQ_tl hj, hx, hj, hb, hw]))
        exact qR_n rfl rfl (all_snoc (P := fun x => badMark 3 cands x = false) hx hI (by simp [badMark, hb]))
    · cases hb : (decide (0 ≤ x) && decide (x < cands)) with
      | false =>
        (repeat' (first | refine wSeq rfl ?_ | refine wBlock rfl ?_ | refine wSkip rfl ?_ | refine wExit rfl ?_ | refine wRet rfl ?_ | refine wCondT rfl rfl ?_ | refine wCondF rfl rfl ?_ | refine wOps rfl ?_ | refine wDraw rfl rfl ?_ | refine opsV_call rfl rfl (within_v hL _ _ _) ?_ | simp only [seval, push_cast, ↓reduceIte, ↓bP_some, ↓aP_true, reduceCtorEq, iaQ_tl hj, hx, hj, hk, hb]))
        rw [fineR_bad hx (by simp [badMark, hb, hk])]
        exact FnQ.ret rfl rfl
      | true =>
        (repeat' (first | refine wSeq rfl ?_ | refine wBlock rfl ?_ | refine wSkip rfl ?_ | refine wExit rfl ?_ | refine wRet rfl ?_ | refine wCondT rfl rfl ?_ | refine wCondF rfl rfl ?_ | refine wOps rfl ?_ | refine wDraw rfl rfl ?_ | refine opsV_call rfl rfl (within_v hL _ _ _) ?_ | simp only [seval, push_cast, ↓reduceIte, ↓bP_some, ↓aP_true, reduceCtorEq, iaQ_tl hj, hx, hj, hk, hb, hw]))
        exact qR_n rfl rfl (all_snoc (P := fun x => badMark k cands x = false) hx hI (by simp [badMark, hb, hk]))
  · intro hI
    have hR : fineR k l cands = (if k = 3 then decide ((l.length : Int) = cands) else if k = 2 then sortedB l && decide l.Nodup else if k = 1 then decide l.Nodup else false) := by unfold fineR; rw [marksOk_of hI]; rfl
    by_cases h3 : k = 3
    · subst h3
      (repeat' (first | refine wSeq rfl ?_ | refine wBlock rfl ?_ | refine wSkip rfl ?_ | refine wExit rfl ?_ | refine wRet rfl ?_ | refine wCondT rfl rfl ?_ | refine wCondF rfl rfl ?_ | refine wOps rfl ?_ | refine wDraw rfl rfl ?_ | simp only [seval, push_cast, ↓reduceIte, ↓bP_some, ↓aP_true, reduceCtorEq]))
      rw [hR]
      exact FnQ.ret rfl rfl
    · have hb10 : ∀ x ∈ l, 0 ≤ x ∧ x < 10 := fun x hx => by
        have := List.all_eq_true.1 (marksOk_of hI) x hx
        simp only [badMark, if_neg h3, Bool.not_not, Bool.and_eq_true, decide_eq_true_eq] at this
        omega
      by_cases h2 : k = 2
      · subst h2
        cases hso : sortedB l with
        | false =>
          (repeat' (first | refine wSeq rfl ?_ | refine wBlock rfl ?_ | refine wSkip rfl ?_ | refine wExit rfl ?_ | refine wRet rfl ?_ | refine wCondT rfl rfl ?_ | refine wCondF rfl rfl ?_ | refine wOps rfl ?_ | refine wDraw rfl rfl ?_ | refine opsV_call rfl rfl (isSorted_v hL s l c hs hl) ?_ | simp only [seval, push_cast, ↓reduceIte, ↓bP_some, ↓aP_true, reduceCtorEq, h3, hso]))
          rw [hR, hso]
          exact FnQ.ret rfl rfl
        | true =>
          (repeat' (first | refine wSeq rfl ?_ | refine wBlock rfl ?_ | refine wSkip rfl ?_ | refine wExit rfl ?_ | refine wRet rfl ?_ | refine wCondT rfl rfl ?_ | refine wCondF rfl rfl ?_ | refine wOps rfl ?_ | refine wDraw rfl rfl ?_ | refine opsV_call rfl rfl (isSorted_v hL s l c hs hl) ?_ | simp only [seval, push_cast, ↓reduceIte, ↓bP_some, ↓aP_true, reduceCtorEq, h3, hso]))
          refine fine_seen hs hl hb10 (fun b H' hb => ?_)
          (repeat' (first | refine wSeq rfl ?_ | refine wBlock rfl ?_ | refine wSkip rfl ?_ | refine wExit rfl ?_ | refine wRet rfl ?_ | refine wCondT rfl rfl ?_ | refine wCondF rfl rfl ?_ | refine wOps rfl ?_ | refine wDraw rfl rfl ?_ | simp only [seval, push_cast, ↓reduceIte, ↓bP_some, ↓aP_true, reduceCtorEq]))
          rw [hR, hso, hb]
          exact FnQ.ret rfl rfl
      · by_cases h1 : k = 1
        · subst h1
          (repeat' (first | refine wSeq rfl ?_ | refine wBlock rfl ?_ | refine wSkip rfl ?_ | refine wExit rfl ?_ | refine wRet rfl ?_ | refine wCondT rfl rfl ?_ | refine wCondF rfl rfl ?_ | refine wOps rfl ?_ | refine wDraw rfl rfl ?_ | simp only [seval, push_cast, ↓reduceIte, ↓bP_some, ↓aP_true, reduceCtorEq, h3, h2]))
          refine fine_seen hs hl hb10 (fun b H' hb => ?_)
          (repeat' (first | refine wSeq rfl ?_ | refine wBlock rfl ?_ | refine wSkip rfl ?_ | refine wExit rfl ?_ | refine wRet rfl ?_ | refine wCondT rfl rfl ?_ | refine wCondF rfl rfl ?_ | refine wOps rfl ?_ | refine wDraw rfl rfl ?_ | simp only [seval, push_cast, ↓reduceIte, ↓bP_some, ↓aP_true, reduceCtorEq]))
          rw [hR, hb]
          exact FnQ.ret rfl rfl
        · (repeat' (first | refine wSeq rfl ?_ | refine wBlock rfl ?_ | refine wSkip rfl ?_ | refine wExit rfl ?_ | refine wRet rfl ?_ | refine wCondT rfl rfl ?_ | refine wCondF rfl rfl ?_ | refine wOps rfl ?_ | refine wDraw rfl rfl ?_ | simp only [seval, push_cast, ↓reduceIte, ↓bP_some, ↓aP_true, reduceCtorEq, h3, h2, h1]))
          rw [hR, if_neg h3, if_neg h2, if_neg h1]
          exact FnQ.ret rfl rfl
omit hL
theorem fineR_eq (k : Int) (l : List Int) (c : Int) : fineR k l c = fineL k l c := by
  have hm3 : marksOk 3 l c = l.all (inB 0 11) := by
    unfold marksOk; congr 1; funext m; simp [badMark, inB]
  have hm : k ≠ 3 → marksOk k l c = l.all (inB 0 c) := fun h => by
    unfold marksOk; congr 1; funext m; simp [badMark, inB, h]
  unfold fineR fineL
  by_cases h3 : k = 3
  · subst h3; rw [hm3]; rfl
  · rw [hm h3, if_neg h3, if_neg h3]
    by_cases h2 : k = 2
    · subst h2
      rw [if_pos rfl, if_neg (by decide), if_pos rfl, sortedB_pw]
      congr 1
      have := pw_lt_iff l
      by_cases h1 : l.Pairwise (· ≤ ·)
      · rw [decide_eq_true h1, Bool.true_and]
        exact decide_eq_decide.2 ⟨fun h => this.2 ⟨h1, h⟩, fun h => (this.1 h).2⟩
      · rw [decide_eq_false h1, Bool.false_and]
        symm
        exact decide_eq_false fun h => h1 (this.1 h).1
    · rw [if_neg h2]
      by_cases h1 : k = 1
      · subst h1; rfl
      · rw [if_neg h1, if_neg h1, if_neg h2, Bool.and_false]
include hL
theorem fine_v (k cands : Int) (s : Nat) (l : List Int) (c : Option Nat) (hs : s = 1 ∨ l = []) (hl : l.length < 4611686018427387904) (hc : cands ≤ 10) : VFn L 39 [(.agg [.int .u8 k, tl mrow s (l) c]), .int .i64 cands] (.bool (fineL k l cands)) := by
  rw [← fineR_eq]
  exact fineR_v hL k cands s l c hs hl hc
end Go.Proofs.YtncdaicaljpgfaaGreat
set_option maxRecDepth 100000
set_option maxHeartbeats 4000000
set_option linter.unusedVariables false
set_option linter.unusedSimpArgs false
namespace Go.Proofs.YtncdaicaljpgfaaGreat
variable {L : Lib} (hL : L.T = tab.get)
include hL
theorem check_v (k cands : Int) (s : Nat) (l : List Int) (c : Option Nat) (hs : s = 1 ∨ l = []) (hl : l.length < 4611686018427387904) : VFn L 17 [(.agg [.int .u8 k, tl mrow s (l) c]), .int .i64 cands] (.int .i64 (checkL k l cands)) := by
  refine VFn.start (F := T17.1) (by rw [hL]; rfl) rfl rfl rfl ?_
  cases hw : (decide (1 ≤ cands) && decide (cands < 11)) with
  | false =>
    (repeat' (first | refine wSeq rfl ?_ | refine wBlock rfl ?_ | refine wSkip rfl ?_ | refine wExit rfl ?_ | refine wRet rfl ?_ | refine wCondT rfl rfl ?_ | refine wCondF rfl rfl ?_ | refine wOps rfl ?_ | refine wDraw rfl rfl ?_ | refine opsV_call rfl rfl (within_v hL _ _ _) ?_ | simp only [seval, push_cast, ↓reduceIte, ↓bP_some, ↓aP_true, reduceCtorEq, hw]))
    rw [show checkL k l cands = 2 by unfold checkL; rw [if_pos]; simp at hw; omega]
    exact FnQ.ret rfl rfl
  | true =>
    have hc : 1 ≤ cands ∧ cands ≤ 10 := by simp at hw; omega
    cases hf : fineL k l cands with
    | false =>
      (repeat' (first | refine wSeq rfl ?_ | refine wBlock rfl ?_ | refine wSkip rfl ?_ | refine wExit rfl ?_ | refine wRet rfl ?_ | refine wCondT rfl rfl ?_ | refine wCondF rfl rfl ?_ | refine wOps rfl ?_ | refine wDraw rfl rfl ?_ | refine opsV_call rfl rfl (within_v hL _ _ _) ?_ | refine opsV_call rfl rfl (fine_v hL _ _ _ _ _ hs hl hc.2) ?_ | simp only [seval, push_cast, ↓reduceIte, ↓bP_some, ↓aP_true, reduceCtorEq, hw, hf]))
      rw [show checkL k l cands = 8 by unfold checkL; rw [if_neg (by omega), if_pos hf]]
      exact FnQ.ret rfl rfl
    | true =>
      (repeat' (first | refine wSeq rfl ?_ | refine wBlock rfl ?_ | refine wSkip rfl ?_ | refine wExit rfl ?_ | refine wRet rfl ?_ | refine wCondT rfl rfl ?_ | refine wCondF rfl rfl ?_ | refine wOps rfl ?_ | refine wDraw rfl rfl ?_ | refine opsV_call rfl rfl (within_v hL _ _ _) ?_ | refine opsV_call rfl rfl (fine_v hL _ _ _ _ _ hs hl hc.2) ?_ | simp only [seval, push_cast, ↓reduceIte, ↓bP_some, ↓aP_true, reduceCtorEq, hw, hf]))
      rw [show checkL k l cands = 0 by unfold checkL; rw [if_neg (by omega), if_neg (by rw [hf]; simp)]]
      exact FnQ.ret rfl rfl
def firstV (k : Int) (l : List Int) : V := .tup [.int .i64 (firstL k l).1, .bool (firstL k l).2]
theorem prefers_v (k : Int) (s : Nat) (l : List Int) (c : Option Nat) (x y : Int) (hs : s = 1 ∨ l = []) (hl : l.length < 4611686018427387904) : VFn L 118 [(.agg [.int .u8 k, tl mrow s (l) c]), .int .i64 x, .int .i64 y] (.bool (prefersL k l x y)) := by
  refine VFn.start (F := T118.1) (by rw [hL]; rfl) rfl rfl rfl ?_
  by_cases hx : x < 0
  · (repeat' (first | refine wSeq rfl ?_ | refine wBlock rfl ?_ | refine wSkip rfl ?_ | refine wExit rfl ?_ | refine wRet rfl ?_ | refine wCondT rfl rfl ?_ | refine wCondF rfl rfl ?_ | refine wOps rfl ?_ | refine wDraw rfl rfl ?_ | simp only [seval, push_cast, ↓reduceIte, ↓bP_some, ↓aP_true, reduceCtorEq, hx]))
    rw [show prefersL k l x y = false by unfold prefersL; rw [if_pos (.inl hx)]]
    exact FnQ.ret rfl rfl
  by_cases hy : y < 0
  · (repeat' (first | refine wSeq rfl ?_ | refine wBlock rfl ?_ | refine wSkip rfl ?_ | refine wExit rfl ?_ | refine wRet rfl ?_ | refine wCondT rfl rfl ?_ | refine wCondF rfl rfl ?_ | refine wOps rfl ?_ | refine wDraw rfl rfl ?_ | simp only [seval, push_cast, ↓reduceIte, ↓bP_some, ↓aP_true, reduceCtorEq, hx, hy]))
    rw [show prefersL k l x y = false by unfold prefersL; rw [if_pos (.inr hy)]]
    exact FnQ.ret rfl rfl
  have hxy : ¬ (x < 0 ∨ y < 0) := by omega
  obtain ⟨nx, rfl⟩ : ∃ n : Nat, x = n := ⟨x.toNat, by omega⟩
  obtain ⟨ny, rfl⟩ : ∃ n : Nat, y = n := ⟨y.toNat, by omega⟩
  by_cases h1 : k = 1
  · subst h1
    by_cases q1 : 0 ≤ placeL l nx
    · by_cases q2 : placeL l ny < 0
      · (repeat' (first | refine wSeq rfl ?_ | refine wBlock rfl ?_ | refine wSkip rfl ?_ | refine wExit rfl ?_ | refine wRet rfl ?_ | refine wCondT rfl rfl ?_ | refine wCondF rfl rfl ?_ | refine wOps rfl ?_ | refine wDraw rfl rfl ?_ | refine opsV_call rfl rfl (index_v hL _ _ _ _ hs hl) ?_ | simp only [seval, push_cast, ↓reduceIte, ↓bP_some, ↓aP_true, reduceCtorEq, hx, hy, q1, q2]))
        rw [show prefersL 1 l nx ny = true by unfold prefersL; rw [if_neg hxy, if_pos rfl]; simp [q1, q2]]
        exact FnQ.ret rfl rfl
      · (repeat' (first | refine wSeq rfl ?_ | refine wBlock rfl ?_ | refine wSkip rfl ?_ | refine wExit rfl ?_ | refine wRet rfl ?_ | refine wCondT rfl rfl ?_ | refine wCondF rfl rfl ?_ | refine wOps rfl ?_ | refine wDraw rfl rfl ?_ | refine opsV_call rfl rfl (index_v hL _ _ _ _ hs hl) ?_ | simp only [seval, push_cast, ↓reduceIte, ↓bP_some, ↓aP_true, reduceCtorEq, hx, hy, q1, q2]))
        rw [show prefersL 1 l nx ny = decide (placeL l nx < placeL l ny) by unfold prefersL; rw [if_neg hxy, if_pos rfl]; simp [q1, q2]]
        exact FnQ.ret rfl rfl
    · (repeat' (first | refine wSeq rfl ?_ | refine wBlock rfl ?_ | refine wSkip rfl ?_ | refine wExit rfl ?_ | refine wRet rfl ?_ | refine wCondT rfl rfl ?_ | refine wCondF rfl rfl ?_ | refine wOps rfl ?_ | refine wDraw rfl rfl ?_ | refine opsV_call rfl rfl (index_v hL _ _ _ _ hs hl) ?_ | simp only [seval, push_cast, ↓reduceIte, ↓bP_some, ↓aP_true, reduceCtorEq, hx, hy, q1]))
      rw [show prefersL 1 l nx ny = false by unfold prefersL; rw [if_neg hxy, if_pos rfl]; simp [q1]]
      exact FnQ.ret rfl rfl
  by_cases h2 : k = 2
  · subst h2
    by_cases q1 : 0 ≤ placeL l nx
    · (repeat' (first | refine wSeq rfl ?_ | refine wBlock rfl ?_ | refine wSkip rfl ?_ | refine wExit rfl ?_ | refine wRet rfl ?_ | refine wCondT rfl rfl ?_ | refine wCondF rfl rfl ?_ | refine wOps rfl ?_ | refine wDraw rfl rfl ?_ | refine opsV_call rfl rfl (index_v hL _ _ _ _ hs hl) ?_ | simp only [seval, push_cast, ↓reduceIte, ↓bP_some, ↓aP_true, reduceCtorEq, hx, hy, q1, h1]))
      rw [show prefersL 2 l nx ny = decide (placeL l ny < 0) by unfold prefersL; rw [if_neg hxy, if_neg (by decide), if_pos rfl]; simp [q1]]
      exact FnQ.ret rfl rfl
    · (repeat' (first | refine wSeq rfl ?_ | refine wBlock rfl ?_ | refine wSkip rfl ?_ | refine wExit rfl ?_ | refine wRet rfl ?_ | refine wCondT rfl rfl ?_ | refine wCondF rfl rfl ?_ | refine wOps rfl ?_ | refine wDraw rfl rfl ?_ | refine opsV_call rfl rfl (index_v hL _ _ _ _ hs hl) ?_ | simp only [seval, push_cast, ↓reduceIte, ↓bP_some, ↓aP_true, reduceCtorEq, hx, hy, q1, h1]))
      rw [show prefersL 2 l nx ny = false by unfold prefersL; rw [if_neg hxy, if_neg (by decide), if_pos rfl]; simp [q1]]
      exact FnQ.ret rfl rfl
  by_cases h3 : k = 3
  · subst h3
    have e3 : prefersL 3 l nx ny = (decide ((nx : Int) < l.length) && decide ((ny : Int) < l.length) && decide (l[ny]?.getD 0 < l[nx]?.getD 0)) := by unfold prefersL; rw [if_neg hxy, if_neg (by decide), if_neg (by decide), if_pos rfl]; rfl
    by_cases q1 : nx < l.length
    · by_cases q2 : ny < l.length
      · obtain ⟨a, ha, _⟩ := get_of q1
        obtain ⟨b, hb, _⟩ := get_of q2
        obtain rfl := size_of hs q1
        (repeat' (first | refine wSeq rfl ?_ | refine wBlock rfl ?_ | refine wSkip rfl ?_ | refine wExit rfl ?_ | refine wRet rfl ?_ | refine wCondT rfl rfl ?_ | refine wCondF rfl rfl ?_ | refine wOps rfl ?_ | refine wDraw rfl rfl ?_ | refine opsV_call rfl rfl (index_v hL _ _ _ _ hs hl) ?_ | simp only [seval, push_cast, ↓reduceIte, ↓bP_some, ↓aP_true, reduceCtorEq, hx, hy, q1, q2, h1, h2, ha, hb, iaQ_tl q1, iaQ_tl q2]))
        rw [e3, ha, hb, decide_eq_true (show (nx : Int) < l.length by omega), decide_eq_true (show (ny : Int) < l.length by omega)]
        exact FnQ.ret rfl rfl
      · (repeat' (first | refine wSeq rfl ?_ | refine wBlock rfl ?_ | refine wSkip rfl ?_ | refine wExit rfl ?_ | refine wRet rfl ?_ | refine wCondT rfl rfl ?_ | refine wCondF rfl rfl ?_ | refine wOps rfl ?_ | refine wDraw rfl rfl ?_ | refine opsV_call rfl rfl (index_v hL _ _ _ _ hs hl) ?_ | simp only [seval, push_cast, ↓reduceIte, ↓bP_some, ↓aP_true, reduceCtorEq, hx, hy, q1, q2, h1, h2]))
        rw [e3, decide_eq_false (show ¬ (ny : Int) < l.length by omega), Bool.and_false]
        exact FnQ.ret rfl rfl
    · (repeat' (first | refine wSeq rfl ?_ | refine wBlock rfl ?_ | refine wSkip rfl ?_ | refine wExit rfl ?_ | refine wRet rfl ?_ | refine wCondT rfl rfl ?_ | refine wCondF rfl rfl ?_ | refine wOps rfl ?_ | refine wDraw rfl rfl ?_ | refine opsV_call rfl rfl (index_v hL _ _ _ _ hs hl) ?_ | simp only [seval, push_cast, ↓reduceIte, ↓bP_some, ↓aP_true, reduceCtorEq, hx, hy, q1, h1, h2]))
      rw [e3, decide_eq_false (show ¬ (nx : Int) < l.length by omega)]
      exact FnQ.ret rfl rfl
  · (repeat' (first | refine wSeq rfl ?_ | refine wBlock rfl ?_ | refine wSkip rfl ?_ | refine wExit rfl ?_ | refine wRet rfl ?_ | refine wCondT rfl rfl ?_ | refine wCondF rfl rfl ?_ | refine wOps rfl ?_ | refine wDraw rfl rfl ?_ | refine opsV_call rfl rfl (index_v hL _ _ _ _ hs hl) ?_ | simp only [seval, push_cast, ↓reduceIte, ↓bP_some, ↓aP_true, reduceCtorEq, hx, hy, h1, h2, h3]))
    rw [show prefersL k l nx ny = false by unfold prefersL; rw [if_neg hxy, if_neg h1, if_neg h2, if_neg h3]]
    exact FnQ.ret rfl rfl
end Go.Proofs.YtncdaicaljpgfaaGreat
set_option maxRecDepth 100000
set_option maxHeartbeats 4000000
set_option linter.unusedVariables false
set_option linter.unusedSimpArgs false
namespace Go.Proofs.YtncdaicaljpgfaaGreat
variable {L : Lib} (hL : L.T = tab.get)
include hL
theorem rplace_v (s : Nat) (l : List Int) (c : Option Nat) (x : Int) (hs : s = 1 ∨ l = []) (hl : l.length < 4611686018427387904) : VFn L 47 [tl mrow s l c, .int .i64 x] (.int .i64 (placeL l x)) := by
  refine VFn.start (F := T47.1) (by rw [hL]; rfl) rfl rfl rfl ?_
  (repeat' (first | refine wSeq rfl ?_ | refine wBlock rfl ?_ | refine wSkip rfl ?_ | refine wExit rfl ?_ | refine wRet rfl ?_ | refine wCondT rfl rfl ?_ | refine wCondF rfl rfl ?_ | refine wOps rfl ?_ | refine wDraw rfl rfl ?_ | simp only [seval, push_cast, ↓reduceIte, ↓bP_some, ↓aP_true, reduceCtorEq]))
  refine wCnt rfl 5 l.length (fun _ => []) (fun j => placeL l x = placeGo l x j) rfl (place_start l x) ?_ ?_
  · intro j hj hI
    obtain ⟨a, ha, _⟩ := get_of hj
    obtain rfl := size_of hs hj
    by_cases e : a = x
    · subst e
      (repeat' (first | refine wSeq rfl ?_ | refine wBlock rfl ?_ | refine wSkip rfl ?_ | refine wExit rfl ?_ | refine wRet rfl ?_ | refine wCondT rfl rfl ?_ | refine wCondF rfl rfl ?_ | refine wOps rfl ?_ | refine wDraw rfl rfl ?_ | simp only [seval, push_cast, ↓reduceIte, ↓bP_some, ↓aP_true, reduceCtorEq, iaQ_tl hj, ha, hj]))
      rw [hI, place_hit ha rfl]
      exact FnQ.ret rfl rfl
    · (repeat' (first | refine wSeq rfl ?_ | refine wBlock rfl ?_ | refine wSkip rfl ?_ | refine wExit rfl ?_ | refine wRet rfl ?_ | refine wCondT rfl rfl ?_ | refine wCondF rfl rfl ?_ | refine wOps rfl ?_ | refine wDraw rfl rfl ?_ | simp only [seval, push_cast, ↓reduceIte, ↓bP_some, ↓aP_true, reduceCtorEq, iaQ_tl hj, ha, hj, ne_both e, wrap_succ (show j < 9223372036854775807 by omega)]))
      exact qR_n rfl rfl (by rw [hI, place_miss ha e])
  · intro hI
    (repeat' (first | refine wSeq rfl ?_ | refine wBlock rfl ?_ | refine wSkip rfl ?_ | refine wExit rfl ?_ | refine wRet rfl ?_ | refine wCondT rfl rfl ?_ | refine wCondF rfl rfl ?_ | refine wOps rfl ?_ | refine wDraw rfl rfl ?_ | simp only [seval, push_cast, ↓reduceIte, ↓bP_some, ↓aP_true, reduceCtorEq]))
    rw [hI, place_end (by omega)]
    exact FnQ.ret rfl rfl
theorem rfine_v (k cands : Int) (s : Nat) (l : List Int) (c : Option Nat) (hs : s = 1 ∨ l = []) (hl : l.length < 4611686018427387904) : VFn L 24 [(.agg [.int .u8 k, tl mrow s (l) c]), .int .i64 cands] (.bool (fineL k l cands)) := by
  refine VFn.start (F := T24.1) (by rw [hL]; rfl) rfl rfl rfl ?_
  by_cases h3 : k = 3
  · subst h3
    (repeat' (first | refine wSeq rfl ?_ | refine wBlock rfl ?_ | refine wSkip rfl ?_ | refine wExit rfl ?_ | refine wRet rfl ?_ | refine wCondT rfl rfl ?_ | refine wCondF rfl rfl ?_ | refine wOps rfl ?_ | refine wDraw rfl rfl ?_ | simp only [seval, push_cast, ↓reduceIte, ↓bP_some, ↓aP_true, reduceCtorEq]))
    refine wCnt rfl 6 l.length (fun _ => []) (fun j => Fine3 l j) rfl (fine3_zero l) ?_ ?_
    · intro j hj hI
      obtain ⟨x, hx, _⟩ := get_of hj
      obtain rfl := size_of hs hj
      by_cases q1 : x < 0
      · (repeat' (first | refine wSeq rfl ?_ | refine wBlock rfl ?_ | refine wSkip rfl ?_ | refine wExit rfl ?_ | refine wRet rfl ?_ | refine wCondT rfl rfl ?_ | refine wCondF rfl rfl ?_ | refine wOps rfl ?_ | refine wDraw rfl rfl ?_ | simp only [seval, push_cast, ↓reduceIte, ↓bP_some, ↓aP_true, reduceCtorEq, iaQ_tl hj, hx, hj, q1]))
        rw [fine3_out hx (by omega)]
        exact FnQ.ret rfl rfl
      by_cases q2 : 10 < x
      · (repeat' (first | refine wSeq rfl ?_ | refine wBlock rfl ?_ | refine wSkip rfl ?_ | refine wExit rfl ?_ | refine wRet rfl ?_ | refine wCondT rfl rfl ?_ | refine wCondF rfl rfl ?_ | refine wOps rfl ?_ | refine wDraw rfl rfl ?_ | simp only [seval, push_cast, ↓reduceIte, ↓bP_some, ↓aP_true, reduceCtorEq, iaQ_tl hj, hx, hj, q1, q2]))
        rw [fine3_out hx (by omega)]
        exact FnQ.ret rfl rfl
      · (repeat' (first | refine wSeq rfl ?_ | refine wBlock rfl ?_ | refine wSkip rfl ?_ | refine wExit rfl ?_ | refine wRet rfl ?_ | refine wCondT rfl rfl ?_ | refine wCondF rfl rfl ?_ | refine wOps rfl ?_ | refine wDraw rfl rfl ?_ | simp only [seval, push_cast, ↓reduceIte, ↓bP_some, ↓aP_true, reduceCtorEq, iaQ_tl hj, hx, hj, q1, q2, wrap_succ (show j < 9223372036854775807 by omega)]))
        exact qR_n rfl rfl (fine3_step hI hx (by omega) (by omega))
    · intro hI
      (repeat' (first | refine wSeq rfl ?_ | refine wBlock rfl ?_ | refine wSkip rfl ?_ | refine wExit rfl ?_ | refine wRet rfl ?_ | refine wCondT rfl rfl ?_ | refine wCondF rfl rfl ?_ | refine wOps rfl ?_ | refine wDraw rfl rfl ?_ | simp only [seval, push_cast, ↓reduceIte, ↓bP_some, ↓aP_true, reduceCtorEq]))
      rw [fine3_ok hI (by omega)]
      exact FnQ.ret rfl rfl
  · by_cases h1 : k = 1
    · subst h1
      (repeat' (first | refine wSeq rfl ?_ | refine wBlock rfl ?_ | refine wSkip rfl ?_ | refine wExit rfl ?_ | refine wRet rfl ?_ | refine wCondT rfl rfl ?_ | refine wCondF rfl rfl ?_ | refine wOps rfl ?_ | refine wDraw rfl rfl ?_ | simp only [seval, push_cast, ↓reduceIte, ↓bP_some, ↓aP_true, reduceCtorEq]))
      refine wCnt rfl 7 l.length (fun _ => []) (fun j => Fine1 l cands j) rfl (fine1_zero l cands) ?_ ?_
      · intro j hj hI
        obtain ⟨x, hx, _⟩ := get_of hj
        obtain rfl := size_of hs hj
        by_cases q1 : x < 0
        · (repeat' (first | refine wSeq rfl ?_ | refine wBlock rfl ?_ | refine wSkip rfl ?_ | refine wExit rfl ?_ | refine wRet rfl ?_ | refine wCondT rfl rfl ?_ | refine wCondF rfl rfl ?_ | refine wOps rfl ?_ | refine wDraw rfl rfl ?_ | simp only [seval, push_cast, ↓reduceIte, ↓bP_some, ↓aP_true, reduceCtorEq, iaQ_tl hj, hx, hj, q1]))
          rw [fine1_out hx (by omega)]
          exact FnQ.ret rfl rfl
        by_cases q2 : cands ≤ x
        · (repeat' (first | refine wSeq rfl ?_ | refine wBlock rfl ?_ | refine wSkip rfl ?_ | refine wExit rfl ?_ | refine wRet rfl ?_ | refine wCondT rfl rfl ?_ | refine wCondF rfl rfl ?_ | refine wOps rfl ?_ | refine wDraw rfl rfl ?_ | simp only [seval, push_cast, ↓reduceIte, ↓bP_some, ↓aP_true, reduceCtorEq, iaQ_tl hj, hx, hj, q1, q2]))
          rw [fine1_out hx (by omega)]
          exact FnQ.ret rfl rfl
        have hlj : (l.take j).length < 4611686018427387904 := by rw [List.length_take]; omega
        by_cases q3 : 0 ≤ placeL (l.take j) x
        · by_cases q4 : 0 < j
          all_goals
            (repeat' (first | refine wSeq rfl ?_ | refine wBlock rfl ?_ | refine wSkip rfl ?_ | refine wExit rfl ?_ | refine wRet rfl ?_ | refine wCondT rfl rfl ?_ | refine wCondF rfl rfl ?_ | refine wOps rfl ?_ | refine wDraw rfl rfl ?_ | refine opsV_call rfl rfl (rplace_v hL 1 _ _ _ (.inl rfl) hlj) ?_ | simp only [seval, push_cast, ↓reduceIte, ↓bP_some, ↓aP_true, reduceCtorEq, iaQ_tl hj, hx, hj, q1, q2, q3, q4, Int.natCast_pos, sliceV_hi one_ok (Nat.le_of_lt hj)]))
            rw [fine1_dup hx q3]
            exact FnQ.ret rfl rfl
        · by_cases q4 : 0 < j
          all_goals
            (repeat' (first | refine wSeq rfl ?_ | refine wBlock rfl ?_ | refine wSkip rfl ?_ | refine wExit rfl ?_ | refine wRet rfl ?_ | refine wCondT rfl rfl ?_ | refine wCondF rfl rfl ?_ | refine wOps rfl ?_ | refine wDraw rfl rfl ?_ | refine opsV_call rfl rfl (rplace_v hL 1 _ _ _ (.inl rfl) hlj) ?_ | simp only [seval, push_cast, ↓reduceIte, ↓bP_some, ↓aP_true, reduceCtorEq, iaQ_tl hj, hx, hj, q1, q2, q3, q4, Int.natCast_pos, wrap_succ (show j < 9223372036854775807 by omega), sliceV_hi one_ok (Nat.le_of_lt hj)]))
            exact qR_n rfl rfl (fine1_step hI hx (by omega) (by omega) (by omega))
      · intro hI
        (repeat' (first | refine wSeq rfl ?_ | refine wBlock rfl ?_ | refine wSkip rfl ?_ | refine wExit rfl ?_ | refine wRet rfl ?_ | refine wCondT rfl rfl ?_ | refine wCondF rfl rfl ?_ | refine wOps rfl ?_ | refine wDraw rfl rfl ?_ | simp only [seval, push_cast, ↓reduceIte, ↓bP_some, ↓aP_true, reduceCtorEq]))
        rw [fine1_ok hI (by omega)]
        exact FnQ.ret rfl rfl
    · by_cases h2 : k = 2
      · subst h2
        (repeat' (first | refine wSeq rfl ?_ | refine wBlock rfl ?_ | refine wSkip rfl ?_ | refine wExit rfl ?_ | refine wRet rfl ?_ | refine wCondT rfl rfl ?_ | refine wCondF rfl rfl ?_ | refine wOps rfl ?_ | refine wDraw rfl rfl ?_ | simp only [seval, push_cast, ↓reduceIte, ↓bP_some, ↓aP_true, reduceCtorEq]))
        refine wCnt rfl 7 l.length (fun _ => []) (fun j => Fine2 l cands j) rfl (fine2_zero l cands) ?_ ?_
        · intro j hj hI
          obtain ⟨x, hx, _⟩ := get_of hj
          obtain rfl := size_of hs hj
          by_cases q1 : x < 0
          · (repeat' (first | refine wSeq rfl ?_ | refine wBlock rfl ?_ | refine wSkip rfl ?_ | refine wExit rfl ?_ | refine wRet rfl ?_ | refine wCondT rfl rfl ?_ | refine wCondF rfl rfl ?_ | refine wOps rfl ?_ | refine wDraw rfl rfl ?_ | simp only [seval, push_cast, ↓reduceIte, ↓bP_some, ↓aP_true, reduceCtorEq, iaQ_tl hj, hx, hj, q1]))
            rw [fine2_out hx (by omega)]
            exact FnQ.ret rfl rfl
          by_cases q2 : cands ≤ x
          · (repeat' (first | refine wSeq rfl ?_ | refine wBlock rfl ?_ | refine wSkip rfl ?_ | refine wExit rfl ?_ | refine wRet rfl ?_ | refine wCondT rfl rfl ?_ | refine wCondF rfl rfl ?_ | refine wOps rfl ?_ | refine wDraw rfl rfl ?_ | simp only [seval, push_cast, ↓reduceIte, ↓bP_some, ↓aP_true, reduceCtorEq, iaQ_tl hj, hx, hj, q1, q2]))
            rw [fine2_out hx (by omega)]
            exact FnQ.ret rfl rfl
          have hlj : (l.take j).length < 4611686018427387904 := by rw [List.length_take]; omega
          by_cases q4 : 0 < j
          · obtain ⟨i, rfl⟩ : ∃ i, j = i + 1 := ⟨j - 1, by omega⟩
            have hi : i < l.length := by omega
            obtain ⟨y, hy, _⟩ := get_of hi
            have e1 : IntKind.i64.wrap (i : Int) = i := wrap_nat (by omega)
            have e2 : (0 : Int) < (i : Int) + 1 := by omega
            have e3 : IntKind.i64.wrap ((i : Int) + 1 + 1) = (i : Int) + 1 + 1 := wrap_succ (j := i + 1) (by omega)
            have e4 : (i : Int) + 1 < l.length := by omega
            by_cases q5 : x ≤ y
            · (repeat' (first | refine wSeq rfl ?_ | refine wBlock rfl ?_ | refine wSkip rfl ?_ | refine wExit rfl ?_ | refine wRet rfl ?_ | refine wCondT rfl rfl ?_ | refine wCondF rfl rfl ?_ | refine wOps rfl ?_ | refine wDraw rfl rfl ?_ | simp only [seval, push_cast, ↓reduceIte, ↓bP_some, ↓aP_true, reduceCtorEq, iaQ_tl hj, iaQ_tl hi, hx, hy, hj, q1, q2, q5, e1, e2, e4]))
              rw [fine2_low hy hx q5]
              exact FnQ.ret rfl rfl
            · have hab := fine2_above (x := x) hI hy (by omega)
              have hno := fine2_none (x := x) hab
              have q3 : ¬ 0 ≤ placeL (l.take (i + 1)) x := by omega
              (repeat' (first | refine wSeq rfl ?_ | refine wBlock rfl ?_ | refine wSkip rfl ?_ | refine wExit rfl ?_ | refine wRet rfl ?_ | refine wCondT rfl rfl ?_ | refine wCondF rfl rfl ?_ | refine wOps rfl ?_ | refine wDraw rfl rfl ?_ | refine opsV_call rfl rfl (rplace_v hL 1 _ _ _ (.inl rfl) hlj) ?_ | simp only [seval, push_cast, ↓reduceIte, ↓bP_some, ↓aP_true, reduceCtorEq, iaQ_tl hj, iaQ_tl hi, hx, hy, hj, q1, q2, q3, q5, e1, e2, e3, e4, sliceV_hi one_ok (Nat.le_of_lt hj)]))
              exact qR_n rfl rfl (fine2_step hI hx (by omega) (by omega) hab)
          · obtain rfl : j = 0 := by omega
            have q3 : ¬ 0 ≤ placeL (l.take 0) x := by simp [placeL]
            have e2 : (0 : Int) < l.length := by omega
            (repeat' (first | refine wSeq rfl ?_ | refine wBlock rfl ?_ | refine wSkip rfl ?_ | refine wExit rfl ?_ | refine wRet rfl ?_ | refine wCondT rfl rfl ?_ | refine wCondF rfl rfl ?_ | refine wOps rfl ?_ | refine wDraw rfl rfl ?_ | refine opsV_call rfl rfl (rplace_v hL 1 _ _ _ (.inl rfl) hlj) ?_ | simp only [seval, push_cast, ↓reduceIte, ↓bP_some, ↓aP_true, reduceCtorEq, iaQ_tl hj, hx, hj, q1, q2, q3, e2, sliceV_hi one_ok (Nat.le_of_lt hj)]))
            exact qR_n rfl rfl (fine2_step hI hx (by omega) (by omega) (by simp))
        · intro hI
          (repeat' (first | refine wSeq rfl ?_ | refine wBlock rfl ?_ | refine wSkip rfl ?_ | refine wExit rfl ?_ | refine wRet rfl ?_ | refine wCondT rfl rfl ?_ | refine wCondF rfl rfl ?_ | refine wOps rfl ?_ | refine wDraw rfl rfl ?_ | simp only [seval, push_cast, ↓reduceIte, ↓bP_some, ↓aP_true, reduceCtorEq]))
          rw [fine2_ok hI (by omega)]
          exact FnQ.ret rfl rfl
      · (repeat' (first | refine wSeq rfl ?_ | refine wBlock rfl ?_ | refine wSkip rfl ?_ | refine wExit rfl ?_ | refine wRet rfl ?_ | refine wCondT rfl rfl ?_ | refine wCondF rfl rfl ?_ | refine wOps rfl ?_ | refine wDraw rfl rfl ?_ | simp only [seval, push_cast, ↓reduceIte, ↓bP_some, ↓aP_true, reduceCtorEq, h1, h2, h3]))
        rw [fine_else h1 h2 h3]
        exact FnQ.ret rfl rfl
theorem rcheck_v (k cands : Int) (s : Nat) (l : List Int) (c : Option Nat) (hs : s = 1 ∨ l = []) (hl : l.length < 4611686018427387904) : VFn L 12 [(.agg [.int .u8 k, tl mrow s (l) c]), .int .i64 cands] (.int .i64 (checkL k l cands)) := by
  refine VFn.start (F := T12.1) (by rw [hL]; rfl) rfl rfl rfl ?_
  by_cases ha : cands < 1
  · (repeat' (first | refine wSeq rfl ?_ | refine wBlock rfl ?_ | refine wSkip rfl ?_ | refine wExit rfl ?_ | refine wRet rfl ?_ | refine wCondT rfl rfl ?_ | refine wCondF rfl rfl ?_ | refine wOps rfl ?_ | refine wDraw rfl rfl ?_ | simp only [seval, push_cast, ↓reduceIte, ↓bP_some, ↓aP_true, reduceCtorEq, ha]))
    rw [show checkL k l cands = 2 by unfold checkL; rw [if_pos (.inl ha)]]
    exact FnQ.ret rfl rfl
  by_cases hb : 10 < cands
  · (repeat' (first | refine wSeq rfl ?_ | refine wBlock rfl ?_ | refine wSkip rfl ?_ | refine wExit rfl ?_ | refine wRet rfl ?_ | refine wCondT rfl rfl ?_ | refine wCondF rfl rfl ?_ | refine wOps rfl ?_ | refine wDraw rfl rfl ?_ | simp only [seval, push_cast, ↓reduceIte, ↓bP_some, ↓aP_true, reduceCtorEq, ha, hb]))
    rw [show checkL k l cands = 2 by unfold checkL; rw [if_pos (.inr hb)]]
    exact FnQ.ret rfl rfl
  cases hf : fineL k l cands with
  | false =>
    (repeat' (first | refine wSeq rfl ?_ | refine wBlock rfl ?_ | refine wSkip rfl ?_ | refine wExit rfl ?_ | refine wRet rfl ?_ | refine wCondT rfl rfl ?_ | refine wCondF rfl rfl ?_ | refine wOps rfl ?_ | refine wDraw rfl rfl ?_ | refine opsV_call rfl rfl (rfine_v hL _ _ _ _ _ hs hl) ?_ | simp only [seval, push_cast, ↓reduceIte, ↓bP_some, ↓aP_true, reduceCtorEq, ha, hb, hf]))
    rw [show checkL k l cands = 8 by unfold checkL; rw [if_neg (by omega), if_pos hf]]
    exact FnQ.ret rfl rfl
  | true =>
    (repeat' (first | refine wSeq rfl ?_ | refine wBlock rfl ?_ | refine wSkip rfl ?_ | refine wExit rfl ?_ | refine wRet rfl ?_ | refine wCondT rfl rfl ?_ | refine wCondF rfl rfl ?_ | refine wOps rfl ?_ | refine wDraw rfl rfl ?_ | refine opsV_call rfl rfl (rfine_v hL _ _ _ _ _ hs hl) ?_ | simp only [seval, push_cast, ↓reduceIte, ↓bP_some, ↓aP_true, reduceCtorEq, ha, hb, hf]))
    rw [show checkL k l cands = 0 by unfold checkL; rw [if_neg (by omega), if_neg (by rw [hf]; simp)]]
    exact FnQ.ret rfl rfl
end Go.Proofs.YtncdaicaljpgfaaGreat
set_option maxRecDepth 100000
set_option maxHeartbeats 4000000
set_option linter.unusedVariables false
set_option linter.unusedSimpArgs false
namespace Go.Proofs.YtncdaicaljpgfaaGreat
def kindM (r : Int) : Int := if r = 1 ∨ r = 2 then 2 else if r = 3 then 3 else if r = 4 then 1 else 0
def mostL (r cands : Int) : Int := if r = 3 then 10 else if r = 4 then cands - 1 else 1
def pointsL (r cands : Int) (l : List Int) (x : Int) : Int :=
  if r = 1 then (if placeL l x = 0 ∧ l.length ≤ 1 then 1 else 0) else if r = 2 then (if 0 ≤ placeL l x then 1 else 0) else if r = 3 then l.getD x.toNat 0 else if placeL l x < 0 then 0 else cands - 1 - placeL l x
def gainL (r cands : Int) (l : List Int) (w x : Int) : Int := mostL r cands - pointsL r cands l x + pointsL r cands l w
def badG (r cands w x : Int) (l : List Int) : Prop := (r < 1 ∨ 4 < r) ∨ cands < 2 ∨ w < 0 ∨ cands ≤ w ∨ x < 0 ∨ cands ≤ x ∨ w = x ∨ checkL (kindM r) l cands ≠ 0
instance (r cands w x : Int) (l : List Int) : Decidable (badG r cands w x l) := by unfold badG; infer_instance
def gainV (r cands : Int) (l : List Int) (w x : Int) : V := if badG r cands w x l then .tup [.int .i64 0, .int .i64 2] else .tup [.int .i64 (gainL r cands l w x), .int .i64 0]
theorem kind_1 : kindM 1 = 2 := rfl
theorem kind_2 : kindM 2 = 2 := rfl
theorem kind_3 : kindM 3 = 3 := rfl
theorem kind_4 : kindM 4 = 1 := rfl
/-- What a valid ballot and its candidates are. -/
structure GainOk (r cands : Int) (l : List Int) (x : Int) : Prop where
  hr : 1 ≤ r ∧ r ≤ 4
  hc : 2 ≤ cands ∧ cands ≤ 10
  hl : l.length ≤ 100
  hx : 0 ≤ x ∧ x < cands
  hs : r = 3 → (l.length : Int) = cands ∧ ∀ y ∈ l, 0 ≤ y ∧ y ≤ 10
theorem gain_ok {r cands w x : Int} {l : List Int} (h : ¬ badG r cands w x l) (hl : l.length ≤ 100) : GainOk r cands l x ∧ GainOk r cands l w := by
  unfold badG at h
  have hc : checkL (kindM r) l cands = 0 := Decidable.byContradiction fun e => h (.inr (.inr (.inr (.inr (.inr (.inr (.inr e)))))))
  have hc' := hc
  unfold checkL at hc
  split at hc
  · cases hc
  · rename_i h1
    split at hc
    · cases hc
    · rename_i h2
      have hf : fineL (kindM r) l cands = true := by simpa using h2
      have sc : r = 3 → (l.length : Int) = cands ∧ ∀ y ∈ l, 0 ≤ y ∧ y ≤ 10 := fun e => by
        subst e
        rw [kind_3] at hf
        unfold fineL at hf
        rw [if_pos rfl, Bool.and_eq_true, List.all_eq_true, decide_eq_true_eq] at hf
        refine ⟨hf.2, fun y hy => ?_⟩
        have := hf.1 y hy
        simp [inB] at this
        omega
      exact ⟨⟨by omega, by omega, hl, by omega, sc⟩, ⟨by omega, by omega, hl, by omega, sc⟩⟩
theorem points_range {r cands x : Int} {l : List Int} (h : GainOk r cands l x) : 0 ≤ pointsL r cands l x + 100 ∧ pointsL r cands l x ≤ 10 := by
  unfold pointsL
  have h1 := place_ge l x
  have h2 := place_lt l x
  have h3 := h.hc
  have h4 := h.hl
  split
  · split <;> omega
  · split
    · split <;> omega
    · split
      · rename_i e
        obtain ⟨q1, q2⟩ := h.hs e
        have hx := h.hx
        have : x.toNat < l.length := by omega
        rw [List.getD_eq_getElem?_getD, List.getElem?_eq_getElem this, Option.getD_some]
        have := q2 _ (List.getElem_mem this)
        omega
      · split <;> omega
theorem place_one (l : List Int) (x : Int) : placeL l x = 0 ↔ l.head? = some x := by
  cases l with
  | nil => simp [placeL]
  | cons a r =>
    unfold placeL
    by_cases e : a = x
    · simp [e]
    · have := place_ge r x
      rw [if_neg e]
      constructor
      · intro h; split at h <;> omega
      · intro h; exact absurd (by simpa using h) e
variable {L : Lib} (hL : L.T = tab.get)
include hL
theorem kinds_v (r : Int) : VFn L 16 [.int .u8 r] (.int .u8 (kindM r)) := by
  refine VFn.start (F := T16.1) (by rw [hL]; rfl) rfl rfl rfl ?_
  by_cases h1 : r = 1
  · subst h1; (repeat' (first | refine wSeq rfl ?_ | refine wBlock rfl ?_ | refine wSkip rfl ?_ | refine wExit rfl ?_ | refine wRet rfl ?_ | refine wCondT rfl rfl ?_ | refine wCondF rfl rfl ?_ | refine wOps rfl ?_ | refine wDraw rfl rfl ?_ | simp only [seval, push_cast, ↓reduceIte, ↓bP_some, ↓aP_true, reduceCtorEq])); exact FnQ.ret rfl rfl
  by_cases h2 : r = 2
  · subst h2; (repeat' (first | refine wSeq rfl ?_ | refine wBlock rfl ?_ | refine wSkip rfl ?_ | refine wExit rfl ?_ | refine wRet rfl ?_ | refine wCondT rfl rfl ?_ | refine wCondF rfl rfl ?_ | refine wOps rfl ?_ | refine wDraw rfl rfl ?_ | simp only [seval, push_cast, ↓reduceIte, ↓bP_some, ↓aP_true, reduceCtorEq, h1])); exact FnQ.ret rfl rfl
  by_cases h3 : r = 3
  · subst h3; (repeat' (first | refine wSeq rfl ?_ | refine wBlock rfl ?_ | refine wSkip rfl ?_ | refine wExit rfl ?_ | refine wRet rfl ?_ | refine wCondT rfl rfl ?_ | refine wCondF rfl rfl ?_ | refine wOps rfl ?_ | refine wDraw rfl rfl ?_ | simp only [seval, push_cast, ↓reduceIte, ↓bP_some, ↓aP_true, reduceCtorEq, h1, h2])); exact FnQ.ret rfl rfl
  by_cases h4 : r = 4
  · subst h4; (repeat' (first | refine wSeq rfl ?_ | refine wBlock rfl ?_ | refine wSkip rfl ?_ | refine wExit rfl ?_ | refine wRet rfl ?_ | refine wCondT rfl rfl ?_ | refine wCondF rfl rfl ?_ | refine wOps rfl ?_ | refine wDraw rfl rfl ?_ | simp only [seval, push_cast, ↓reduceIte, ↓bP_some, ↓aP_true, reduceCtorEq, h1, h2, h3])); exact FnQ.ret rfl rfl
  (repeat' (first | refine wSeq rfl ?_ | refine wBlock rfl ?_ | refine wSkip rfl ?_ | refine wExit rfl ?_ | refine wRet rfl ?_ | refine wCondT rfl rfl ?_ | refine wCondF rfl rfl ?_ | refine wOps rfl ?_ | refine wDraw rfl rfl ?_ | simp only [seval, push_cast, ↓reduceIte, ↓bP_some, ↓aP_true, reduceCtorEq, h1, h2, h3, h4]))
  rw [show kindM r = 0 by unfold kindM; rw [if_neg (by omega), if_neg h3, if_neg h4]]
  exact FnQ.ret rfl rfl
theorem rkind_v {r : Int} (hr : 1 ≤ r ∧ r ≤ 4) : VFn L 11 [.int .u8 r] (.int .u8 (kindM r)) := by
  refine VFn.start (F := T11.1) (by rw [hL]; rfl) rfl rfl rfl ?_
  have : r = 1 ∨ r = 2 ∨ r = 3 ∨ r = 4 := by omega
  rcases this with rfl | rfl | rfl | rfl
  · (repeat' (first | refine wSeq rfl ?_ | refine wBlock rfl ?_ | refine wSkip rfl ?_ | refine wExit rfl ?_ | refine wRet rfl ?_ | refine wCondT rfl rfl ?_ | refine wCondF rfl rfl ?_ | refine wOps rfl ?_ | refine wDraw rfl rfl ?_ | simp only [seval, push_cast, ↓reduceIte, ↓bP_some, ↓aP_true, reduceCtorEq])); exact FnQ.ret rfl rfl
  · (repeat' (first | refine wSeq rfl ?_ | refine wBlock rfl ?_ | refine wSkip rfl ?_ | refine wExit rfl ?_ | refine wRet rfl ?_ | refine wCondT rfl rfl ?_ | refine wCondF rfl rfl ?_ | refine wOps rfl ?_ | refine wDraw rfl rfl ?_ | simp only [seval, push_cast, ↓reduceIte, ↓bP_some, ↓aP_true, reduceCtorEq])); exact FnQ.ret rfl rfl
  · (repeat' (first | refine wSeq rfl ?_ | refine wBlock rfl ?_ | refine wSkip rfl ?_ | refine wExit rfl ?_ | refine wRet rfl ?_ | refine wCondT rfl rfl ?_ | refine wCondF rfl rfl ?_ | refine wOps rfl ?_ | refine wDraw rfl rfl ?_ | simp only [seval, push_cast, ↓reduceIte, ↓bP_some, ↓aP_true, reduceCtorEq])); exact FnQ.ret rfl rfl
  · (repeat' (first | refine wSeq rfl ?_ | refine wBlock rfl ?_ | refine wSkip rfl ?_ | refine wExit rfl ?_ | refine wRet rfl ?_ | refine wCondT rfl rfl ?_ | refine wCondF rfl rfl ?_ | refine wOps rfl ?_ | refine wDraw rfl rfl ?_ | simp only [seval, push_cast, ↓reduceIte, ↓bP_some, ↓aP_true, reduceCtorEq])); exact FnQ.ret rfl rfl
theorem most_v {r cands : Int} (hc : 2 ≤ cands ∧ cands ≤ 10) : VFn L 40 [.int .u8 r, .int .i64 cands] (.int .i64 (mostL r cands)) := by
  refine VFn.start (F := T40.1) (by rw [hL]; rfl) rfl rfl rfl ?_
  by_cases h3 : r = 3
  · subst h3; (repeat' (first | refine wSeq rfl ?_ | refine wBlock rfl ?_ | refine wSkip rfl ?_ | refine wExit rfl ?_ | refine wRet rfl ?_ | refine wCondT rfl rfl ?_ | refine wCondF rfl rfl ?_ | refine wOps rfl ?_ | refine wDraw rfl rfl ?_ | simp only [seval, push_cast, ↓reduceIte, ↓bP_some, ↓aP_true, reduceCtorEq])); exact FnQ.ret rfl rfl
  by_cases h4 : r = 4
  · subst h4; (repeat' (first | refine wSeq rfl ?_ | refine wBlock rfl ?_ | refine wSkip rfl ?_ | refine wExit rfl ?_ | refine wRet rfl ?_ | refine wCondT rfl rfl ?_ | refine wCondF rfl rfl ?_ | refine wOps rfl ?_ | refine wDraw rfl rfl ?_ | simp only [seval, push_cast, ↓reduceIte, ↓bP_some, ↓aP_true, reduceCtorEq, h3, wrap_i64 (n := cands - 1) (by omega) (by omega)])); exact FnQ.ret rfl rfl
  (repeat' (first | refine wSeq rfl ?_ | refine wBlock rfl ?_ | refine wSkip rfl ?_ | refine wExit rfl ?_ | refine wRet rfl ?_ | refine wCondT rfl rfl ?_ | refine wCondF rfl rfl ?_ | refine wOps rfl ?_ | refine wDraw rfl rfl ?_ | simp only [seval, push_cast, ↓reduceIte, ↓bP_some, ↓aP_true, reduceCtorEq, h3, h4]))
  rw [show mostL r cands = 1 by unfold mostL; rw [if_neg h3, if_neg h4]]
  exact FnQ.ret rfl rfl
theorem points_v {r cands x : Int} {s : Nat} {l : List Int} {c : Option Nat} (hs : s = 1 ∨ l = []) (h : GainOk r cands l x) : VFn L 41 [.int .u8 r, .int .i64 cands, tl mrow s l c, .int .i64 x] (.int .i64 (pointsL r cands l x)) := by
  refine VFn.start (F := T41.1) (by rw [hL]; rfl) rfl rfl rfl ?_
  have ki := index_v hL s l c x hs (by have := h.hl; omega)
  have p1 := place_ge l x
  have p2 := place_lt l x
  have hc := h.hc
  have hx := h.hx
  have hlen := h.hl
  have : r = 1 ∨ r = 2 ∨ r = 3 ∨ r = 4 := by have := h.hr; omega
  rcases this with rfl | rfl | rfl | rfl
  · by_cases e : placeL l x = 0
    · by_cases e2 : (1 : Int) < l.length
      · (repeat' (first | refine wSeq rfl ?_ | refine wBlock rfl ?_ | refine wSkip rfl ?_ | refine wExit rfl ?_ | refine wRet rfl ?_ | refine wCondT rfl rfl ?_ | refine wCondF rfl rfl ?_ | refine wOps rfl ?_ | refine wDraw rfl rfl ?_ | refine opsV_call rfl rfl (ki) ?_ | simp only [seval, push_cast, ↓reduceIte, ↓bP_some, ↓aP_true, reduceCtorEq, e, e2]))
        rw [show pointsL 1 cands l x = 0 by unfold pointsL; rw [if_pos rfl, if_neg (by omega)]]
        exact FnQ.ret rfl rfl
      · (repeat' (first | refine wSeq rfl ?_ | refine wBlock rfl ?_ | refine wSkip rfl ?_ | refine wExit rfl ?_ | refine wRet rfl ?_ | refine wCondT rfl rfl ?_ | refine wCondF rfl rfl ?_ | refine wOps rfl ?_ | refine wDraw rfl rfl ?_ | refine opsV_call rfl rfl (ki) ?_ | simp only [seval, push_cast, ↓reduceIte, ↓bP_some, ↓aP_true, reduceCtorEq, e, e2]))
        rw [show pointsL 1 cands l x = 1 by unfold pointsL; rw [if_pos rfl, if_pos (by omega)]]
        exact FnQ.ret rfl rfl
    · (repeat' (first | refine wSeq rfl ?_ | refine wBlock rfl ?_ | refine wSkip rfl ?_ | refine wExit rfl ?_ | refine wRet rfl ?_ | refine wCondT rfl rfl ?_ | refine wCondF rfl rfl ?_ | refine wOps rfl ?_ | refine wDraw rfl rfl ?_ | refine opsV_call rfl rfl (ki) ?_ | simp only [seval, push_cast, ↓reduceIte, ↓bP_some, ↓aP_true, reduceCtorEq, e]))
      rw [show pointsL 1 cands l x = 0 by unfold pointsL; rw [if_pos rfl, if_neg (by omega)]]
      exact FnQ.ret rfl rfl
  · by_cases e : 0 ≤ placeL l x
    · (repeat' (first | refine wSeq rfl ?_ | refine wBlock rfl ?_ | refine wSkip rfl ?_ | refine wExit rfl ?_ | refine wRet rfl ?_ | refine wCondT rfl rfl ?_ | refine wCondF rfl rfl ?_ | refine wOps rfl ?_ | refine wDraw rfl rfl ?_ | refine opsV_call rfl rfl (ki) ?_ | simp only [seval, push_cast, ↓reduceIte, ↓bP_some, ↓aP_true, reduceCtorEq, wrap_i64 (n := placeL l x + 1) (by omega) (by omega)]))
      rw [show pointsL 2 cands l x = (if 1 < placeL l x + 1 then 1 else placeL l x + 1) by unfold pointsL; rw [if_neg (by decide), if_pos rfl, if_pos e]; split <;> omega]
      exact FnQ.ret rfl rfl
    · (repeat' (first | refine wSeq rfl ?_ | refine wBlock rfl ?_ | refine wSkip rfl ?_ | refine wExit rfl ?_ | refine wRet rfl ?_ | refine wCondT rfl rfl ?_ | refine wCondF rfl rfl ?_ | refine wOps rfl ?_ | refine wDraw rfl rfl ?_ | refine opsV_call rfl rfl (ki) ?_ | simp only [seval, push_cast, ↓reduceIte, ↓bP_some, ↓aP_true, reduceCtorEq, wrap_i64 (n := placeL l x + 1) (by omega) (by omega)]))
      rw [show pointsL 2 cands l x = (if 1 < placeL l x + 1 then 1 else placeL l x + 1) by unfold pointsL; rw [if_neg (by decide), if_pos rfl, if_neg e]; split <;> omega]
      exact FnQ.ret rfl rfl
  · obtain ⟨q1, q2⟩ := h.hs rfl
    obtain ⟨n, rfl⟩ : ∃ n : Nat, x = n := ⟨x.toNat, by omega⟩
    have hn : n < l.length := by omega
    obtain rfl := size_of hs hn
    obtain ⟨y, hy, _⟩ := get_of hn
    (repeat' (first | refine wSeq rfl ?_ | refine wBlock rfl ?_ | refine wSkip rfl ?_ | refine wExit rfl ?_ | refine wRet rfl ?_ | refine wCondT rfl rfl ?_ | refine wCondF rfl rfl ?_ | refine wOps rfl ?_ | refine wDraw rfl rfl ?_ | refine opsV_call rfl rfl (ki) ?_ | simp only [seval, push_cast, ↓reduceIte, ↓bP_some, ↓aP_true, reduceCtorEq, iaQ_tl hn, hy]))
    rw [show pointsL 3 cands l (n : Int) = y by unfold pointsL; rw [if_neg (by decide), if_neg (by decide), if_pos rfl, Int.toNat_natCast, List.getD_eq_getElem?_getD, hy]; rfl]
    exact FnQ.ret rfl rfl
  · by_cases e : placeL l x < 0
    · (repeat' (first | refine wSeq rfl ?_ | refine wBlock rfl ?_ | refine wSkip rfl ?_ | refine wExit rfl ?_ | refine wRet rfl ?_ | refine wCondT rfl rfl ?_ | refine wCondF rfl rfl ?_ | refine wOps rfl ?_ | refine wDraw rfl rfl ?_ | refine opsV_call rfl rfl (ki) ?_ | simp only [seval, push_cast, ↓reduceIte, ↓bP_some, ↓aP_true, reduceCtorEq, e]))
      rw [show pointsL 4 cands l x = 0 by unfold pointsL; rw [if_neg (by decide), if_neg (by decide), if_neg (by decide), if_pos e]]
      exact FnQ.ret rfl rfl
    · (repeat' (first | refine wSeq rfl ?_ | refine wBlock rfl ?_ | refine wSkip rfl ?_ | refine wExit rfl ?_ | refine wRet rfl ?_ | refine wCondT rfl rfl ?_ | refine wCondF rfl rfl ?_ | refine wOps rfl ?_ | refine wDraw rfl rfl ?_ | refine opsV_call rfl rfl (ki) ?_ | simp only [seval, push_cast, ↓reduceIte, ↓bP_some, ↓aP_true, reduceCtorEq, e, wrap_i64 (n := cands - 1) (by omega) (by omega), wrap_i64 (n := cands - 1 - placeL l x) (by omega) (by omega)]))
      rw [show pointsL 4 cands l x = cands - 1 - placeL l x by unfold pointsL; rw [if_neg (by decide), if_neg (by decide), if_neg (by decide), if_neg e]]
      exact FnQ.ret rfl rfl
theorem gain_v {r cands w x : Int} {s : Nat} {l : List Int} {c : Option Nat} (hs : s = 1 ∨ l = []) (hw : GainOk r cands l w) (hx : GainOk r cands l x) : VFn L 18 [.int .u8 r, .int .i64 cands, tl mrow s l c, .int .i64 w, .int .i64 x] (.int .i64 (gainL r cands l w x)) := by
  refine VFn.start (F := T18.1) (by rw [hL]; rfl) rfl rfl rfl ?_
  have k1 := points_v hL (c := c) hs hw
  have k2 := points_v hL (c := c) hs hx
  have r1 := points_range hw
  have r2 := points_range hx
  have hc := hw.hc
  have hm : 1 ≤ mostL r cands ∧ mostL r cands ≤ 10 := by unfold mostL; split <;> (try split) <;> omega
  (repeat' (first | refine wSeq rfl ?_ | refine wBlock rfl ?_ | refine wSkip rfl ?_ | refine wExit rfl ?_ | refine wRet rfl ?_ | refine wCondT rfl rfl ?_ | refine wCondF rfl rfl ?_ | refine wOps rfl ?_ | refine wDraw rfl rfl ?_ | refine opsV_call rfl rfl (k1) ?_ | refine opsV_call rfl rfl (k2) ?_ | refine opsV_call rfl rfl (most_v hL hc) ?_ | simp only [seval, push_cast, ↓reduceIte, ↓bP_some, ↓aP_true, reduceCtorEq, wrap_i64 (n := mostL r cands - pointsL r cands l x) (by omega) (by omega), wrap_i64 (n := mostL r cands - pointsL r cands l x + pointsL r cands l w) (by omega) (by omega)]))
  exact FnQ.ret rfl rfl
theorem Gain_v (r cands w x : Int) {s : Nat} {l : List Int} {c : Option Nat} (hs : s = 1 ∨ l = []) (hl : l.length ≤ 100) : VFn L 7 [.int .u8 r, .int .i64 cands, tl mrow s l c, .int .i64 w, .int .i64 x] (gainV r cands l w x) := by
  refine VFn.start (F := T7.1) (by rw [hL]; rfl) rfl rfl (by unfold gainV; split <;> rfl) ?_
  have kk := kinds_v hL r
  have kc := check_v hL (kindM r) cands s l c hs (by omega)
  have bad : badG r cands w x l → gainV r cands l w x = .tup [.int .i64 0, .int .i64 2] := fun h => if_pos h
  by_cases e1 : r < 1 ∨ 4 < r
  · have : kindM r = 0 := by unfold kindM; rw [if_neg (by omega), if_neg (by omega), if_neg (by omega)]
    rw [this] at kk
    (repeat' (first | refine wSeq rfl ?_ | refine wBlock rfl ?_ | refine wSkip rfl ?_ | refine wExit rfl ?_ | refine wRet rfl ?_ | refine wCondT rfl rfl ?_ | refine wCondF rfl rfl ?_ | refine wOps rfl ?_ | refine wDraw rfl rfl ?_ | refine opsV_call rfl rfl (kk) ?_ | simp only [seval, push_cast, ↓reduceIte, ↓bP_some, ↓aP_true, reduceCtorEq]))
    rw [bad (.inl e1)]
    exact FnQ.ret rfl rfl
  have h0 : ¬ kindM r = 0 := by
    have : r = 1 ∨ r = 2 ∨ r = 3 ∨ r = 4 := by omega
    rcases this with rfl | rfl | rfl | rfl <;> decide
  generalize hk : kindM r = k at *
  by_cases e2 : cands < 2
  · (repeat' (first | refine wSeq rfl ?_ | refine wBlock rfl ?_ | refine wSkip rfl ?_ | refine wExit rfl ?_ | refine wRet rfl ?_ | refine wCondT rfl rfl ?_ | refine wCondF rfl rfl ?_ | refine wOps rfl ?_ | refine wDraw rfl rfl ?_ | refine opsV_call rfl rfl (kk) ?_ | simp only [seval, push_cast, ↓reduceIte, ↓bP_some, ↓aP_true, reduceCtorEq, h0, e2]))
    rw [bad (.inr (.inl e2))]
    exact FnQ.ret rfl rfl
  by_cases e3 : (if x < w then x else w) < 0
  · (repeat' (first | refine wSeq rfl ?_ | refine wBlock rfl ?_ | refine wSkip rfl ?_ | refine wExit rfl ?_ | refine wRet rfl ?_ | refine wCondT rfl rfl ?_ | refine wCondF rfl rfl ?_ | refine wOps rfl ?_ | refine wDraw rfl rfl ?_ | refine opsV_call rfl rfl (kk) ?_ | simp only [seval, push_cast, ↓reduceIte, ↓bP_some, ↓aP_true, reduceCtorEq, h0, e2, e3]))
    rw [bad (by unfold badG; split at e3 <;> omega)]
    exact FnQ.ret rfl rfl
  by_cases e4 : cands ≤ (if w < x then x else w)
  · (repeat' (first | refine wSeq rfl ?_ | refine wBlock rfl ?_ | refine wSkip rfl ?_ | refine wExit rfl ?_ | refine wRet rfl ?_ | refine wCondT rfl rfl ?_ | refine wCondF rfl rfl ?_ | refine wOps rfl ?_ | refine wDraw rfl rfl ?_ | refine opsV_call rfl rfl (kk) ?_ | simp only [seval, push_cast, ↓reduceIte, ↓bP_some, ↓aP_true, reduceCtorEq, h0, e2, e3, e4]))
    rw [bad (by unfold badG; split at e4 <;> omega)]
    exact FnQ.ret rfl rfl
  by_cases e5 : w = x
  · subst e5
    have i : ¬ w < w := by omega
    rw [if_neg i] at e3 e4
    (repeat' (first | refine wSeq rfl ?_ | refine wBlock rfl ?_ | refine wSkip rfl ?_ | refine wExit rfl ?_ | refine wRet rfl ?_ | refine wCondT rfl rfl ?_ | refine wCondF rfl rfl ?_ | refine wOps rfl ?_ | refine wDraw rfl rfl ?_ | refine opsV_call rfl rfl (kk) ?_ | simp only [seval, push_cast, ↓reduceIte, ↓bP_some, ↓aP_true, reduceCtorEq, h0, e2, i, e3, e4]))
    rw [bad (.inr (.inr (.inr (.inr (.inr (.inr (.inl rfl)))))))]
    exact FnQ.ret rfl rfl
  by_cases e6 : checkL k l cands = 0
  · have hb : ¬ badG r cands w x l := by
      unfold badG
      rw [hk]
      split at e3 <;> split at e4 <;> omega
    obtain ⟨gx, gw⟩ := gain_ok hb hl
    have kg := gain_v hL (c := c) hs gw gx
    rw [show gainV r cands l w x = .tup [.int .i64 (gainL r cands l w x), .int .i64 0] from if_neg hb]
    rw [e6] at kc
    (repeat' (first | refine wSeq rfl ?_ | refine wBlock rfl ?_ | refine wSkip rfl ?_ | refine wExit rfl ?_ | refine wRet rfl ?_ | refine wCondT rfl rfl ?_ | refine wCondF rfl rfl ?_ | refine wOps rfl ?_ | refine wDraw rfl rfl ?_ | refine opsV_call rfl rfl (kk) ?_ | refine opsV_call rfl rfl (kc) ?_ | refine opsV_call rfl rfl (kg) ?_ | simp only [seval, push_cast, ↓reduceIte, ↓bP_some, ↓aP_true, reduceCtorEq, h0, e2, e3, e4, e5]))
    exact FnQ.ret rfl rfl
  · (repeat' (first | refine wSeq rfl ?_ | refine wBlock rfl ?_ | refine wSkip rfl ?_ | refine wExit rfl ?_ | refine wRet rfl ?_ | refine wCondT rfl rfl ?_ | refine wCondF rfl rfl ?_ | refine wOps rfl ?_ | refine wDraw rfl rfl ?_ | refine opsV_call rfl rfl (kk) ?_ | refine opsV_call rfl rfl (kc) ?_ | simp only [seval, push_cast, ↓reduceIte, ↓bP_some, ↓aP_true, reduceCtorEq, h0, e2, e3, e4, e5, e6]))
    rw [bad (by unfold badG; rw [hk]; exact .inr (.inr (.inr (.inr (.inr (.inr (.inr e6)))))))]
    exact FnQ.ret rfl rfl
theorem rin_v (s : Nat) (l : List Int) (c : Option Nat) (x : Int) (hs : s = 1 ∨ l = []) (hl : l.length < 4611686018427387904) : VFn L 79 [tl mrow s l c, .int .i64 x] (.bool (decide (0 ≤ placeL l x))) := by
  refine VFn.start (F := T79.1) (by rw [hL]; rfl) rfl rfl rfl ?_
  (repeat' (first | refine wSeq rfl ?_ | refine wBlock rfl ?_ | refine wSkip rfl ?_ | refine wExit rfl ?_ | refine wRet rfl ?_ | refine wCondT rfl rfl ?_ | refine wCondF rfl rfl ?_ | refine wOps rfl ?_ | refine wDraw rfl rfl ?_ | simp only [seval, push_cast, ↓reduceIte, ↓bP_some, ↓aP_true, reduceCtorEq]))
  refine wCnt rfl 5 l.length (fun _ => []) (fun j => placeL l x = placeGo l x j) rfl (place_start l x) ?_ ?_
  · intro j hj hI
    obtain ⟨a, ha, _⟩ := get_of hj
    obtain rfl := size_of hs hj
    by_cases e : a = x
    · (repeat' (first | refine wSeq rfl ?_ | refine wBlock rfl ?_ | refine wSkip rfl ?_ | refine wExit rfl ?_ | refine wRet rfl ?_ | refine wCondT rfl rfl ?_ | refine wCondF rfl rfl ?_ | refine wOps rfl ?_ | refine wDraw rfl rfl ?_ | simp only [seval, push_cast, ↓reduceIte, ↓bP_some, ↓aP_true, reduceCtorEq, iaQ_tl hj, ha, hj, e]))
      rw [show decide (0 ≤ placeL l x) = true by rw [hI, place_hit ha e]; simp]
      exact FnQ.ret rfl rfl
    · (repeat' (first | refine wSeq rfl ?_ | refine wBlock rfl ?_ | refine wSkip rfl ?_ | refine wExit rfl ?_ | refine wRet rfl ?_ | refine wCondT rfl rfl ?_ | refine wCondF rfl rfl ?_ | refine wOps rfl ?_ | refine wDraw rfl rfl ?_ | simp only [seval, push_cast, ↓reduceIte, ↓bP_some, ↓aP_true, reduceCtorEq, iaQ_tl hj, ha, hj, e, wrap_succ (show j < 9223372036854775807 by omega)]))
      exact qR_n rfl rfl (by rw [hI, place_miss ha e])
  · intro hI
    (repeat' (first | refine wSeq rfl ?_ | refine wBlock rfl ?_ | refine wSkip rfl ?_ | refine wExit rfl ?_ | refine wRet rfl ?_ | refine wCondT rfl rfl ?_ | refine wCondF rfl rfl ?_ | refine wOps rfl ?_ | refine wDraw rfl rfl ?_ | simp only [seval, push_cast, ↓reduceIte, ↓bP_some, ↓aP_true, reduceCtorEq]))
    rw [show decide (0 ≤ placeL l x) = false by rw [hI, place_end (by omega)]; rfl]
    exact FnQ.ret rfl rfl
theorem rpoints_v {r cands x : Int} {s : Nat} {l : List Int} {c : Option Nat} (hs : s = 1 ∨ l = []) (h : GainOk r cands l x) : VFn L 42 [.int .u8 r, .int .i64 cands, tl mrow s l c, .int .i64 x] (.int .i64 (pointsL r cands l x)) := by
  refine VFn.start (F := T42.1) (by rw [hL]; rfl) rfl rfl rfl ?_
  have ki := rin_v hL s l c x hs (by have := h.hl; omega)
  have hc := h.hc
  have hx := h.hx
  have hlen := h.hl
  have : r = 1 ∨ r = 2 ∨ r = 3 ∨ r = 4 := by have := h.hr; omega
  rcases this with rfl | rfl | rfl | rfl
  · by_cases e2 : (l.length : Int) = 1
    · have h0 : 0 < l.length := by omega
      obtain rfl := size_of hs h0
      obtain ⟨a, ha, _⟩ := get_of h0
      have hh : l.head? = some a := by rw [List.head?_eq_getElem?]; exact ha
      by_cases e : a = x
      · (repeat' (first | refine wSeq rfl ?_ | refine wBlock rfl ?_ | refine wSkip rfl ?_ | refine wExit rfl ?_ | refine wRet rfl ?_ | refine wCondT rfl rfl ?_ | refine wCondF rfl rfl ?_ | refine wOps rfl ?_ | refine wDraw rfl rfl ?_ | simp only [seval, push_cast, ↓reduceIte, ↓bP_some, ↓aP_true, reduceCtorEq, iaQ_tl h0, ha, e, e2]))
        rw [show pointsL 1 cands l x = 1 by unfold pointsL; rw [if_pos rfl, if_pos ⟨(place_one l x).2 (by rw [hh, e]), by omega⟩]]
        exact FnQ.ret rfl rfl
      · (repeat' (first | refine wSeq rfl ?_ | refine wBlock rfl ?_ | refine wSkip rfl ?_ | refine wExit rfl ?_ | refine wRet rfl ?_ | refine wCondT rfl rfl ?_ | refine wCondF rfl rfl ?_ | refine wOps rfl ?_ | refine wDraw rfl rfl ?_ | simp only [seval, push_cast, ↓reduceIte, ↓bP_some, ↓aP_true, reduceCtorEq, iaQ_tl h0, ha, e, e2]))
        rw [show pointsL 1 cands l x = 0 by unfold pointsL; rw [if_pos rfl, if_neg (fun q => e (by have := (place_one l x).1 q.1; rw [hh] at this; exact Option.some.inj this))]]
        exact FnQ.ret rfl rfl
    · (repeat' (first | refine wSeq rfl ?_ | refine wBlock rfl ?_ | refine wSkip rfl ?_ | refine wExit rfl ?_ | refine wRet rfl ?_ | refine wCondT rfl rfl ?_ | refine wCondF rfl rfl ?_ | refine wOps rfl ?_ | refine wDraw rfl rfl ?_ | simp only [seval, push_cast, ↓reduceIte, ↓bP_some, ↓aP_true, reduceCtorEq, e2]))
      rw [show pointsL 1 cands l x = 0 by
        unfold pointsL
        rw [if_pos rfl, if_neg]
        rintro ⟨q1, q2⟩
        have := (place_one l x).1 q1
        cases l with
        | nil => simp at this
        | cons y t => simp at q2 e2; rw [q2] at e2; simp at e2]
      exact FnQ.ret rfl rfl
  · by_cases e : 0 ≤ placeL l x
    · (repeat' (first | refine wSeq rfl ?_ | refine wBlock rfl ?_ | refine wSkip rfl ?_ | refine wExit rfl ?_ | refine wRet rfl ?_ | refine wCondT rfl rfl ?_ | refine wCondF rfl rfl ?_ | refine wOps rfl ?_ | refine wDraw rfl rfl ?_ | refine opsV_call rfl rfl (ki) ?_ | simp only [seval, push_cast, ↓reduceIte, ↓bP_some, ↓aP_true, reduceCtorEq, e]))
      rw [show pointsL 2 cands l x = 1 by unfold pointsL; rw [if_neg (by decide), if_pos rfl, if_pos e]]
      exact FnQ.ret rfl rfl
    · (repeat' (first | refine wSeq rfl ?_ | refine wBlock rfl ?_ | refine wSkip rfl ?_ | refine wExit rfl ?_ | refine wRet rfl ?_ | refine wCondT rfl rfl ?_ | refine wCondF rfl rfl ?_ | refine wOps rfl ?_ | refine wDraw rfl rfl ?_ | refine opsV_call rfl rfl (ki) ?_ | simp only [seval, push_cast, ↓reduceIte, ↓bP_some, ↓aP_true, reduceCtorEq, e]))
      rw [show pointsL 2 cands l x = 0 by unfold pointsL; rw [if_neg (by decide), if_pos rfl, if_neg e]]
      exact FnQ.ret rfl rfl
  · obtain ⟨q1, q2⟩ := h.hs rfl
    obtain ⟨n, rfl⟩ : ∃ n : Nat, x = n := ⟨x.toNat, by omega⟩
    have hn : n < l.length := by omega
    obtain rfl := size_of hs hn
    obtain ⟨y, hy, _⟩ := get_of hn
    (repeat' (first | refine wSeq rfl ?_ | refine wBlock rfl ?_ | refine wSkip rfl ?_ | refine wExit rfl ?_ | refine wRet rfl ?_ | refine wCondT rfl rfl ?_ | refine wCondF rfl rfl ?_ | refine wOps rfl ?_ | refine wDraw rfl rfl ?_ | simp only [seval, push_cast, ↓reduceIte, ↓bP_some, ↓aP_true, reduceCtorEq, iaQ_tl hn, hy]))
    rw [show pointsL 3 cands l (n : Int) = y by unfold pointsL; rw [if_neg (by decide), if_neg (by decide), if_pos rfl, Int.toNat_natCast, List.getD_eq_getElem?_getD, hy]; rfl]
    exact FnQ.ret rfl rfl
  · (repeat' (first | refine wSeq rfl ?_ | refine wBlock rfl ?_ | refine wSkip rfl ?_ | refine wExit rfl ?_ | refine wRet rfl ?_ | refine wCondT rfl rfl ?_ | refine wCondF rfl rfl ?_ | refine wOps rfl ?_ | refine wDraw rfl rfl ?_ | simp only [seval, push_cast, ↓reduceIte, ↓bP_some, ↓aP_true, reduceCtorEq]))
    refine wCnt rfl 9 l.length (fun _ => []) (fun j => placeL l x = placeGo l x j) rfl (place_start l x) ?_ ?_
    · intro j hj hI
      obtain ⟨a, ha, _⟩ := get_of hj
      obtain rfl := size_of hs hj
      by_cases e : a = x
      · (repeat' (first | refine wSeq rfl ?_ | refine wBlock rfl ?_ | refine wSkip rfl ?_ | refine wExit rfl ?_ | refine wRet rfl ?_ | refine wCondT rfl rfl ?_ | refine wCondF rfl rfl ?_ | refine wOps rfl ?_ | refine wDraw rfl rfl ?_ | simp only [seval, push_cast, ↓reduceIte, ↓bP_some, ↓aP_true, reduceCtorEq, iaQ_tl hj, ha, hj, e, wrap_i64 (n := cands - 1) (by omega) (by omega), wrap_i64 (n := cands - 1 - (j : Int)) (by omega) (by omega)]))
        rw [show pointsL 4 cands l x = cands - 1 - (j : Int) by unfold pointsL; rw [hI, place_hit ha e, if_neg (by decide), if_neg (by decide), if_neg (by decide), if_neg (by omega)]]
        exact FnQ.ret rfl rfl
      · (repeat' (first | refine wSeq rfl ?_ | refine wBlock rfl ?_ | refine wSkip rfl ?_ | refine wExit rfl ?_ | refine wRet rfl ?_ | refine wCondT rfl rfl ?_ | refine wCondF rfl rfl ?_ | refine wOps rfl ?_ | refine wDraw rfl rfl ?_ | simp only [seval, push_cast, ↓reduceIte, ↓bP_some, ↓aP_true, reduceCtorEq, iaQ_tl hj, ha, hj, e, wrap_succ (show j < 9223372036854775807 by omega)]))
        exact qR_n rfl rfl (by rw [hI, place_miss ha e])
    · intro hI
      (repeat' (first | refine wSeq rfl ?_ | refine wBlock rfl ?_ | refine wSkip rfl ?_ | refine wExit rfl ?_ | refine wRet rfl ?_ | refine wCondT rfl rfl ?_ | refine wCondF rfl rfl ?_ | refine wOps rfl ?_ | refine wDraw rfl rfl ?_ | simp only [seval, push_cast, ↓reduceIte, ↓bP_some, ↓aP_true, reduceCtorEq]))
      rw [show pointsL 4 cands l x = 0 by unfold pointsL; rw [hI, place_end (by omega)]; rfl]
      exact FnQ.ret rfl rfl
theorem rgain_v {r cands w x : Int} {s : Nat} {l : List Int} {c : Option Nat} (hs : s = 1 ∨ l = []) (hw : GainOk r cands l w) (hx : GainOk r cands l x) : VFn L 19 [.int .u8 r, .int .i64 cands, tl mrow s l c, .int .i64 w, .int .i64 x] (.int .i64 (gainL r cands l w x)) := by
  refine VFn.start (F := T19.1) (by rw [hL]; rfl) rfl rfl rfl ?_
  have k1 := rpoints_v hL (c := c) hs hw
  have k2 := rpoints_v hL (c := c) hs hx
  have r1 := points_range hw
  have r2 := points_range hx
  have hc := hw.hc
  have hm : 1 ≤ mostL r cands ∧ mostL r cands ≤ 10 := by unfold mostL; split <;> (try split) <;> omega
  have w1 := wrap_i64 (n := mostL r cands - pointsL r cands l x) (by omega) (by omega)
  have w2 := wrap_i64 (n := mostL r cands - pointsL r cands l x + pointsL r cands l w) (by omega) (by omega)
  by_cases h3 : r = 3
  · subst h3
    rw [show mostL 3 cands = 10 from rfl] at w1 w2
    (repeat' (first | refine wSeq rfl ?_ | refine wBlock rfl ?_ | refine wSkip rfl ?_ | refine wExit rfl ?_ | refine wRet rfl ?_ | refine wCondT rfl rfl ?_ | refine wCondF rfl rfl ?_ | refine wOps rfl ?_ | refine wDraw rfl rfl ?_ | refine opsV_call rfl rfl (k1) ?_ | refine opsV_call rfl rfl (k2) ?_ | simp only [seval, push_cast, ↓reduceIte, ↓bP_some, ↓aP_true, reduceCtorEq, w1, w2]))
    exact FnQ.ret rfl rfl
  by_cases h4 : r = 4
  · subst h4
    rw [show mostL 4 cands = cands - 1 from rfl] at w1 w2
    (repeat' (first | refine wSeq rfl ?_ | refine wBlock rfl ?_ | refine wSkip rfl ?_ | refine wExit rfl ?_ | refine wRet rfl ?_ | refine wCondT rfl rfl ?_ | refine wCondF rfl rfl ?_ | refine wOps rfl ?_ | refine wDraw rfl rfl ?_ | refine opsV_call rfl rfl (k1) ?_ | refine opsV_call rfl rfl (k2) ?_ | simp only [seval, push_cast, ↓reduceIte, ↓bP_some, ↓aP_true, reduceCtorEq, h3, wrap_i64 (n := cands - 1) (by omega) (by omega), w1, w2]))
    exact FnQ.ret rfl rfl
  have e1 : mostL r cands = 1 := by unfold mostL; rw [if_neg h3, if_neg h4]
  rw [e1] at w1 w2
  (repeat' (first | refine wSeq rfl ?_ | refine wBlock rfl ?_ | refine wSkip rfl ?_ | refine wExit rfl ?_ | refine wRet rfl ?_ | refine wCondT rfl rfl ?_ | refine wCondF rfl rfl ?_ | refine wOps rfl ?_ | refine wDraw rfl rfl ?_ | refine opsV_call rfl rfl (k1) ?_ | refine opsV_call rfl rfl (k2) ?_ | simp only [seval, push_cast, ↓reduceIte, ↓bP_some, ↓aP_true, reduceCtorEq, h3, h4, w1, w2]))
  rw [show gainL r cands l w x = 1 - pointsL r cands l x + pointsL r cands l w by unfold gainL; rw [e1]]
  exact FnQ.ret rfl rfl
theorem rGain_v (r cands w x : Int) {s : Nat} {l : List Int} {c : Option Nat} (hs : s = 1 ∨ l = []) (hl : l.length ≤ 100) : VFn L 8 [.int .u8 r, .int .i64 cands, tl mrow s l c, .int .i64 w, .int .i64 x] (gainV r cands l w x) := by
  refine VFn.start (F := T8.1) (by rw [hL]; rfl) rfl rfl (by unfold gainV; split <;> rfl) ?_
  have bad : badG r cands w x l → gainV r cands l w x = .tup [.int .i64 0, .int .i64 2] := fun h => if_pos h
  by_cases e0 : r < 1
  · (repeat' (first | refine wSeq rfl ?_ | refine wBlock rfl ?_ | refine wSkip rfl ?_ | refine wExit rfl ?_ | refine wRet rfl ?_ | refine wCondT rfl rfl ?_ | refine wCondF rfl rfl ?_ | refine wOps rfl ?_ | refine wDraw rfl rfl ?_ | simp only [seval, push_cast, ↓reduceIte, ↓bP_some, ↓aP_true, reduceCtorEq, e0]))
    rw [bad (.inl (.inl e0))]
    exact FnQ.ret rfl rfl
  by_cases e1 : 4 < r
  · (repeat' (first | refine wSeq rfl ?_ | refine wBlock rfl ?_ | refine wSkip rfl ?_ | refine wExit rfl ?_ | refine wRet rfl ?_ | refine wCondT rfl rfl ?_ | refine wCondF rfl rfl ?_ | refine wOps rfl ?_ | refine wDraw rfl rfl ?_ | simp only [seval, push_cast, ↓reduceIte, ↓bP_some, ↓aP_true, reduceCtorEq, e0, e1]))
    rw [bad (.inl (.inr e1))]
    exact FnQ.ret rfl rfl
  by_cases e2 : cands < 2
  · (repeat' (first | refine wSeq rfl ?_ | refine wBlock rfl ?_ | refine wSkip rfl ?_ | refine wExit rfl ?_ | refine wRet rfl ?_ | refine wCondT rfl rfl ?_ | refine wCondF rfl rfl ?_ | refine wOps rfl ?_ | refine wDraw rfl rfl ?_ | simp only [seval, push_cast, ↓reduceIte, ↓bP_some, ↓aP_true, reduceCtorEq, e0, e1, e2]))
    rw [bad (by unfold badG; omega)]
    exact FnQ.ret rfl rfl
  by_cases e3 : w < 0
  · (repeat' (first | refine wSeq rfl ?_ | refine wBlock rfl ?_ | refine wSkip rfl ?_ | refine wExit rfl ?_ | refine wRet rfl ?_ | refine wCondT rfl rfl ?_ | refine wCondF rfl rfl ?_ | refine wOps rfl ?_ | refine wDraw rfl rfl ?_ | simp only [seval, push_cast, ↓reduceIte, ↓bP_some, ↓aP_true, reduceCtorEq, e0, e1, e2, e3]))
    rw [bad (by unfold badG; omega)]
    exact FnQ.ret rfl rfl
  by_cases e4 : cands ≤ w
  · (repeat' (first | refine wSeq rfl ?_ | refine wBlock rfl ?_ | refine wSkip rfl ?_ | refine wExit rfl ?_ | refine wRet rfl ?_ | refine wCondT rfl rfl ?_ | refine wCondF rfl rfl ?_ | refine wOps rfl ?_ | refine wDraw rfl rfl ?_ | simp only [seval, push_cast, ↓reduceIte, ↓bP_some, ↓aP_true, reduceCtorEq, e0, e1, e2, e3, e4]))
    rw [bad (by unfold badG; omega)]
    exact FnQ.ret rfl rfl
  by_cases e5 : x < 0
  · (repeat' (first | refine wSeq rfl ?_ | refine wBlock rfl ?_ | refine wSkip rfl ?_ | refine wExit rfl ?_ | refine wRet rfl ?_ | refine wCondT rfl rfl ?_ | refine wCondF rfl rfl ?_ | refine wOps rfl ?_ | refine wDraw rfl rfl ?_ | simp only [seval, push_cast, ↓reduceIte, ↓bP_some, ↓aP_true, reduceCtorEq, e0, e1, e2, e3, e4, e5]))
    rw [bad (by unfold badG; omega)]
    exact FnQ.ret rfl rfl
  by_cases e6 : cands ≤ x
  · (repeat' (first | refine wSeq rfl ?_ | refine wBlock rfl ?_ | refine wSkip rfl ?_ | refine wExit rfl ?_ | refine wRet rfl ?_ | refine wCondT rfl rfl ?_ | refine wCondF rfl rfl ?_ | refine wOps rfl ?_ | refine wDraw rfl rfl ?_ | simp only [seval, push_cast, ↓reduceIte, ↓bP_some, ↓aP_true, reduceCtorEq, e0, e1, e2, e3, e4, e5, e6]))
    rw [bad (by unfold badG; omega)]
    exact FnQ.ret rfl rfl
  by_cases e7 : w = x
  · subst e7
    (repeat' (first | refine wSeq rfl ?_ | refine wBlock rfl ?_ | refine wSkip rfl ?_ | refine wExit rfl ?_ | refine wRet rfl ?_ | refine wCondT rfl rfl ?_ | refine wCondF rfl rfl ?_ | refine wOps rfl ?_ | refine wDraw rfl rfl ?_ | simp only [seval, push_cast, ↓reduceIte, ↓bP_some, ↓aP_true, reduceCtorEq, e0, e1, e2, e3, e4]))
    rw [bad (by unfold badG; omega)]
    exact FnQ.ret rfl rfl
  have kk := rkind_v hL (r := r) (by omega)
  have kc := rcheck_v hL (kindM r) cands s l c hs (by omega)
  by_cases e8 : checkL (kindM r) l cands = 0
  · have hb : ¬ badG r cands w x l := by unfold badG; omega
    obtain ⟨gx, gw⟩ := gain_ok hb hl
    have kg := rgain_v hL (c := c) hs gw gx
    rw [show gainV r cands l w x = .tup [.int .i64 (gainL r cands l w x), .int .i64 0] from if_neg hb]
    rw [e8] at kc
    (repeat' (first | refine wSeq rfl ?_ | refine wBlock rfl ?_ | refine wSkip rfl ?_ | refine wExit rfl ?_ | refine wRet rfl ?_ | refine wCondT rfl rfl ?_ | refine wCondF rfl rfl ?_ | refine wOps rfl ?_ | refine wDraw rfl rfl ?_ | refine opsV_call rfl rfl (kk) ?_ | refine opsV_call rfl rfl (kc) ?_ | refine opsV_call rfl rfl (kg) ?_ | simp only [seval, push_cast, ↓reduceIte, ↓bP_some, ↓aP_true, reduceCtorEq, e0, e1, e2, e3, e4, e5, e6, e7]))
    exact FnQ.ret rfl rfl
  · (repeat' (first | refine wSeq rfl ?_ | refine wBlock rfl ?_ | refine wSkip rfl ?_ | refine wExit rfl ?_ | refine wRet rfl ?_ | refine wCondT rfl rfl ?_ | refine wCondF rfl rfl ?_ | refine wOps rfl ?_ | refine wDraw rfl rfl ?_ | refine opsV_call rfl rfl (kk) ?_ | refine opsV_call rfl rfl (kc) ?_ | simp only [seval, push_cast, ↓reduceIte, ↓bP_some, ↓aP_true, reduceCtorEq, e0, e1, e2, e3, e4, e5, e6, e7, e8]))
    rw [bad (by unfold badG; exact .inr (.inr (.inr (.inr (.inr (.inr (.inr e8)))))))]
    exact FnQ.ret rfl rfl
end Go.Proofs.YtncdaicaljpgfaaGreat
