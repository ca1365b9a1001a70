/- Ballots: the program's functions, walked. · Ballots: the program's functions, walked: Check, alone, First, Prefers, Same, Less. · Ballots: the reference, walked. · Margins: gains, by the program and by the reference, walked. · Points by one ballot, as plain functions: what a map of distinct keys hands out in whichever order; the gain is never passed and is reached. -/
import Derived.Test.YtncdaicaljpgfaaGreatM1
import Derived.Test.YtncdaicaljpgfaaGreatM4
import Derived.Test.YtncdaicaljpgfaaGreatM3
set_option maxRecDepth 100000
set_option linter.unusedVariables false
set_option linter.unusedSimpArgs false
namespace Go.Proofs.YtncdaicaljpgfaaGreat
variable {L : Lib} (hL : L.T = tab.get)
include hL
theorem within_v (n lo hi : Int) : VFn L 38 [.int .i64 n, .int .i64 lo, .int .i64 hi] (.bool (decide (lo ≤ n) && decide (n < hi))) := by
  refine VFn.start (F := T38.1) (by rw [hL]; rfl) rfl rfl rfl ?_
  by_cases h : lo ≤ n
  · (repeat' (first | refine wSeq rfl ?_ | refine wBlock rfl ?_ | refine wSkip rfl ?_ | refine wExit rfl ?_ | refine wRet rfl ?_ | refine wCondT rfl rfl ?_ | refine wCondF rfl rfl ?_ | refine wOps rfl ?_ | refine wDraw rfl rfl ?_ | simp only [seval, push_cast, ↓reduceIte, ↓bP_some, ↓aP_true, reduceCtorEq, h]))
    exact FnQ.ret rfl rfl
  · (repeat' (first | refine wSeq rfl ?_ | refine wBlock rfl ?_ | refine wSkip rfl ?_ | refine wExit rfl ?_ | refine wRet rfl ?_ | refine wCondT rfl rfl ?_ | refine wCondF rfl rfl ?_ | refine wOps rfl ?_ | refine wDraw rfl rfl ?_ | simp only [seval, push_cast, ↓reduceIte, ↓bP_some, ↓aP_true, reduceCtorEq, h]))
    exact FnQ.ret rfl rfl
omit hL
def badMark (k cands m : Int) : Bool := if k = 3 then !(decide (0 ≤ m) && decide (m < 11)) else !(decide (0 ≤ m) && decide (m < cands))
def marksOk (k : Int) (l : List Int) (cands : Int) : Bool := l.all (fun m => !badMark k cands m)
def fineR (k : Int) (l : List Int) (cands : Int) : Bool := marksOk k l cands && (if k = 3 then decide ((l.length : Int) = cands) else if k = 2 then sortedB l && decide l.Nodup else if k = 1 then decide l.Nodup else false)
theorem fineR_bad {k cands : Int} {l : List Int} {j : Nat} {x : Int} (hx : l[j]? = some x) (hb : badMark k cands x = true) : fineR k l cands = false := by
  have : marksOk k l cands = false := by
    rw [Bool.eq_false_iff]
    intro h
    have := List.all_eq_true.1 h x (List.mem_of_getElem? hx)
    rw [hb] at this; cases this
  unfold fineR
  rw [this]; rfl
theorem marksOk_of {k cands : Int} {l : List Int} (h : ∀ i x, i < l.length → l[i]? = some x → badMark k cands x = false) : marksOk k l cands = true := List.all_eq_true.2 fun x hx => by
  obtain ⟨i, hi⟩ := List.mem_iff_getElem?.1 hx
  rw [h i x (List.getElem?_eq_some_iff.1 hi).1 hi]; rfl
theorem all_snoc {α : Type} {P : α → Prop} {l : List α} {j : Nat} {x : α} (hx : l[j]? = some x) (hI : ∀ i x, i < j → l[i]? = some x → P x) (h : P x) : ∀ i x, i < j + 1 → l[i]? = some x → P x := fun i y hi hy => by
  by_cases e : i = j
  · subst e; rw [hx] at hy; cases hy; exact h
  · exact hI i y (by omega) hy
def seenRow (p : List Int) : List V := (List.range 10).map fun i : Nat => V.bool (decide ((i : Int) ∈ p))
theorem seenRow_get {p : List Int} {n : Nat} (h : n < 10) : (seenRow p)[n]? = some (.bool (decide ((n : Int) ∈ p))) := by simp [seenRow, h]
theorem seenRow_len {p : List Int} : (seenRow p).length = 10 := by simp [seenRow]
theorem seenRow_set {p : List Int} {n : Nat} (h : n < 10) : (seenRow p).take n ++ [V.bool true] ++ (seenRow p).drop (n + 1) = seenRow (p ++ [(n : Int)]) := by
  apply List.ext_getElem?
  intro i
  by_cases hi : i < 10
  · rw [seenRow_get hi, List.append_assoc, List.getElem?_append]
    have hl : (List.take n (seenRow p)).length = n := by rw [List.length_take, seenRow_len]; omega
    rw [hl]
    by_cases h1 : i < n
    · rw [if_pos h1, List.getElem?_take, if_pos h1, seenRow_get hi]
      have : ¬ ((i : Int) = (n : Int)) := by omega
      simp [this]
    · rw [if_neg h1]
      by_cases h2 : i = n
      · subst h2; simp
      · rw [List.getElem?_append_right (by simp; omega), List.length_singleton, List.getElem?_drop, show n + 1 + (i - n - 1) = i by omega, seenRow_get hi]
        have : ¬ ((i : Int) = (n : Int)) := by omega
        simp [this]
  · rw [List.getElem?_eq_none (by simp [seenRow_len]; omega), List.getElem?_eq_none (by rw [seenRow_len]; omega)]
theorem fine_seen {k : Int} {s : Nat} {l : List Int} {c : Option Nat} (hs : s = 1 ∨ l = []) (hl : l.length < 4611686018427387904) (hb : ∀ x ∈ l, 0 ≤ x ∧ x < 10) {Q : Exit → Env → Heap → Prop} (hq : ∀ b H', b = decide l.Nodup → Q .ret [(4, .bool b)] H') :
    SWP L 0 T39.1.ntmps T39.1.body.r.r.l.r.l.r.l.r.l.r.l (qB T39.1.body.r.r.l.r.l.r.l.r.l.r.id (qN L 0 T39.1.ntmps T39.1.body.r.r.l.r.l.r.l.r.r Q))
    [(7, V.ptr 1 10 0 0), (55, tl mrow s l c), (56, V.int IntKind.i64 ↑l.length), (57, V.int IntKind.i64 0)]
    [some (Blk.arr 2 [[V.int IntKind.u8 k, tl mrow s l c]]), some (Blk.arr 10 [seenRow []])] := by
  refine wCntH rfl 57 l.length (fun _ => []) (fun j => [some (Blk.arr 2 [[V.int IntKind.u8 k, tl mrow s l c]]), some (Blk.arr 10 [seenRow (l.take j)])]) (fun j => (l.take j).Nodup) rfl rfl (by simp) ?_ ?_
  · intro j hj hI
    obtain ⟨x, hx, hm⟩ := get_of hj
    obtain rfl := size_of hs hj
    obtain ⟨h0, h10⟩ := hb x hm
    obtain ⟨n, rfl⟩ : ∃ n : Nat, x = n := ⟨x.toNat, by omega⟩
    have hn : n < 10 := by omega
    have hn9 : n ≤ 9 := by omega
    have hw := wrap_succ (show j < 9223372036854775807 by omega)
    have htk := take_snoc hx
    have hsg := seenRow_get (p := l.take j) hn
    cases hmem : decide ((n : Int) ∈ l.take j) with
    | true =>
      (repeat' (first | refine wSeq rfl ?_ | refine wBlock rfl ?_ | refine wSkip rfl ?_ | refine wExit rfl ?_ | refine wRet rfl ?_ | refine wCondT rfl rfl ?_ | refine wCondF rfl rfl ?_ | refine wOps rfl ?_ | refine wDraw rfl rfl ?_ | simp only [seval, push_cast, ↓reduceIte, ↓bP_some, ↓aP_true, reduceCtorEq, iaQ_tl hj, hx, hj, hn, hn9, Nat.mul_one, hsg, hmem]))
      refine hq _ _ ?_
      symm
      rw [decide_eq_false_iff_not]
      intro h
      have := h.sublist (List.take_sublist (j + 1) l)
      rw [htk, List.nodup_append] at this
      exact this.2.2 _ (of_decide_eq_true hmem) _ (by simp) rfl
    | false =>
      (repeat' (first | refine wSeq rfl ?_ | refine wBlock rfl ?_ | refine wSkip rfl ?_ | refine wExit rfl ?_ | refine wRet rfl ?_ | refine wCondT rfl rfl ?_ | refine wCondF rfl rfl ?_ | refine wOps rfl ?_ | refine wDraw rfl rfl ?_ | simp only [seval, push_cast, ↓reduceIte, ↓bP_some, ↓aP_true, reduceCtorEq, iaQ_tl hj, hx, hj, hn, hn9, Nat.mul_one, hsg, hmem, seenRow_len, seenRow_set hn, hw]))
      refine qR_n rfl (by rw [htk]) ?_
      rw [htk, List.nodup_append]
      refine ⟨hI, by simp, fun a ha b hb e => ?_⟩
      rw [List.mem_singleton] at hb
      subst hb; subst e; exact of_decide_eq_false hmem ha
  · intro hI
    (repeat' (first | refine wSeq rfl ?_ | refine wBlock rfl ?_ | refine wSkip rfl ?_ | refine wExit rfl ?_ | refine wRet rfl ?_ | refine wCondT rfl rfl ?_ | refine wCondF rfl rfl ?_ | refine wOps rfl ?_ | refine wDraw rfl rfl ?_ | simp only [seval, push_cast, ↓reduceIte, ↓bP_some, ↓aP_true, reduceCtorEq]))
    refine hq _ _ ?_
    symm
    rw [decide_eq_true_iff]
    rwa [take_all] at hI
include hL
theorem fineR_v (k cands : Int) (s : Nat) (l : List Int) (c : Option Nat) (hs : s = 1 ∨ l = []) (hl : l.length < 4611686018427387904) (hc : cands ≤ 10) : VFn L 39 [.agg [.int .u8 k, tl mrow s l c], .int .i64 cands] (.bool (fineR k l cands)) := by
  refine VFn.start (F := T39.1) (by rw [hL]; rfl) rfl rfl rfl ?_
  (repeat' (first | refine wSeq rfl ?_ | refine wBlock rfl ?_ | refine wSkip rfl ?_ | refine wExit rfl ?_ | refine wRet rfl ?_ | refine wCondT rfl rfl ?_ | refine wCondF rfl rfl ?_ | refine wOps rfl ?_ | refine wDraw rfl rfl ?_ | simp only [seval, push_cast, ↓reduceIte, ↓bP_some, ↓aP_true, reduceCtorEq]))
  refine wCnt rfl 13 l.length (fun _ => []) (fun j => ∀ i x, i < j → l[i]? = some x → badMark k cands x = false) rfl (fun i x h => by omega) ?_ ?_
  · intro j hj hI
    obtain ⟨x, hx, hm⟩ := get_of hj
    obtain rfl := size_of hs hj
    have hw := wrap_succ (show j < 9223372036854775807 by omega)
    by_cases hk : k = 3
    · subst hk
      cases hb : (decide (0 ≤ x) && decide (x < 11)) with
      | false =>
        (repeat' (first | refine wSeq rfl ?_ | refine wBlock rfl ?_ | refine wSkip rfl ?_ | refine wExit rfl ?_ | refine wRet rfl ?_ | refine wCondT rfl rfl ?_ | refine wCondF rfl rfl ?_ | refine wOps rfl ?_ | refine wDraw rfl rfl ?_ | refine opsV_call rfl rfl (within_v hL _ _ _) ?_ | simp only [seval, push_cast, ↓reduceIte, ↓bP_some, ↓aP_true, reduceCtorEq, iaQ_tl hj, hx, hj, hb]))
        rw [fineR_bad hx (by simp [badMark, hb])]
        exact FnQ.ret rfl rfl
      | true =>
        (repeat' (first | refine wSeq rfl ?_ | refine wBlock rfl ?_ | refine wSkip rfl ?_ | refine wExit rfl ?_ | refine wRet rfl ?_ | refine wCondT rfl rfl ?_ | refine wCondF rfl rfl ?_ | refine wOps rfl ?_ | refine wDraw rfl rfl ?_ | refine opsV_call rfl rfl (within_v hL _ _ _) ?_ | simp only [seval, push_cast, ↓reduceIte, ↓bP_some, ↓aP_true, reduceCtorEq, iaQ_tl hj, hx, hj, hb, hw]))
        exact qR_n rfl rfl (all_snoc (P := fun x => badMark 3 cands x = false) hx hI (by simp [badMark, hb]))
    · cases hb : (decide (0 ≤ x) && decide (x < cands)) with
      | false =>
        (repeat' (first | refine wSeq rfl ?_ | refine wBlock rfl ?_ | refine wSkip rfl ?_ | refine wExit rfl ?_ | refine wRet rfl ?_ | refine wCondT rfl rfl ?_ | refine wCondF rfl rfl ?_ | refine wOps rfl ?_ | refine wDraw rfl rfl ?_ | refine opsV_call rfl rfl (within_v hL _ _ _) ?_ | simp only [seval, push_cast, ↓reduceIte, ↓bP_some, ↓aP_true, reduceCtorEq, iaQ_tl hj, hx, hj, hk, hb]))
        rw [fineR_bad hx (by simp [badMark, hb, hk])]
        exact FnQ.ret rfl rfl
      | true =>
        (repeat' (first | refine wSeq rfl ?_ | refine wBlock rfl ?_ | refine wSkip rfl ?_ | refine wExit rfl ?_ | refine wRet rfl ?_ | refine wCondT rfl rfl ?_ | refine wCondF rfl rfl ?_ | refine wOps rfl ?_ | refine wDraw rfl rfl ?_ | refine opsV_call rfl rfl (within_v hL _ _ _) ?_ | simp only [seval, push_cast, ↓reduceIte, ↓bP_some, ↓aP_true, reduceCtorEq, iaQ_tl hj, hx, hj, hk, hb, hw]))
        exact qR_n rfl rfl (all_snoc (P := fun x => badMark k cands x = false) hx hI (by simp [badMark, hb, hk]))
  · intro hI
    have hR : fineR k l cands = (if k = 3 then decide ((l.length : Int) = cands) else if k = 2 then sortedB l && decide l.Nodup else if k = 1 then decide l.Nodup else false) := by unfold fineR; rw [marksOk_of hI]; rfl
    by_cases h3 : k = 3
    · subst h3
      (repeat' (first | refine wSeq rfl ?_ | refine wBlock rfl ?_ | refine wSkip rfl ?_ | refine wExit rfl ?_ | refine wRet rfl ?_ | refine wCondT rfl rfl ?_ | refine wCondF rfl rfl ?_ | refine wOps rfl ?_ | refine wDraw rfl rfl ?_ | simp only [seval, push_cast, ↓reduceIte, ↓bP_some, ↓aP_true, reduceCtorEq]))
      rw [hR]
      exact FnQ.ret rfl rfl
    · have hb10 : ∀ x ∈ l, 0 ≤ x ∧ x < 10 := fun x hx => by
        have := List.all_eq_true.1 (marksOk_of hI) x hx
        simp only [badMark, if_neg h3, Bool.not_not, Bool.and_eq_true, decide_eq_true_eq] at this
        omega
      by_cases h2 : k = 2
      · subst h2
        cases hso : sortedB l with
        | false =>
          (repeat' (first | refine wSeq rfl ?_ | refine wBlock rfl ?_ | refine wSkip rfl ?_ | refine wExit rfl ?_ | refine wRet rfl ?_ | refine wCondT rfl rfl ?_ | refine wCondF rfl rfl ?_ | refine wOps rfl ?_ | refine wDraw rfl rfl ?_ | refine opsV_call rfl rfl (isSorted_v hL s l c hs hl) ?_ | simp only [seval, push_cast, ↓reduceIte, ↓bP_some, ↓aP_true, reduceCtorEq, h3, hso]))
          rw [hR, hso]
          exact FnQ.ret rfl rfl
        | true =>
          (repeat' (first | refine wSeq rfl ?_ | refine wBlock rfl ?_ | refine wSkip rfl ?_ | refine wExit rfl ?_ | refine wRet rfl ?_ | refine wCondT rfl rfl ?_ | refine wCondF rfl rfl ?_ | refine wOps rfl ?_ | refine wDraw rfl rfl ?_ | refine opsV_call rfl rfl (isSorted_v hL s l c hs hl) ?_ | simp only [seval, push_cast, ↓reduceIte, ↓bP_some, ↓aP_true, reduceCtorEq, h3, hso]))
          refine fine_seen hs hl hb10 (fun b H' hb => ?_)
          (repeat' (first | refine wSeq rfl ?_ | refine wBlock rfl ?_ | refine wSkip rfl ?_ | refine wExit rfl ?_ | refine wRet rfl ?_ | refine wCondT rfl rfl ?_ | refine wCondF rfl rfl ?_ | refine wOps rfl ?_ | refine wDraw rfl rfl ?_ | simp only [seval, push_cast, ↓reduceIte, ↓bP_some, ↓aP_true, reduceCtorEq]))
          rw [hR, hso, hb]
          exact FnQ.ret rfl rfl
      · by_cases h1 : k = 1
        · subst h1
          (repeat' (first | refine wSeq rfl ?_ | refine wBlock rfl ?_ | refine wSkip rfl ?_ | refine wExit rfl ?_ | refine wRet rfl ?_ | refine wCondT rfl rfl ?_ | refine wCondF rfl rfl ?_ | refine wOps rfl ?_ | refine wDraw rfl rfl ?_ | simp only [seval, push_cast, ↓reduceIte, ↓bP_some, ↓aP_true, reduceCtorEq, h3, h2]))
          refine fine_seen hs hl hb10 (fun b H' hb => ?_)
          (repeat' (first | refine wSeq rfl ?_ | refine wBlock rfl ?_ | refine wSkip rfl ?_ | refine wExit rfl ?_ | refine wRet rfl ?_ | refine wCondT rfl rfl ?_ | refine wCondF rfl rfl ?_ | refine wOps rfl ?_ | refine wDraw rfl rfl ?_ | simp only [seval, push_cast, ↓reduceIte, ↓bP_some, ↓aP_true, reduceCtorEq]))
          rw [hR, hb]
          exact FnQ.ret rfl rfl
        · (repeat' (first | refine wSeq rfl ?_ | refine wBlock rfl ?_ | refine wSkip rfl ?_ | refine wExit rfl ?_ | refine wRet rfl ?_ | refine wCondT rfl rfl ?_ | refine wCondF rfl rfl ?_ | refine wOps rfl ?_ | refine wDraw rfl rfl ?_ | simp only [seval, push_cast, ↓reduceIte, ↓bP_some, ↓aP_true, reduceCtorEq, h3, h2, h1]))
          rw [hR, if_neg h3, if_neg h2, if_neg h1]
          exact FnQ.ret rfl rfl
omit hL
theorem fineR_eq (k : Int) (l : List Int) (c : Int) : fineR k l c = fineL k l c := by
  have hm3 : marksOk 3 l c = l.all (inB 0 11) := by
    unfold marksOk; congr 1; funext m; simp [badMark, inB]
  have hm : k ≠ 3 → marksOk k l c = l.all (inB 0 c) := fun h => by
    unfold marksOk; congr 1; funext m; simp [badMark, inB, h]
  unfold fineR fineL
  by_cases h3 : k = 3
  · subst h3; rw [hm3]; rfl
  · rw [hm h3, if_neg h3, if_neg h3]
    by_cases h2 : k = 2
    · subst h2
      rw [if_pos rfl, if_neg (by decide), if_pos rfl, sortedB_pw]
      congr 1
      have := pw_lt_iff l
      by_cases h1 : l.Pairwise (· ≤ ·)
      · rw [decide_eq_true h1, Bool.true_and]
        exact decide_eq_decide.2 ⟨fun h => this.2 ⟨h1, h⟩, fun h => (this.1 h).2⟩
      · rw [decide_eq_false h1, Bool.false_and]
        symm
        exact decide_eq_false fun h => h1 (this.1 h).1
    · rw [if_neg h2]
      by_cases h1 : k = 1
      · subst h1; rfl
      · rw [if_neg h1, if_neg h1, if_neg h2, Bool.and_false]
include hL
theorem fine_v (k cands : Int) (s : Nat) (l : List Int) (c : Option Nat) (hs : s = 1 ∨ l = []) (hl : l.length < 4611686018427387904) (hc : cands ≤ 10) : VFn L 39 [(.agg [.int .u8 k, tl mrow s (l) c]), .int .i64 cands] (.bool (fineL k l cands)) := by
  rw [← fineR_eq]
  exact fineR_v hL k cands s l c hs hl hc
end Go.Proofs.YtncdaicaljpgfaaGreat
set_option maxRecDepth 100000
set_option maxHeartbeats 4000000
set_option linter.unusedVariables false
set_option linter.unusedSimpArgs false
namespace Go.Proofs.YtncdaicaljpgfaaGreat
variable {L : Lib} (hL : L.T = tab.get)
include hL
theorem check_v (k cands : Int) (s : Nat) (l : List Int) (c : Option Nat) (hs : s = 1 ∨ l = []) (hl : l.length < 4611686018427387904) : VFn L 17 [(.agg [.int .u8 k, tl mrow s (l) c]), .int .i64 cands] (.int .i64 (checkL k l cands)) := by
  refine VFn.start (F := T17.1) (by rw [hL]; rfl) rfl rfl rfl ?_
  cases hw : (decide (1 ≤ cands) && decide (cands < 11)) with
  | false =>
    (repeat' (first | refine wSeq rfl ?_ | refine wBlock rfl ?_ | refine wSkip rfl ?_ | refine wExit rfl ?_ | refine wRet rfl ?_ | refine wCondT rfl rfl ?_ | refine wCondF rfl rfl ?_ | refine wOps rfl ?_ | refine wDraw rfl rfl ?_ | refine opsV_call rfl rfl (within_v hL _ _ _) ?_ | simp only [seval, push_cast, ↓reduceIte, ↓bP_some, ↓aP_true, reduceCtorEq, hw]))
    rw [show checkL k l cands = 2 by unfold checkL; rw [if_pos]; simp at hw; omega]
    exact FnQ.ret rfl rfl
  | true =>
    have hc : 1 ≤ cands ∧ cands ≤ 10 := by simp at hw; omega
    cases hf : fineL k l cands with
    | false =>
      (repeat' (first | refine wSeq rfl ?_ | refine wBlock rfl ?_ | refine wSkip rfl ?_ | refine wExit rfl ?_ | refine wRet rfl ?_ | refine wCondT rfl rfl ?_ | refine wCondF rfl rfl ?_ | refine wOps rfl ?_ | refine wDraw rfl rfl ?_ | refine opsV_call rfl rfl (within_v hL _ _ _) ?_ | refine opsV_call rfl rfl (fine_v hL _ _ _ _ _ hs hl hc.2) ?_ | simp only [seval, push_cast, ↓reduceIte, ↓bP_some, ↓aP_true, reduceCtorEq, hw, hf]))
      rw [show checkL k l cands = 8 by unfold checkL; rw [if_neg (by omega), if_pos hf]]
      exact FnQ.ret rfl rfl
    | true =>
      (repeat' (first | refine wSeq rfl ?_ | refine wBlock rfl ?_ | refine wSkip rfl ?_ | refine wExit rfl ?_ | refine wRet rfl ?_ | refine wCondT rfl rfl ?_ | refine wCondF rfl rfl ?_ | refine wOps rfl ?_ | refine wDraw rfl rfl ?_ | refine opsV_call rfl rfl (within_v hL _ _ _) ?_ | refine opsV_call rfl rfl (fine_v hL _ _ _ _ _ hs hl hc.2) ?_ | simp only [seval, push_cast, ↓reduceIte, ↓bP_some, ↓aP_true, reduceCtorEq, hw, hf]))
      rw [show checkL k l cands = 0 by unfold checkL; rw [if_neg (by omega), if_neg (by rw [hf]; simp)]]
      exact FnQ.ret rfl rfl
def firstV (k : Int) (l : List Int) : V := .tup [.int .i64 (firstL k l).1, .bool (firstL k l).2]
theorem prefers_v (k : Int) (s : Nat) (l : List Int) (c : Option Nat) (x y : Int) (hs : s = 1 ∨ l = []) (hl : l.length < 4611686018427387904) : VFn L 118 [(.agg [.int .u8 k, tl mrow s (l) c]), .int .i64 x, .int .i64 y] (.bool (prefersL k l x y)) := by
  refine VFn.start (F := T118.1) (by rw [hL]; rfl) rfl rfl rfl ?_
  by_cases hx : x < 0
  · (repeat' (first | refine wSeq rfl ?_ | refine wBlock rfl ?_ | refine wSkip rfl ?_ | refine wExit rfl ?_ | refine wRet rfl ?_ | refine wCondT rfl rfl ?_ | refine wCondF rfl rfl ?_ | refine wOps rfl ?_ | refine wDraw rfl rfl ?_ | simp only [seval, push_cast, ↓reduceIte, ↓bP_some, ↓aP_true, reduceCtorEq, hx]))
    rw [show prefersL k l x y = false by unfold prefersL; rw [if_pos (.inl hx)]]
    exact FnQ.ret rfl rfl
  by_cases hy : y < 0
  · (repeat' (first | refine wSeq rfl ?_ | refine wBlock rfl ?_ | refine wSkip rfl ?_ | refine wExit rfl ?_ | refine wRet rfl ?_ | refine wCondT rfl rfl ?_ | refine wCondF rfl rfl ?_ | refine wOps rfl ?_ | refine wDraw rfl rfl ?_ | simp only [seval, push_cast, ↓reduceIte, ↓bP_some, ↓aP_true, reduceCtorEq, hx, hy]))
    rw [show prefersL k l x y = false by unfold prefersL; rw [if_pos (.inr hy)]]
    exact FnQ.ret rfl rfl
  have hxy : ¬ (x < 0 ∨ y < 0) := by omega
  obtain ⟨nx, rfl⟩ : ∃ n : Nat, x = n := ⟨x.toNat, by omega⟩
  obtain ⟨ny, rfl⟩ : ∃ n : Nat, y = n := ⟨y.toNat, by omega⟩
  by_cases h1 : k = 1
  · subst h1
    by_cases q1 : 0 ≤ placeL l nx
    · by_cases q2 : placeL l ny < 0
      · (repeat' (first | refine wSeq rfl ?_ | refine wBlock rfl ?_ | refine wSkip rfl ?_ | refine wExit rfl ?_ | refine wRet rfl ?_ | refine wCondT rfl rfl ?_ | refine wCondF rfl rfl ?_ | refine wOps rfl ?_ | refine wDraw rfl rfl ?_ | refine opsV_call rfl rfl (index_v hL _ _ _ _ hs hl) ?_ | simp only [seval, push_cast, ↓reduceIte, ↓bP_some, ↓aP_true, reduceCtorEq, hx, hy, q1, q2]))
        rw [show prefersL 1 l nx ny = true by unfold prefersL; rw [if_neg hxy, if_pos rfl]; simp [q1, q2]]
        exact FnQ.ret rfl rfl
      · (repeat' (first | refine wSeq rfl ?_ | refine wBlock rfl ?_ | refine wSkip rfl ?_ | refine wExit rfl ?_ | refine wRet rfl ?_ | refine wCondT rfl rfl ?_ | refine wCondF rfl rfl ?_ | refine wOps rfl ?_ | refine wDraw rfl rfl ?_ | refine opsV_call rfl rfl (index_v hL _ _ _ _ hs hl) ?_ | simp only [seval, push_cast, ↓reduceIte, ↓bP_some, ↓aP_true, reduceCtorEq, hx, hy, q1, q2]))
        rw [show prefersL 1 l nx ny = decide (placeL l nx < placeL l ny) by unfold prefersL; rw [if_neg hxy, if_pos rfl]; simp [q1, q2]]
        exact FnQ.ret rfl rfl
    · (repeat' (first | refine wSeq rfl ?_ | refine wBlock rfl ?_ | refine wSkip rfl ?_ | refine wExit rfl ?_ | refine wRet rfl ?_ | refine wCondT rfl rfl ?_ | refine wCondF rfl rfl ?_ | refine wOps rfl ?_ | refine wDraw rfl rfl ?_ | refine opsV_call rfl rfl (index_v hL _ _ _ _ hs hl) ?_ | simp only [seval, push_cast, ↓reduceIte, ↓bP_some, ↓aP_true, reduceCtorEq, hx, hy, q1]))
      rw [show prefersL 1 l nx ny = false by unfold prefersL; rw [if_neg hxy, if_pos rfl]; simp [q1]]
      exact FnQ.ret rfl rfl
  by_cases h2 : k = 2
  · subst h2
    by_cases q1 : 0 ≤ placeL l nx
    · (repeat' (first | refine wSeq rfl ?_ | refine wBlock rfl ?_ | refine wSkip rfl ?_ | refine wExit rfl ?_ | refine wRet rfl ?_ | refine wCondT rfl rfl ?_ | refine wCondF rfl rfl ?_ | refine wOps rfl ?_ | refine wDraw rfl rfl ?_ | refine opsV_call rfl rfl (index_v hL _ _ _ _ hs hl) ?_ | simp only [seval, push_cast, ↓reduceIte, ↓bP_some, ↓aP_true, reduceCtorEq, hx, hy, q1, h1]))
      rw [show prefersL 2 l nx ny = decide (placeL l ny < 0) by unfold prefersL; rw [if_neg hxy, if_neg (by decide), if_pos rfl]; simp [q1]]
      exact FnQ.ret rfl rfl
    · (repeat' (first | refine wSeq rfl ?_ | refine wBlock rfl ?_ | refine wSkip rfl ?_ | refine wExit rfl ?_ | refine wRet rfl ?_ | refine wCondT rfl rfl ?_ | refine wCondF rfl rfl ?_ | refine wOps rfl ?_ | refine wDraw rfl rfl ?_ | refine opsV_call rfl rfl (index_v hL _ _ _ _ hs hl) ?_ | simp only [seval, push_cast, ↓reduceIte, ↓bP_some, ↓aP_true, reduceCtorEq, hx, hy, q1, h1]))
      rw [show prefersL 2 l nx ny = false by unfold prefersL; rw [if_neg hxy, if_neg (by decide), if_pos rfl]; simp [q1]]
      exact FnQ.ret rfl rfl
  by_cases h3 : k = 3
  · subst h3
    have e3 : prefersL 3 l nx ny = (decide ((nx : Int) < l.length) && decide ((ny : Int) < l.length) && decide (l[ny]?.getD 0 < l[nx]?.getD 0)) := by unfold prefersL; rw [if_neg hxy, if_neg (by decide), if_neg (by decide), if_pos rfl]; rfl
    by_cases q1 : nx < l.length
    · by_cases q2 : ny < l.length
      · obtain ⟨a, ha, _⟩ := get_of q1
        obtain ⟨b, hb, _⟩ := get_of q2
        obtain rfl := size_of hs q1
        (repeat' (first | refine wSeq rfl ?_ | refine wBlock rfl ?_ | refine wSkip rfl ?_ | refine wExit rfl ?_ | refine wRet rfl ?_ | refine wCondT rfl rfl ?_ | refine wCondF rfl rfl ?_ | refine wOps rfl ?_ | refine wDraw rfl rfl ?_ | refine opsV_call rfl rfl (index_v hL _ _ _ _ hs hl) ?_ | simp only [seval, push_cast, ↓reduceIte, ↓bP_some, ↓aP_true, reduceCtorEq, hx, hy, q1, q2, h1, h2, ha, hb, iaQ_tl q1, iaQ_tl q2]))
        rw [e3, ha, hb, decide_eq_true (show (nx : Int) < l.length by omega), decide_eq_true (show (ny : Int) < l.length by omega)]
        exact FnQ.ret rfl rfl
      · (repeat' (first | refine wSeq rfl ?_ | refine wBlock rfl ?_ | refine wSkip rfl ?_ | refine wExit rfl ?_ | refine wRet rfl ?_ | refine wCondT rfl rfl ?_ | refine wCondF rfl rfl ?_ | refine wOps rfl ?_ | refine wDraw rfl rfl ?_ | refine opsV_call rfl rfl (index_v hL _ _ _ _ hs hl) ?_ | simp only [seval, push_cast, ↓reduceIte, ↓bP_some, ↓aP_true, reduceCtorEq, hx, hy, q1, q2, h1, h2]))
        rw [e3, decide_eq_false (show ¬ (ny : Int) < l.length by omega), Bool.and_false]
        exact FnQ.ret rfl rfl
    · (repeat' (first | refine wSeq rfl ?_ | refine wBlock rfl ?_ | refine wSkip rfl ?_ | refine wExit rfl ?_ | refine wRet rfl ?_ | refine wCondT rfl rfl ?_ | refine wCondF rfl rfl ?_ | refine wOps rfl ?_ | refine wDraw rfl rfl ?_ | refine opsV_call rfl rfl (index_v hL _ _ _ _ hs hl) ?_ | simp only [seval, push_cast, ↓reduceIte, ↓bP_some, ↓aP_true, reduceCtorEq, hx, hy, q1, h1, h2]))
      rw [e3, decide_eq_false (show ¬ (nx : Int) < l.length by omega)]
      exact FnQ.ret rfl rfl
  · (repeat' (first | refine wSeq rfl ?_ | refine wBlock rfl ?_ | refine wSkip rfl ?_ | refine wExit rfl ?_ | refine wRet rfl ?_ | refine wCondT rfl rfl ?_ | refine wCondF rfl rfl ?_ | refine wOps rfl ?_ | refine wDraw rfl rfl ?_ | refine opsV_call rfl rfl (index_v hL _ _ _ _ hs hl) ?_ | simp only [seval, push_cast, ↓reduceIte, ↓bP_some, ↓aP_true, reduceCtorEq, hx, hy, h1, h2, h3]))
    rw [show prefersL k l nx ny = false by unfold prefersL; rw [if_neg hxy, if_neg h1, if_neg h2, if_neg h3]]
    exact FnQ.ret rfl rfl
end Go.Proofs.YtncdaicaljpgfaaGreat
set_option maxRecDepth 100000
set_option maxHeartbeats 4000000
set_option linter.unusedVariables false
set_option linter.unusedSimpArgs false
namespace Go.Proofs.YtncdaicaljpgfaaGreat
variable {L : Lib} (hL : L.T = tab.get)
include hL
theorem rplace_v (s : Nat) (l : List Int) (c : Option Nat) (x : Int) (hs : s = 1 ∨ l = []) (hl : l.length < 4611686018427387904) : VFn L 47 [tl mrow s l c, .int .i64 x] (.int .i64 (placeL l x)) := by
  refine VFn.start (F := T47.1) (by rw [hL]; rfl) rfl rfl rfl ?_
  (repeat' (first | refine wSeq rfl ?_ | refine wBlock rfl ?_ | refine wSkip rfl ?_ | refine wExit rfl ?_ | refine wRet rfl ?_ | refine wCondT rfl rfl ?_ | refine wCondF rfl rfl ?_ | refine wOps rfl ?_ | refine wDraw rfl rfl ?_ | simp only [seval, push_cast, ↓reduceIte, ↓bP_some, ↓aP_true, reduceCtorEq]))
  refine wCnt rfl 5 l.length (fun _ => []) (fun j => placeL l x = placeGo l x j) rfl (place_start l x) ?_ ?_
  · intro j hj hI
    obtain ⟨a, ha, _⟩ := get_of hj
    obtain rfl := size_of hs hj
    by_cases e : a = x
    · subst e
      (repeat' (first | refine wSeq rfl ?_ | refine wBlock rfl ?_ | refine wSkip rfl ?_ | refine wExit rfl ?_ | refine wRet rfl ?_ | refine wCondT rfl rfl ?_ | refine wCondF rfl rfl ?_ | refine wOps rfl ?_ | refine wDraw rfl rfl ?_ | simp only [seval, push_cast, ↓reduceIte, ↓bP_some, ↓aP_true, reduceCtorEq, iaQ_tl hj, ha, hj]))
      rw [hI, place_hit ha rfl]
      exact FnQ.ret rfl rfl
    · (repeat' (first | refine wSeq rfl ?_ | refine wBlock rfl ?_ | refine wSkip rfl ?_ | refine wExit rfl ?_ | refine wRet rfl ?_ | refine wCondT rfl rfl ?_ | refine wCondF rfl rfl ?_ | refine wOps rfl ?_ | refine wDraw rfl rfl ?_ | simp only [seval, push_cast, ↓reduceIte, ↓bP_some, ↓aP_true, reduceCtorEq, iaQ_tl hj, ha, hj, ne_both e, wrap_succ (show j < 9223372036854775807 by omega)]))
      exact qR_n rfl rfl (by rw [hI, place_miss ha e])
  · intro hI
    (repeat' (first | refine wSeq rfl ?_ | refine wBlock rfl ?_ | refine wSkip rfl ?_ | refine wExit rfl ?_ | refine wRet rfl ?_ | refine wCondT rfl rfl ?_ | refine wCondF rfl rfl ?_ | refine wOps rfl ?_ | refine wDraw rfl rfl ?_ | simp only [seval, push_cast, ↓reduceIte, ↓bP_some, ↓aP_true, reduceCtorEq]))
    rw [hI, place_end (by omega)]
    exact FnQ.ret rfl rfl
theorem rfine_v (k cands : Int) (s : Nat) (l : List Int) (c : Option Nat) (hs : s = 1 ∨ l = []) (hl : l.length < 4611686018427387904) : VFn L 24 [(.agg [.int .u8 k, tl mrow s (l) c]), .int .i64 cands] (.bool (fineL k l cands)) := by
  refine VFn.start (F := T24.1) (by rw [hL]; rfl) rfl rfl rfl ?_
  by_cases h3 : k = 3
  · subst h3
    (repeat' (first | refine wSeq rfl ?_ | refine wBlock rfl ?_ | refine wSkip rfl ?_ | refine wExit rfl ?_ | refine wRet rfl ?_ | refine wCondT rfl rfl ?_ | refine wCondF rfl rfl ?_ | refine wOps rfl ?_ | refine wDraw rfl rfl ?_ | simp only [seval, push_cast, ↓reduceIte, ↓bP_some, ↓aP_true, reduceCtorEq]))
    refine wCnt rfl 6 l.length (fun _ => []) (fun j => Fine3 l j) rfl (fine3_zero l) ?_ ?_
    · intro j hj hI
      obtain ⟨x, hx, _⟩ := get_of hj
      obtain rfl := size_of hs hj
      by_cases q1 : x < 0
      · (repeat' (first | refine wSeq rfl ?_ | refine wBlock rfl ?_ | refine wSkip rfl ?_ | refine wExit rfl ?_ | refine wRet rfl ?_ | refine wCondT rfl rfl ?_ | refine wCondF rfl rfl ?_ | refine wOps rfl ?_ | refine wDraw rfl rfl ?_ | simp only [seval, push_cast, ↓reduceIte, ↓bP_some, ↓aP_true, reduceCtorEq, iaQ_tl hj, hx, hj, q1]))
        rw [fine3_out hx (by omega)]
        exact FnQ.ret rfl rfl
      by_cases q2 : 10 < x
      · (repeat' (first | refine wSeq rfl ?_ | refine wBlock rfl ?_ | refine wSkip rfl ?_ | refine wExit rfl ?_ | refine wRet rfl ?_ | refine wCondT rfl rfl ?_ | refine wCondF rfl rfl ?_ | refine wOps rfl ?_ | refine wDraw rfl rfl ?_ | simp only [seval, push_cast, ↓reduceIte, ↓bP_some, ↓aP_true, reduceCtorEq, iaQ_tl hj, hx, hj, q1, q2]))
        rw [fine3_out hx (by omega)]
        exact FnQ.ret rfl rfl
      · (repeat' (first | refine wSeq rfl ?_ | refine wBlock rfl ?_ | refine wSkip rfl ?_ | refine wExit rfl ?_ | refine wRet rfl ?_ | refine wCondT rfl rfl ?_ | refine wCondF rfl rfl ?_ | refine wOps rfl ?_ | refine wDraw rfl rfl ?_ | simp only [seval, push_cast, ↓reduceIte, ↓bP_some, ↓aP_true, reduceCtorEq, iaQ_tl hj, hx, hj, q1, q2, wrap_succ (show j < 9223372036854775807 by omega)]))
        exact qR_n rfl rfl (fine3_step hI hx (by omega) (by omega))
    · intro hI
      (repeat' (first | refine wSeq rfl ?_ | refine wBlock rfl ?_ | refine wSkip rfl ?_ | refine wExit rfl ?_ | refine wRet rfl ?_ | refine wCondT rfl rfl ?_ | refine wCondF rfl rfl ?_ | refine wOps rfl ?_ | refine wDraw rfl rfl ?_ | simp only [seval, push_cast, ↓reduceIte, ↓bP_some, ↓aP_true, reduceCtorEq]))
      rw [fine3_ok hI (by omega)]
      exact FnQ.ret rfl rfl
  · by_cases h1 : k = 1
    · subst h1
      (repeat' (first | refine wSeq rfl ?_ | refine wBlock rfl ?_ | refine wSkip rfl ?_ | refine wExit rfl ?_ | refine wRet rfl ?_ | refine wCondT rfl rfl ?_ | refine wCondF rfl rfl ?_ | refine wOps rfl ?_ | refine wDraw rfl rfl ?_ | simp only [seval, push_cast, ↓reduceIte, ↓bP_some, ↓aP_true, reduceCtorEq]))
      refine wCnt rfl 7 l.length (fun _ => []) (fun j => Fine1 l cands j) rfl (fine1_zero l cands) ?_ ?_
      · intro j hj hI
        obtain ⟨x, hx, _⟩ := get_of hj
        obtain rfl := size_of hs hj
        by_cases q1 : x < 0
        · (repeat' (first | refine wSeq rfl ?_ | refine wBlock rfl ?_ | refine wSkip rfl ?_ | refine wExit rfl ?_ | refine wRet rfl ?_ | refine wCondT rfl rfl ?_ | refine wCondF rfl rfl ?_ | refine wOps rfl ?_ | refine wDraw rfl rfl ?_ | simp only [seval, push_cast, ↓reduceIte, ↓bP_some, ↓aP_true, reduceCtorEq, iaQ_tl hj, hx, hj, q1]))
          rw [fine1_out hx (by omega)]
          exact FnQ.ret rfl rfl
        by_cases q2 : cands ≤ x
        · (repeat' (first | refine wSeq rfl ?_ | refine wBlock rfl ?_ | refine wSkip rfl ?_ | refine wExit rfl ?_ | refine wRet rfl ?_ | refine wCondT rfl rfl ?_ | refine wCondF rfl rfl ?_ | refine wOps rfl ?_ | refine wDraw rfl rfl ?_ | simp only [seval, push_cast, ↓reduceIte, ↓bP_some, ↓aP_true, reduceCtorEq, iaQ_tl hj, hx, hj, q1, q2]))
          rw [fine1_out hx (by omega)]
          exact FnQ.ret rfl rfl
        have hlj : (l.take j).length < 4611686018427387904 := by rw [List.length_take]; omega
        by_cases q3 : 0 ≤ placeL (l.take j) x
        · by_cases q4 : 0 < j
          all_goals
            (repeat' (first | refine wSeq rfl ?_ | refine wBlock rfl ?_ | refine wSkip rfl ?_ | refine wExit rfl ?_ | refine wRet rfl ?_ | refine wCondT rfl rfl ?_ | refine wCondF rfl rfl ?_ | refine wOps rfl ?_ | refine wDraw rfl rfl ?_ | refine opsV_call rfl rfl (rplace_v hL 1 _ _ _ (.inl rfl) hlj) ?_ | simp only [seval, push_cast, ↓reduceIte, ↓bP_some, ↓aP_true, reduceCtorEq, iaQ_tl hj, hx, hj, q1, q2, q3, q4, Int.natCast_pos, sliceV_hi one_ok (Nat.le_of_lt hj)]))
            rw [fine1_dup hx q3]
            exact FnQ.ret rfl rfl
        · by_cases q4 : 0 < j
          all_goals
            (repeat' (first | refine wSeq rfl ?_ | refine wBlock rfl ?_ | refine wSkip rfl ?_ | refine wExit rfl ?_ | refine wRet rfl ?_ | refine wCondT rfl rfl ?_ | refine wCondF rfl rfl ?_ | refine wOps rfl ?_ | refine wDraw rfl rfl ?_ | refine opsV_call rfl rfl (rplace_v hL 1 _ _ _ (.inl rfl) hlj) ?_ | simp only [seval, push_cast, ↓reduceIte, ↓bP_some, ↓aP_true, reduceCtorEq, iaQ_tl hj, hx, hj, q1, q2, q3, q4, Int.natCast_pos, wrap_succ (show j < 9223372036854775807 by omega), sliceV_hi one_ok (Nat.le_of_lt hj)]))
            exact qR_n rfl rfl (fine1_step hI hx (by omega) (by omega) (by omega))
      · intro hI
        (repeat' (first | refine wSeq rfl ?_ | refine wBlock rfl ?_ | refine wSkip rfl ?_ | refine wExit rfl ?_ | refine wRet rfl ?_ | refine wCondT rfl rfl ?_ | refine wCondF rfl rfl ?_ | refine wOps rfl ?_ | refine wDraw rfl rfl ?_ | simp only [seval, push_cast, ↓reduceIte, ↓bP_some, ↓aP_true, reduceCtorEq]))
        rw [fine1_ok hI (by omega)]
        exact FnQ.ret rfl rfl
    · by_cases h2 : k = 2
      · subst h2
        (repeat' (first | refine wSeq rfl ?_ | refine wBlock rfl ?_ | refine wSkip rfl ?_ | refine wExit rfl ?_ | refine wRet rfl ?_ | refine wCondT rfl rfl ?_ | refine wCondF rfl rfl ?_ | refine wOps rfl ?_ | refine wDraw rfl rfl ?_ | simp only [seval, push_cast, ↓reduceIte, ↓bP_some, ↓aP_true, reduceCtorEq]))
        refine wCnt rfl 7 l.length (fun _ => []) (fun j => Fine2 l cands j) rfl (fine2_zero l cands) ?_ ?_
        · intro j hj hI
          obtain ⟨x, hx, _⟩ := get_of hj
          obtain rfl := size_of hs hj
          by_cases q1 : x < 0
          · (repeat' (first | refine wSeq rfl ?_ | refine wBlock rfl ?_ | refine wSkip rfl ?_ | refine wExit rfl ?_ | refine wRet rfl ?_ | refine wCondT rfl rfl ?_ | refine wCondF rfl rfl ?_ | refine wOps rfl ?_ | refine wDraw rfl rfl ?_ | simp only [seval, push_cast, ↓reduceIte, ↓bP_some, ↓aP_true, reduceCtorEq, iaQ_tl hj, hx, hj, q1]))
            rw [fine2_out hx (by omega)]
            exact FnQ.ret rfl rfl
          by_cases q2 : cands ≤ x
          · (repeat' (first | refine wSeq rfl ?_ | refine wBlock rfl ?_ | refine wSkip rfl ?_ | refine wExit rfl ?_ | refine wRet rfl ?_ | refine wCondT rfl rfl ?_ | refine wCondF rfl rfl ?_ | refine wOps rfl ?_ | refine wDraw rfl rfl ?_ | simp only [seval, push_cast, ↓reduceIte, ↓bP_some, ↓aP_true, reduceCtorEq, iaQ_tl hj, hx, hj, q1, q2]))
            rw [fine2_out hx (by omega)]
            exact FnQ.ret rfl rfl
          have hlj : (l.take j).length < 4611686018427387904 := by rw [List.length_take]; omega
          by_cases q4 : 0 < j
          · obtain ⟨i, rfl⟩ : ∃ i, j = i + 1 := ⟨j - 1, by omega⟩
            have hi : i < l.length := by omega
            obtain ⟨y, hy, _⟩ := get_of hi
            have e1 : IntKind.i64.wrap (i : Int) = i := wrap_nat (by omega)
            have e2 : (0 : Int) < (i : Int) + 1 := by omega
            have e3 : IntKind.i64.wrap ((i : Int) + 1 + 1) = (i : Int) + 1 + 1 := wrap_succ (j := i + 1) (by omega)
            have e4 : (i : Int) + 1 < l.length := by omega
            by_cases q5 : x ≤ y
            · (repeat' (first | refine wSeq rfl ?_ | refine wBlock rfl ?_ | refine wSkip rfl ?_ | refine wExit rfl ?_ | refine wRet rfl ?_ | refine wCondT rfl rfl ?_ | refine wCondF rfl rfl ?_ | refine wOps rfl ?_ | refine wDraw rfl rfl ?_ | simp only [seval, push_cast, ↓reduceIte, ↓bP_some, ↓aP_true, reduceCtorEq, iaQ_tl hj, iaQ_tl hi, hx, hy, hj, q1, q2, q5, e1, e2, e4]))
              rw [fine2_low hy hx q5]
              exact FnQ.ret rfl rfl
            · have hab := fine2_above (x := x) hI hy (by omega)
              have hno := fine2_none (x := x) hab
              have q3 : ¬ 0 ≤ placeL (l.take (i + 1)) x := by omega
              (repeat' (first | refine wSeq rfl ?_ | refine wBlock rfl ?_ | refine wSkip rfl ?_ | refine wExit rfl ?_ | refine wRet rfl ?_ | refine wCondT rfl rfl ?_ | refine wCondF rfl rfl ?_ | refine wOps rfl ?_ | refine wDraw rfl rfl ?_ | refine opsV_call rfl rfl (rplace_v hL 1 _ _ _ (.inl rfl) hlj) ?_ | simp only [seval, push_cast, ↓reduceIte, ↓bP_some, ↓aP_true, reduceCtorEq, iaQ_tl hj, iaQ_tl hi, hx, hy, hj, q1, q2, q3, q5, e1, e2, e3, e4, sliceV_hi one_ok (Nat.le_of_lt hj)]))
              exact qR_n rfl rfl (fine2_step hI hx (by omega) (by omega) hab)
          · obtain rfl : j = 0 := by omega
            have q3 : ¬ 0 ≤ placeL (l.take 0) x := by simp [placeL]
            have e2 : (0 : Int) < l.length := by omega
            (repeat' (first | refine wSeq rfl ?_ | refine wBlock rfl ?_ | refine wSkip rfl ?_ | refine wExit rfl ?_ | refine wRet rfl ?_ | refine wCondT rfl rfl ?_ | refine wCondF rfl rfl ?_ | refine wOps rfl ?_ | refine wDraw rfl rfl ?_ | refine opsV_call rfl rfl (rplace_v hL 1 _ _ _ (.inl rfl) hlj) ?_ | simp only [seval, push_cast, ↓reduceIte, ↓bP_some, ↓aP_true, reduceCtorEq, iaQ_tl hj, hx, hj, q1, q2, q3, e2, sliceV_hi one_ok (Nat.le_of_lt hj)]))
            exact qR_n rfl rfl (fine2_step hI hx (by omega) (by omega) (by simp))
        · intro hI
          (repeat' (first | refine wSeq rfl ?_ | refine wBlock rfl ?_ | refine wSkip rfl ?_ | refine wExit rfl ?_ | refine wRet rfl ?_ | refine wCondT rfl rfl ?_ | refine wCondF rfl rfl ?_ | refine wOps rfl ?_ | refine wDraw rfl rfl ?_ | simp only [seval, push_cast, ↓reduceIte, ↓bP_some, ↓aP_true, reduceCtorEq]))
          rw [fine2_ok hI (by omega)]
          exact FnQ.ret rfl rfl
      · (repeat' (first | refine wSeq rfl ?_ | refine wBlock rfl ?_ | refine wSkip rfl ?_ | refine wExit rfl ?_ | refine wRet rfl ?_ | refine wCondT rfl rfl ?_ | refine wCondF rfl rfl ?_ | refine wOps rfl ?_ | refine wDraw rfl rfl ?_ | simp only [seval, push_cast, ↓reduceIte, ↓bP_some, ↓aP_true, reduceCtorEq, h1, h2, h3]))
        rw [fine_else h1 h2 h3]
        exact FnQ.ret rfl rfl
theorem rcheck_v (k cands : Int) (s : Nat) (l : List Int) (c : Option Nat) (hs : s = 1 ∨ l = []) (hl : l.length < 4611686018427387904) : VFn L 12 [(.agg [.int .u8 k, tl mrow s (l) c]), .int .i64 cands] (.int .i64 (checkL k l cands)) := by
  refine VFn.start (F := T12.1) (by rw [hL]; rfl) rfl rfl rfl ?_
  by_cases ha : cands < 1
  · (repeat' (first | refine wSeq rfl ?_ | refine wBlock rfl ?_ | refine wSkip rfl ?_ | refine wExit rfl ?_ | refine wRet rfl ?_ | refine wCondT rfl rfl ?_ | refine wCondF rfl rfl ?_ | refine wOps rfl ?_ | refine wDraw rfl rfl ?_ | simp only [seval, push_cast, ↓reduceIte, ↓bP_some, ↓aP_true, reduceCtorEq, ha]))
    rw [show checkL k l cands = 2 by unfold checkL; rw [if_pos (.inl ha)]]
    exact FnQ.ret rfl rfl
  by_cases hb : 10 < cands
  · (repeat' (first | refine wSeq rfl ?_ | refine wBlock rfl ?_ | refine wSkip rfl ?_ | refine wExit rfl ?_ | refine wRet rfl ?_ | refine wCondT rfl rfl ?_ | refine wCondF rfl rfl ?_ | refine wOps rfl ?_ | refine wDraw rfl rfl ?_ | simp only [seval, push_cast, ↓reduceIte, ↓bP_some, ↓aP_true, reduceCtorEq, ha, hb]))
    rw [show checkL k l cands = 2 by unfold checkL; rw [if_pos (.inr hb)]]
    exact FnQ.ret rfl rfl
  cases hf : fineL k l cands with
  | false =>
    (repeat' (first | refine wSeq rfl ?_ | refine wBlock rfl ?_ | refine wSkip rfl ?_ | refine wExit rfl ?_ | refine wRet rfl ?_ | refine wCondT rfl rfl ?_ | refine wCondF rfl rfl ?_ | refine wOps rfl ?_ | refine wDraw rfl rfl ?_ | refine opsV_call rfl rfl (rfine_v hL _ _ _ _ _ hs hl) ?_ | simp only [seval, push_cast, ↓reduceIte, ↓bP_some, ↓aP_true, reduceCtorEq, ha, hb, hf]))
    rw [show checkL k l cands = 8 by unfold checkL; rw [if_neg (by omega), if_pos hf]]
    exact FnQ.ret rfl rfl
  | true =>
    (repeat' (first | refine wSeq rfl ?_ | refine wBlock rfl ?_ | refine wSkip rfl ?_ | refine wExit rfl ?_ | refine wRet rfl ?_ | refine wCondT rfl rfl ?_ | refine wCondF rfl rfl ?_ | refine wOps rfl ?_ | refine wDraw rfl rfl ?_ | refine opsV_call rfl rfl (rfine_v hL _ _ _ _ _ hs hl) ?_ | simp only [seval, push_cast, ↓reduceIte, ↓bP_some, ↓aP_true, reduceCtorEq, ha, hb, hf]))
    rw [show checkL k l cands = 0 by unfold checkL; rw [if_neg (by omega), if_neg (by rw [hf]; simp)]]
    exact FnQ.ret rfl rfl
end Go.Proofs.YtncdaicaljpgfaaGreat
set_option maxRecDepth 100000
set_option maxHeartbeats 4000000
set_option linter.unusedVariables false
set_option linter.unusedSimpArgs false
namespace Go.Proofs.YtncdaicaljpgfaaGreat
def kindM (r : Int) : Int := if r = 1 ∨ r = 2 then 2 else if r = 3 then 3 else if r = 4 then 1 else 0
def mostL (r cands : Int) : Int := if r = 3 then 10 else if r = 4 then cands - 1 else 1
def pointsL (r cands : Int) (l : List Int) (x : Int) : Int :=
  if r = 1 then (if placeL l x = 0 ∧ l.length ≤ 1 then 1 else 0) else if r = 2 then (if 0 ≤ placeL l x then 1 else 0) else if r = 3 then l.getD x.toNat 0 else if placeL l x < 0 then 0 else cands - 1 - placeL l x
def gainL (r cands : Int) (l : List Int) (w x : Int) : Int := mostL r cands - pointsL r cands l x + pointsL r cands l w
def badG (r cands w x : Int) (l : List Int) : Prop := (r < 1 ∨ 4 < r) ∨ cands < 2 ∨ w < 0 ∨ cands ≤ w ∨ x < 0 ∨ cands ≤ x ∨ w = x ∨ checkL (kindM r) l cands ≠ 0
instance (r cands w x : Int) (l : List Int) : Decidable (badG r cands w x l) := by unfold badG; infer_instance
def gainV (r cands : Int) (l : List Int) (w x : Int) : V := if badG r cands w x l then .tup [.int .i64 0, .int .i64 2] else .tup [.int .i64 (gainL r cands l w x), .int .i64 0]
theorem kind_1 : kindM 1 = 2 := rfl
theorem kind_2 : kindM 2 = 2 := rfl
theorem kind_3 : kindM 3 = 3 := rfl
theorem kind_4 : kindM 4 = 1 := rfl
/-- What a valid ballot and its candidates are. -/
structure GainOk (r cands : Int) (l : List Int) (x : Int) : Prop where
  hr : 1 ≤ r ∧ r ≤ 4
  hc : 2 ≤ cands ∧ cands ≤ 10
  hl : l.length ≤ 100
  hx : 0 ≤ x ∧ x < cands
  hs : r = 3 → (l.length : Int) = cands ∧ ∀ y ∈ l, 0 ≤ y ∧ y ≤ 10
theorem gain_ok {r cands w x : Int} {l : List Int} (h : ¬ badG r cands w x l) (hl : l.length ≤ 100) : GainOk r cands l x ∧ GainOk r cands l w := by
  unfold badG at h
  have hc : checkL (kindM r) l cands = 0 := Decidable.byContradiction fun e => h (.inr (.inr (.inr (.inr (.inr (.inr (.inr e)))))))
  have hc' := hc
  unfold checkL at hc
  split at hc
  · cases hc
  · rename_i h1
    split at hc
    · cases hc
    · rename_i h2
      have hf : fineL (kindM r) l cands = true := by simpa using h2
      have sc : r = 3 → (l.length : Int) = cands ∧ ∀ y ∈ l, 0 ≤ y ∧ y ≤ 10 := fun e => by
        subst e
        rw [kind_3] at hf
        unfold fineL at hf
        rw [if_pos rfl, Bool.and_eq_true, List.all_eq_true, decide_eq_true_eq] at hf
        refine ⟨hf.2, fun y hy => ?_⟩
        have := hf.1 y hy
        simp [inB] at this
        omega
      exact ⟨⟨by omega, by omega, hl, by omega, sc⟩, ⟨by omega, by omega, hl, by omega, sc⟩⟩
theorem points_range {r cands x : Int} {l : List Int} (h : GainOk r cands l x) : 0 ≤ pointsL r cands l x + 100 ∧ pointsL r cands l x ≤ 10 := by
  unfold pointsL
  have h1 := place_ge l x
  have h2 := place_lt l x
  have h3 := h.hc
  have h4 := h.hl
  split
  · split <;> omega
  · split
    · split <;> omega
    · split
      · rename_i e
        obtain ⟨q1, q2⟩ := h.hs e
        have hx := h.hx
        have : x.toNat < l.length := by omega
        rw [List.getD_eq_getElem?_getD, List.getElem?_eq_getElem this, Option.getD_some]
        have := q2 _ (List.getElem_mem this)
        omega
      · split <;> omega
theorem place_one (l : List Int) (x : Int) : placeL l x = 0 ↔ l.head? = some x := by
  cases l with
  | nil => simp [placeL]
  | cons a r =>
    unfold placeL
    by_cases e : a = x
    · simp [e]
    · have := place_ge r x
      rw [if_neg e]
      constructor
      · intro h; split at h <;> omega
      · intro h; exact absurd (by simpa using h) e
variable {L : Lib} (hL : L.T = tab.get)
include hL
theorem kinds_v (r : Int) : VFn L 16 [.int .u8 r] (.int .u8 (kindM r)) := by
  refine VFn.start (F := T16.1) (by rw [hL]; rfl) rfl rfl rfl ?_
  by_cases h1 : r = 1
  · subst h1; (repeat' (first | refine wSeq rfl ?_ | refine wBlock rfl ?_ | refine wSkip rfl ?_ | refine wExit rfl ?_ | refine wRet rfl ?_ | refine wCondT rfl rfl ?_ | refine wCondF rfl rfl ?_ | refine wOps rfl ?_ | refine wDraw rfl rfl ?_ | simp only [seval, push_cast, ↓reduceIte, ↓bP_some, ↓aP_true, reduceCtorEq])); exact FnQ.ret rfl rfl
  by_cases h2 : r = 2
  · subst h2; (repeat' (first | refine wSeq rfl ?_ | refine wBlock rfl ?_ | refine wSkip rfl ?_ | refine wExit rfl ?_ | refine wRet rfl ?_ | refine wCondT rfl rfl ?_ | refine wCondF rfl rfl ?_ | refine wOps rfl ?_ | refine wDraw rfl rfl ?_ | simp only [seval, push_cast, ↓reduceIte, ↓bP_some, ↓aP_true, reduceCtorEq, h1])); exact FnQ.ret rfl rfl
  by_cases h3 : r = 3
  · subst h3; (repeat' (first | refine wSeq rfl ?_ | refine wBlock rfl ?_ | refine wSkip rfl ?_ | refine wExit rfl ?_ | refine wRet rfl ?_ | refine wCondT rfl rfl ?_ | refine wCondF rfl rfl ?_ | refine wOps rfl ?_ | refine wDraw rfl rfl ?_ | simp only [seval, push_cast, ↓reduceIte, ↓bP_some, ↓aP_true, reduceCtorEq, h1, h2])); exact FnQ.ret rfl rfl
  by_cases h4 : r = 4
  · subst h4; (repeat' (first | refine wSeq rfl ?_ | refine wBlock rfl ?_ | refine wSkip rfl ?_ | refine wExit rfl ?_ | refine wRet rfl ?_ | refine wCondT rfl rfl ?_ | refine wCondF rfl rfl ?_ | refine wOps rfl ?_ | refine wDraw rfl rfl ?_ | simp only [seval, push_cast, ↓reduceIte, ↓bP_some, ↓aP_true, reduceCtorEq, h1, h2, h3])); exact FnQ.ret rfl rfl
  (repeat' (first | refine wSeq rfl ?_ | refine wBlock rfl ?_ | refine wSkip rfl ?_ | refine wExit rfl ?_ | refine wRet rfl ?_ | refine wCondT rfl rfl ?_ | refine wCondF rfl rfl ?_ | refine wOps rfl ?_ | refine wDraw rfl rfl ?_ | simp only [seval, push_cast, ↓reduceIte, ↓bP_some, ↓aP_true, reduceCtorEq, h1, h2, h3, h4]))
  rw [show kindM r = 0 by unfold kindM; rw [if_neg (by omega), if_neg h3, if_neg h4]]
  exact FnQ.ret rfl rfl
theorem rkind_v {r : Int} (hr : 1 ≤ r ∧ r ≤ 4) : VFn L 11 [.int .u8 r] (.int .u8 (kindM r)) := by
  refine VFn.start (F := T11.1) (by rw [hL]; rfl) rfl rfl rfl ?_
  have : r = 1 ∨ r = 2 ∨ r = 3 ∨ r = 4 := by omega
  rcases this with rfl | rfl | rfl | rfl
  · (repeat' (first | refine wSeq rfl ?_ | refine wBlock rfl ?_ | refine wSkip rfl ?_ | refine wExit rfl ?_ | refine wRet rfl ?_ | refine wCondT rfl rfl ?_ | refine wCondF rfl rfl ?_ | refine wOps rfl ?_ | refine wDraw rfl rfl ?_ | simp only [seval, push_cast, ↓reduceIte, ↓bP_some, ↓aP_true, reduceCtorEq])); exact FnQ.ret rfl rfl
  · (repeat' (first | refine wSeq rfl ?_ | refine wBlock rfl ?_ | refine wSkip rfl ?_ | refine wExit rfl ?_ | refine wRet rfl ?_ | refine wCondT rfl rfl ?_ | refine wCondF rfl rfl ?_ | refine wOps rfl ?_ | refine wDraw rfl rfl ?_ | simp only [seval, push_cast, ↓reduceIte, ↓bP_some, ↓aP_true, reduceCtorEq])); exact FnQ.ret rfl rfl
  · (repeat' (first | refine wSeq rfl ?_ | refine wBlock rfl ?_ | refine wSkip rfl ?_ | refine wExit rfl ?_ | refine wRet rfl ?_ | refine wCondT rfl rfl ?_ | refine wCondF rfl rfl ?_ | refine wOps rfl ?_ | refine wDraw rfl rfl ?_ | simp only [seval, push_cast, ↓reduceIte, ↓bP_some, ↓aP_true, reduceCtorEq])); exact FnQ.ret rfl rfl
  · (repeat' (first | refine wSeq rfl ?_ | refine wBlock rfl ?_ | refine wSkip rfl ?_ | refine wExit rfl ?_ | refine wRet rfl ?_ | refine wCondT rfl rfl ?_ | refine wCondF rfl rfl ?_ | refine wOps rfl ?_ | refine wDraw rfl rfl ?_ | simp only [seval, push_cast, ↓reduceIte, ↓bP_some, ↓aP_true, reduceCtorEq])); exact FnQ.ret rfl rfl
theorem most_v {r cands : Int} (hc : 2 ≤ cands ∧ cands ≤ 10) : VFn L 40 [.int .u8 r, .int .i64 cands] (.int .i64 (mostL r cands)) := by
  refine VFn.start (F := T40.1) (by rw [hL]; rfl) rfl rfl rfl ?_
  by_cases h3 : r = 3
  · subst h3; (repeat' (first | refine wSeq rfl ?_ | refine wBlock rfl ?_ | refine wSkip rfl ?_ | refine wExit rfl ?_ | refine wRet rfl ?_ | refine wCondT rfl rfl ?_ | refine wCondF rfl rfl ?_ | refine wOps rfl ?_ | refine wDraw rfl rfl ?_ | simp only [seval, push_cast, ↓reduceIte, ↓bP_some, ↓aP_true, reduceCtorEq])); exact FnQ.ret rfl rfl
  by_cases h4 : r = 4
  · subst h4; (repeat' (first | refine wSeq rfl ?_ | refine wBlock rfl ?_ | refine wSkip rfl ?_ | refine wExit rfl ?_ | refine wRet rfl ?_ | refine wCondT rfl rfl ?_ | refine wCondF rfl rfl ?_ | refine wOps rfl ?_ | refine wDraw rfl rfl ?_ | simp only [seval, push_cast, ↓reduceIte, ↓bP_some, ↓aP_true, reduceCtorEq, h3, wrap_i64 (n := cands - 1) (by omega) (by omega)])); exact FnQ.ret rfl rfl
  (repeat' (first | refine wSeq rfl ?_ | refine wBlock rfl ?_ | refine wSkip rfl ?_ | refine wExit rfl ?_ | refine wRet rfl ?_ | refine wCondT rfl rfl ?_ | refine wCondF rfl rfl ?_ | refine wOps rfl ?_ | refine wDraw rfl rfl ?_ | simp only [seval, push_cast, ↓reduceIte, ↓bP_some, ↓aP_true, reduceCtorEq, h3, h4]))
  rw [show mostL r cands = 1 by unfold mostL; rw [if_neg h3, if_neg h4]]
  exact FnQ.ret rfl rfl
theorem points_v {r cands x : Int} {s : Nat} {l : List Int} {c : Option Nat} (hs : s = 1 ∨ l = []) (h : GainOk r cands l x) : VFn L 41 [.int .u8 r, .int .i64 cands, tl mrow s l c, .int .i64 x] (.int .i64 (pointsL r cands l x)) := by
  refine VFn.start (F := T41.1) (by rw [hL]; rfl) rfl rfl rfl ?_
  have ki := index_v hL s l c x hs (by have := h.hl; omega)
  have p1 := place_ge l x
  have p2 := place_lt l x
  have hc := h.hc
  have hx := h.hx
  have hlen := h.hl
  have : r = 1 ∨ r = 2 ∨ r = 3 ∨ r = 4 := by have := h.hr; omega
  rcases this with rfl | rfl | rfl | rfl
  · by_cases e : placeL l x = 0
    · by_cases e2 : (1 : Int) < l.length
      · (repeat' (first | refine wSeq rfl ?_ | refine wBlock rfl ?_ | refine wSkip rfl ?_ | refine wExit rfl ?_ | refine wRet rfl ?_ | refine wCondT rfl rfl ?_ | refine wCondF rfl rfl ?_ | refine wOps rfl ?_ | refine wDraw rfl rfl ?_ | refine opsV_call rfl rfl (ki) ?_ | simp only [seval, push_cast, ↓reduceIte, ↓bP_some, ↓aP_true, reduceCtorEq, e, e2]))
        rw [show pointsL 1 cands l x = 0 by unfold pointsL; rw [if_pos rfl, if_neg (by omega)]]
        exact FnQ.ret rfl rfl
      · (repeat' (first | refine wSeq rfl ?_ | refine wBlock rfl ?_ | refine wSkip rfl ?_ | refine wExit rfl ?_ | refine wRet rfl ?_ | refine wCondT rfl rfl ?_ | refine wCondF rfl rfl ?_ | refine wOps rfl ?_ | refine wDraw rfl rfl ?_ | refine opsV_call rfl rfl (ki) ?_ | simp only [seval, push_cast, ↓reduceIte, ↓bP_some, ↓aP_true, reduceCtorEq, e, e2]))
        rw [show pointsL 1 cands l x = 1 by unfold pointsL; rw [if_pos rfl, if_pos (by omega)]]
        exact FnQ.ret rfl rfl
    · (repeat' (first | refine wSeq rfl ?_ | refine wBlock rfl ?_ | refine wSkip rfl ?_ | refine wExit rfl ?_ | refine wRet rfl ?_ | refine wCondT rfl rfl ?_ | refine wCondF rfl rfl ?_ | refine wOps rfl ?_ | refine wDraw rfl rfl ?_ | refine opsV_call rfl rfl (ki) ?_ | simp only [seval, push_cast, ↓reduceIte, ↓bP_some, ↓aP_true, reduceCtorEq, e]))
      rw [show pointsL 1 cands l x = 0 by unfold pointsL; rw [if_pos rfl, if_neg (by omega)]]
      exact FnQ.ret rfl rfl
  · by_cases e : 0 ≤ placeL l x
    · (repeat' (first | refine wSeq rfl ?_ | refine wBlock rfl ?_ | refine wSkip rfl ?_ | refine wExit rfl ?_ | refine wRet rfl ?_ | refine wCondT rfl rfl ?_ | refine wCondF rfl rfl ?_ | refine wOps rfl ?_ | refine wDraw rfl rfl ?_ | refine opsV_call rfl rfl (ki) ?_ | simp only [seval, push_cast, ↓reduceIte, ↓bP_some, ↓aP_true, reduceCtorEq, wrap_i64 (n := placeL l x + 1) (by omega) (by omega)]))
      rw [show pointsL 2 cands l x = (if 1 < placeL l x + 1 then 1 else placeL l x + 1) by unfold pointsL; rw [if_neg (by decide), if_pos rfl, if_pos e]; split <;> omega]
      exact FnQ.ret rfl rfl
    · (repeat' (first | refine wSeq rfl ?_ | refine wBlock rfl ?_ | refine wSkip rfl ?_ | refine wExit rfl ?_ | refine wRet rfl ?_ | refine wCondT rfl rfl ?_ | refine wCondF rfl rfl ?_ | refine wOps rfl ?_ | refine wDraw rfl rfl ?_ | refine opsV_call rfl rfl (ki) ?_ | simp only [seval, push_cast, ↓reduceIte, ↓bP_some, ↓aP_true, reduceCtorEq, wrap_i64 (n := placeL l x + 1) (by omega) (by omega)]))
      rw [show pointsL 2 cands l x = (if 1 < placeL l x + 1 then 1 else placeL l x + 1) by unfold pointsL; rw [if_neg (by decide), if_pos rfl, if_neg e]; split <;> omega]
      exact FnQ.ret rfl rfl
  · obtain ⟨q1, q2⟩ := h.hs rfl
    obtain ⟨n, rfl⟩ : ∃ n : Nat, x = n := ⟨x.toNat, by omega⟩
    have hn : n < l.length := by omega
    obtain rfl := size_of hs hn
    obtain ⟨y, hy, _⟩ := get_of hn
    (repeat' (first | refine wSeq rfl ?_ | refine wBlock rfl ?_ | refine wSkip rfl ?_ | refine wExit rfl ?_ | refine wRet rfl ?_ | refine wCondT rfl rfl ?_ | refine wCondF rfl rfl ?_ | refine wOps rfl ?_ | refine wDraw rfl rfl ?_ | refine opsV_call rfl rfl (ki) ?_ | simp only [seval, push_cast, ↓reduceIte, ↓bP_some, ↓aP_true, reduceCtorEq, iaQ_tl hn, hy]))
    rw [show pointsL 3 cands l (n : Int) = y by unfold pointsL; rw [if_neg (by decide), if_neg (by decide), if_pos rfl, Int.toNat_natCast, List.getD_eq_getElem?_getD, hy]; rfl]
    exact FnQ.ret rfl rfl
  · by_cases e : placeL l x < 0
    · (repeat' (first | refine wSeq rfl ?_ | refine wBlock rfl ?_ | refine wSkip rfl ?_ | refine wExit rfl ?_ | refine wRet rfl ?_ | refine wCondT rfl rfl ?_ | refine wCondF rfl rfl ?_ | refine wOps rfl ?_ | refine wDraw rfl rfl ?_ | refine opsV_call rfl rfl (ki) ?_ | simp only [seval, push_cast, ↓reduceIte, ↓bP_some, ↓aP_true, reduceCtorEq, e]))
      rw [show pointsL 4 cands l x = 0 by unfold pointsL; rw [if_neg (by decide), if_neg (by decide), if_neg (by decide), if_pos e]]
      exact FnQ.ret rfl rfl
    · (repeat' (first | refine wSeq rfl ?_ | refine wBlock rfl ?_ | refine wSkip rfl ?_ | refine wExit rfl ?_ | refine wRet rfl ?_ | refine wCondT rfl rfl ?_ | refine wCondF rfl rfl ?_ | refine wOps rfl ?_ | refine wDraw rfl rfl ?_ | refine opsV_call rfl rfl (ki) ?_ | simp only [seval, push_cast, ↓reduceIte, ↓bP_some, ↓aP_true, reduceCtorEq, e, wrap_i64 (n := cands - 1) (by omega) (by omega), wrap_i64 (n := cands - 1 - placeL l x) (by omega) (by omega)]))
      rw [show pointsL 4 cands l x = cands - 1 - placeL l x by unfold pointsL; rw [if_neg (by decide), if_neg (by decide), if_neg (by decide), if_neg e]]
      exact FnQ.ret rfl rfl
theorem gain_v {r cands w x : Int} {s : Nat} {l : List Int} {c : Option Nat} (hs : s = 1 ∨ l = []) (hw : GainOk r cands l w) (hx : GainOk r cands l x) : VFn L 18 [.int .u8 r, .int .i64 cands, tl mrow s l c, .int .i64 w, .int .i64 x] (.int .i64 (gainL r cands l w x)) := by
  refine VFn.start (F := T18.1) (by rw [hL]; rfl) rfl rfl rfl ?_
  have k1 := points_v hL (c := c) hs hw
  have k2 := points_v hL (c := c) hs hx
  have r1 := points_range hw
  have r2 := points_range hx
  have hc := hw.hc
  have hm : 1 ≤ mostL r cands ∧ mostL r cands ≤ 10 := by unfold mostL; split <;> (try split) <;> omega
  (repeat' (first | refine wSeq rfl ?_ | refine wBlock rfl ?_ | refine wSkip rfl ?_ | refine wExit rfl ?_ | refine wRet rfl ?_ | refine wCondT rfl rfl ?_ | refine wCondF rfl rfl ?_ | refine wOps rfl ?_ | refine wDraw rfl rfl ?_ | refine opsV_call rfl rfl (k1) ?_ | refine opsV_call rfl rfl (k2) ?_ | refine opsV_call rfl rfl (most_v hL hc) ?_ | simp only [seval, push_cast, ↓reduceIte, ↓bP_some, ↓aP_true, reduceCtorEq, wrap_i64 (n := mostL r cands - pointsL r cands l x) (by omega) (by omega), wrap_i64 (n := mostL r cands - pointsL r cands l x + pointsL r cands l w) (by omega) (by omega)]))
  exact FnQ.ret rfl rfl
theorem Gain_v (r cands w x : Int) {s : Nat} {l : List Int} {c : Option Nat} (hs : s = 1 ∨ l = []) (hl : l.length ≤ 100) : VFn L 7 [.int .u8 r, .int .i64 cands, tl mrow s l c, .int .i64 w, .int .i64 x] (gainV r cands l w x) := by
  refine VFn.start (F := T7.1) (by rw [hL]; rfl) rfl rfl (by unfold gainV; split <;> rfl) ?_
  have kk := kinds_v hL r
  have kc := check_v hL (kindM r) cands s l c hs (by omega)
  have bad : badG r cands w x l → gainV r cands l w x = .tup [.int .i64 0, .int .i64 2] := fun h => if_pos h
  by_cases e1 : r < 1 ∨ 4 < r
  · have : kindM r = 0 := by unfold kindM; rw [if_neg (by omega), if_neg (by omega), if_neg (by omega)]
    rw [this] at kk
    (repeat' (first | refine wSeq rfl ?_ | refine wBlock rfl ?_ | refine wSkip rfl ?_ | refine wExit rfl ?_ | refine wRet rfl ?_ | refine wCondT rfl rfl ?_ | refine wCondF rfl rfl ?_ | refine wOps rfl ?_ | refine wDraw rfl rfl ?_ | refine opsV_call rfl rfl (kk) ?_ | simp only [seval, push_cast, ↓reduceIte, ↓bP_some, ↓aP_true, reduceCtorEq]))
    rw [bad (.inl e1)]
    exact FnQ.ret rfl rfl
  have h0 : ¬ kindM r = 0 := by
    have : r = 1 ∨ r = 2 ∨ r = 3 ∨ r = 4 := by omega
    rcases this with rfl | rfl | rfl | rfl <;> decide
  generalize hk : kindM r = k at *
  by_cases e2 : cands < 2
  · (repeat' (first | refine wSeq rfl ?_ | refine wBlock rfl ?_ | refine wSkip rfl ?_ | refine wExit rfl ?_ | refine wRet rfl ?_ | refine wCondT rfl rfl ?_ | refine wCondF rfl rfl ?_ | refine wOps rfl ?_ | refine wDraw rfl rfl ?_ | refine opsV_call rfl rfl (kk) ?_ | simp only [seval, push_cast, ↓reduceIte, ↓bP_some, ↓aP_true, reduceCtorEq, h0, e2]))
    rw [bad (.inr (.inl e2))]
    exact FnQ.ret rfl rfl
  by_cases e3 : (if x < w then x else w) < 0
  · (repeat' (first | refine wSeq rfl ?_ | refine wBlock rfl ?_ | refine wSkip rfl ?_ | refine wExit rfl ?_ | refine wRet rfl ?_ | refine wCondT rfl rfl ?_ | refine wCondF rfl rfl ?_ | refine wOps rfl ?_ | refine wDraw rfl rfl ?_ | refine opsV_call rfl rfl (kk) ?_ | simp only [seval, push_cast, ↓reduceIte, ↓bP_some, ↓aP_true, reduceCtorEq, h0, e2, e3]))
    rw [bad (by unfold badG; split at e3 <;> omega)]
    exact FnQ.ret rfl rfl
  by_cases e4 : cands ≤ (if w < x then x else w)
  · (repeat' (first | refine wSeq rfl ?_ | refine wBlock rfl ?_ | refine wSkip rfl ?_ | refine wExit rfl ?_ | refine wRet rfl ?_ | refine wCondT rfl rfl ?_ | refine wCondF rfl rfl ?_ | refine wOps rfl ?_ | refine wDraw rfl rfl ?_ | refine opsV_call rfl rfl (kk) ?_ | simp only [seval, push_cast, ↓reduceIte, ↓bP_some, ↓aP_true, reduceCtorEq, h0, e2, e3, e4]))
    rw [bad (by unfold badG; split at e4 <;> omega)]
    exact FnQ.ret rfl rfl
  by_cases e5 : w = x
  · subst e5
    have i : ¬ w < w := by omega
    rw [if_neg i] at e3 e4
    (repeat' (first | refine wSeq rfl ?_ | refine wBlock rfl ?_ | refine wSkip rfl ?_ | refine wExit rfl ?_ | refine wRet rfl ?_ | refine wCondT rfl rfl ?_ | refine wCondF rfl rfl ?_ | refine wOps rfl ?_ | refine wDraw rfl rfl ?_ | refine opsV_call rfl rfl (kk) ?_ | simp only [seval, push_cast, ↓reduceIte, ↓bP_some, ↓aP_true, reduceCtorEq, h0, e2, i, e3, e4]))
    rw [bad (.inr (.inr (.inr (.inr (.inr (.inr (.inl rfl)))))))]
    exact FnQ.ret rfl rfl
  by_cases e6 : checkL k l cands = 0
  · have hb : ¬ badG r cands w x l := by
      unfold badG
      rw [hk]
      split at e3 <;> split at e4 <;> omega
    obtain ⟨gx, gw⟩ := gain_ok hb hl
    have kg := gain_v hL (c := c) hs gw gx
    rw [show gainV r cands l w x = .tup [.int .i64 (gainL r cands l w x), .int .i64 0] from if_neg hb]
    rw [e6] at kc
    (repeat' (first | refine wSeq rfl ?_ | refine wBlock rfl ?_ | refine wSkip rfl ?_ | refine wExit rfl ?_ | refine wRet rfl ?_ | refine wCondT rfl rfl ?_ | refine wCondF rfl rfl ?_ | refine wOps rfl ?_ | refine wDraw rfl rfl ?_ | refine opsV_call rfl rfl (kk) ?_ | refine opsV_call rfl rfl (kc) ?_ | refine opsV_call rfl rfl (kg) ?_ | simp only [seval, push_cast, ↓reduceIte, ↓bP_some, ↓aP_true, reduceCtorEq, h0, e2, e3, e4, e5]))
    exact FnQ.ret rfl rfl
  · (repeat' (first | refine wSeq rfl ?_ | refine wBlock rfl ?_ | refine wSkip rfl ?_ | refine wExit rfl ?_ | refine wRet rfl ?_ | refine wCondT rfl rfl ?_ | refine wCondF rfl rfl ?_ | refine wOps rfl ?_ | refine wDraw rfl rfl ?_ | refine opsV_call rfl rfl (kk) ?_ | refine opsV_call rfl rfl (kc) ?_ | simp only [seval, push_cast, ↓reduceIte, ↓bP_some, ↓aP_true, reduceCtorEq, h0, e2, e3, e4, e5, e6]))
    rw [bad (by unfold badG; rw [hk]; exact .inr (.inr (.inr (.inr (.inr (.inr (.inr e6)))))))]
    exact FnQ.ret rfl rfl
end Go.Proofs.YtncdaicaljpgfaaGreat
set_option linter.unusedVariables false
set_option linter.unusedSimpArgs false
namespace Go.Proofs.YtncdaicaljpgfaaGreat
theorem nodup_atg {p : List Int} (hd : p.Nodup) {i j : Nat} {x : Int} (hi : p[i]? = some x) (hj : p[j]? = some x) : i = j := by
  obtain ⟨h1, e1⟩ := List.getElem?_eq_some_iff.1 hi
  obtain ⟨h2, e2⟩ := List.getElem?_eq_some_iff.1 hj
  rw [List.nodup_iff_pairwise_ne, List.pairwise_iff_getElem] at hd
  rcases Nat.lt_trichotomy i j with h | h | h
  · exact absurd (e1.trans e2.symm) (hd i j h1 h2 h)
  · exact h
  · exact absurd (e2.trans e1.symm) (hd j i h2 h1 h)
theorem place_nodupg {p : List Int} (hd : p.Nodup) {i : Nat} {x : Int} (hi : p[i]? = some x) : placeL p x = (i : Int) := by
  have hm := List.mem_of_getElem? hi
  have h0 := (place_nonneg p x).2 hm
  have := nodup_atg hd (place_get p x hm) hi
  omega
def entI (p : Int × Int) : V × V := (.int .i64 p.1, .int .i64 p.2)
theorem memN_iff {b : Nat} : ∀ {l : List Nat}, memN b l = true ↔ b ∈ l
  | [] => by simp [memN]
  | x :: r => by
    rw [memN, List.mem_cons]
    cases h : Nat.beq x b with
    | true => simp [(Nat.eq_of_beq_eq_true h).symm]
    | false =>
      have : ¬ b = x := fun e => by rw [e, Nat.beq_refl] at h; cases h
      simp [this, memN_iff (l := r)]
theorem memN_no {b : Nat} {l : List Nat} : memN b l = false ↔ b ∉ l := by
  rw [← memN_iff]; simp
theorem cands_mem {seen : List Nat} : ∀ {bs : List Nat} {es : List (V × V)} {c : Nat × (V × V)}, c ∈ candsN seen bs es → ∃ i : Nat, bs[i]? = some c.1 ∧ es[i]? = some c.2 ∧ c.1 ∉ seen
  | [], _, c, h => by simp [candsN] at h
  | _ :: _, [], c, h => by simp [candsN] at h
  | b :: bs, p :: es, c, h => by
    rw [candsN] at h
    cases hm : memN b seen with
    | true =>
      rw [hm, cond_true] at h
      obtain ⟨i, h1, h2, h3⟩ := cands_mem h
      exact ⟨i + 1, h1, h2, h3⟩
    | false =>
      rw [hm, cond_false, List.mem_cons] at h
      rcases h with rfl | h
      · exact ⟨0, rfl, rfl, memN_no.1 hm⟩
      · obtain ⟨i, h1, h2, h3⟩ := cands_mem h
        exact ⟨i + 1, h1, h2, h3⟩
theorem cands_none {seen : List Nat} : ∀ {bs : List Nat} {es : List (V × V)}, bs.length ≤ es.length → candsN seen bs es = [] → ∀ b ∈ bs, b ∈ seen
  | [], _, _, _ => by simp
  | _ :: _, [], hl, _ => by simp at hl
  | b :: bs, p :: es, hl, h => by
    rw [candsN] at h
    cases hm : memN b seen with
    | true =>
      rw [hm, cond_true] at h
      intro x hx
      rcases List.mem_cons.1 hx with rfl | hx
      · exact memN_iff.1 hm
      · exact cands_none (by simpa using hl) h x hx
    | false => rw [hm, cond_false] at h; cases h
theorem allLt_iff {n : Nat} : ∀ {l : List Nat}, (∀ x ∈ l, x < n) → allLt n l = true
  | [], _ => rfl
  | x :: r, h => by
    rw [allLt, allLt_iff (fun y hy => h y (List.mem_cons_of_mem _ hy)), Bool.and_true]
    exact Nat.ble_eq_true_of_le (h x List.mem_cons_self)
theorem allLt_range {n : Nat} : allLt n (List.range n) = true := allLt_iff fun _ h => List.mem_range.1 h
theorem findK_no {k : Int} : ∀ {m : List (Int × Int)} {i : Nat}, (∀ p ∈ m, p.1 ≠ k) → findK 0 (.int .i64 k) (m.map entI) i = some none
  | [], _, _ => rfl
  | p :: m, i, h => by
    have h1 : (k == p.1) = false := by simp; exact fun e => h p List.mem_cons_self e.symm
    rw [List.map_cons, findK, show sameK 0 (.int .i64 k) (entI p).1 = some (k == p.1) from rfl, h1]
    exact findK_no fun q hq => h q (List.mem_cons_of_mem _ hq)
/-- What has been added up when the stamps of S have come. -/
structure HadI (n : Nat) (M : List (Int × Int)) (s : List Nat × List Int) : Prop where
  len : s.2.length = n
  in_ : ∀ (b : Nat) (p : Int × Int), b ∈ s.1 → M[b]? = some p → s.2[p.1.toNat]? = some p.2
  out : ∀ c : Nat, c < n → (∀ (b : Nat) (p : Int × Int), b ∈ s.1 → M[b]? = some p → p.1 ≠ c) → s.2[c]? = some 0
structure KeyOk (n : Nat) (M : List (Int × Int)) : Prop where
  nd : (M.map (·.1)).Nodup
  rg : ∀ p ∈ M, 0 ≤ p.1 ∧ p.1 < n ∧ 0 ≤ p.2 ∧ p.2 ≤ 10
theorem key_inj {M : List (Int × Int)} (h : (M.map (·.1)).Nodup) {i j : Nat} {p q : Int × Int} (hi : M[i]? = some p) (hj : M[j]? = some q) (e : p.1 = q.1) : i = j := by
  obtain ⟨h1, rfl⟩ := List.getElem?_eq_some_iff.1 hi
  obtain ⟨h2, rfl⟩ := List.getElem?_eq_some_iff.1 hj
  have hp := List.pairwise_iff_getElem.1 h
  refine Decidable.byContradiction fun hne => ?_
  rcases Nat.lt_or_gt_of_ne hne with hlt | hlt
  · exact hp i j (by simpa using h1) (by simpa using h2) hlt (by simpa using e)
  · exact hp j i (by simpa using h2) (by simpa using h1) hlt (by simpa using e.symm)
theorem key_new {M : List (Int × Int)} (h : (M.map (·.1)).Nodup) {j : Nat} {p : Int × Int} (hj : M[j]? = some p) : ∀ q ∈ M.take j, q.1 ≠ p.1 := by
  intro q hq e
  obtain ⟨i, hi⟩ := List.mem_iff_getElem?.1 hq
  have hij : i < j := by
    have := (List.getElem?_eq_some_iff.1 hi).1
    rw [List.length_take] at this; omega
  rw [List.getElem?_take_of_lt hij] at hi
  exact absurd (key_inj h hi hj e) (by omega)
theorem had_start {n : Nat} {M : List (Int × Int)} : HadI n M ([], List.replicate n 0) := ⟨by simp, (fun b p hb _ => by cases hb), (fun c hc _ => by simp [hc])⟩
theorem had_step {n : Nat} {M : List (Int × Int)} {S : List Nat} {d : List Int} {b : Nat} {p : Int × Int} (hM : KeyOk n M) (h : HadI n M (S, d)) (hp : M[b]? = some p) (hb : b ∉ S) : d[p.1.toNat]? = some 0 ∧ HadI n M (S ++ [b], d.set p.1.toNat p.2) := by
  have hr := hM.rg p (List.mem_of_getElem? hp)
  have h0 : ∀ (b' : Nat) (p' : Int × Int), b' ∈ S → M[b']? = some p' → p'.1 ≠ p.1 := fun b' p' hb' hp' e => hb (by rw [← key_inj hM.nd hp' hp e]; exact hb')
  have hz : d[p.1.toNat]? = some 0 := h.out p.1.toNat (by omega) (fun b' p' hb' hp' e => h0 b' p' hb' hp' (by omega))
  have hl := h.len
  simp only at hl
  refine ⟨hz, by simpa using hl, ?_, ?_⟩
  · intro b' p' hb' hp'
    simp only at hb' ⊢
    rw [List.getElem?_set]
    rcases List.mem_append.1 hb' with hb' | hb'
    · have hr' := hM.rg p' (List.mem_of_getElem? hp')
      have := h0 b' p' hb' hp'
      rw [if_neg (by omega)]
      exact h.in_ b' p' hb' hp'
    · obtain rfl : b' = b := by simpa using hb'
      rw [hp] at hp'
      obtain rfl := Option.some.inj hp'
      rw [if_pos rfl, if_pos (by omega)]
  · intro c hc hno
    simp only at hno ⊢
    rw [List.getElem?_set]
    have := hno b p (by simp) hp
    rw [if_neg (by omega)]
    exact h.out c hc (fun b' p' hb' hp' => hno b' p' (List.mem_append_left _ hb') hp')
theorem had_end {n : Nat} {M : List (Int × Int)} {S : List Nat} {d : List Int} {f : Int → Int} (h : HadI n M (S, d)) (hS : ∀ b, b < M.length → b ∈ S) (hf1 : ∀ p ∈ M, f p.1 = p.2) (hf0 : ∀ c : Nat, c < n → (∀ p ∈ M, p.1 ≠ c) → f c = 0) (hr : ∀ p ∈ M, 0 ≤ p.1) : d = (List.range n).map fun c : Nat => f (c : Int) := by
  have hl := h.len
  simp only at hl
  refine List.ext_getElem? fun c => ?_
  by_cases hc : c < n
  · rw [List.getElem?_map, List.getElem?_range hc, Option.map_some]
    by_cases hx : ∃ p ∈ M, p.1 = (c : Int)
    · obtain ⟨p, hp, e⟩ := hx
      obtain ⟨b, hb⟩ := List.mem_iff_getElem?.1 hp
      have := h.in_ b p (hS b (List.getElem?_eq_some_iff.1 hb).1) hb
      simp only at this
      rw [show p.1.toNat = c by omega] at this
      rw [this, ← e, hf1 p hp]
    · have hx : ∀ p ∈ M, p.1 ≠ (c : Int) := fun p hp e => hx ⟨p, hp, e⟩
      rw [hf0 c hc hx]
      exact h.out c hc (fun b p _ hb => hx p (List.mem_of_getElem? hb))
  · rw [List.getElem?_eq_none (by omega), List.getElem?_eq_none (by simp; omega)]
/-- The maps that the rules give. -/
def markM (l : List Int) : List (Int × Int) := l.map fun c => (c, 1)
def scoreM (l : List Int) : List (Int × Int) := l.zipIdx.map fun p => ((p.2 : Int), p.1)
def rankM (cands : Int) (l : List Int) : List (Int × Int) := l.zipIdx.map fun p => (p.1, cands - 1 - (p.2 : Int))
theorem markM_len {l : List Int} : (markM l).length = l.length := by simp [markM]
theorem scoreM_len {l : List Int} : (scoreM l).length = l.length := by simp [scoreM]
theorem rankM_len {c : Int} {l : List Int} : (rankM c l).length = l.length := by simp [rankM]
theorem markM_get {l : List Int} {j : Nat} {x : Int} (h : l[j]? = some x) : (markM l)[j]? = some (x, 1) := by simp [markM, h]
theorem scoreM_get {l : List Int} {j : Nat} {x : Int} (h : l[j]? = some x) : (scoreM l)[j]? = some ((j : Int), x) := by simp [scoreM, h]
theorem rankM_get {c : Int} {l : List Int} {j : Nat} {x : Int} (h : l[j]? = some x) : (rankM c l)[j]? = some (x, c - 1 - (j : Int)) := by simp [rankM, h]
theorem rankM_fst {c : Int} {l : List Int} : (rankM c l).map (·.1) = l := by
  unfold rankM
  rw [List.map_map]
  show l.zipIdx.map Prod.fst = l
  exact List.zipIdx_map_fst 0 l
theorem markM_fst {l : List Int} : (markM l).map (·.1) = l := by
  unfold markM
  rw [List.map_map]
  exact List.map_id _
theorem scoreM_nd {l : List Int} : ((scoreM l).map (·.1)).Nodup := by
  unfold scoreM
  rw [List.map_map]
  rw [show ((fun x : Int × Int => x.1) ∘ fun p : Int × Nat => ((p.2 : Int), p.1)) = (fun n : Nat => (n : Int)) ∘ Prod.snd from rfl, ← List.map_map, List.zipIdx_map_snd]
  exact List.pairwise_map.2 (List.Pairwise.imp (fun h e => h (by omega)) List.nodup_range')
/-- What a valid ballot of the rule's kind is. -/
structure BallOk (r : Int) (n : Nat) (l : List Int) : Prop where
  hr : 1 ≤ r ∧ r ≤ 4
  hn : 2 ≤ n ∧ n ≤ 10
  fine : fineL (kindM r) l n = true
theorem nodup_len {n : Nat} : ∀ {l : List Int}, l.Nodup → (∀ x ∈ l, 0 ≤ x ∧ x < n) → l.length ≤ n := by
  intro l hd hr
  have h1 : (l.map Int.toNat).Nodup := by
    refine (List.pairwise_map.2 (List.Pairwise.imp_of_mem ?_ hd))
    intro a b ha hb hne e
    have := hr a ha
    have := hr b hb
    exact hne (by omega)
  have h2 : ∀ x ∈ l.map Int.toNat, x ∈ List.range n := fun x hx => by
    obtain ⟨a, ha, rfl⟩ := List.mem_map.1 hx
    have := hr a ha
    exact List.mem_range.2 (by omega)
  have h3 := List.Nodup.length_le_of_subset h1 h2
  simpa using h3
theorem BallOk.rank {n : Nat} {l : List Int} {r : Int} (h : BallOk r n l) (h3 : r ≠ 3) : l.Nodup ∧ (∀ x ∈ l, 0 ≤ x ∧ x < n) ∧ l.length ≤ n := by
  have hf := h.fine
  have hr := h.hr
  have : kindM r = 1 ∨ kindM r = 2 := by
    have : r = 1 ∨ r = 2 ∨ r = 4 := by omega
    rcases this with rfl | rfl | rfl
    · exact .inr rfl
    · exact .inr rfl
    · exact .inl rfl
  have key : l.Nodup ∧ ∀ x ∈ l, 0 ≤ x ∧ x < (n : Int) := by
    rcases this with e | e
    · rw [e] at hf
      rw [show fineL 1 l n = (l.all (inB 0 n) && decide l.Nodup) from rfl, Bool.and_eq_true, List.all_eq_true] at hf
      exact ⟨of_decide_eq_true hf.2, fun x hx => of_decide_eq_true (hf.1 x hx)⟩
    · rw [e] at hf
      rw [show fineL 2 l n = (l.all (inB 0 n) && decide (l.Pairwise (· < ·))) from rfl, Bool.and_eq_true, List.all_eq_true] at hf
      exact ⟨List.Pairwise.imp (fun h e => by omega) (of_decide_eq_true hf.2), fun x hx => of_decide_eq_true (hf.1 x hx)⟩
  exact ⟨key.1, key.2, nodup_len key.1 key.2⟩
theorem BallOk.score {n : Nat} {l : List Int} (h : BallOk 3 n l) : l.length = n ∧ ∀ x ∈ l, 0 ≤ x ∧ x ≤ 10 := by
  have hf := h.fine
  rw [show fineL (kindM 3) l n = (l.all (inB 0 11) && decide ((l.length : Int) = n)) from rfl, Bool.and_eq_true, List.all_eq_true, decide_eq_true_eq] at hf
  exact ⟨by omega, fun x hx => by have := of_decide_eq_true (hf.1 x hx); omega⟩
theorem mark_ok {n : Nat} {l : List Int} {r : Int} (h : BallOk r n l) (h3 : r ≠ 3) : KeyOk n (markM l) := by
  obtain ⟨h1, h2, _⟩ := h.rank h3
  refine ⟨by rw [markM_fst]; exact h1, fun p hp => ?_⟩
  obtain ⟨a, ha, rfl⟩ := List.mem_map.1 hp
  have := h2 a ha
  simp only; omega
theorem score_ok {n : Nat} {l : List Int} (h : BallOk 3 n l) : KeyOk n (scoreM l) := by
  obtain ⟨h1, h2⟩ := h.score
  refine ⟨scoreM_nd, fun p hp => ?_⟩
  obtain ⟨i, hi⟩ := List.mem_iff_getElem?.1 hp
  have hil : i < l.length := by rw [← scoreM_len]; exact (List.getElem?_eq_some_iff.1 hi).1
  obtain ⟨x, hx, hm⟩ := get_of hil
  rw [scoreM_get hx] at hi
  obtain rfl := Option.some.inj hi
  have := h2 x hm
  simp only; omega
theorem rank_ok {n : Nat} {l : List Int} {r : Int} (h : BallOk r n l) (h3 : r ≠ 3) : KeyOk n (rankM n l) := by
  obtain ⟨h1, h2, h4⟩ := h.rank h3
  have hn := h.hn
  refine ⟨by rw [rankM_fst]; exact h1, fun p hp => ?_⟩
  obtain ⟨i, hi⟩ := List.mem_iff_getElem?.1 hp
  have hil : i < l.length := by rw [← rankM_len (c := n)]; exact (List.getElem?_eq_some_iff.1 hi).1
  obtain ⟨x, hx, hm⟩ := get_of hil
  rw [rankM_get hx] at hi
  obtain rfl := Option.some.inj hi
  have := h2 x hm
  simp only; omega
/-- All points by one ballot. -/
def hadL (r : Int) (n : Nat) (l : List Int) : List Int := (List.range n).map fun c : Nat => pointsL r n l (c : Int)
def zeroL (n : Nat) : List Int := List.replicate n 0
theorem had_lost {n : Nat} {l : List Int} (h : l.length ≠ 1) : hadL 1 n l = List.replicate n 0 := by
  refine List.ext_getElem? fun c => ?_
  unfold hadL
  by_cases hc : c < n
  · rw [List.getElem?_map, List.getElem?_range hc, Option.map_some, List.getElem?_replicate, if_pos hc]
    congr 1
    unfold pointsL
    rw [if_pos rfl, if_neg]
    rintro ⟨h1, h2⟩
    rw [place_one] at h1
    cases l with
    | nil => cases h1
    | cons a t => simp at h h2; exact h h2
  · rw [List.getElem?_eq_none (by simp; omega), List.getElem?_eq_none (by simp; omega)]
theorem had_one {n : Nat} {a : Int} {S : List Nat} {d : List Int} (hb : BallOk 1 n [a]) (h : HadI n (markM [a]) (S, d)) (hS : ∀ b, b < (markM [a]).length → b ∈ S) : d = hadL 1 n [a] := by
  refine had_end (f := fun c => pointsL 1 n [a] c) h hS (fun p hp => ?_) (fun c hc hno => ?_) (fun p hp => ((mark_ok hb (by decide)).rg p hp).1)
  · obtain rfl : p = (a, 1) := by simpa [markM] using hp
    simp only
    unfold pointsL
    rw [if_pos rfl, if_pos ⟨(place_one _ _).2 rfl, by simp⟩]
  · have := hno (a, 1) (by simp [markM])
    simp only at this ⊢
    unfold pointsL
    rw [if_pos rfl, if_neg]
    rintro ⟨h1, h2⟩
    rw [place_one] at h1
    exact this (Option.some.inj h1)
theorem had_mark {n : Nat} {l : List Int} {S : List Nat} {d : List Int} (hb : BallOk 2 n l) (h : HadI n (markM l) (S, d)) (hS : ∀ b, b < (markM l).length → b ∈ S) : d = hadL 2 n l := by
  refine had_end (f := fun c => pointsL 2 n l c) h hS (fun p hp => ?_) (fun c hc hno => ?_) (fun p hp => ((mark_ok hb (by decide)).rg p hp).1)
  · obtain ⟨a, ha, rfl⟩ := List.mem_map.1 hp
    simp only
    unfold pointsL
    rw [if_neg (by decide), if_pos rfl, if_pos ((place_nonneg l a).2 ha)]
  · show pointsL 2 n l c = 0
    unfold pointsL
    rw [if_neg (by decide), if_pos rfl, if_neg]
    intro e
    exact hno (c, 1) (List.mem_map.2 ⟨_, (place_nonneg l c).1 e, rfl⟩) rfl
theorem had_score {n : Nat} {l : List Int} {S : List Nat} {d : List Int} (hb : BallOk 3 n l) (h : HadI n (scoreM l) (S, d)) (hS : ∀ b, b < (scoreM l).length → b ∈ S) : d = hadL 3 n l := by
  refine had_end (f := fun c => pointsL 3 n l c) h hS (fun p hp => ?_) (fun c hc hno => ?_) (fun p hp => ((score_ok hb).rg p hp).1)
  · obtain ⟨i, hi⟩ := List.mem_iff_getElem?.1 hp
    have hil : i < l.length := by rw [← scoreM_len]; exact (List.getElem?_eq_some_iff.1 hi).1
    obtain ⟨x, hx, hm⟩ := get_of hil
    rw [scoreM_get hx] at hi
    obtain rfl := Option.some.inj hi
    simp only
    unfold pointsL
    rw [if_neg (by decide), if_neg (by decide), if_pos rfl, Int.toNat_natCast, List.getD_eq_getElem?_getD, hx]; rfl
  · have hl := hb.score.1
    obtain ⟨x, hx, hm⟩ := get_of (show c < l.length by omega)
    exact absurd rfl (hno _ (List.mem_of_getElem? (scoreM_get hx)))
theorem had_rank {n : Nat} {l : List Int} {S : List Nat} {d : List Int} (hb : BallOk 4 n l) (h : HadI n (rankM n l) (S, d)) (hS : ∀ b, b < (rankM n l).length → b ∈ S) : d = hadL 4 n l := by
  refine had_end (f := fun c => pointsL 4 n l c) h hS (fun p hp => ?_) (fun c hc hno => ?_) (fun p hp => ((rank_ok hb (by decide)).rg p hp).1)
  · obtain ⟨i, hi⟩ := List.mem_iff_getElem?.1 hp
    have hil : i < l.length := by rw [← rankM_len (c := n)]; exact (List.getElem?_eq_some_iff.1 hi).1
    obtain ⟨x, hx, hm⟩ := get_of hil
    rw [rankM_get hx] at hi
    obtain rfl := Option.some.inj hi
    simp only
    unfold pointsL
    rw [if_neg (by decide), if_neg (by decide), if_neg (by decide), place_nodupg (hb.rank (by decide)).1 hx, if_neg (by omega)]
  · show pointsL 4 n l c = 0
    unfold pointsL
    rw [if_neg (by decide), if_neg (by decide), if_neg (by decide), if_pos]
    refine Decidable.byContradiction fun e => ?_
    have hm : (c : Int) ∈ l := (place_nonneg l c).1 (by omega)
    obtain ⟨i, hi⟩ := List.mem_iff_getElem?.1 hm
    exact hno _ (List.mem_of_getElem? (rankM_get hi)) rfl
theorem hadL_len {r : Int} {n : Nat} {l : List Int} : (hadL r n l).length = n := by simp [hadL]
theorem had_get {r : Int} {n c : Nat} {l : List Int} (hc : c < n) : (hadL r n l)[c]? = some (pointsL r n l (c : Int)) := by simp [hadL, hc]
theorem pts_1 {n x : Int} {l : List Int} : pointsL 1 n l x = if placeL l x = 0 ∧ l.length ≤ 1 then 1 else 0 := if_pos rfl
theorem pts_2 {n x : Int} {l : List Int} : pointsL 2 n l x = if 0 ≤ placeL l x then 1 else 0 := (if_neg (by decide)).trans (if_pos rfl)
theorem pts_3 {n x : Int} {l : List Int} : pointsL 3 n l x = l.getD x.toNat 0 := (if_neg (by decide)).trans ((if_neg (by decide)).trans (if_pos rfl))
theorem pts_4 {n x : Int} {l : List Int} : pointsL 4 n l x = if placeL l x < 0 then 0 else n - 1 - placeL l x := (if_neg (by decide)).trans ((if_neg (by decide)).trans (if_neg (by decide)))
theorem most_1 {n : Int} : mostL 1 n = 1 := (if_neg (by decide)).trans (if_neg (by decide))
theorem most_2 {n : Int} : mostL 2 n = 1 := (if_neg (by decide)).trans (if_neg (by decide))
theorem most_3 {n : Int} : mostL 3 n = 10 := if_pos rfl
theorem most_4 {n : Int} : mostL 4 n = n - 1 := (if_neg (by decide)).trans (if_pos rfl)
theorem pts_range {r : Int} {n : Nat} {l : List Int} (h : BallOk r n l) {x : Int} (hx : 0 ≤ x ∧ x < n) : 0 ≤ pointsL r n l x ∧ pointsL r n l x ≤ mostL r n := by
  have hn := h.hn
  have hr : r = 1 ∨ r = 2 ∨ r = 3 ∨ r = 4 := by have := h.hr; omega
  rcases hr with rfl | rfl | rfl | rfl
  · rw [pts_1, most_1]
    split <;> omega
  · rw [pts_2, most_2]
    split <;> omega
  · obtain ⟨h1, h2⟩ := h.score
    rw [pts_3, most_3]
    obtain ⟨y, hy, hm⟩ := get_of (show x.toNat < l.length by omega)
    rw [List.getD_eq_getElem?_getD, hy, Option.getD_some]
    have := h2 y hm
    omega
  · obtain ⟨h1, h2, h3⟩ := h.rank (by decide)
    have p1 := place_lt l x
    rw [pts_4, most_4]
    split <;> omega
/-- The best ballot for x. -/
def bestL (r : Int) (n : Nat) (x : Int) : List Int := if r = 3 then (List.replicate n 0).set x.toNat 10 else [x]
theorem best_ok {r : Int} {n : Nat} {x : Int} (hr : 1 ≤ r ∧ r ≤ 4) (hn : 2 ≤ n ∧ n ≤ 10) (hx : 0 ≤ x ∧ x < n) : BallOk r n (bestL r n x) := by
  refine ⟨hr, hn, ?_⟩
  have h : r = 1 ∨ r = 2 ∨ r = 3 ∨ r = 4 := by omega
  unfold bestL
  rcases h with rfl | rfl | rfl | rfl
  · simp [fineL, kind_1, inB, hx]
  · simp [fineL, kind_2, inB, hx]
  · rw [if_pos rfl, show fineL (kindM 3) ((List.replicate n 0).set x.toNat 10) n = (((List.replicate n (0 : Int)).set x.toNat 10).all (inB 0 11) && decide ((((List.replicate n (0 : Int)).set x.toNat 10).length : Int) = n)) from rfl, Bool.and_eq_true, List.all_eq_true]
    refine ⟨fun y hy => ?_, by simp⟩
    rcases List.mem_or_eq_of_mem_set hy with h | h
    · rw [List.eq_of_mem_replicate h]; rfl
    · rw [h]; rfl
  · simp [fineL, kind_4, inB, hx]
theorem best_pts {r : Int} {n : Nat} {w x : Int} (hr : 1 ≤ r ∧ r ≤ 4) (hn : 2 ≤ n ∧ n ≤ 10) (hx : 0 ≤ x ∧ x < n) (hw : 0 ≤ w ∧ w < n) (hne : w ≠ x) : pointsL r n (bestL r n x) x = mostL r n ∧ pointsL r n (bestL r n x) w = 0 := by
  have h : r = 1 ∨ r = 2 ∨ r = 3 ∨ r = 4 := by omega
  have e1 : placeL [x] x = 0 := by simp [placeL]
  have hne' : ¬ x = w := fun e => hne e.symm
  have e2 : placeL [x] w = -1 := by simp [placeL, hne']
  rcases h with rfl | rfl | rfl | rfl
  · rw [pts_1, pts_1, most_1]; simp [bestL, e1, e2]
  · rw [pts_2, pts_2, most_2]; simp [bestL, e1, e2]
  · have hx' : x.toNat < n := by omega
    have hw' : w.toNat < n := by omega
    have hne' : ¬ x.toNat = w.toNat := by omega
    rw [pts_3, pts_3, most_3]
    simp [bestL, List.getElem?_set, hx', hw', hne']
  · rw [pts_4, pts_4, most_4]; simp [bestL, e1, e2]
end Go.Proofs.YtncdaicaljpgfaaGreat
