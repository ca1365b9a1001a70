/- Ballots: the program's functions, walked. -/
import Derived.Test.YtnhfbabenifbkaaGreatDoorAlWk
import Derived.Test.YtnhfbabenifbkaaGreatDoorWg1
import Derived.Test.YtnhfbabenifbkaaGreatDoorBPl5
set_option maxRecDepth 100000
set_option linter.unusedVariables false
set_option linter.unusedSimpArgs false
namespace Go.Proofs.YtnhfbabenifbkaaGreatDoor
variable {L : Lib} (hL : L.T = tab.get)
include hL
theorem within_v (n lo hi : Int) : VFn L 38 [.int .i64 n, .int .i64 lo, .int .i64 hi] (.bool (decide (lo ≤ n) && decide (n < hi))) := by
  refine VFn.start (F := T38.1) (by rw [hL]; rfl) rfl rfl rfl ?_
  by_cases h : lo ≤ n
  · (repeat' (first | refine wSeq rfl ?_ | refine wBlock rfl ?_ | refine wSkip rfl ?_ | refine wExit rfl ?_ | refine wRet rfl ?_ | refine wCondT rfl rfl ?_ | refine wCondF rfl rfl ?_ | refine wOps rfl ?_ | refine wDraw rfl rfl ?_ | simp only [seval, push_cast, ↓reduceIte, ↓bP_some, ↓aP_true, reduceCtorEq, h]))
    exact FnQ.ret rfl rfl
  · (repeat' (first | refine wSeq rfl ?_ | refine wBlock rfl ?_ | refine wSkip rfl ?_ | refine wExit rfl ?_ | refine wRet rfl ?_ | refine wCondT rfl rfl ?_ | refine wCondF rfl rfl ?_ | refine wOps rfl ?_ | refine wDraw rfl rfl ?_ | simp only [seval, push_cast, ↓reduceIte, ↓bP_some, ↓aP_true, reduceCtorEq, h]))
    exact FnQ.ret rfl rfl
omit hL
def badMark (k cands m : Int) : Bool := if k = 3 then !(decide (0 ≤ m) && decide (m < 11)) else !(decide (0 ≤ m) && decide (m < cands))
def marksOk (k : Int) (l : List Int) (cands : Int) : Bool := l.all (fun m => !badMark k cands m)
def fineR (k : Int) (l : List Int) (cands : Int) : Bool := marksOk k l cands && (if k = 3 then decide ((l.length : Int) = cands) else if k = 2 then sortedB l && decide l.Nodup else if k = 1 then decide l.Nodup else false)
theorem fineR_bad {k cands : Int} {l : List Int} {j : Nat} {x : Int} (hx : l[j]? = some x) (hb : badMark k cands x = true) : fineR k l cands = false := by
  have : marksOk k l cands = false := by
    rw [Bool.eq_false_iff]
    intro h
    have := List.all_eq_true.1 h x (List.mem_of_getElem? hx)
    rw [hb] at this; cases this
  unfold fineR
  rw [this]; rfl
theorem marksOk_of {k cands : Int} {l : List Int} (h : ∀ i x, i < l.length → l[i]? = some x → badMark k cands x = false) : marksOk k l cands = true := List.all_eq_true.2 fun x hx => by
  obtain ⟨i, hi⟩ := List.mem_iff_getElem?.1 hx
  rw [h i x (List.getElem?_eq_some_iff.1 hi).1 hi]; rfl
theorem all_snoc {α : Type} {P : α → Prop} {l : List α} {j : Nat} {x : α} (hx : l[j]? = some x) (hI : ∀ i x, i < j → l[i]? = some x → P x) (h : P x) : ∀ i x, i < j + 1 → l[i]? = some x → P x := fun i y hi hy => by
  by_cases e : i = j
  · subst e; rw [hx] at hy; cases hy; exact h
  · exact hI i y (by omega) hy
def seenRow (p : List Int) : List V := (List.range 10).map fun i : Nat => V.bool (decide ((i : Int) ∈ p))
theorem seenRow_get {p : List Int} {n : Nat} (h : n < 10) : (seenRow p)[n]? = some (.bool (decide ((n : Int) ∈ p))) := by simp [seenRow, h]
theorem seenRow_len {p : List Int} : (seenRow p).length = 10 := by simp [seenRow]
theorem seenRow_set {p : List Int} {n : Nat} (h : n < 10) : (seenRow p).take n ++ [V.bool true] ++ (seenRow p).drop (n + 1) = seenRow (p ++ [(n : Int)]) := by
  apply List.ext_getElem?
  intro i
  by_cases hi : i < 10
  · rw [seenRow_get hi, List.append_assoc, List.getElem?_append]
    have hl : (List.take n (seenRow p)).length = n := by rw [List.length_take, seenRow_len]; omega
    rw [hl]
    by_cases h1 : i < n
    · rw [if_pos h1, List.getElem?_take, if_pos h1, seenRow_get hi]
      have : ¬ ((i : Int) = (n : Int)) := by omega
      simp [this]
    · rw [if_neg h1]
      by_cases h2 : i = n
      · subst h2; simp
      · rw [List.getElem?_append_right (by simp; omega), List.length_singleton, List.getElem?_drop, show n + 1 + (i - n - 1) = i by omega, seenRow_get hi]
        have : ¬ ((i : Int) = (n : Int)) := by omega
        simp [this]
  · rw [List.getElem?_eq_none (by simp [seenRow_len]; omega), List.getElem?_eq_none (by rw [seenRow_len]; omega)]
theorem fine_seen {k : Int} {s : Nat} {l : List Int} {c : Option Nat} (hs : s = 1 ∨ l = []) (hl : l.length < 4611686018427387904) (hb : ∀ x ∈ l, 0 ≤ x ∧ x < 10) {Q : Exit → Env → Heap → Prop} (hq : ∀ b H', b = decide l.Nodup → Q .ret [(4, .bool b)] H') :
    SWP L 0 T39.1.ntmps T39.1.body.r.r.l.r.l.r.l.r.l.r.l (qB T39.1.body.r.r.l.r.l.r.l.r.l.r.id (qN L 0 T39.1.ntmps T39.1.body.r.r.l.r.l.r.l.r.r Q))
    [(7, V.ptr 1 10 0 0), (55, tl mrow s l c), (56, V.int IntKind.i64 ↑l.length), (57, V.int IntKind.i64 0)]
    [some (Blk.arr 2 [[V.int IntKind.u8 k, tl mrow s l c]]), some (Blk.arr 10 [seenRow []])] := by
  refine wCntH rfl 57 l.length (fun _ => []) (fun j => [some (Blk.arr 2 [[V.int IntKind.u8 k, tl mrow s l c]]), some (Blk.arr 10 [seenRow (l.take j)])]) (fun j => (l.take j).Nodup) rfl rfl (by simp) ?_ ?_
  · intro j hj hI
    obtain ⟨x, hx, hm⟩ := get_of hj
    obtain rfl := size_of hs hj
    obtain ⟨h0, h10⟩ := hb x hm
    obtain ⟨n, rfl⟩ : ∃ n : Nat, x = n := ⟨x.toNat, by omega⟩
    have hn : n < 10 := by omega
    have hn9 : n ≤ 9 := by omega
    have hw := wrap_succ (show j < 9223372036854775807 by omega)
    have htk := take_snoc hx
    have hsg := seenRow_get (p := l.take j) hn
    cases hmem : decide ((n : Int) ∈ l.take j) with
    | true =>
      (repeat' (first | refine wSeq rfl ?_ | refine wBlock rfl ?_ | refine wSkip rfl ?_ | refine wExit rfl ?_ | refine wRet rfl ?_ | refine wCondT rfl rfl ?_ | refine wCondF rfl rfl ?_ | refine wOps rfl ?_ | refine wDraw rfl rfl ?_ | simp only [seval, push_cast, ↓reduceIte, ↓bP_some, ↓aP_true, reduceCtorEq, iaQ_tl hj, hx, hj, hn, hn9, Nat.mul_one, hsg, hmem]))
      refine hq _ _ ?_
      symm
      rw [decide_eq_false_iff_not]
      intro h
      have := h.sublist (List.take_sublist (j + 1) l)
      rw [htk, List.nodup_append] at this
      exact this.2.2 _ (of_decide_eq_true hmem) _ (by simp) rfl
    | false =>
      (repeat' (first | refine wSeq rfl ?_ | refine wBlock rfl ?_ | refine wSkip rfl ?_ | refine wExit rfl ?_ | refine wRet rfl ?_ | refine wCondT rfl rfl ?_ | refine wCondF rfl rfl ?_ | refine wOps rfl ?_ | refine wDraw rfl rfl ?_ | simp only [seval, push_cast, ↓reduceIte, ↓bP_some, ↓aP_true, reduceCtorEq, iaQ_tl hj, hx, hj, hn, hn9, Nat.mul_one, hsg, hmem, seenRow_len, seenRow_set hn, hw]))
      refine qR_n rfl (by rw [htk]) ?_
      rw [htk, List.nodup_append]
      refine ⟨hI, by simp, fun a ha b hb e => ?_⟩
      rw [List.mem_singleton] at hb
      subst hb; subst e; exact of_decide_eq_false hmem ha
  · intro hI
    (repeat' (first | refine wSeq rfl ?_ | refine wBlock rfl ?_ | refine wSkip rfl ?_ | refine wExit rfl ?_ | refine wRet rfl ?_ | refine wCondT rfl rfl ?_ | refine wCondF rfl rfl ?_ | refine wOps rfl ?_ | refine wDraw rfl rfl ?_ | simp only [seval, push_cast, ↓reduceIte, ↓bP_some, ↓aP_true, reduceCtorEq]))
    refine hq _ _ ?_
    symm
    rw [decide_eq_true_iff]
    rwa [take_all] at hI
include hL
theorem fineR_v (k cands : Int) (s : Nat) (l : List Int) (c : Option Nat) (hs : s = 1 ∨ l = []) (hl : l.length < 4611686018427387904) (hc : cands ≤ 10) : VFn L 39 [.agg [.int .u8 k, tl mrow s l c], .int .i64 cands] (.bool (fineR k l cands)) := by
  refine VFn.start (F := T39.1) (by rw [hL]; rfl) rfl rfl rfl ?_
  (repeat' (first | refine wSeq rfl ?_ | refine wBlock rfl ?_ | refine wSkip rfl ?_ | refine wExit rfl ?_ | refine wRet rfl ?_ | refine wCondT rfl rfl ?_ | refine wCondF rfl rfl ?_ | refine wOps rfl ?_ | refine wDraw rfl rfl ?_ | simp only [seval, push_cast, ↓reduceIte, ↓bP_some, ↓aP_true, reduceCtorEq]))
  refine wCnt rfl 13 l.length (fun _ => []) (fun j => ∀ i x, i < j → l[i]? = some x → badMark k cands x = false) rfl (fun i x h => by omega) ?_ ?_
  · intro j hj hI
    obtain ⟨x, hx, hm⟩ := get_of hj
    obtain rfl := size_of hs hj
    have hw := wrap_succ (show j < 9223372036854775807 by omega)
    by_cases hk : k = 3
    · subst hk
      cases hb : (decide (0 ≤ x) && decide (x < 11)) with
      | false =>
        (repeat' (first | refine wSeq rfl ?_ | refine wBlock rfl ?_ | refine wSkip rfl ?_ | refine wExit rfl ?_ | refine wRet rfl ?_ | refine wCondT rfl rfl ?_ | refine wCondF rfl rfl ?_ | refine wOps rfl ?_ | refine wDraw rfl rfl ?_ | refine opsV_call rfl rfl (within_v hL _ _ _) ?_ | simp only [seval, push_cast, ↓reduceIte, ↓bP_some, ↓aP_true, reduceCtorEq, iaQ_tl hj, hx, hj, hb]))
        rw [fineR_bad hx (by simp [badMark, hb])]
        exact FnQ.ret rfl rfl
      | true =>
        (repeat' (first | refine wSeq rfl ?_ | refine wBlock rfl ?_ | refine wSkip rfl ?_ | refine wExit rfl ?_ | refine wRet rfl ?_ | refine wCondT rfl rfl ?_ | refine wCondF rfl rfl ?_ | refine wOps rfl ?_ | refine wDraw rfl rfl ?_ | refine opsV_call rfl rfl (within_v hL _ _ _) ?_ | simp only [seval, push_cast, ↓reduceIte, ↓bP_some, ↓aP_true, reduceCtorEq, iaQ_tl hj, hx, hj, hb, hw]))
        exact qR_n rfl rfl (all_snoc (P := fun x => badMark 3 cands x = false) hx hI (by simp [badMark, hb]))
    · cases hb : (decide (0 ≤ x) && decide (x < cands)) with
      | false =>
        (repeat' (first | refine wSeq rfl ?_ | refine wBlock rfl ?_ | refine wSkip rfl ?_ | refine wExit rfl ?_ | refine wRet rfl ?_ | refine wCondT rfl rfl ?_ | refine wCondF rfl rfl ?_ | refine wOps rfl ?_ | refine wDraw rfl rfl ?_ | refine opsV_call rfl rfl (within_v hL _ _ _) ?_ | simp only [seval, push_cast, ↓reduceIte, ↓bP_some, ↓aP_true, reduceCtorEq, iaQ_tl hj, hx, hj, hk, hb]))
        rw [fineR_bad hx (by simp [badMark, hb, hk])]
        exact FnQ.ret rfl rfl
      | true =>
        (repeat' (first | refine wSeq rfl ?_ | refine wBlock rfl ?_ | refine wSkip rfl ?_ | refine wExit rfl ?_ | refine wRet rfl ?_ | refine wCondT rfl rfl ?_ | refine wCondF rfl rfl ?_ | refine wOps rfl ?_ | refine wDraw rfl rfl ?_ | refine opsV_call rfl rfl (within_v hL _ _ _) ?_ | simp only [seval, push_cast, ↓reduceIte, ↓bP_some, ↓aP_true, reduceCtorEq, iaQ_tl hj, hx, hj, hk, hb, hw]))
        exact qR_n rfl rfl (all_snoc (P := fun x => badMark k cands x = false) hx hI (by simp [badMark, hb, hk]))
  · intro hI
    have hR : fineR k l cands = (if k = 3 then decide ((l.length : Int) = cands) else if k = 2 then sortedB l && decide l.Nodup else if k = 1 then decide l.Nodup else false) := by unfold fineR; rw [marksOk_of hI]; rfl
    by_cases h3 : k = 3
    · subst h3
      (repeat' (first | refine wSeq rfl ?_ | refine wBlock rfl ?_ | refine wSkip rfl ?_ | refine wExit rfl ?_ | refine wRet rfl ?_ | refine wCondT rfl rfl ?_ | refine wCondF rfl rfl ?_ | refine wOps rfl ?_ | refine wDraw rfl rfl ?_ | simp only [seval, push_cast, ↓reduceIte, ↓bP_some, ↓aP_true, reduceCtorEq]))
      rw [hR]
      exact FnQ.ret rfl rfl
    · have hb10 : ∀ x ∈ l, 0 ≤ x ∧ x < 10 := fun x hx => by
        have := List.all_eq_true.1 (marksOk_of hI) x hx
        simp only [badMark, if_neg h3, Bool.not_not, Bool.and_eq_true, decide_eq_true_eq] at this
        omega
      by_cases h2 : k = 2
      · subst h2
        cases hso : sortedB l with
        | false =>
          (repeat' (first | refine wSeq rfl ?_ | refine wBlock rfl ?_ | refine wSkip rfl ?_ | refine wExit rfl ?_ | refine wRet rfl ?_ | refine wCondT rfl rfl ?_ | refine wCondF rfl rfl ?_ | refine wOps rfl ?_ | refine wDraw rfl rfl ?_ | refine opsV_call rfl rfl (isSorted_v hL s l c hs hl) ?_ | simp only [seval, push_cast, ↓reduceIte, ↓bP_some, ↓aP_true, reduceCtorEq, h3, hso]))
          rw [hR, hso]
          exact FnQ.ret rfl rfl
        | true =>
          (repeat' (first | refine wSeq rfl ?_ | refine wBlock rfl ?_ | refine wSkip rfl ?_ | refine wExit rfl ?_ | refine wRet rfl ?_ | refine wCondT rfl rfl ?_ | refine wCondF rfl rfl ?_ | refine wOps rfl ?_ | refine wDraw rfl rfl ?_ | refine opsV_call rfl rfl (isSorted_v hL s l c hs hl) ?_ | simp only [seval, push_cast, ↓reduceIte, ↓bP_some, ↓aP_true, reduceCtorEq, h3, hso]))
          refine fine_seen hs hl hb10 (fun b H' hb => ?_)
          (repeat' (first | refine wSeq rfl ?_ | refine wBlock rfl ?_ | refine wSkip rfl ?_ | refine wExit rfl ?_ | refine wRet rfl ?_ | refine wCondT rfl rfl ?_ | refine wCondF rfl rfl ?_ | refine wOps rfl ?_ | refine wDraw rfl rfl ?_ | simp only [seval, push_cast, ↓reduceIte, ↓bP_some, ↓aP_true, reduceCtorEq]))
          rw [hR, hso, hb]
          exact FnQ.ret rfl rfl
      · by_cases h1 : k = 1
        · subst h1
          (repeat' (first | refine wSeq rfl ?_ | refine wBlock rfl ?_ | refine wSkip rfl ?_ | refine wExit rfl ?_ | refine wRet rfl ?_ | refine wCondT rfl rfl ?_ | refine wCondF rfl rfl ?_ | refine wOps rfl ?_ | refine wDraw rfl rfl ?_ | simp only [seval, push_cast, ↓reduceIte, ↓bP_some, ↓aP_true, reduceCtorEq, h3, h2]))
          refine fine_seen hs hl hb10 (fun b H' hb => ?_)
          (repeat' (first | refine wSeq rfl ?_ | refine wBlock rfl ?_ | refine wSkip rfl ?_ | refine wExit rfl ?_ | refine wRet rfl ?_ | refine wCondT rfl rfl ?_ | refine wCondF rfl rfl ?_ | refine wOps rfl ?_ | refine wDraw rfl rfl ?_ | simp only [seval, push_cast, ↓reduceIte, ↓bP_some, ↓aP_true, reduceCtorEq]))
          rw [hR, hb]
          exact FnQ.ret rfl rfl
        · (repeat' (first | refine wSeq rfl ?_ | refine wBlock rfl ?_ | refine wSkip rfl ?_ | refine wExit rfl ?_ | refine wRet rfl ?_ | refine wCondT rfl rfl ?_ | refine wCondF rfl rfl ?_ | refine wOps rfl ?_ | refine wDraw rfl rfl ?_ | simp only [seval, push_cast, ↓reduceIte, ↓bP_some, ↓aP_true, reduceCtorEq, h3, h2, h1]))
          rw [hR, if_neg h3, if_neg h2, if_neg h1]
          exact FnQ.ret rfl rfl
omit hL
theorem fineR_eq (k : Int) (l : List Int) (c : Int) : fineR k l c = fineL k l c := by
  have hm3 : marksOk 3 l c = l.all (inB 0 11) := by
    unfold marksOk; congr 1; funext m; simp [badMark, inB]
  have hm : k ≠ 3 → marksOk k l c = l.all (inB 0 c) := fun h => by
    unfold marksOk; congr 1; funext m; simp [badMark, inB, h]
  unfold fineR fineL
  by_cases h3 : k = 3
  · subst h3; rw [hm3]; rfl
  · rw [hm h3, if_neg h3, if_neg h3]
    by_cases h2 : k = 2
    · subst h2
      rw [if_pos rfl, if_neg (by decide), if_pos rfl, sortedB_pw]
      congr 1
      have := pw_lt_iff l
      by_cases h1 : l.Pairwise (· ≤ ·)
      · rw [decide_eq_true h1, Bool.true_and]
        exact decide_eq_decide.2 ⟨fun h => this.2 ⟨h1, h⟩, fun h => (this.1 h).2⟩
      · rw [decide_eq_false h1, Bool.false_and]
        symm
        exact decide_eq_false fun h => h1 (this.1 h).1
    · rw [if_neg h2]
      by_cases h1 : k = 1
      · subst h1; rfl
      · rw [if_neg h1, if_neg h1, if_neg h2, Bool.and_false]
include hL
theorem fine_v (k cands : Int) (s : Nat) (l : List Int) (c : Option Nat) (hs : s = 1 ∨ l = []) (hl : l.length < 4611686018427387904) (hc : cands ≤ 10) : VFn L 39 [(.agg [.int .u8 k, tl mrow s (l) c]), .int .i64 cands] (.bool (fineL k l cands)) := by
  rw [← fineR_eq]
  exact fineR_v hL k cands s l c hs hl hc
end Go.Proofs.YtnhfbabenifbkaaGreatDoor
