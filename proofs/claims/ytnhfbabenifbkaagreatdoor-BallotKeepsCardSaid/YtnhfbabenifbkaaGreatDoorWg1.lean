/- Generic functions of the library, walked: lists of numbers. -/
import Derived.Test.YtnhfbabenifbkaaGreatDoorAlWk
import Derived.Test.YtnhfbabenifbkaaGreatDoorAlXl
import Derived.Test.YtnhfbabenifbkaaGreatDoorBPl4
set_option maxRecDepth 100000
set_option linter.unusedVariables false
set_option linter.unusedSimpArgs false
namespace Go.Proofs.YtnhfbabenifbkaaGreatDoor
def sortedB : List Int → Bool
  | x :: y :: r => decide (x ≤ y) && sortedB (y :: r)
  | _ => true
/-- From one place down: each is not less than the one before. -/
theorem sortedB_iff : ∀ (l : List Int), sortedB l = true ↔ ∀ i x y, l[i]? = some x → l[i + 1]? = some y → x ≤ y
  | [] => by simp [sortedB]
  | [a] => by simp [sortedB]
  | a :: b :: r => by
    simp only [sortedB, Bool.and_eq_true, decide_eq_true_eq, sortedB_iff (b :: r)]
    constructor
    · rintro ⟨h1, h2⟩ i x y hx hy
      cases i with
      | zero => simp at hx hy; subst hx; subst hy; exact h1
      | succ i => exact h2 i x y (by simpa using hx) (by simpa using hy)
    · intro h
      exact ⟨h 0 a b rfl rfl, fun i x y hx hy => h (i + 1) x y (by simpa using hx) (by simpa using hy)⟩
theorem sortedB_pw (l : List Int) : sortedB l = decide (l.Pairwise (· ≤ ·)) := by
  by_cases h : l.Pairwise (· ≤ ·)
  · rw [decide_eq_true h]
    refine (sortedB_iff l).2 fun i x y hx hy => ?_
    obtain ⟨h1, rfl⟩ := List.getElem?_eq_some_iff.1 hx
    obtain ⟨h2, rfl⟩ := List.getElem?_eq_some_iff.1 hy
    exact List.pairwise_iff_getElem.1 h i (i + 1) h1 h2 (by omega)
  · rw [decide_eq_false h, Bool.eq_false_iff]
    intro hs
    exact h (adj_pw l fun j x y _ hx hy => (sortedB_iff l).1 hs j x y hx hy)
variable {L : Lib} (hL : L.T = tab.get)
include hL
theorem isNaN_v (x : Int) : VFn L 70 [.int .i64 x] (.bool false) := by
  refine VFn.start (F := T70.1) (by rw [hL]; rfl) rfl rfl rfl ?_
  (repeat' (first | refine wSeq rfl ?_ | refine wBlock rfl ?_ | refine wSkip rfl ?_ | refine wExit rfl ?_ | refine wRet rfl ?_ | refine wCondT rfl rfl ?_ | refine wCondF rfl rfl ?_ | refine wOps rfl ?_ | refine wDraw rfl rfl ?_ | simp only [seval, push_cast, ↓reduceIte, ↓bP_some, ↓aP_true, reduceCtorEq]))
  exact FnQ.ret rfl rfl
theorem less_v (x y : Int) : VFn L 69 [.int .i64 x, .int .i64 y] (.bool (decide (x < y))) := by
  refine VFn.start (F := T69.1) (by rw [hL]; rfl) rfl rfl rfl ?_
  (repeat' (first | refine wSeq rfl ?_ | refine wBlock rfl ?_ | refine wSkip rfl ?_ | refine wExit rfl ?_ | refine wRet rfl ?_ | refine wCondT rfl rfl ?_ | refine wCondF rfl rfl ?_ | refine wOps rfl ?_ | refine wDraw rfl rfl ?_ | refine opsV_call rfl rfl (isNaN_v hL _) ?_ | simp only [seval, push_cast, ↓reduceIte, ↓bP_some, ↓aP_true, reduceCtorEq]))
  exact FnQ.ret rfl rfl
theorem isSorted_v (s : Nat) (l : List Int) (c : Option Nat) (hs : s = 1 ∨ l = []) (hl : l.length < 4611686018427387904) : VFn L 58 [tl mrow s l c] (.bool (sortedB l)) := by
  refine VFn.start (F := T58.1) (by rw [hL]; rfl) rfl rfl rfl ?_
  (repeat' (first | refine wSeq rfl ?_ | refine wBlock rfl ?_ | refine wSkip rfl ?_ | refine wExit rfl ?_ | refine wRet rfl ?_ | refine wCondT rfl rfl ?_ | refine wCondF rfl rfl ?_ | refine wOps rfl ?_ | refine wDraw rfl rfl ?_ | simp only [seval, push_cast, ↓reduceIte, ↓bP_some, ↓aP_true, reduceCtorEq, wrap_pred (show l.length < 9223372036854775807 by omega)]))
  refine wWhile rfl (fun j : Nat => [(0, tl mrow s l c), (3, V.int IntKind.i64 ((j : Int) - 1))]) (fun _ => []) (fun j => j) (fun j => j ≤ l.length ∧ ∀ i x y, j ≤ i + 1 → l[i]? = some x → l[i + 1]? = some y → x ≤ y) l.length rfl rfl ⟨by omega, fun i x y hi hx hy => ?_⟩ ?_
  · have := (List.getElem?_eq_some_iff.1 hy).1
    omega
  rintro j ⟨hj, hall⟩
  by_cases hlt : 1 < j
  · obtain ⟨i, rfl⟩ : ∃ i, j = i + 2 := ⟨j - 2, by omega⟩
    obtain rfl := size_of hs (show i < l.length by omega)
    obtain ⟨x, hx, _⟩ := get_of (show i < l.length by omega)
    obtain ⟨y, hy, _⟩ := get_of (show i + 1 < l.length by omega)
    have e1 : (((i + 2 : Nat) : Int) - 1) = ((i + 1 : Nat) : Int) := by omega
    rw [e1]
    have hp : (0 : Int) < (i : Int) + 1 := by omega
    have hw := wrap_nat (n := i) (by omega)
    cases hlt2 : decide (y < x) with
    | true =>
      (repeat' (first | refine wSeq rfl ?_ | refine wBlock rfl ?_ | refine wSkip rfl ?_ | refine wExit rfl ?_ | refine wRet rfl ?_ | refine wCondT rfl rfl ?_ | refine wCondF rfl rfl ?_ | refine wOps rfl ?_ | refine wDraw rfl rfl ?_ | refine opsV_call rfl rfl (less_v hL _ _) ?_ | simp only [seval, push_cast, ↓reduceIte, ↓bP_some, ↓aP_true, reduceCtorEq, hp, add_sub1, hw, iaQ_tl (show i < l.length by omega), iaQ_tl (show i + 1 < l.length by omega), hx, hy, hlt2]))
      rw [Bool.eq_false_iff.2 (fun h => by
        have := (sortedB_iff l).1 h i x y hx hy
        have := of_decide_eq_true hlt2
        omega : ¬ sortedB l = true)]
      exact FnQ.ret rfl rfl
    | false =>
      (repeat' (first | refine wSeq rfl ?_ | refine wBlock rfl ?_ | refine wSkip rfl ?_ | refine wExit rfl ?_ | refine wRet rfl ?_ | refine wCondT rfl rfl ?_ | refine wCondF rfl rfl ?_ | refine wOps rfl ?_ | refine wDraw rfl rfl ?_ | refine opsV_call rfl rfl (less_v hL _ _) ?_ | simp only [seval, push_cast, ↓reduceIte, ↓bP_some, ↓aP_true, reduceCtorEq, hp, add_sub1, hw, iaQ_tl (show i < l.length by omega), iaQ_tl (show i + 1 < l.length by omega), hx, hy, hlt2]))
      refine qW_n (i + 1) (by simp) rfl ⟨by omega, by omega, fun k u v hk hu hv => ?_⟩
      by_cases h : k = i
      · subst h; rw [hx] at hu; rw [hy] at hv; cases hu; cases hv
        have := of_decide_eq_false hlt2
        omega
      · exact hall k u v (by omega) hu hv
  · have hp : ¬ (0 : Int) < (j : Int) - 1 := by omega
    (repeat' (first | refine wSeq rfl ?_ | refine wBlock rfl ?_ | refine wSkip rfl ?_ | refine wExit rfl ?_ | refine wRet rfl ?_ | refine wCondT rfl rfl ?_ | refine wCondF rfl rfl ?_ | refine wOps rfl ?_ | refine wDraw rfl rfl ?_ | simp only [seval, push_cast, ↓reduceIte, ↓bP_some, ↓aP_true, reduceCtorEq, hp]))
    rw [(sortedB_iff l).2 (fun i x y hx hy => hall i x y (by omega) hx hy)]
    exact FnQ.ret rfl rfl
theorem index_v (s : Nat) (l : List Int) (c : Option Nat) (x : Int) (hs : s = 1 ∨ l = []) (hl : l.length < 4611686018427387904) : VFn L 36 [tl mrow s l c, .int .i64 x] (.int .i64 (placeL l x)) := by
  refine VFn.start (F := T36.1) (by rw [hL]; rfl) rfl rfl rfl ?_
  (repeat' (first | refine wSeq rfl ?_ | refine wBlock rfl ?_ | refine wSkip rfl ?_ | refine wExit rfl ?_ | refine wRet rfl ?_ | refine wCondT rfl rfl ?_ | refine wCondF rfl rfl ?_ | refine wOps rfl ?_ | refine wDraw rfl rfl ?_ | simp only [seval, push_cast, ↓reduceIte, ↓bP_some, ↓aP_true, reduceCtorEq]))
  refine wCnt rfl 8 l.length (fun _ => []) (fun j => placeL l x = placeGo l x j) rfl (place_start l x) ?_ ?_
  · intro j hj hI
    obtain ⟨a, ha, _⟩ := get_of hj
    obtain rfl := size_of hs hj
    by_cases e : a = x
    · subst e
      (repeat' (first | refine wSeq rfl ?_ | refine wBlock rfl ?_ | refine wSkip rfl ?_ | refine wExit rfl ?_ | refine wRet rfl ?_ | refine wCondT rfl rfl ?_ | refine wCondF rfl rfl ?_ | refine wOps rfl ?_ | refine wDraw rfl rfl ?_ | simp only [seval, push_cast, ↓reduceIte, ↓bP_some, ↓aP_true, reduceCtorEq, iaQ_tl hj, ha, hj]))
      rw [hI, place_hit ha rfl]
      exact FnQ.ret rfl rfl
    · (repeat' (first | refine wSeq rfl ?_ | refine wBlock rfl ?_ | refine wSkip rfl ?_ | refine wExit rfl ?_ | refine wRet rfl ?_ | refine wCondT rfl rfl ?_ | refine wCondF rfl rfl ?_ | refine wOps rfl ?_ | refine wDraw rfl rfl ?_ | simp only [seval, push_cast, ↓reduceIte, ↓bP_some, ↓aP_true, reduceCtorEq, iaQ_tl hj, ha, hj, ne_both e, wrap_succ (show j < 9223372036854775807 by omega)]))
      exact qR_n rfl rfl (by rw [hI, place_miss ha e])
  · intro hI
    (repeat' (first | refine wSeq rfl ?_ | refine wBlock rfl ?_ | refine wSkip rfl ?_ | refine wExit rfl ?_ | refine wRet rfl ?_ | refine wCondT rfl rfl ?_ | refine wCondF rfl rfl ?_ | refine wOps rfl ?_ | refine wDraw rfl rfl ?_ | simp only [seval, push_cast, ↓reduceIte, ↓bP_some, ↓aP_true, reduceCtorEq]))
    rw [hI, place_end (by omega)]
    exact FnQ.ret rfl rfl
theorem equal_v (s t : Nat) (l m : List Int) (c d : Option Nat) (hs : s = 1 ∨ l = []) (ht : t = 1 ∨ m = []) (hl : l.length < 4611686018427387904) (hm : m.length < 4611686018427387904) : VFn L 42 [tl mrow s l c, tl mrow t m d] (.bool (decide (l = m))) := by
  refine VFn.start (F := T42.1) (by rw [hL]; rfl) rfl rfl rfl ?_
  by_cases hlen : l.length = m.length
  · (repeat' (first | refine wSeq rfl ?_ | refine wBlock rfl ?_ | refine wSkip rfl ?_ | refine wExit rfl ?_ | refine wRet rfl ?_ | refine wCondT rfl rfl ?_ | refine wCondF rfl rfl ?_ | refine wOps rfl ?_ | refine wDraw rfl rfl ?_ | simp only [seval, push_cast, ↓reduceIte, ↓bP_some, ↓aP_true, reduceCtorEq, hlen]))
    refine wCnt rfl 13 l.length (fun _ => []) (fun j => l.take j = m.take j) rfl rfl ?_ ?_
    · intro j hj hI
      obtain ⟨a, ha, _⟩ := get_of hj
      obtain ⟨b, hb, _⟩ := get_of (show j < m.length by omega)
      obtain rfl := size_of hs hj
      obtain rfl := size_of ht (show j < m.length by omega)
      by_cases e : a = b
      · subst e
        (repeat' (first | refine wSeq rfl ?_ | refine wBlock rfl ?_ | refine wSkip rfl ?_ | refine wExit rfl ?_ | refine wRet rfl ?_ | refine wCondT rfl rfl ?_ | refine wCondF rfl rfl ?_ | refine wOps rfl ?_ | refine wDraw rfl rfl ?_ | simp only [seval, push_cast, ↓reduceIte, ↓bP_some, ↓aP_true, reduceCtorEq, iaQ_tl hj, iaQ_tl (show j < m.length by omega), ha, hb, hj, hlen ▸ hj, wrap_succ (show j < 9223372036854775807 by omega)]))
        exact qR_n rfl rfl (by rw [take_snoc ha, take_snoc hb, hI])
      · (repeat' (first | refine wSeq rfl ?_ | refine wBlock rfl ?_ | refine wSkip rfl ?_ | refine wExit rfl ?_ | refine wRet rfl ?_ | refine wCondT rfl rfl ?_ | refine wCondF rfl rfl ?_ | refine wOps rfl ?_ | refine wDraw rfl rfl ?_ | simp only [seval, push_cast, ↓reduceIte, ↓bP_some, ↓aP_true, reduceCtorEq, iaQ_tl hj, iaQ_tl (show j < m.length by omega), ha, hb, hj, hlen ▸ hj, ne_both e]))
        rw [show decide (l = m) = false from decide_eq_false fun h => e (by subst h; rw [ha] at hb; cases hb; rfl)]
        exact FnQ.ret rfl rfl
    · intro hI
      (repeat' (first | refine wSeq rfl ?_ | refine wBlock rfl ?_ | refine wSkip rfl ?_ | refine wExit rfl ?_ | refine wRet rfl ?_ | refine wCondT rfl rfl ?_ | refine wCondF rfl rfl ?_ | refine wOps rfl ?_ | refine wDraw rfl rfl ?_ | simp only [seval, push_cast, ↓reduceIte, ↓bP_some, ↓aP_true, reduceCtorEq, hlen]))
      rw [show decide (l = m) = true from decide_eq_true (by rwa [take_all, hlen, take_all] at hI)]
      exact FnQ.ret rfl rfl
  · (repeat' (first | refine wSeq rfl ?_ | refine wBlock rfl ?_ | refine wSkip rfl ?_ | refine wExit rfl ?_ | refine wRet rfl ?_ | refine wCondT rfl rfl ?_ | refine wCondF rfl rfl ?_ | refine wOps rfl ?_ | refine wDraw rfl rfl ?_ | simp only [seval, push_cast, ↓reduceIte, ↓bP_some, ↓aP_true, reduceCtorEq, hlen]))
    rw [show decide (l = m) = false from decide_eq_false fun h => hlen (by rw [h])]
    exact FnQ.ret rfl rfl
omit hL
def cmpI (x y : Int) : Int := if x < y then -1 else if y < x then 1 else 0
def cmpL : List Int → List Int → Int
  | [], [] => 0
  | [], _ :: _ => -1
  | _ :: _, [] => 1
  | a :: r, b :: s => if a = b then cmpL r s else cmpI a b
theorem cmpL_ahead : ∀ (l m : List Int), aheadL l m = decide (cmpL l m < 0)
  | [], [] => rfl
  | [], _ :: _ => rfl
  | _ :: _, [] => rfl
  | a :: r, b :: s => by
    unfold aheadL cmpL
    by_cases h : a = b
    · rw [if_pos h, if_pos h]; exact cmpL_ahead r s
    · rw [if_neg h, if_neg h]
      unfold cmpI
      by_cases h1 : a < b
      · rw [if_pos h1, decide_eq_true h1]; rfl
      · rw [if_neg h1, if_pos (by omega), decide_eq_false h1]; rfl
theorem cmpL_zero : ∀ (l m : List Int), cmpL l m = 0 ↔ l = m
  | [], [] => by simp [cmpL]
  | [], _ :: _ => by simp [cmpL]
  | _ :: _, [] => by simp [cmpL]
  | a :: r, b :: s => by
    unfold cmpL
    by_cases h : a = b
    · rw [if_pos h, cmpL_zero r s]; simp [h]
    · rw [if_neg h]
      have : cmpI a b ≠ 0 := by unfold cmpI; split; omega; rw [if_pos (by omega)]; omega
      simp [this, h]
theorem drop_at {α : Type} {l : List α} {j : Nat} {x : α} (h : l[j]? = some x) : l.drop j = x :: l.drop (j + 1) := by
  obtain ⟨h1, rfl⟩ := List.getElem?_eq_some_iff.1 h
  exact List.drop_eq_getElem_cons h1
include hL
theorem cmp_v (x y : Int) : VFn L 59 [.int .i64 x, .int .i64 y] (.int .i64 (cmpI x y)) := by
  refine VFn.start (F := T59.1) (by rw [hL]; rfl) rfl rfl rfl ?_
  by_cases h : x < y
  · (repeat' (first | refine wSeq rfl ?_ | refine wBlock rfl ?_ | refine wSkip rfl ?_ | refine wExit rfl ?_ | refine wRet rfl ?_ | refine wCondT rfl rfl ?_ | refine wCondF rfl rfl ?_ | refine wOps rfl ?_ | refine wDraw rfl rfl ?_ | refine opsV_call rfl rfl (isNaN_v hL _) ?_ | simp only [seval, push_cast, ↓reduceIte, ↓bP_some, ↓aP_true, reduceCtorEq, h]))
    rw [show cmpI x y = -1 from if_pos h]
    exact FnQ.ret rfl rfl
  · by_cases h2 : y < x
    · (repeat' (first | refine wSeq rfl ?_ | refine wBlock rfl ?_ | refine wSkip rfl ?_ | refine wExit rfl ?_ | refine wRet rfl ?_ | refine wCondT rfl rfl ?_ | refine wCondF rfl rfl ?_ | refine wOps rfl ?_ | refine wDraw rfl rfl ?_ | refine opsV_call rfl rfl (isNaN_v hL _) ?_ | simp only [seval, push_cast, ↓reduceIte, ↓bP_some, ↓aP_true, reduceCtorEq, h, h2]))
      rw [show cmpI x y = 1 by unfold cmpI; rw [if_neg h, if_pos h2]]
      exact FnQ.ret rfl rfl
    · (repeat' (first | refine wSeq rfl ?_ | refine wBlock rfl ?_ | refine wSkip rfl ?_ | refine wExit rfl ?_ | refine wRet rfl ?_ | refine wCondT rfl rfl ?_ | refine wCondF rfl rfl ?_ | refine wOps rfl ?_ | refine wDraw rfl rfl ?_ | refine opsV_call rfl rfl (isNaN_v hL _) ?_ | simp only [seval, push_cast, ↓reduceIte, ↓bP_some, ↓aP_true, reduceCtorEq, h, h2]))
      rw [show cmpI x y = 0 by unfold cmpI; rw [if_neg h, if_neg h2]]
      exact FnQ.ret rfl rfl
theorem compare_v (s t : Nat) (l m : List Int) (c d : Option Nat) (hs : s = 1 ∨ l = []) (ht : t = 1 ∨ m = []) (hl : l.length < 4611686018427387904) (hm : m.length < 4611686018427387904) : VFn L 43 [tl mrow s l c, tl mrow t m d] (.int .i64 (cmpL l m)) := by
  refine VFn.start (F := T43.1) (by rw [hL]; rfl) rfl rfl rfl ?_
  (repeat' (first | refine wSeq rfl ?_ | refine wBlock rfl ?_ | refine wSkip rfl ?_ | refine wExit rfl ?_ | refine wRet rfl ?_ | refine wCondT rfl rfl ?_ | refine wCondF rfl rfl ?_ | refine wOps rfl ?_ | refine wDraw rfl rfl ?_ | simp only [seval, push_cast, ↓reduceIte, ↓bP_some, ↓aP_true, reduceCtorEq]))
  refine wCnt rfl 11 l.length (fun _ => []) (fun j => cmpL l m = cmpL (l.drop j) (m.drop j) ∧ j ≤ m.length) rfl ⟨rfl, by omega⟩ ?_ ?_
  · rintro j hj ⟨hI, hjm⟩
    obtain ⟨a, ha, _⟩ := get_of hj
    obtain rfl := size_of hs hj
    by_cases hm' : j < m.length
    · obtain ⟨b, hb, _⟩ := get_of hm'
      obtain rfl := size_of ht hm'
      have hle : ¬ m.length ≤ j := by omega
      by_cases e : a = b
      · subst e
        (repeat' (first | refine wSeq rfl ?_ | refine wBlock rfl ?_ | refine wSkip rfl ?_ | refine wExit rfl ?_ | refine wRet rfl ?_ | refine wCondT rfl rfl ?_ | refine wCondF rfl rfl ?_ | refine wOps rfl ?_ | refine wDraw rfl rfl ?_ | refine opsV_call rfl rfl (cmp_v hL _ _) ?_ | simp only [seval, push_cast, ↓reduceIte, ↓bP_some, ↓aP_true, reduceCtorEq, iaQ_tl hj, iaQ_tl hm', ha, hb, hj, hle, wrap_succ (show j < 9223372036854775807 by omega), (show cmpI a a = 0 by simp [cmpI])]))
        exact qR_n rfl rfl ⟨by rw [hI, drop_at ha, drop_at hb]; exact if_pos rfl, by omega⟩
      · have hne : cmpI a b ≠ 0 := by unfold cmpI; split; omega; rw [if_pos (by omega)]; omega
        (repeat' (first | refine wSeq rfl ?_ | refine wBlock rfl ?_ | refine wSkip rfl ?_ | refine wExit rfl ?_ | refine wRet rfl ?_ | refine wCondT rfl rfl ?_ | refine wCondF rfl rfl ?_ | refine wOps rfl ?_ | refine wDraw rfl rfl ?_ | refine opsV_call rfl rfl (cmp_v hL _ _) ?_ | simp only [seval, push_cast, ↓reduceIte, ↓bP_some, ↓aP_true, reduceCtorEq, iaQ_tl hj, iaQ_tl hm', ha, hb, hj, hle, hne]))
        rw [show cmpL l m = cmpI a b by rw [hI, drop_at ha, drop_at hb]; exact if_neg e]
        exact FnQ.ret rfl rfl
    · have hle : m.length ≤ j := by omega
      (repeat' (first | refine wSeq rfl ?_ | refine wBlock rfl ?_ | refine wSkip rfl ?_ | refine wExit rfl ?_ | refine wRet rfl ?_ | refine wCondT rfl rfl ?_ | refine wCondF rfl rfl ?_ | refine wOps rfl ?_ | refine wDraw rfl rfl ?_ | simp only [seval, push_cast, ↓reduceIte, ↓bP_some, ↓aP_true, reduceCtorEq, hj, hle, iaQ_tl hj, ha]))
      rw [show cmpL l m = 1 by rw [hI, drop_at ha, List.drop_eq_nil_of_le hle]; rfl]
      exact FnQ.ret rfl rfl
  · rintro ⟨hI, hjm⟩
    rw [List.drop_eq_nil_of_le (Nat.le_refl _)] at hI
    by_cases hlt : l.length < m.length
    · obtain ⟨b, hb, _⟩ := get_of hlt
      (repeat' (first | refine wSeq rfl ?_ | refine wBlock rfl ?_ | refine wSkip rfl ?_ | refine wExit rfl ?_ | refine wRet rfl ?_ | refine wCondT rfl rfl ?_ | refine wCondF rfl rfl ?_ | refine wOps rfl ?_ | refine wDraw rfl rfl ?_ | simp only [seval, push_cast, ↓reduceIte, ↓bP_some, ↓aP_true, reduceCtorEq, hlt]))
      rw [show cmpL l m = -1 by rw [hI, drop_at hb]; rfl]
      exact FnQ.ret rfl rfl
    · (repeat' (first | refine wSeq rfl ?_ | refine wBlock rfl ?_ | refine wSkip rfl ?_ | refine wExit rfl ?_ | refine wRet rfl ?_ | refine wCondT rfl rfl ?_ | refine wCondF rfl rfl ?_ | refine wOps rfl ?_ | refine wDraw rfl rfl ?_ | simp only [seval, push_cast, ↓reduceIte, ↓bP_some, ↓aP_true, reduceCtorEq, hlt]))
      rw [show cmpL l m = 0 by rw [hI, List.drop_eq_nil_of_le (by omega)]; rfl]
      exact FnQ.ret rfl rfl
omit hL
theorem maxOf_snoc {l : List Int} {j : Nat} {x : Int} (hj : 0 < j) (hx : l[j]? = some x) : Lib.maxOf (l.take (j + 1)) = max (Lib.maxOf (l.take j)) x := by
  have hd : (l.take (j + 1)).headD 0 = (l.take j).headD 0 := by
    cases l with
    | nil => simp at hx
    | cons a r => cases j with | zero => omega | succ j => rfl
  unfold Lib.maxOf
  rw [hd, take_snoc hx, List.foldl_append]; rfl
theorem pick_max (x y : Int) : (if x < y then y else x) = max x y := by
  rw [Int.max_def]; split <;> split <;> omega
include hL
theorem max_v (s : Nat) (l : List Int) (c : Option Nat) (hs : s = 1 ∨ l = []) (hl : l.length < 4611686018427387904) (hne : l ≠ []) : VFn L 35 [tl mrow s l c] (.int .i64 (Lib.maxOf l)) := by
  refine VFn.start (F := T35.1) (by rw [hL]; rfl) rfl rfl rfl ?_
  have hn : 0 < l.length := List.length_pos_iff.2 hne
  have h1 : ¬ (l.length : Int) < 1 := by omega
  obtain rfl := size_of hs hn
  obtain ⟨a, ha, _⟩ := get_of hn
  (repeat' (first | refine wSeq rfl ?_ | refine wBlock rfl ?_ | refine wSkip rfl ?_ | refine wExit rfl ?_ | refine wRet rfl ?_ | refine wCondT rfl rfl ?_ | refine wCondF rfl rfl ?_ | refine wOps rfl ?_ | refine wDraw rfl rfl ?_ | simp only [seval, push_cast, ↓reduceIte, ↓bP_some, ↓aP_true, reduceCtorEq, h1, iaQ_tl hn, ha]))
  refine wWhile rfl (fun j : Nat => [(0, tl mrow 1 l c), (3, V.int IntKind.i64 (Lib.maxOf (l.take j))), (4, V.int IntKind.i64 j)]) (fun _ => []) (fun j => l.length - j) (fun j => 0 < j ∧ j ≤ l.length) 1 ?_ rfl ⟨by omega, by omega⟩ ?_
  · rw [take_snoc ha]; simp [Lib.maxOf]
  rintro j ⟨hj0, hjl⟩
  by_cases hj : j < l.length
  · obtain ⟨x, hx, _⟩ := get_of hj
    (repeat' (first | refine wSeq rfl ?_ | refine wBlock rfl ?_ | refine wSkip rfl ?_ | refine wExit rfl ?_ | refine wRet rfl ?_ | refine wCondT rfl rfl ?_ | refine wCondF rfl rfl ?_ | refine wOps rfl ?_ | refine wDraw rfl rfl ?_ | simp only [seval, push_cast, ↓reduceIte, ↓bP_some, ↓aP_true, reduceCtorEq, iaQ_tl hj, hx, hj, wrap_succ (show j < 9223372036854775807 by omega)]))
    exact qW_n (j + 1) (by rw [maxOf_snoc hj0 hx, pick_max]; rfl) rfl ⟨by omega, by omega, by omega⟩
  · (repeat' (first | refine wSeq rfl ?_ | refine wBlock rfl ?_ | refine wSkip rfl ?_ | refine wExit rfl ?_ | refine wRet rfl ?_ | refine wCondT rfl rfl ?_ | refine wCondF rfl rfl ?_ | refine wOps rfl ?_ | refine wDraw rfl rfl ?_ | simp only [seval, push_cast, ↓reduceIte, ↓bP_some, ↓aP_true, reduceCtorEq, hj]))
    rw [List.take_of_length_le (by omega)]
    exact FnQ.ret rfl rfl
end Go.Proofs.YtnhfbabenifbkaaGreatDoor
