/- Generic functions of the library, walked: lists of numbers. · Calls of closures; results; lists that may be nil. · Generic functions of the library that take functions, walked: IndexFunc, DeleteFunc. · Sorting numbers: the library's insertion sort, walked. · Sorting few numbers: Sort, walked. · Generic functions of the library, walked: copies. Lists that may be nil. · Ranges over functions: rounds; slices.Values, Collect, Sorted, walked. -/
import Derived.Test.YtncdaicaljpgfaaGreatM1
import Derived.Test.YtncdaicaljpgfaaGreatAlXl
import Derived.Test.YtncdaicaljpgfaaGreatM3
set_option maxRecDepth 100000
set_option linter.unusedVariables false
set_option linter.unusedSimpArgs false
namespace Go.Proofs.YtncdaicaljpgfaaGreat
def sortedB : List Int → Bool
  | x :: y :: r => decide (x ≤ y) && sortedB (y :: r)
  | _ => true
/-- From one place down: each is not less than the one before. -/
theorem sortedB_iff : ∀ (l : List Int), sortedB l = true ↔ ∀ i x y, l[i]? = some x → l[i + 1]? = some y → x ≤ y
  | [] => by simp [sortedB]
  | [a] => by simp [sortedB]
  | a :: b :: r => by
    simp only [sortedB, Bool.and_eq_true, decide_eq_true_eq, sortedB_iff (b :: r)]
    constructor
    · rintro ⟨h1, h2⟩ i x y hx hy
      cases i with
      | zero => simp at hx hy; subst hx; subst hy; exact h1
      | succ i => exact h2 i x y (by simpa using hx) (by simpa using hy)
    · intro h
      exact ⟨h 0 a b rfl rfl, fun i x y hx hy => h (i + 1) x y (by simpa using hx) (by simpa using hy)⟩
theorem sortedB_pw (l : List Int) : sortedB l = decide (l.Pairwise (· ≤ ·)) := by
  by_cases h : l.Pairwise (· ≤ ·)
  · rw [decide_eq_true h]
    refine (sortedB_iff l).2 fun i x y hx hy => ?_
    obtain ⟨h1, rfl⟩ := List.getElem?_eq_some_iff.1 hx
    obtain ⟨h2, rfl⟩ := List.getElem?_eq_some_iff.1 hy
    exact List.pairwise_iff_getElem.1 h i (i + 1) h1 h2 (by omega)
  · rw [decide_eq_false h, Bool.eq_false_iff]
    intro hs
    exact h (adj_pw l fun j x y _ hx hy => (sortedB_iff l).1 hs j x y hx hy)
variable {L : Lib} (hL : L.T = tab.get)
include hL
theorem isNaN_v (x : Int) : VFn L 82 [.int .i64 x] (.bool false) := by
  refine VFn.start (F := T82.1) (by rw [hL]; rfl) rfl rfl rfl ?_
  (repeat' (first | refine wSeq rfl ?_ | refine wBlock rfl ?_ | refine wSkip rfl ?_ | refine wExit rfl ?_ | refine wRet rfl ?_ | refine wCondT rfl rfl ?_ | refine wCondF rfl rfl ?_ | refine wOps rfl ?_ | refine wDraw rfl rfl ?_ | simp only [seval, push_cast, ↓reduceIte, ↓bP_some, ↓aP_true, reduceCtorEq]))
  exact FnQ.ret rfl rfl
theorem less_v (x y : Int) : VFn L 122 [.int .i64 x, .int .i64 y] (.bool (decide (x < y))) := by
  refine VFn.start (F := T122.1) (by rw [hL]; rfl) rfl rfl rfl ?_
  (repeat' (first | refine wSeq rfl ?_ | refine wBlock rfl ?_ | refine wSkip rfl ?_ | refine wExit rfl ?_ | refine wRet rfl ?_ | refine wCondT rfl rfl ?_ | refine wCondF rfl rfl ?_ | refine wOps rfl ?_ | refine wDraw rfl rfl ?_ | refine opsV_call rfl rfl (isNaN_v hL _) ?_ | simp only [seval, push_cast, ↓reduceIte, ↓bP_some, ↓aP_true, reduceCtorEq]))
  exact FnQ.ret rfl rfl
theorem isSorted_v (s : Nat) (l : List Int) (c : Option Nat) (hs : s = 1 ∨ l = []) (hl : l.length < 4611686018427387904) : VFn L 77 [tl mrow s l c] (.bool (sortedB l)) := by
  refine VFn.start (F := T77.1) (by rw [hL]; rfl) rfl rfl rfl ?_
  (repeat' (first | refine wSeq rfl ?_ | refine wBlock rfl ?_ | refine wSkip rfl ?_ | refine wExit rfl ?_ | refine wRet rfl ?_ | refine wCondT rfl rfl ?_ | refine wCondF rfl rfl ?_ | refine wOps rfl ?_ | refine wDraw rfl rfl ?_ | simp only [seval, push_cast, ↓reduceIte, ↓bP_some, ↓aP_true, reduceCtorEq, wrap_pred (show l.length < 9223372036854775807 by omega)]))
  refine wWhile rfl (fun j : Nat => [(0, tl mrow s l c), (3, V.int IntKind.i64 ((j : Int) - 1))]) (fun _ => []) (fun j => j) (fun j => j ≤ l.length ∧ ∀ i x y, j ≤ i + 1 → l[i]? = some x → l[i + 1]? = some y → x ≤ y) l.length rfl rfl ⟨by omega, fun i x y hi hx hy => ?_⟩ ?_
  · have := (List.getElem?_eq_some_iff.1 hy).1
    omega
  rintro j ⟨hj, hall⟩
  by_cases hlt : 1 < j
  · obtain ⟨i, rfl⟩ : ∃ i, j = i + 2 := ⟨j - 2, by omega⟩
    obtain rfl := size_of hs (show i < l.length by omega)
    obtain ⟨x, hx, _⟩ := get_of (show i < l.length by omega)
    obtain ⟨y, hy, _⟩ := get_of (show i + 1 < l.length by omega)
    have e1 : (((i + 2 : Nat) : Int) - 1) = ((i + 1 : Nat) : Int) := by omega
    rw [e1]
    have hp : (0 : Int) < (i : Int) + 1 := by omega
    have hw := wrap_nat (n := i) (by omega)
    cases hlt2 : decide (y < x) with
    | true =>
      (repeat' (first | refine wSeq rfl ?_ | refine wBlock rfl ?_ | refine wSkip rfl ?_ | refine wExit rfl ?_ | refine wRet rfl ?_ | refine wCondT rfl rfl ?_ | refine wCondF rfl rfl ?_ | refine wOps rfl ?_ | refine wDraw rfl rfl ?_ | refine opsV_call rfl rfl (less_v hL _ _) ?_ | simp only [seval, push_cast, ↓reduceIte, ↓bP_some, ↓aP_true, reduceCtorEq, hp, add_sub1, hw, iaQ_tl (show i < l.length by omega), iaQ_tl (show i + 1 < l.length by omega), hx, hy, hlt2]))
      rw [Bool.eq_false_iff.2 (fun h => by
        have := (sortedB_iff l).1 h i x y hx hy
        have := of_decide_eq_true hlt2
        omega : ¬ sortedB l = true)]
      exact FnQ.ret rfl rfl
    | false =>
      (repeat' (first | refine wSeq rfl ?_ | refine wBlock rfl ?_ | refine wSkip rfl ?_ | refine wExit rfl ?_ | refine wRet rfl ?_ | refine wCondT rfl rfl ?_ | refine wCondF rfl rfl ?_ | refine wOps rfl ?_ | refine wDraw rfl rfl ?_ | refine opsV_call rfl rfl (less_v hL _ _) ?_ | simp only [seval, push_cast, ↓reduceIte, ↓bP_some, ↓aP_true, reduceCtorEq, hp, add_sub1, hw, iaQ_tl (show i < l.length by omega), iaQ_tl (show i + 1 < l.length by omega), hx, hy, hlt2]))
      refine qW_n (i + 1) (by simp) rfl ⟨by omega, by omega, fun k u v hk hu hv => ?_⟩
      by_cases h : k = i
      · subst h; rw [hx] at hu; rw [hy] at hv; cases hu; cases hv
        have := of_decide_eq_false hlt2
        omega
      · exact hall k u v (by omega) hu hv
  · have hp : ¬ (0 : Int) < (j : Int) - 1 := by omega
    (repeat' (first | refine wSeq rfl ?_ | refine wBlock rfl ?_ | refine wSkip rfl ?_ | refine wExit rfl ?_ | refine wRet rfl ?_ | refine wCondT rfl rfl ?_ | refine wCondF rfl rfl ?_ | refine wOps rfl ?_ | refine wDraw rfl rfl ?_ | simp only [seval, push_cast, ↓reduceIte, ↓bP_some, ↓aP_true, reduceCtorEq, hp]))
    rw [(sortedB_iff l).2 (fun i x y hx hy => hall i x y (by omega) hx hy)]
    exact FnQ.ret rfl rfl
theorem index_v (s : Nat) (l : List Int) (c : Option Nat) (x : Int) (hs : s = 1 ∨ l = []) (hl : l.length < 4611686018427387904) : VFn L 78 [tl mrow s l c, .int .i64 x] (.int .i64 (placeL l x)) := by
  refine VFn.start (F := T78.1) (by rw [hL]; rfl) rfl rfl rfl ?_
  (repeat' (first | refine wSeq rfl ?_ | refine wBlock rfl ?_ | refine wSkip rfl ?_ | refine wExit rfl ?_ | refine wRet rfl ?_ | refine wCondT rfl rfl ?_ | refine wCondF rfl rfl ?_ | refine wOps rfl ?_ | refine wDraw rfl rfl ?_ | simp only [seval, push_cast, ↓reduceIte, ↓bP_some, ↓aP_true, reduceCtorEq]))
  refine wCnt rfl 8 l.length (fun _ => []) (fun j => placeL l x = placeGo l x j) rfl (place_start l x) ?_ ?_
  · intro j hj hI
    obtain ⟨a, ha, _⟩ := get_of hj
    obtain rfl := size_of hs hj
    by_cases e : a = x
    · subst e
      (repeat' (first | refine wSeq rfl ?_ | refine wBlock rfl ?_ | refine wSkip rfl ?_ | refine wExit rfl ?_ | refine wRet rfl ?_ | refine wCondT rfl rfl ?_ | refine wCondF rfl rfl ?_ | refine wOps rfl ?_ | refine wDraw rfl rfl ?_ | simp only [seval, push_cast, ↓reduceIte, ↓bP_some, ↓aP_true, reduceCtorEq, iaQ_tl hj, ha, hj]))
      rw [hI, place_hit ha rfl]
      exact FnQ.ret rfl rfl
    · (repeat' (first | refine wSeq rfl ?_ | refine wBlock rfl ?_ | refine wSkip rfl ?_ | refine wExit rfl ?_ | refine wRet rfl ?_ | refine wCondT rfl rfl ?_ | refine wCondF rfl rfl ?_ | refine wOps rfl ?_ | refine wDraw rfl rfl ?_ | simp only [seval, push_cast, ↓reduceIte, ↓bP_some, ↓aP_true, reduceCtorEq, iaQ_tl hj, ha, hj, ne_both e, wrap_succ (show j < 9223372036854775807 by omega)]))
      exact qR_n rfl rfl (by rw [hI, place_miss ha e])
  · intro hI
    (repeat' (first | refine wSeq rfl ?_ | refine wBlock rfl ?_ | refine wSkip rfl ?_ | refine wExit rfl ?_ | refine wRet rfl ?_ | refine wCondT rfl rfl ?_ | refine wCondF rfl rfl ?_ | refine wOps rfl ?_ | refine wDraw rfl rfl ?_ | simp only [seval, push_cast, ↓reduceIte, ↓bP_some, ↓aP_true, reduceCtorEq]))
    rw [hI, place_end (by omega)]
    exact FnQ.ret rfl rfl
omit hL
def cmpI (x y : Int) : Int := if x < y then -1 else if y < x then 1 else 0
def cmpL : List Int → List Int → Int
  | [], [] => 0
  | [], _ :: _ => -1
  | _ :: _, [] => 1
  | a :: r, b :: s => if a = b then cmpL r s else cmpI a b
theorem cmpL_ahead : ∀ (l m : List Int), aheadL l m = decide (cmpL l m < 0)
  | [], [] => rfl
  | [], _ :: _ => rfl
  | _ :: _, [] => rfl
  | a :: r, b :: s => by
    unfold aheadL cmpL
    by_cases h : a = b
    · rw [if_pos h, if_pos h]; exact cmpL_ahead r s
    · rw [if_neg h, if_neg h]
      unfold cmpI
      by_cases h1 : a < b
      · rw [if_pos h1, decide_eq_true h1]; rfl
      · rw [if_neg h1, if_pos (by omega), decide_eq_false h1]; rfl
theorem cmpL_zero : ∀ (l m : List Int), cmpL l m = 0 ↔ l = m
  | [], [] => by simp [cmpL]
  | [], _ :: _ => by simp [cmpL]
  | _ :: _, [] => by simp [cmpL]
  | a :: r, b :: s => by
    unfold cmpL
    by_cases h : a = b
    · rw [if_pos h, cmpL_zero r s]; simp [h]
    · rw [if_neg h]
      have : cmpI a b ≠ 0 := by unfold cmpI; split; omega; rw [if_pos (by omega)]; omega
      simp [this, h]
theorem drop_at {α : Type} {l : List α} {j : Nat} {x : α} (h : l[j]? = some x) : l.drop j = x :: l.drop (j + 1) := by
  obtain ⟨h1, rfl⟩ := List.getElem?_eq_some_iff.1 h
  exact List.drop_eq_getElem_cons h1
include hL
theorem cmp_v (x y : Int) : VFn L 46 [.int .i64 x, .int .i64 y] (.int .i64 (cmpI x y)) := by
  refine VFn.start (F := T46.1) (by rw [hL]; rfl) rfl rfl rfl ?_
  by_cases h : x < y
  · (repeat' (first | refine wSeq rfl ?_ | refine wBlock rfl ?_ | refine wSkip rfl ?_ | refine wExit rfl ?_ | refine wRet rfl ?_ | refine wCondT rfl rfl ?_ | refine wCondF rfl rfl ?_ | refine wOps rfl ?_ | refine wDraw rfl rfl ?_ | refine opsV_call rfl rfl (isNaN_v hL _) ?_ | simp only [seval, push_cast, ↓reduceIte, ↓bP_some, ↓aP_true, reduceCtorEq, h]))
    rw [show cmpI x y = -1 from if_pos h]
    exact FnQ.ret rfl rfl
  · by_cases h2 : y < x
    · (repeat' (first | refine wSeq rfl ?_ | refine wBlock rfl ?_ | refine wSkip rfl ?_ | refine wExit rfl ?_ | refine wRet rfl ?_ | refine wCondT rfl rfl ?_ | refine wCondF rfl rfl ?_ | refine wOps rfl ?_ | refine wDraw rfl rfl ?_ | refine opsV_call rfl rfl (isNaN_v hL _) ?_ | simp only [seval, push_cast, ↓reduceIte, ↓bP_some, ↓aP_true, reduceCtorEq, h, h2]))
      rw [show cmpI x y = 1 by unfold cmpI; rw [if_neg h, if_pos h2]]
      exact FnQ.ret rfl rfl
    · (repeat' (first | refine wSeq rfl ?_ | refine wBlock rfl ?_ | refine wSkip rfl ?_ | refine wExit rfl ?_ | refine wRet rfl ?_ | refine wCondT rfl rfl ?_ | refine wCondF rfl rfl ?_ | refine wOps rfl ?_ | refine wDraw rfl rfl ?_ | refine opsV_call rfl rfl (isNaN_v hL _) ?_ | simp only [seval, push_cast, ↓reduceIte, ↓bP_some, ↓aP_true, reduceCtorEq, h, h2]))
      rw [show cmpI x y = 0 by unfold cmpI; rw [if_neg h, if_neg h2]]
      exact FnQ.ret rfl rfl
theorem compare_v (s t : Nat) (l m : List Int) (c d : Option Nat) (hs : s = 1 ∨ l = []) (ht : t = 1 ∨ m = []) (hl : l.length < 4611686018427387904) (hm : m.length < 4611686018427387904) : VFn L 99 [tl mrow s l c, tl mrow t m d] (.int .i64 (cmpL l m)) := by
  refine VFn.start (F := T99.1) (by rw [hL]; rfl) rfl rfl rfl ?_
  (repeat' (first | refine wSeq rfl ?_ | refine wBlock rfl ?_ | refine wSkip rfl ?_ | refine wExit rfl ?_ | refine wRet rfl ?_ | refine wCondT rfl rfl ?_ | refine wCondF rfl rfl ?_ | refine wOps rfl ?_ | refine wDraw rfl rfl ?_ | simp only [seval, push_cast, ↓reduceIte, ↓bP_some, ↓aP_true, reduceCtorEq]))
  refine wCnt rfl 11 l.length (fun _ => []) (fun j => cmpL l m = cmpL (l.drop j) (m.drop j) ∧ j ≤ m.length) rfl ⟨rfl, by omega⟩ ?_ ?_
  · rintro j hj ⟨hI, hjm⟩
    obtain ⟨a, ha, _⟩ := get_of hj
    obtain rfl := size_of hs hj
    by_cases hm' : j < m.length
    · obtain ⟨b, hb, _⟩ := get_of hm'
      obtain rfl := size_of ht hm'
      have hle : ¬ m.length ≤ j := by omega
      by_cases e : a = b
      · subst e
        (repeat' (first | refine wSeq rfl ?_ | refine wBlock rfl ?_ | refine wSkip rfl ?_ | refine wExit rfl ?_ | refine wRet rfl ?_ | refine wCondT rfl rfl ?_ | refine wCondF rfl rfl ?_ | refine wOps rfl ?_ | refine wDraw rfl rfl ?_ | refine opsV_call rfl rfl (cmp_v hL _ _) ?_ | simp only [seval, push_cast, ↓reduceIte, ↓bP_some, ↓aP_true, reduceCtorEq, iaQ_tl hj, iaQ_tl hm', ha, hb, hj, hle, wrap_succ (show j < 9223372036854775807 by omega), (show cmpI a a = 0 by simp [cmpI])]))
        exact qR_n rfl rfl ⟨by rw [hI, drop_at ha, drop_at hb]; exact if_pos rfl, by omega⟩
      · have hne : cmpI a b ≠ 0 := by unfold cmpI; split; omega; rw [if_pos (by omega)]; omega
        (repeat' (first | refine wSeq rfl ?_ | refine wBlock rfl ?_ | refine wSkip rfl ?_ | refine wExit rfl ?_ | refine wRet rfl ?_ | refine wCondT rfl rfl ?_ | refine wCondF rfl rfl ?_ | refine wOps rfl ?_ | refine wDraw rfl rfl ?_ | refine opsV_call rfl rfl (cmp_v hL _ _) ?_ | simp only [seval, push_cast, ↓reduceIte, ↓bP_some, ↓aP_true, reduceCtorEq, iaQ_tl hj, iaQ_tl hm', ha, hb, hj, hle, hne]))
        rw [show cmpL l m = cmpI a b by rw [hI, drop_at ha, drop_at hb]; exact if_neg e]
        exact FnQ.ret rfl rfl
    · have hle : m.length ≤ j := by omega
      (repeat' (first | refine wSeq rfl ?_ | refine wBlock rfl ?_ | refine wSkip rfl ?_ | refine wExit rfl ?_ | refine wRet rfl ?_ | refine wCondT rfl rfl ?_ | refine wCondF rfl rfl ?_ | refine wOps rfl ?_ | refine wDraw rfl rfl ?_ | simp only [seval, push_cast, ↓reduceIte, ↓bP_some, ↓aP_true, reduceCtorEq, hj, hle, iaQ_tl hj, ha]))
      rw [show cmpL l m = 1 by rw [hI, drop_at ha, List.drop_eq_nil_of_le hle]; rfl]
      exact FnQ.ret rfl rfl
  · rintro ⟨hI, hjm⟩
    rw [List.drop_eq_nil_of_le (Nat.le_refl _)] at hI
    by_cases hlt : l.length < m.length
    · obtain ⟨b, hb, _⟩ := get_of hlt
      (repeat' (first | refine wSeq rfl ?_ | refine wBlock rfl ?_ | refine wSkip rfl ?_ | refine wExit rfl ?_ | refine wRet rfl ?_ | refine wCondT rfl rfl ?_ | refine wCondF rfl rfl ?_ | refine wOps rfl ?_ | refine wDraw rfl rfl ?_ | simp only [seval, push_cast, ↓reduceIte, ↓bP_some, ↓aP_true, reduceCtorEq, hlt]))
      rw [show cmpL l m = -1 by rw [hI, drop_at hb]; rfl]
      exact FnQ.ret rfl rfl
    · (repeat' (first | refine wSeq rfl ?_ | refine wBlock rfl ?_ | refine wSkip rfl ?_ | refine wExit rfl ?_ | refine wRet rfl ?_ | refine wCondT rfl rfl ?_ | refine wCondF rfl rfl ?_ | refine wOps rfl ?_ | refine wDraw rfl rfl ?_ | simp only [seval, push_cast, ↓reduceIte, ↓bP_some, ↓aP_true, reduceCtorEq, hlt]))
      rw [show cmpL l m = 0 by rw [hI, List.drop_eq_nil_of_le (by omega)]; rfl]
      exact FnQ.ret rfl rfl
omit hL
theorem maxOf_snoc {l : List Int} {j : Nat} {x : Int} (hj : 0 < j) (hx : l[j]? = some x) : Lib.maxOf (l.take (j + 1)) = max (Lib.maxOf (l.take j)) x := by
  have hd : (l.take (j + 1)).headD 0 = (l.take j).headD 0 := by
    cases l with
    | nil => simp at hx
    | cons a r => cases j with | zero => omega | succ j => rfl
  unfold Lib.maxOf
  rw [hd, take_snoc hx, List.foldl_append]; rfl
theorem pick_max (x y : Int) : (if x < y then y else x) = max x y := by
  rw [Int.max_def]; split <;> split <;> omega
include hL
end Go.Proofs.YtncdaicaljpgfaaGreat
set_option maxRecDepth 100000
set_option maxHeartbeats 4000000
set_option linter.unusedVariables false
set_option linter.unusedSimpArgs false
namespace Go.Proofs.YtncdaicaljpgfaaGreat
/-- A call of whatever is called, in a smaller memory: src are the blocks handed over. -/
theorem opsP_frm {L : Lib} {l : List AI} {K : Env → Heap → Prop} {E : Env} {H : Heap} {d : Option Nat} {anc : List Nat} (src : List Nat) {c : ACallee} {args : List AOpd} {k : Nat} {vs vs' : List V} {H0 : Heap} {Post : V → Heap → Prop} (hv : callee L.G E.get c args = some (.fn k, vs)) (hn : nodupO (src.map some) = true) (hlt : (src.all fun a => Nat.blt a H.length) = true) (hvs : vs.map (V.ren (sgOf H (src.map some) [])) = vs') (hH : H.sh (src.map some) [] = H0) (hf : AFn L (.fn k) vs' H0 Post) (h : ∀ r h', Post r h' → opsP L l K (E.put d (r.ren (outσ H.length src))) (H.back src h')) : opsP L (⟨d, .call c args, none, anc⟩ :: l) K E H := by
  show stepP L ⟨d, .call c args, none, anc⟩ (opsP L l K) E H
  unfold stepP AI.goes
  show CallP L E.get H c args _
  unfold CallP
  rw [hv]
  show AFn L (.fn k) vs H _
  refine AFn.frame (k' := .fn k) src [] rfl hn hlt ?_
  rw [hvs, hH]
  exact hf.mono fun r h' hp => ⟨rfl, h r h' hp⟩
/-- A call as it stands. -/
theorem opsP_all {L : Lib} {l : List AI} {K : Env → Heap → Prop} {E : Env} {H : Heap} {d : Option Nat} {anc : List Nat} {c : ACallee} {args : List AOpd} {k : Nat} {vs : List V} {Post : V → Heap → Prop} (hv : callee L.G E.get c args = some (.fn k, vs)) (hf : AFn L (.fn k) vs H Post) (h : ∀ r h', Post r h' → opsP L l K (E.put d r) h') : opsP L (⟨d, .call c args, none, anc⟩ :: l) K E H := by
  show stepP L ⟨d, .call c args, none, anc⟩ (opsP L l K) E H
  unfold stepP AI.goes
  show CallP L E.get H c args _
  unfold CallP
  rw [hv]
  show AFn L (.fn k) vs H _
  exact hf.mono h
theorem FnQ.at {F : AFunc} {n0 : Nat} {P : V → Heap → Prop} {E : Env} {H : Heap} {r : V} (h : resV E.get H.get F.results = some r) (hP : P r H) : FnQ F n0 P .ret E H := by
  have : ResP F.results n0 P E H := by
    unfold ResP
    rw [h]
    exact .inl hP
  exact this
theorem FnQ.sh {F : AFunc} {n0 : Nat} {P : V → Heap → Prop} {E : Env} {H : Heap} {r0 r : V} {H1 : Heap} (src : List (Option Nat)) (fz : List Nat) (ho : okSh n0 src = true) (h : resV E.get H.get F.results = some r0) (hr : r0.ren (sgOf H src fz) = r) (hH : H.sh src fz = H1) (hP : P r H1) : FnQ F n0 P .ret E H := by
  have : ResP F.results n0 P E H := by
    unfold ResP
    rw [h]
    refine .inr ⟨src, fz, ho, ?_⟩
    rw [hr, hH]; exact hP
  exact this
theorem rel_nilcase {N : Nums} {w : World} {S : Nat → Prop} {β : Nat → Option Nat} {s : Nat} {c : Option Nat} {x : Value} (h : Rel N w S β (.lst s [] c) x) : Rel N w S β (.lst 0 [] c) x ∨ Rel N w S β (.lst 1000003 [] c) x := by
  cases h with
  | lst _ _ _ _ a cc b off ys hc hlc ha hn hr hy h hz =>
    by_cases e : a = none
    · exact .inl (.lst β 0 [] c a cc b off ys hc hlc ha hn (fun i row h => by simp at h) (fun i row j x h => by simp at h) (fun i row j x h => by simp at h) ⟨fun _ _ => e, fun h => by simp at h⟩)
    · exact .inr (.lst β 1000003 [] c a cc b off ys hc hlc ha hn (fun i row h => by simp at h) (fun i row j x h => by simp at h) (fun i row j x h => by simp at h) ⟨fun h => by simp at h, fun _ _ => e⟩)
theorem rel_weak {N : Nums} {w : World} {S : Nat → Prop} {β : Nat → Option Nat} {s : Nat} {c : Option Nat} {x : Value} (h : Rel N w S β (.lst s [] c) x) : Rel N w S β (.lst 1 [] none) x := by
  cases h with
  | lst _ _ _ _ a cc b off ys hc hlc ha hn hr hy h hz =>
    exact .lst β 1 [] none a cc b off ys (fun k h => by cases h) hlc ha hn (fun i row h => by simp at h) (fun i row j x h => by simp at h) (fun i row j x h => by simp at h) ⟨fun h => by simp at h, fun h => by simp at h⟩
theorem AFn.nilcase {L : Lib} {k : Tgt} {s : Nat} {c : Option Nat} {H : Heap} {Post : V → Heap → Prop} (h0 : AFn L k [.lst 0 [] c] H Post) (h1 : AFn L k [.lst 1000003 [] c] H Post) : AFn L k [.lst s [] c] H Post := by
  intro C hC A w β vs hA hd hh hg ha
  obtain ⟨hn, har⟩ := ha
  have hsz : vs.size = 1 := hn
  have hr := har 0 _ vs[0] rfl (by simp [hsz])
  have go : ∀ v, Rel C.N w (Imm A w β H.get) β v vs[0] → RArgs C w (Imm A w β H.get) β [v] vs := fun v hv => ⟨hn, fun i u x hu hx => by
    match i with
    | 0 =>
      have hu : some v = some u := hu
      cases hu
      rw [Array.getElem?_eq_getElem (by omega)] at hx
      cases hx
      exact hv
    | i + 1 => simp at hu⟩
  rcases rel_nilcase hr with h | h
  · exact h0 C hC A w β vs hA hd hh hg (go _ h)
  · exact h1 C hC A w β vs hA hd hh hg (go _ h)
theorem AFn.weakE {L : Lib} {k : Tgt} {args : List V} {H H1 : Heap} (h : AFn L k args H (fun r H' => (∃ s c, r = .lst s [] c) ∧ H' = H1)) : AFn L k args H (fun r H' => r = .lst 1 [] none ∧ H' = H1) := by
  intro C hC A w β vs hA hd hh hg ha
  refine (h C hC A w β vs hA hd hh hg ha).mono ?_
  rintro e w' ⟨v, r, H', β', h1, ⟨⟨s, c, rfl⟩, rfl⟩, h3, h4, h5, h6, h7, h8⟩
  exact ⟨v, _, _, β', h1, ⟨rfl, rfl⟩, h3, h4, h5, h6, rel_weak h7, h8⟩
end Go.Proofs.YtncdaicaljpgfaaGreat
set_option maxRecDepth 100000
set_option maxHeartbeats 4000000
set_option linter.unusedVariables false
set_option linter.unusedSimpArgs false
namespace Go.Proofs.YtncdaicaljpgfaaGreat
/-- A value is a slice of these things in this memory. -/
structure IsSl (H : Heap) (v : V) (l : List Int) : Prop where
  len : lenQ v = some (.int .i64 l.length)
  at' : ∀ i x, l[i]? = some x → ∃ p, iaQ 1 v i = some p ∧ loadQ H.get 1 true p = some (.int .i64 x)
theorem IsSl.tl {H : Heap} {s : Nat} {l : List Int} {c : Option Nat} (hs : s = 1 ∨ l = []) : IsSl H (tl mrow s l c) l :=
  ⟨lenQ_tl, fun i x hx => by
    have hi := (List.getElem?_eq_some_iff.1 hx).1
    obtain rfl := size_of hs hi
    refine ⟨_, iaQ_tl hi, ?_⟩
    rw [loadQ_iptr, row_tl, hx]; rfl⟩
/-- The first place where p holds, or -1. -/
def findL (p : Int → Bool) (l : List Int) (j : Nat) : Int := match l with | [] => -1 | x :: r => if p x then (j : Int) else findL p r (j + 1)
theorem drop_at' {α : Type} {l : List α} {j : Nat} {x : α} (h : l[j]? = some x) : l.drop j = x :: l.drop (j + 1) := by
  obtain ⟨h1, rfl⟩ := List.getElem?_eq_some_iff.1 h
  exact List.drop_eq_getElem_cons h1
variable {L : Lib} (hL : L.T = tab.get)
include hL
theorem indexFunc_a {H : Heap} {v : V} {l : List Int} {kf : Nat} {fs cs : List V} {p : Int → Bool} (hv : IsSl H v l) (hl : l.length < 4611686018427387904) (hf : ∀ x ∈ l, AFn L (.fn kf) (fs ++ [.int .i64 x] ++ cs) H (fun r H' => r = .bool (p x) ∧ H' = H)) : AFn L (.fn 43) [v, .fn kf fs cs] H (fun r H' => r = .int .i64 (findL p l 0) ∧ H' = H) := by
  refine AFn.of_body (F := T43.1) (by rw [hL]; rfl) rfl ?_
  (repeat' (first | refine wSeq rfl ?_ | refine wBlock rfl ?_ | refine wSkip rfl ?_ | refine wExit rfl ?_ | refine wRet rfl ?_ | refine wCondT rfl rfl ?_ | refine wCondF rfl rfl ?_ | refine wOps rfl ?_ | refine wDraw rfl rfl ?_ | simp only [seval, push_cast, ↓reduceIte, ↓bP_some, ↓aP_true, reduceCtorEq, hv.len]))
  refine wCnt rfl 8 l.length (fun _ => []) (fun j => findL p l 0 = findL p (l.drop j) j) rfl rfl ?_ ?_
  · intro j hj hI
    obtain ⟨x, hx, hm⟩ := get_of hj
    obtain ⟨q, hq1, hq2⟩ := hv.at' j x hx
    have hd := drop_at' hx
    (repeat' (first | refine wSeq rfl ?_ | refine wBlock rfl ?_ | refine wSkip rfl ?_ | refine wExit rfl ?_ | refine wRet rfl ?_ | refine wCondT rfl rfl ?_ | refine wCondF rfl rfl ?_ | refine wOpsP rfl ?_ | refine wDraw rfl rfl ?_ | simp only [seval, push_cast, ↓reduceIte, ↓bP_some, ↓aP_true, reduceCtorEq, hj, hq1, hq2]))
    refine opsP_all (k := kf) (vs := fs ++ [.int .i64 x] ++ cs) rfl (hf x hm) ?_
    rintro r h' ⟨rfl, rfl⟩
    cases hp : p x with
    | true =>
      (repeat' (first | refine wSeq rfl ?_ | refine wBlock rfl ?_ | refine wSkip rfl ?_ | refine wExit rfl ?_ | refine wRet rfl ?_ | refine wCondT rfl rfl ?_ | refine wCondF rfl rfl ?_ | refine wOps rfl ?_ | refine wDraw rfl rfl ?_ | simp only [seval, push_cast, ↓reduceIte, ↓bP_some, ↓aP_true, reduceCtorEq]))
      rw [show findL p l 0 = (j : Int) by rw [hI, hd]; exact if_pos hp]
      exact FnQ.at rfl ⟨rfl, rfl⟩
    | false =>
      (repeat' (first | refine wSeq rfl ?_ | refine wBlock rfl ?_ | refine wSkip rfl ?_ | refine wExit rfl ?_ | refine wRet rfl ?_ | refine wCondT rfl rfl ?_ | refine wCondF rfl rfl ?_ | refine wOps rfl ?_ | refine wDraw rfl rfl ?_ | simp only [seval, push_cast, ↓reduceIte, ↓bP_some, ↓aP_true, reduceCtorEq, wrap_succ (show j < 9223372036854775807 by omega)]))
      refine qR_n rfl rfl ?_
      rw [hI, hd]
      exact if_neg (by rw [hp]; simp)
  · intro hI
    (repeat' (first | refine wSeq rfl ?_ | refine wBlock rfl ?_ | refine wSkip rfl ?_ | refine wExit rfl ?_ | refine wRet rfl ?_ | refine wCondT rfl rfl ?_ | refine wCondF rfl rfl ?_ | refine wOps rfl ?_ | refine wDraw rfl rfl ?_ | simp only [seval, push_cast, ↓reduceIte, ↓bP_some, ↓aP_true, reduceCtorEq]))
    rw [show findL p l 0 = -1 by rw [hI, List.drop_eq_nil_of_le (Nat.le_refl _)]; rfl]
    exact FnQ.at rfl ⟨rfl, rfl⟩
omit hL
/-- What DeleteFunc keeps, and how it gets there: i places are filled, j looked at. -/
theorem findL_ge (p : Int → Bool) : ∀ (l : List Int) (j : Nat), findL p l j = -1 ∧ (∀ x ∈ l, p x = false) ∨ ∃ i, i < l.length ∧ findL p l j = ((j + i : Nat) : Int) ∧ (∀ x ∈ l.take i, p x = false) ∧ ∃ x, l[i]? = some x ∧ p x = true
  | [], j => .inl ⟨rfl, fun x h => by cases h⟩
  | a :: r, j => by
    unfold findL
    cases hp : p a with
    | true => exact .inr ⟨0, by simp, by simp, fun x h => by simp at h, a, rfl, hp⟩
    | false =>
      rw [if_neg (by simp)]
      rcases findL_ge p r (j + 1) with ⟨h1, h2⟩ | ⟨i, h1, h2, h3, x, h4, h5⟩
      · left
        refine ⟨h1, fun x hx => ?_⟩
        rcases List.mem_cons.1 hx with rfl | hx
        · exact hp
        · exact h2 x hx
      · right
        refine ⟨i + 1, by simp; omega, by rw [h2]; congr 1; omega, fun x hx => ?_, x, h4, h5⟩
        rw [List.take_succ_cons] at hx
        rcases List.mem_cons.1 hx with rfl | hx
        · exact hp
        · exact h3 x hx
def clrR (size : Nat) (zero : List V) (a off len : Nat) : Option Blk → Option Eff
  | some (.arr s rows) => if s = size ∧ off + len ≤ rows.length then some { v := .tup [], need := [a], upd := [(a, some (.arr size (over rows off (List.replicate len zero))))] } else none
  | _ => none
theorem clrV_ref {g : Nat → Option Blk} {size : Nat} {zero : List V} {a off len : Nat} {c : Option Nat} : clrV size zero g (.ref a size off len c) = clrR size zero a off len (g a) := by
  unfold clrV clrR
  dsimp only
  cases g a with
  | none => rfl
  | some k => cases k <;> simp
theorem clrR_arr {size : Nat} {zero : List V} {a off len : Nat} {rows : List (List V)} : clrR size zero a off len (some (.arr size rows)) = if off + len ≤ rows.length then some { v := .tup [], need := [a], upd := [(a, some (.arr size (over rows off (List.replicate len zero))))] } else none := by simp [clrR]
theorem mrow_set {r : List Int} {i : Nat} {x : Int} : (r.map mrow).set i [.int .i64 x] = (r.set i x).map mrow := by rw [List.map_set]; rfl
theorem over_zero {r : List Int} {i n : Nat} : over (r.map mrow) i (List.replicate n [.int .i64 0]) = (r.take i ++ (List.replicate n 0 ++ r.drop (i + n))).map mrow := by
  unfold over
  simp [List.map_take, List.map_drop, mrow]
theorem set_fill {l r : List Int} {p : Int → Bool} {i j : Nat} {x : Int} (hx : l[j]? = some x) (hij : i ≤ j) (hr : r.length = l.length) (h1 : r.take i = (l.take j).filter fun x => !p x) (h2 : r.drop j = l.drop j) (hp : p x = false) : (r.set i x).take (i + 1) = (l.take (j + 1)).filter (fun x => !p x) ∧ (r.set i x).drop (j + 1) = l.drop (j + 1) := by
  have hj := (List.getElem?_eq_some_iff.1 hx).1
  constructor
  · rw [take_snoc hx, List.filter_append, ← h1, List.take_add_one]
    have e1 : (r.set i x).take i = r.take i := by rw [List.take_set_of_le (Nat.le_refl _)]
    rw [e1]
    congr 1
    rw [List.getElem?_set_self (by omega)]
    simp [hp]
  · rw [List.drop_set_of_lt (by omega)]
    have := congrArg (List.drop 1) h2
    rw [List.drop_drop, List.drop_drop] at this
    exact this
include hL
theorem deleteFunc_a {Hc : Heap} {l : List Int} {kf : Nat} {fs cs : List V} {p : Int → Bool} (hl : l.length < 4611686018427387904) (hf : ∀ (b : Blk) (x : Int), AFn L (.fn kf) (fs ++ [.int .i64 x] ++ cs) (some b :: Hc) (fun r H' => r = .bool (p x) ∧ H' = some b :: Hc)) :
    AFn L (.fn 159) [.ref 0 1 0 l.length none, .fn kf fs cs] (some (.arr 1 (l.map mrow)) :: Hc) (fun r H' => r = .ref 0 1 0 (l.filter fun x => !p x).length none ∧ ∃ t : List Int, H' = some (.arr 1 (((l.filter fun x => !p x) ++ t).map mrow)) :: Hc) := by
  refine AFn.of_body (F := T159.1) (by rw [hL]; rfl) rfl ?_
  have hv : IsSl (some (.arr 1 (l.map mrow)) :: Hc) (.ref 0 1 0 l.length none) l := ⟨rfl, fun i x hx => by
    have hi := (List.getElem?_eq_some_iff.1 hx).1
    refine ⟨.ptr 0 1 (0 + i) 0, by rw [iaQ_ref, if_pos ⟨rfl, hi⟩], ?_⟩
    rw [loadQ_ptr, Heap.get_cons0, loadB_arr, Nat.zero_add, row_tl, hx]; rfl⟩
  (repeat' (first | refine wSeq rfl ?_ | refine wBlock rfl ?_ | refine wSkip rfl ?_ | refine wExit rfl ?_ | refine wRet rfl ?_ | refine wCondT rfl rfl ?_ | refine wCondF rfl rfl ?_ | refine wOpsP rfl ?_ | refine wDraw rfl rfl ?_ | simp only [seval, push_cast, ↓reduceIte, ↓bP_some, ↓aP_true, reduceCtorEq]))
  refine opsP_all (vs := [.ref 0 1 0 l.length none, .fn kf fs cs]) rfl (indexFunc_a hL hv hl (fun x _ => hf _ x)) ?_
  rintro r h' ⟨rfl, rfl⟩
  rcases findL_ge p l 0 with ⟨h1, h2⟩ | ⟨i, h1, h2, h3, x, h4, h5⟩
  · (repeat' (first | refine wSeq rfl ?_ | refine wBlock rfl ?_ | refine wSkip rfl ?_ | refine wExit rfl ?_ | refine wRet rfl ?_ | refine wCondT rfl rfl ?_ | refine wCondF rfl rfl ?_ | refine wOps rfl ?_ | refine wDraw rfl rfl ?_ | simp only [seval, push_cast, ↓reduceIte, ↓bP_some, ↓aP_true, reduceCtorEq, h1]))
    have e : (l.filter fun x => !p x) = l := List.filter_eq_self.2 fun x hx => by rw [h2 x hx]; rfl
    refine FnQ.at rfl ⟨by rw [e], [], by rw [e, List.append_nil]⟩
  · rw [Nat.zero_add] at h2
    (repeat' (first | refine wSeq rfl ?_ | refine wBlock rfl ?_ | refine wSkip rfl ?_ | refine wExit rfl ?_ | refine wRet rfl ?_ | refine wCondT rfl rfl ?_ | refine wCondF rfl rfl ?_ | refine wOps rfl ?_ | refine wDraw rfl rfl ?_ | simp only [seval, push_cast, ↓reduceIte, ↓bP_some, ↓aP_true, reduceCtorEq, h2, wrap_succ (show i < 9223372036854775807 by omega)]))
    refine wWhile rfl (fun s : Nat × Nat × List Int => [(0, .ref 0 1 0 l.length none), (1, .fn kf fs cs), (5, .int .i64 (s.2.1 : Nat)), (6, .int .i64 (s.1 : Nat))]) (fun s => some (.arr 1 (s.2.2.map mrow)) :: Hc) (fun s => l.length - s.1) (fun s => s.2.1 ≤ s.1 ∧ s.1 ≤ l.length ∧ s.2.2.length = l.length ∧ s.2.2.take s.2.1 = (l.take s.1).filter (fun x => !p x) ∧ s.2.2.drop s.1 = l.drop s.1) (i + 1, i, l) rfl rfl ?_ ?_
    · refine ⟨Nat.le_succ i, h1, rfl, ?_, rfl⟩
      show l.take i = (l.take (i + 1)).filter _
      rw [take_snoc h4, List.filter_append]
      have e1 : (l.take i).filter (fun x => !p x) = l.take i := List.filter_eq_self.2 fun x hx => by rw [h3 x hx]; rfl
      rw [e1]; simp [h5]
    · rintro ⟨j, i', r⟩ ⟨g1, g2, g3, g4, g5⟩
      dsimp only at g1 g2 g3 g4 g5 ⊢
      by_cases hj : j < l.length
      · obtain ⟨x, hx, hm⟩ := get_of hj
        have hrx : r[j]? = some x := by
          have := congrArg (fun q => q[0]?) g5
          simp only [List.getElem?_drop, Nat.add_zero] at this
          rw [this, hx]
        have hi' : i' < l.length := by omega
        (repeat' (first | refine wSeq rfl ?_ | refine wBlock rfl ?_ | refine wSkip rfl ?_ | refine wExit rfl ?_ | refine wRet rfl ?_ | refine wCondT rfl rfl ?_ | refine wCondF rfl rfl ?_ | refine wOpsP rfl ?_ | refine wDraw rfl rfl ?_ | simp only [seval, push_cast, ↓reduceIte, ↓bP_some, ↓aP_true, reduceCtorEq, hj, hrx]))
        refine opsP_all (k := kf) (vs := fs ++ [.int .i64 x] ++ cs) rfl (hf _ x) ?_
        rintro v h' ⟨rfl, rfl⟩
        have hw := wrap_succ (show j < 9223372036854775807 by omega)
        have hw2 := wrap_succ (show i' < 9223372036854775807 by omega)
        cases hp : p x with
        | true =>
          (repeat' (first | refine wSeq rfl ?_ | refine wBlock rfl ?_ | refine wSkip rfl ?_ | refine wExit rfl ?_ | refine wRet rfl ?_ | refine wCondT rfl rfl ?_ | refine wCondF rfl rfl ?_ | refine wOps rfl ?_ | refine wDraw rfl rfl ?_ | simp only [seval, push_cast, ↓reduceIte, ↓bP_some, ↓aP_true, reduceCtorEq, hw]))
          refine qW_n (j + 1, i', r) rfl rfl ⟨by dsimp only; omega, by dsimp only; omega, hj, g3, ?_, ?_⟩
          · dsimp only; rw [g4, take_snoc hx, List.filter_append]; simp [hp]
          · dsimp only
            have := congrArg (List.drop 1) g5
            rw [List.drop_drop, List.drop_drop] at this
            exact this
        | false =>
          obtain ⟨f1, f2⟩ := set_fill hx g1 g3 g4 g5 hp
          obtain ⟨z, hz, _⟩ := get_of (show i' < r.length by omega)
          (repeat' (first | refine wSeq rfl ?_ | refine wBlock rfl ?_ | refine wSkip rfl ?_ | refine wExit rfl ?_ | refine wRet rfl ?_ | refine wCondT rfl rfl ?_ | refine wCondF rfl rfl ?_ | refine wOps rfl ?_ | refine wDraw rfl rfl ?_ | simp only [seval, push_cast, ↓reduceIte, ↓bP_some, ↓aP_true, reduceCtorEq, hw, hw2, hi', hz, mrow_set, Nat.succ_pos Hc.length]))
          exact qW_n (j + 1, i' + 1, r.set i' x) rfl rfl ⟨by dsimp only; omega, by dsimp only; omega, hj, by dsimp only; rw [List.length_set, g3], f1, f2⟩
      · obtain rfl : j = l.length := by omega
        have q1 : i' + (l.length - i') ≤ r.length := by omega
        have q2 : i' ≤ l.length := g1
        (repeat' (first | refine wSeq rfl ?_ | refine wBlock rfl ?_ | refine wSkip rfl ?_ | refine wExit rfl ?_ | refine wRet rfl ?_ | refine wCondT rfl rfl ?_ | refine wCondF rfl rfl ?_ | refine wOps rfl ?_ | refine wDraw rfl rfl ?_ | simp only [seval, push_cast, ↓reduceIte, ↓bP_some, ↓aP_true, reduceCtorEq, q2, clrV_ref, clrR_arr, q1, over_zero, Nat.succ_pos Hc.length, Nat.zero_le, Nat.sub_zero]))
        rw [take_all] at g4
        have g6 : (l.filter fun x => !p x).length = i' := by rw [← g4, List.length_take]; omega
        rw [g4]
        exact FnQ.at rfl ⟨by rw [g6], _, rfl⟩
end Go.Proofs.YtncdaicaljpgfaaGreat
set_option maxRecDepth 100000
set_option maxHeartbeats 4000000
set_option linter.unusedVariables false
set_option linter.unusedSimpArgs false
namespace Go.Proofs.YtncdaicaljpgfaaGreat
/-- All pairs up to i are in order, but for those that end at j. -/
def UpBut (r : List Int) (i j : Nat) : Prop := ∀ (p q : Nat) (x y : Int), p < q → q ≤ i → q ≠ j → r[p]? = some x → r[q]? = some y → x ≤ y
def UpTo (r : List Int) (i : Nat) : Prop := ∀ (p q : Nat) (x y : Int), p < q → q < i → r[p]? = some x → r[q]? = some y → x ≤ y
theorem upBut_start {r : List Int} {i : Nat} (h : UpTo r i) : UpBut r i i := fun p q x y h1 h2 h3 hx hy => h p q x y h1 (by omega) hx hy
theorem upBut_stop {r : List Int} {i j : Nat} (h : UpBut r i j) (hs : ∀ x y, 0 < j → r[j - 1]? = some x → r[j]? = some y → x ≤ y) : UpTo r (i + 1) := fun p q x y h1 h2 hx hy => by
  by_cases e : q = j
  · subst e
    by_cases e2 : p = q - 1
    · subst e2; exact hs x y (by omega) hx hy
    · have hq := (List.getElem?_eq_some_iff.1 hy).1
      obtain ⟨z, hz, _⟩ := get_of (show q - 1 < r.length by omega)
      have a1 := h p (q - 1) x z (by omega) (by omega) (by omega) hx hz
      have a2 := hs z y (by omega) hz hy
      omega
  · exact h p q x y h1 (by omega) e hx hy
theorem upBut_swap {r : List Int} {i j : Nat} {a b : Int} (hj : 0 < j) (hji : j ≤ i) (ha : r[j - 1]? = some a) (hb : r[j]? = some b) (hab : b < a) (h : UpBut r i j) : UpBut ((r.set j a).set (j - 1) b) i (j - 1) := by
  have hl := (List.getElem?_eq_some_iff.1 hb).1
  intro p q x y h1 h2 h3 hx hy
  have key : ∀ s, ((r.set j a).set (j - 1) b)[s]? = if s = j - 1 then (if j - 1 < r.length then some b else none) else if s = j then some a else r[s]? := fun s => by
    rw [List.getElem?_set, List.length_set]
    by_cases e : j - 1 = s
    · subst e; simp
    · rw [if_neg e, if_neg (fun h => e h.symm), List.getElem?_set]
      by_cases e2 : j = s
      · subst e2; simp [hl]
      · rw [if_neg e2, if_neg (fun h => e2 h.symm)]
  rw [key] at hx hy
  rw [if_neg h3] at hy
  have hl' : j - 1 < r.length := by omega
  by_cases eq : q = j
  · subst eq
    rw [if_pos rfl] at hy
    rw [← Option.some.inj hy]
    by_cases ep : p = q - 1
    · rw [if_pos ep, if_pos hl'] at hx
      have := Option.some.inj hx
      omega
    · rw [if_neg ep, if_neg (by omega)] at hx
      exact h p (q - 1) x a (by omega) (by omega) (by omega) hx ha
  · rw [if_neg eq] at hy
    by_cases ep : p = j - 1
    · rw [if_pos ep, if_pos hl'] at hx
      rw [← Option.some.inj hx]
      exact h j q b y (by omega) h2 eq hb hy
    · rw [if_neg ep] at hx
      by_cases ep2 : p = j
      · rw [if_pos ep2] at hx
        rw [← Option.some.inj hx]
        exact h (j - 1) q a y (by omega) h2 eq ha hy
      · rw [if_neg ep2] at hx
        exact h p q x y h1 h2 eq hx hy
theorem swap_perm {r : List Int} {j : Nat} {a b : Int} (ha : r[j - 1]? = some a) (hb : r[j]? = some b) : ((r.set j a).set (j - 1) b).Perm r := by
  obtain ⟨h1, rfl⟩ := List.getElem?_eq_some_iff.1 ha
  obtain ⟨h2, rfl⟩ := List.getElem?_eq_some_iff.1 hb
  exact List.set_set_perm h2 h1
theorem upTo_sorted {r : List Int} (h : UpTo r r.length) : r.Pairwise (· ≤ ·) := by
  rw [List.pairwise_iff_getElem]
  intro i j hi hj hij
  exact h i j _ _ hij hj (List.getElem?_eq_getElem hi) (List.getElem?_eq_getElem hj)
theorem FnQ.atN {F : AFunc} {n0 : Nat} {P : V → Heap → Prop} {E : Env} {H : Heap} {r : V} (h : resV E.get H.get F.results = some r) (hP : P r H) : FnQ F n0 P .normal E H := by
  have : ResP F.results n0 P E H := by
    unfold ResP
    rw [h]
    exact .inl hP
  exact this
variable {L : Lib} (hL : L.T = tab.get)
include hL
theorem insertion_a {Hc : Heap} {l : List Int} {c : Option Nat} (hl : l.length < 4611686018427387904) :
    AFn L (.fn 301) [.ref 0 1 0 l.length c, .int .i64 0, .int .i64 l.length] (some (.arr 1 (l.map mrow)) :: Hc) (fun r H' => r = .tup [] ∧ ∃ m : List Int, m.Perm l ∧ m.Pairwise (· ≤ ·) ∧ H' = some (.arr 1 (m.map mrow)) :: Hc) := by
  refine AFn.of_body (F := T301.1) (by rw [hL]; rfl) rfl ?_
  (repeat' (first | refine wSeq rfl ?_ | refine wBlock rfl ?_ | refine wSkip rfl ?_ | refine wExit rfl ?_ | refine wRet rfl ?_ | refine wCondT rfl rfl ?_ | refine wCondF rfl rfl ?_ | refine wOps rfl ?_ | refine wDraw rfl rfl ?_ | simp only [seval, push_cast, ↓reduceIte, ↓bP_some, ↓aP_true, reduceCtorEq]))
  refine wWhile rfl (fun s : Nat × List Int => [(0, .ref 0 1 0 l.length c), (1, .int .i64 0), (2, .int .i64 l.length), (6, .int .i64 (s.1 : Nat))]) (fun s => some (.arr 1 (s.2.map mrow)) :: Hc) (fun s => l.length - s.1) (fun s => 1 ≤ s.1 ∧ s.2.Perm l ∧ UpTo s.2 s.1) (1, l) rfl rfl ⟨Nat.le_refl 1, .refl _, fun p q x y h1 h2 => by omega⟩ ?_
  rintro ⟨i, r⟩ ⟨g1, g2, g3⟩
  dsimp only at g1 g2 g3 ⊢
  have hrl := g2.length_eq
  by_cases hi : i < l.length
  · (repeat' (first | refine wSeq rfl ?_ | refine wBlock rfl ?_ | refine wSkip rfl ?_ | refine wExit rfl ?_ | refine wRet rfl ?_ | refine wCondT rfl rfl ?_ | refine wCondF rfl rfl ?_ | refine wOps rfl ?_ | refine wDraw rfl rfl ?_ | simp only [seval, push_cast, ↓reduceIte, ↓bP_some, ↓aP_true, reduceCtorEq, hi]))
    refine wWhile rfl (fun s : Nat × List Int => [(0, .ref 0 1 0 l.length c), (1, .int .i64 0), (2, .int .i64 l.length), (6, .int .i64 (i : Nat)), (7, .int .i64 (s.1 : Nat))]) (fun s => some (.arr 1 (s.2.map mrow)) :: Hc) (fun s => s.1) (fun s => s.1 ≤ i ∧ s.2.Perm l ∧ UpBut s.2 i s.1) (i, r) rfl rfl ⟨Nat.le_refl i, g2, upBut_start g3⟩ ?_
    rintro ⟨j, t⟩ ⟨f1, f2, f3⟩
    dsimp only at f1 f2 f3 ⊢
    have htl := f2.length_eq
    have hw := wrap_succ (show i < 9223372036854775807 by omega)
    cases j with
    | zero =>
      (repeat' (first | refine wSeq rfl ?_ | refine wBlock rfl ?_ | refine wSkip rfl ?_ | refine wExit rfl ?_ | refine wRet rfl ?_ | refine wCondT rfl rfl ?_ | refine wCondF rfl rfl ?_ | refine wOps rfl ?_ | refine wDraw rfl rfl ?_ | simp only [seval, push_cast, ↓reduceIte, ↓bP_some, ↓aP_true, reduceCtorEq, hw]))
      exact qW_n (i + 1, t) rfl rfl ⟨by dsimp only; omega, by dsimp only; omega, f2, upBut_stop f3 (fun x y h => by omega)⟩
    | succ j =>
      obtain ⟨b, hb, _⟩ := get_of (show j + 1 < t.length by omega)
      obtain ⟨a, ha, _⟩ := get_of (show j < t.length by omega)
      have hj1 : j + 1 < l.length := by omega
      have hj2 : j < l.length := by omega
      have hpos : (0 : Int) < (j : Int) + 1 := by omega
      have hwj : IntKind.i64.wrap (j : Int) = j := wrap_nat (by omega)
      have hz2 : (t.set (j + 1) a)[j]? = some a := by rw [List.getElem?_set_ne (by omega)]; exact ha
      by_cases hab : b < a
      · (repeat' (first | refine wSeq rfl ?_ | refine wBlock rfl ?_ | refine wSkip rfl ?_ | refine wExit rfl ?_ | refine wRet rfl ?_ | refine wCondT rfl rfl ?_ | refine wCondF rfl rfl ?_ | refine wOps rfl ?_ | refine wDraw rfl rfl ?_ | refine opsV_call rfl rfl (less_v hL _ _) ?_ | simp only [seval, push_cast, ↓reduceIte, ↓bP_some, ↓aP_true, reduceCtorEq, hw, ha, hb, hab, hj1, hj2, hpos, hwj, hz2, mrow_set, Nat.succ_pos Hc.length]))
        exact qW_n (j, (t.set (j + 1) a).set j b) rfl rfl ⟨Nat.lt_succ_self j, by dsimp only; omega, (swap_perm (j := j + 1) ha hb).trans f2, upBut_swap (j := j + 1) (Nat.succ_pos j) f1 ha hb hab f3⟩
      · (repeat' (first | refine wSeq rfl ?_ | refine wBlock rfl ?_ | refine wSkip rfl ?_ | refine wExit rfl ?_ | refine wRet rfl ?_ | refine wCondT rfl rfl ?_ | refine wCondF rfl rfl ?_ | refine wOps rfl ?_ | refine wDraw rfl rfl ?_ | refine opsV_call rfl rfl (less_v hL _ _) ?_ | simp only [seval, push_cast, ↓reduceIte, ↓bP_some, ↓aP_true, reduceCtorEq, hw, ha, hb, hab, hj1, hj2, hpos, hwj]))
        exact qW_n (i + 1, t) rfl rfl ⟨by dsimp only; omega, by dsimp only; omega, f2, upBut_stop f3 (fun x y _ hx hy => by
          have hx : t[j]? = some x := hx
          rw [ha] at hx; rw [hb] at hy
          have e1 := Option.some.inj hx
          have e2 := Option.some.inj hy
          omega)⟩
  · (repeat' (first | refine wSeq rfl ?_ | refine wBlock rfl ?_ | refine wSkip rfl ?_ | refine wExit rfl ?_ | refine wRet rfl ?_ | refine wCondT rfl rfl ?_ | refine wCondF rfl rfl ?_ | refine wOps rfl ?_ | refine wDraw rfl rfl ?_ | simp only [seval, push_cast, ↓reduceIte, ↓bP_some, ↓aP_true, reduceCtorEq, hi]))
    refine Eq.mpr (if_pos rfl) ?_
    refine FnQ.atN rfl ⟨rfl, r, g2, upTo_sorted ?_, rfl⟩
    intro p q x y h1 h2 hx hy
    exact g3 p q x y h1 (by omega) hx hy
end Go.Proofs.YtncdaicaljpgfaaGreat
set_option maxRecDepth 100000
set_option maxHeartbeats 4000000
set_option linter.unusedVariables false
set_option linter.unusedSimpArgs false
namespace Go.Proofs.YtncdaicaljpgfaaGreat
variable {L : Lib} (hL : L.T = tab.get)
include hL
omit hL
theorem lit_get {l : List UInt8} {n : Nat} {b : UInt8} (h : l[n]? = some b) : (some n : Option Nat).bind (fun i => Option.map (fun b : UInt8 => V.int IntKind.u8 b.toNat) l[i]?) = some (.int .u8 b.toNat) := by
  show Option.map _ l[n]? = _
  rw [h]; rfl
include hL
theorem len64_v (n : Int) (h0 : 0 ≤ n) (h : n ≤ 12) : ∃ v : Int, VFn L 132 [.int .u64 n] (.int .i64 v) := by
  have : n = 0 ∨ n = 1 ∨ n = 2 ∨ n = 3 ∨ n = 4 ∨ n = 5 ∨ n = 6 ∨ n = 7 ∨ n = 8 ∨ n = 9 ∨ n = 10 ∨ n = 11 ∨ n = 12 := by omega
  have w1 : ¬ (4294967296 : Int) ≤ n := by omega
  have w2 : ¬ (65536 : Int) ≤ n := by omega
  have w3 : ¬ (256 : Int) ≤ n := by omega
  rcases this with rfl | rfl | rfl | rfl | rfl | rfl | rfl | rfl | rfl | rfl | rfl | rfl | rfl
  · refine ⟨0, ?_⟩
    refine VFn.start (F := T132.1) (by rw [hL]; rfl) rfl rfl rfl ?_
    (repeat' (first | refine wSeq rfl ?_ | refine wBlock rfl ?_ | refine wSkip rfl ?_ | refine wExit rfl ?_ | refine wRet rfl ?_ | refine wCondT rfl rfl ?_ | refine wCondF rfl rfl ?_ | refine wOps rfl ?_ | refine wDraw rfl rfl ?_ | simp only [seval, push_cast, ↓reduceIte, ↓bP_some, ↓aP_true, reduceCtorEq, w1, w2, w3]))
    refine ⟨_, rfl, ?_⟩
    refine ⟨_, rfl, ?_⟩
    refine ⟨_, rfl, ?_⟩
    (repeat' (first | refine wSeq rfl ?_ | refine wBlock rfl ?_ | refine wSkip rfl ?_ | refine wExit rfl ?_ | refine wRet rfl ?_ | refine wCondT rfl rfl ?_ | refine wCondF rfl rfl ?_ | refine wOps rfl ?_ | refine wDraw rfl rfl ?_ | simp only [seval, push_cast, ↓reduceIte, ↓bP_some, ↓aP_true, reduceCtorEq]))
    exact FnQ.ret rfl rfl
  · refine ⟨1, ?_⟩
    refine VFn.start (F := T132.1) (by rw [hL]; rfl) rfl rfl rfl ?_
    (repeat' (first | refine wSeq rfl ?_ | refine wBlock rfl ?_ | refine wSkip rfl ?_ | refine wExit rfl ?_ | refine wRet rfl ?_ | refine wCondT rfl rfl ?_ | refine wCondF rfl rfl ?_ | refine wOps rfl ?_ | refine wDraw rfl rfl ?_ | simp only [seval, push_cast, ↓reduceIte, ↓bP_some, ↓aP_true, reduceCtorEq, w1, w2, w3]))
    refine ⟨_, rfl, ?_⟩
    refine ⟨_, rfl, ?_⟩
    refine ⟨_, rfl, ?_⟩
    (repeat' (first | refine wSeq rfl ?_ | refine wBlock rfl ?_ | refine wSkip rfl ?_ | refine wExit rfl ?_ | refine wRet rfl ?_ | refine wCondT rfl rfl ?_ | refine wCondF rfl rfl ?_ | refine wOps rfl ?_ | refine wDraw rfl rfl ?_ | simp only [seval, push_cast, ↓reduceIte, ↓bP_some, ↓aP_true, reduceCtorEq]))
    exact FnQ.ret rfl rfl
  · refine ⟨2, ?_⟩
    refine VFn.start (F := T132.1) (by rw [hL]; rfl) rfl rfl rfl ?_
    (repeat' (first | refine wSeq rfl ?_ | refine wBlock rfl ?_ | refine wSkip rfl ?_ | refine wExit rfl ?_ | refine wRet rfl ?_ | refine wCondT rfl rfl ?_ | refine wCondF rfl rfl ?_ | refine wOps rfl ?_ | refine wDraw rfl rfl ?_ | simp only [seval, push_cast, ↓reduceIte, ↓bP_some, ↓aP_true, reduceCtorEq, w1, w2, w3]))
    refine ⟨_, rfl, ?_⟩
    refine ⟨_, rfl, ?_⟩
    refine ⟨_, rfl, ?_⟩
    (repeat' (first | refine wSeq rfl ?_ | refine wBlock rfl ?_ | refine wSkip rfl ?_ | refine wExit rfl ?_ | refine wRet rfl ?_ | refine wCondT rfl rfl ?_ | refine wCondF rfl rfl ?_ | refine wOps rfl ?_ | refine wDraw rfl rfl ?_ | simp only [seval, push_cast, ↓reduceIte, ↓bP_some, ↓aP_true, reduceCtorEq]))
    exact FnQ.ret rfl rfl
  · refine ⟨2, ?_⟩
    refine VFn.start (F := T132.1) (by rw [hL]; rfl) rfl rfl rfl ?_
    (repeat' (first | refine wSeq rfl ?_ | refine wBlock rfl ?_ | refine wSkip rfl ?_ | refine wExit rfl ?_ | refine wRet rfl ?_ | refine wCondT rfl rfl ?_ | refine wCondF rfl rfl ?_ | refine wOps rfl ?_ | refine wDraw rfl rfl ?_ | simp only [seval, push_cast, ↓reduceIte, ↓bP_some, ↓aP_true, reduceCtorEq, w1, w2, w3]))
    refine ⟨_, rfl, ?_⟩
    refine ⟨_, rfl, ?_⟩
    refine ⟨_, rfl, ?_⟩
    (repeat' (first | refine wSeq rfl ?_ | refine wBlock rfl ?_ | refine wSkip rfl ?_ | refine wExit rfl ?_ | refine wRet rfl ?_ | refine wCondT rfl rfl ?_ | refine wCondF rfl rfl ?_ | refine wOps rfl ?_ | refine wDraw rfl rfl ?_ | simp only [seval, push_cast, ↓reduceIte, ↓bP_some, ↓aP_true, reduceCtorEq]))
    exact FnQ.ret rfl rfl
  · refine ⟨3, ?_⟩
    refine VFn.start (F := T132.1) (by rw [hL]; rfl) rfl rfl rfl ?_
    (repeat' (first | refine wSeq rfl ?_ | refine wBlock rfl ?_ | refine wSkip rfl ?_ | refine wExit rfl ?_ | refine wRet rfl ?_ | refine wCondT rfl rfl ?_ | refine wCondF rfl rfl ?_ | refine wOps rfl ?_ | refine wDraw rfl rfl ?_ | simp only [seval, push_cast, ↓reduceIte, ↓bP_some, ↓aP_true, reduceCtorEq, w1, w2, w3]))
    refine ⟨_, rfl, ?_⟩
    refine ⟨_, rfl, ?_⟩
    refine ⟨_, rfl, ?_⟩
    (repeat' (first | refine wSeq rfl ?_ | refine wBlock rfl ?_ | refine wSkip rfl ?_ | refine wExit rfl ?_ | refine wRet rfl ?_ | refine wCondT rfl rfl ?_ | refine wCondF rfl rfl ?_ | refine wOps rfl ?_ | refine wDraw rfl rfl ?_ | simp only [seval, push_cast, ↓reduceIte, ↓bP_some, ↓aP_true, reduceCtorEq]))
    exact FnQ.ret rfl rfl
  · refine ⟨3, ?_⟩
    refine VFn.start (F := T132.1) (by rw [hL]; rfl) rfl rfl rfl ?_
    (repeat' (first | refine wSeq rfl ?_ | refine wBlock rfl ?_ | refine wSkip rfl ?_ | refine wExit rfl ?_ | refine wRet rfl ?_ | refine wCondT rfl rfl ?_ | refine wCondF rfl rfl ?_ | refine wOps rfl ?_ | refine wDraw rfl rfl ?_ | simp only [seval, push_cast, ↓reduceIte, ↓bP_some, ↓aP_true, reduceCtorEq, w1, w2, w3]))
    refine ⟨_, rfl, ?_⟩
    refine ⟨_, rfl, ?_⟩
    refine ⟨_, rfl, ?_⟩
    (repeat' (first | refine wSeq rfl ?_ | refine wBlock rfl ?_ | refine wSkip rfl ?_ | refine wExit rfl ?_ | refine wRet rfl ?_ | refine wCondT rfl rfl ?_ | refine wCondF rfl rfl ?_ | refine wOps rfl ?_ | refine wDraw rfl rfl ?_ | simp only [seval, push_cast, ↓reduceIte, ↓bP_some, ↓aP_true, reduceCtorEq]))
    exact FnQ.ret rfl rfl
  · refine ⟨3, ?_⟩
    refine VFn.start (F := T132.1) (by rw [hL]; rfl) rfl rfl rfl ?_
    (repeat' (first | refine wSeq rfl ?_ | refine wBlock rfl ?_ | refine wSkip rfl ?_ | refine wExit rfl ?_ | refine wRet rfl ?_ | refine wCondT rfl rfl ?_ | refine wCondF rfl rfl ?_ | refine wOps rfl ?_ | refine wDraw rfl rfl ?_ | simp only [seval, push_cast, ↓reduceIte, ↓bP_some, ↓aP_true, reduceCtorEq, w1, w2, w3]))
    refine ⟨_, rfl, ?_⟩
    refine ⟨_, rfl, ?_⟩
    refine ⟨_, rfl, ?_⟩
    (repeat' (first | refine wSeq rfl ?_ | refine wBlock rfl ?_ | refine wSkip rfl ?_ | refine wExit rfl ?_ | refine wRet rfl ?_ | refine wCondT rfl rfl ?_ | refine wCondF rfl rfl ?_ | refine wOps rfl ?_ | refine wDraw rfl rfl ?_ | simp only [seval, push_cast, ↓reduceIte, ↓bP_some, ↓aP_true, reduceCtorEq]))
    exact FnQ.ret rfl rfl
  · refine ⟨3, ?_⟩
    refine VFn.start (F := T132.1) (by rw [hL]; rfl) rfl rfl rfl ?_
    (repeat' (first | refine wSeq rfl ?_ | refine wBlock rfl ?_ | refine wSkip rfl ?_ | refine wExit rfl ?_ | refine wRet rfl ?_ | refine wCondT rfl rfl ?_ | refine wCondF rfl rfl ?_ | refine wOps rfl ?_ | refine wDraw rfl rfl ?_ | simp only [seval, push_cast, ↓reduceIte, ↓bP_some, ↓aP_true, reduceCtorEq, w1, w2, w3]))
    refine ⟨_, rfl, ?_⟩
    refine ⟨_, rfl, ?_⟩
    refine ⟨_, rfl, ?_⟩
    (repeat' (first | refine wSeq rfl ?_ | refine wBlock rfl ?_ | refine wSkip rfl ?_ | refine wExit rfl ?_ | refine wRet rfl ?_ | refine wCondT rfl rfl ?_ | refine wCondF rfl rfl ?_ | refine wOps rfl ?_ | refine wDraw rfl rfl ?_ | simp only [seval, push_cast, ↓reduceIte, ↓bP_some, ↓aP_true, reduceCtorEq]))
    exact FnQ.ret rfl rfl
  · refine ⟨4, ?_⟩
    refine VFn.start (F := T132.1) (by rw [hL]; rfl) rfl rfl rfl ?_
    (repeat' (first | refine wSeq rfl ?_ | refine wBlock rfl ?_ | refine wSkip rfl ?_ | refine wExit rfl ?_ | refine wRet rfl ?_ | refine wCondT rfl rfl ?_ | refine wCondF rfl rfl ?_ | refine wOps rfl ?_ | refine wDraw rfl rfl ?_ | simp only [seval, push_cast, ↓reduceIte, ↓bP_some, ↓aP_true, reduceCtorEq, w1, w2, w3]))
    refine ⟨_, rfl, ?_⟩
    refine ⟨_, rfl, ?_⟩
    refine ⟨_, rfl, ?_⟩
    (repeat' (first | refine wSeq rfl ?_ | refine wBlock rfl ?_ | refine wSkip rfl ?_ | refine wExit rfl ?_ | refine wRet rfl ?_ | refine wCondT rfl rfl ?_ | refine wCondF rfl rfl ?_ | refine wOps rfl ?_ | refine wDraw rfl rfl ?_ | simp only [seval, push_cast, ↓reduceIte, ↓bP_some, ↓aP_true, reduceCtorEq]))
    exact FnQ.ret rfl rfl
  · refine ⟨4, ?_⟩
    refine VFn.start (F := T132.1) (by rw [hL]; rfl) rfl rfl rfl ?_
    (repeat' (first | refine wSeq rfl ?_ | refine wBlock rfl ?_ | refine wSkip rfl ?_ | refine wExit rfl ?_ | refine wRet rfl ?_ | refine wCondT rfl rfl ?_ | refine wCondF rfl rfl ?_ | refine wOps rfl ?_ | refine wDraw rfl rfl ?_ | simp only [seval, push_cast, ↓reduceIte, ↓bP_some, ↓aP_true, reduceCtorEq, w1, w2, w3]))
    refine ⟨_, rfl, ?_⟩
    refine ⟨_, rfl, ?_⟩
    refine ⟨_, rfl, ?_⟩
    (repeat' (first | refine wSeq rfl ?_ | refine wBlock rfl ?_ | refine wSkip rfl ?_ | refine wExit rfl ?_ | refine wRet rfl ?_ | refine wCondT rfl rfl ?_ | refine wCondF rfl rfl ?_ | refine wOps rfl ?_ | refine wDraw rfl rfl ?_ | simp only [seval, push_cast, ↓reduceIte, ↓bP_some, ↓aP_true, reduceCtorEq]))
    exact FnQ.ret rfl rfl
  · refine ⟨4, ?_⟩
    refine VFn.start (F := T132.1) (by rw [hL]; rfl) rfl rfl rfl ?_
    (repeat' (first | refine wSeq rfl ?_ | refine wBlock rfl ?_ | refine wSkip rfl ?_ | refine wExit rfl ?_ | refine wRet rfl ?_ | refine wCondT rfl rfl ?_ | refine wCondF rfl rfl ?_ | refine wOps rfl ?_ | refine wDraw rfl rfl ?_ | simp only [seval, push_cast, ↓reduceIte, ↓bP_some, ↓aP_true, reduceCtorEq, w1, w2, w3]))
    refine ⟨_, rfl, ?_⟩
    refine ⟨_, rfl, ?_⟩
    refine ⟨_, rfl, ?_⟩
    (repeat' (first | refine wSeq rfl ?_ | refine wBlock rfl ?_ | refine wSkip rfl ?_ | refine wExit rfl ?_ | refine wRet rfl ?_ | refine wCondT rfl rfl ?_ | refine wCondF rfl rfl ?_ | refine wOps rfl ?_ | refine wDraw rfl rfl ?_ | simp only [seval, push_cast, ↓reduceIte, ↓bP_some, ↓aP_true, reduceCtorEq]))
    exact FnQ.ret rfl rfl
  · refine ⟨4, ?_⟩
    refine VFn.start (F := T132.1) (by rw [hL]; rfl) rfl rfl rfl ?_
    (repeat' (first | refine wSeq rfl ?_ | refine wBlock rfl ?_ | refine wSkip rfl ?_ | refine wExit rfl ?_ | refine wRet rfl ?_ | refine wCondT rfl rfl ?_ | refine wCondF rfl rfl ?_ | refine wOps rfl ?_ | refine wDraw rfl rfl ?_ | simp only [seval, push_cast, ↓reduceIte, ↓bP_some, ↓aP_true, reduceCtorEq, w1, w2, w3]))
    refine ⟨_, rfl, ?_⟩
    refine ⟨_, rfl, ?_⟩
    refine ⟨_, rfl, ?_⟩
    (repeat' (first | refine wSeq rfl ?_ | refine wBlock rfl ?_ | refine wSkip rfl ?_ | refine wExit rfl ?_ | refine wRet rfl ?_ | refine wCondT rfl rfl ?_ | refine wCondF rfl rfl ?_ | refine wOps rfl ?_ | refine wDraw rfl rfl ?_ | simp only [seval, push_cast, ↓reduceIte, ↓bP_some, ↓aP_true, reduceCtorEq]))
    exact FnQ.ret rfl rfl
  · refine ⟨4, ?_⟩
    refine VFn.start (F := T132.1) (by rw [hL]; rfl) rfl rfl rfl ?_
    (repeat' (first | refine wSeq rfl ?_ | refine wBlock rfl ?_ | refine wSkip rfl ?_ | refine wExit rfl ?_ | refine wRet rfl ?_ | refine wCondT rfl rfl ?_ | refine wCondF rfl rfl ?_ | refine wOps rfl ?_ | refine wDraw rfl rfl ?_ | simp only [seval, push_cast, ↓reduceIte, ↓bP_some, ↓aP_true, reduceCtorEq, w1, w2, w3]))
    refine ⟨_, rfl, ?_⟩
    refine ⟨_, rfl, ?_⟩
    refine ⟨_, rfl, ?_⟩
    (repeat' (first | refine wSeq rfl ?_ | refine wBlock rfl ?_ | refine wSkip rfl ?_ | refine wExit rfl ?_ | refine wRet rfl ?_ | refine wCondT rfl rfl ?_ | refine wCondF rfl rfl ?_ | refine wOps rfl ?_ | refine wDraw rfl rfl ?_ | simp only [seval, push_cast, ↓reduceIte, ↓bP_some, ↓aP_true, reduceCtorEq]))
    exact FnQ.ret rfl rfl
theorem len_v (n : Int) (h0 : 0 ≤ n) (h : n ≤ 12) : ∃ v : Int, VFn L 81 [.int .u64 n] (.int .i64 v) := by
  obtain ⟨v, hv⟩ := len64_v hL n h0 h
  refine ⟨v, ?_⟩
  refine VFn.start (F := T81.1) (by rw [hL]; rfl) rfl rfl rfl ?_
  (repeat' (first | refine wSeq rfl ?_ | refine wBlock rfl ?_ | refine wSkip rfl ?_ | refine wExit rfl ?_ | refine wRet rfl ?_ | refine wCondT rfl rfl ?_ | refine wCondF rfl rfl ?_ | refine wOps rfl ?_ | refine wDraw rfl rfl ?_ | refine opsV_call rfl rfl (hv) ?_ | simp only [seval, push_cast, ↓reduceIte, ↓bP_some, ↓aP_true, reduceCtorEq]))
  exact FnQ.ret rfl rfl
theorem pdq_a {Hc : Heap} {l : List Int} {c : Option Nat} {m : Int} (hl : l.length ≤ 12) :
    AFn L (.fn 287) [.ref 0 1 0 l.length c, .int .i64 0, .int .i64 l.length, .int .i64 m] (some (.arr 1 (l.map mrow)) :: Hc) (fun r H' => r = .tup [] ∧ ∃ m : List Int, m.Perm l ∧ m.Pairwise (· ≤ ·) ∧ H' = some (.arr 1 (m.map mrow)) :: Hc) := by
  refine AFn.of_body (F := T287.1) (by rw [hL]; rfl) rfl ?_
  have h12 : (l.length : Int) ≤ 12 := by omega
  have hw : IntKind.i64.wrap ((l.length : Int)) = l.length := wrap_nat (by omega)
  (repeat' (first | refine wSeq rfl ?_ | refine wBlock rfl ?_ | refine wSkip rfl ?_ | refine wExit rfl ?_ | refine wRet rfl ?_ | refine wCondT rfl rfl ?_ | refine wCondF rfl rfl ?_ | refine wOps rfl ?_ | refine wDraw rfl rfl ?_ | simp only [seval, push_cast, ↓reduceIte, ↓bP_some, ↓aP_true, reduceCtorEq]))
  refine wWhile rfl (fun _ : Unit => [(0, .ref 0 1 0 l.length c), (1, .int .i64 0), (2, .int .i64 l.length), (3, .int .i64 m), (8, .bool true), (9, .bool true)]) (fun _ => some (.arr 1 (l.map mrow)) :: Hc) (fun _ => 0) (fun _ => True) () rfl rfl trivial (fun _ _ => ?_)
  (repeat' (first | refine wSeq rfl ?_ | refine wBlock rfl ?_ | refine wSkip rfl ?_ | refine wExit rfl ?_ | refine wRet rfl ?_ | refine wCondT rfl rfl ?_ | refine wCondF rfl rfl ?_ | refine wOpsP rfl ?_ | refine wDraw rfl rfl ?_ | simp only [seval, push_cast, ↓reduceIte, ↓bP_some, ↓aP_true, reduceCtorEq, hw, h12, Int.sub_zero]))
  refine opsP_all rfl (insertion_a hL (c := c) (Hc := Hc) (by omega)) ?_
  rintro r h' ⟨rfl, q, q1, q2, rfl⟩
  (repeat' (first | refine wSeq rfl ?_ | refine wBlock rfl ?_ | refine wSkip rfl ?_ | refine wExit rfl ?_ | refine wRet rfl ?_ | refine wCondT rfl rfl ?_ | refine wCondF rfl rfl ?_ | refine wOps rfl ?_ | refine wDraw rfl rfl ?_ | simp only [seval, push_cast, ↓reduceIte, ↓bP_some, ↓aP_true, reduceCtorEq]))
  exact FnQ.at rfl ⟨rfl, q, q1, q2, rfl⟩
theorem sort_a {Hc : Heap} {l : List Int} {c : Option Nat} (hl : l.length ≤ 12) :
    AFn L (.fn 245) [.ref 0 1 0 l.length c] (some (.arr 1 (l.map mrow)) :: Hc) (fun r H' => r = .tup [] ∧ ∃ m : List Int, m.Perm l ∧ m.Pairwise (· ≤ ·) ∧ H' = some (.arr 1 (m.map mrow)) :: Hc) := by
  refine AFn.of_body (F := T245.1) (by rw [hL]; rfl) rfl ?_
  obtain ⟨v, hv⟩ := len_v hL (l.length : Int) (by omega) (by omega)
  have h13 : 13 ≤ limN .u64 := by decide
  have hw : IntKind.u64.wrap ((l.length : Nat) : Int) = l.length := wrap_pos (Nat.ble_eq_true_of_le (Nat.le_trans (Nat.succ_le_succ hl) h13))
  (repeat' (first | refine wSeq rfl ?_ | refine wBlock rfl ?_ | refine wSkip rfl ?_ | refine wExit rfl ?_ | refine wRet rfl ?_ | refine wCondT rfl rfl ?_ | refine wCondF rfl rfl ?_ | refine wOpsP rfl ?_ | refine wDraw rfl rfl ?_ | simp only [seval, push_cast, ↓reduceIte, ↓bP_some, ↓aP_true, reduceCtorEq, hw]))
  refine opsP_all rfl (hv.at _) ?_
  rintro r h' ⟨rfl, rfl⟩
  (repeat' (first | refine wSeq rfl ?_ | refine wBlock rfl ?_ | refine wSkip rfl ?_ | refine wExit rfl ?_ | refine wRet rfl ?_ | refine wCondT rfl rfl ?_ | refine wCondF rfl rfl ?_ | refine wOpsP rfl ?_ | refine wDraw rfl rfl ?_ | simp only [seval, push_cast, ↓reduceIte, ↓bP_some, ↓aP_true, reduceCtorEq]))
  refine opsP_all rfl (pdq_a hL (c := c) (Hc := Hc) (m := v) hl) ?_
  rintro r h' ⟨rfl, q, q1, q2, rfl⟩
  (repeat' (first | refine wSeq rfl ?_ | refine wBlock rfl ?_ | refine wSkip rfl ?_ | refine wExit rfl ?_ | refine wRet rfl ?_ | refine wCondT rfl rfl ?_ | refine wCondF rfl rfl ?_ | refine wOps rfl ?_ | refine wDraw rfl rfl ?_ | simp only [seval, push_cast, ↓reduceIte, ↓bP_some, ↓aP_true, reduceCtorEq]))
  exact FnQ.atN rfl ⟨rfl, q, q1, q2, rfl⟩
end Go.Proofs.YtncdaicaljpgfaaGreat
set_option maxRecDepth 100000
set_option maxHeartbeats 4000000
set_option linter.unusedVariables false
set_option linter.unusedSimpArgs false
namespace Go.Proofs.YtncdaicaljpgfaaGreat
theorem isnil_tl {α : Type} {f : α → List V} {s : Nat} {l : List α} {c : Option Nat} (h : l ≠ []) : isnilQ 0 false (tl f s l c) = some (.bool false) := by
  have : ¬ l.length = 0 := fun e => h (List.length_eq_zero_iff.1 e)
  simp [isnilQ, isnilV, tl, this, h]
theorem rowsOf_tl {α : Type} {f : α → List V} {s : Nat} {l : List α} {c : Option Nat} {g : Nat → Option Blk} : rowsOf s g (tl f s l c) = some (l.map f, []) := by
  unfold tl
  simp [rowsOf]
variable {L : Lib} (hL : L.T = tab.get)
include hL
theorem clone_e (s : Nat) (c : Option Nat) : VFn L 134 [tl mrow s [] c] (tl mrow 1 [] none) := by
  refine ⟨rfl, rfl, AFn.weakE (AFn.nilcase (s := s) ?_ ?_)⟩
  · refine AFn.of_body (F := T134.1) (by rw [hL]; rfl) rfl ?_
    (repeat' (first | refine wSeq rfl ?_ | refine wBlock rfl ?_ | refine wSkip rfl ?_ | refine wExit rfl ?_ | refine wRet rfl ?_ | refine wCondT rfl rfl ?_ | refine wCondF rfl rfl ?_ | refine wOps rfl ?_ | refine wDraw rfl rfl ?_ | simp only [seval, push_cast, ↓reduceIte, ↓bP_some, ↓aP_true, reduceCtorEq]))
    exact FnQ.at rfl ⟨⟨_, _, rfl⟩, rfl⟩
  · refine AFn.of_body (F := T134.1) (by rw [hL]; rfl) rfl ?_
    (repeat' (first | refine wSeq rfl ?_ | refine wBlock rfl ?_ | refine wSkip rfl ?_ | refine wExit rfl ?_ | refine wRet rfl ?_ | refine wCondT rfl rfl ?_ | refine wCondF rfl rfl ?_ | refine wOps rfl ?_ | refine wDraw rfl rfl ?_ | simp only [seval, push_cast, ↓reduceIte, ↓bP_some, ↓aP_true, reduceCtorEq, isnilQ_non]))
    exact FnQ.sh [] [0] rfl rfl rfl rfl ⟨⟨_, _, rfl⟩, rfl⟩
theorem clone_v (l : List Int) (c : Option Nat) (hne : l ≠ []) (hl : l.length ≤ 17592186043904) : MFn L 134 [tl mrow 1 l c] (.ref 0 1 0 l.length none) [some (.arr 1 (l.map mrow))] := by
  refine ⟨rfl, ?_⟩
  refine AFn.of_body (F := T134.1) (by rw [hL]; rfl) rfl ?_
  have hne' : ¬ l.length ≤ 0 := fun e => hne (List.length_eq_zero_iff.1 (Nat.le_zero.1 e))
  have hroom : l.length * 8 ≤ 140737488355328 := by omega
  (repeat' (first | refine wSeq rfl ?_ | refine wBlock rfl ?_ | refine wSkip rfl ?_ | refine wExit rfl ?_ | refine wRet rfl ?_ | refine wCondT rfl rfl ?_ | refine wCondF rfl rfl ?_ | refine wOps rfl ?_ | refine wDraw rfl rfl ?_ | simp only [seval, push_cast, ↓reduceIte, ↓bP_some, ↓aP_true, reduceCtorEq, isnil_tl hne, rowsOf_tl, hne', hroom]))
  exact FnQ.sh [some 1] [] rfl rfl rfl (sh_c (sh_b closed_mrow rfl) sh_n) ⟨rfl, rfl⟩
end Go.Proofs.YtncdaicaljpgfaaGreat
set_option maxRecDepth 100000
set_option maxHeartbeats 4000000
set_option linter.unusedVariables false
set_option linter.unusedSimpArgs false
namespace Go.Proofs.YtncdaicaljpgfaaGreat
/-- What a function leaves may be numbered anew. -/
theorem AFn.shift {L : Lib} {k : Tgt} {args : List V} {H : Heap} {P : V → Heap → Prop} (h : AFn L k args H (fun r H' => ∃ src fz, okSh H.length src = true ∧ P (r.ren (sgOf H' src fz)) (H'.sh src fz))) : AFn L k args H P := by
  intro C hC A w β vs hA hd hh hg ha
  refine (h C hC A w β vs hA hd hh hg ha).mono ?_
  rintro e w' ⟨v, r, H', β', h1, ⟨src, fz, hok, hp⟩, h3, h4, h5, h6, h7, h8, h9⟩
  simp only [okSh, Bool.and_eq_true, List.all_eq_true] at hok
  obtain ⟨hn, hall⟩ := hok
  have hid : ∀ i, i < H.length → src[i]? = some (some i) := fun i hi => by
    have := hall i (List.mem_range.2 hi)
    split at this
    · rename_i j hj
      have : j = i := by simpa using this
      rw [hj, this]
    · cases this
  have hlive : ∀ b, Live (shβ src β') (H'.sh src fz).get b → Live β' H'.get b := fun b hb => by
    obtain ⟨k, a, h1, h2, h3⟩ := sh_live (Agr.self H' src fz) hb
    exact ⟨a, h2, h3⟩
  have himm : ∀ b, Imm A w' β' H'.get b → Imm A w' (shβ src β') (H'.sh src fz).get b := fun b hb => ⟨hb.lt, fun h => hb.free (hlive b h), hb.al, hb.arr⟩
  have hren : RenOk C.N w' (Imm A w' (shβ src β') (H'.sh src fz).get) (sgOf H' src fz) β' (shβ src β') := sh_renOk (Agr.self H' src fz) h6 himm (fun a b s rows h1 h2 h3 h4 => by
    have h3' : H'.get a ≠ none := by rw [h3]; simp
    obtain ⟨b', g1, g2, g3⟩ := h6.at' a _ h3
    rw [h4] at g1; cases g1
    refine ⟨g2, fun hl => ?_, hA b (h8 b ⟨a, h3', h4⟩), ?_⟩
    rotate_left
    · obtain ⟨cells, T, fz', q1, _⟩ := g3
      exact ⟨cells, T, fz', q1⟩
    · obtain ⟨k, a', g1, g2, g3⟩ := sh_live (Agr.self H' src fz) hl
      have := h6.inj a a' b h3' g2 h4 g3
      subst this
      exact posIn_none h2 k g1)
  refine ⟨v, _, _, shβ src β', h1, hp, ?_, fun i hi => ?_, fun i hi => ?_, sh_heap (Agr.self H' src fz) hn h6 himm hren, h7.ren himm hren, fun b hb => h8 b (hlive b hb), h9⟩
  · unfold Heap.sh
    rw [List.length_map]
    rcases Nat.eq_zero_or_pos H.length with h0 | h0
    · omega
    · have := (List.getElem?_eq_some_iff.1 (hid (H.length - 1) (by omega))).1; omega
  · have : src[i]? = none := List.getElem?_eq_none (by unfold Heap.sh at hi; simpa using hi)
    simp [shβ, this]
  · rw [shβ_to (hid i hi)]; exact h5 i hi
theorem opsP_any {L : Lib} {l : List AI} {K : Env → Heap → Prop} {E : Env} {H : Heap} {d : Option Nat} {anc : List Nat} {c : ACallee} {args : List AOpd} {k : Tgt} {vs : List V} {Post : V → Heap → Prop} (hv : callee L.G E.get c args = some (k, vs)) (hf : AFn L k vs H Post) (h : ∀ r h', Post r h' → opsP L l K (E.put d r) h') : opsP L (⟨d, .call c args, none, anc⟩ :: l) K E H := by
  show stepP L ⟨d, .call c args, none, anc⟩ (opsP L l K) E H
  unfold stepP AI.goes
  show CallP L E.get H c args _
  unfold CallP
  rw [hv]
  exact hf.mono h
def AC.ps : AC → List Nat
  | .range _ ps _ _ => ps
  | _ => []
theorem wRange {L : Lib} {n0 N : Nat} {Q : Exit → Env → Heap → Prop} {E : Env} {H : Heap} {c : AC} {k : Nat} {fs cs : List V} (h : c.tag = 7) (hg : opval L.G E.get c.c = some (.fn k fs cs)) (hf : AFn L (.fn k) (fs ++ [.yld H.length] ++ cs) (H ++ [some (.loop N E c.ps c.l c.r)]) (fun _ H' => RangeP H.length Q E H')) : SWP L n0 N c Q E H := by
  cases c with
  | range g ps a b => exact SWP.range hg hf
  | ops d _ _ => cases d <;> cases h
  | _ => cases h
section
variable {L : Lib} {n0 nt a : Nat} {ps : List Nat} {ad body : AC} {E0 E : Env} {H : Heap} {Q : Exit → Env → Heap → Prop} {Post : V → Heap → Prop}
theorem roundA_n : RoundA L n0 nt body Q .normal E H = SWP L n0 nt body Q E H := rfl
theorem roundQ_n : RoundQ a nt E0 ps ad body Post .normal E H = (H.get a = none ∧ Post (.bool true) (H.set a (some (.loop nt E0 ps ad body)))) := rfl
end
attribute [push_cast] roundA_n roundQ_n
theorem ren_yld {σ : Nat → Sg} {y : Nat} (h : σ y = .to y) : V.ren σ (.yld y) = .yld y := by simp [V.ren, h]
def accT (r : List Int) : Heap := if r = [] then [] else [some (.arr 1 (r.map mrow))]
theorem ren_tup0 {σ : Nat → Sg} : V.ren σ (.tup []) = .tup [] := rfl
theorem back_one {B0 B1 : Option Blk} {q : List Int} : Heap.back [B0, B1] [1] [some (.arr 1 (q.map mrow))] = [B0, some (.arr 1 (q.map mrow))] := by
  show [B0, Option.map (Blk.ren (outσ 2 [1])) (some (.arr 1 (q.map mrow)))] = _
  rw [Option.map_some, ren_tl closed_mrow]
theorem accT_nil : accT [] = [] := rfl
variable {L : Lib} (hL : L.T = tab.get)
include hL
/-- The iterator of slices.Values, over memory numbered by its rounds. -/
theorem valuesIt_a {p : List Int} {s : Nat} {c : Option Nat} {y : Nat} (hs : s = 1 ∨ p = []) (hl : p.length < 4611686018427387904) (HS : Nat → Heap) (h0 : (HS 0).get 0 = some (.arr 1 [[tl mrow s p c]]))
    (hy : ∀ j x, p[j]? = some x → ∃ HY src, AFn L (.yl y) [.int .i64 x] (HS j) (fun r H' => r = .bool true ∧ H' = HY) ∧ okSh (HS 0).length src = true ∧ sgOf HY src [] y = .to y ∧ HY.sh src [] = HS (j + 1)) : AFn L (.fn 261) [.yld y, .ptr 0 1 0 0] (HS 0) (fun r H' => r = .tup [] ∧ H' = HS p.length) := by
  refine AFn.of_body (F := T261.1) (by rw [hL]; rfl) rfl ?_
  (repeat' (first | refine wSeq rfl ?_ | refine wBlock rfl ?_ | refine wSkip rfl ?_ | refine wExit rfl ?_ | refine wRet rfl ?_ | refine wCondT rfl rfl ?_ | refine wCondF rfl rfl ?_ | refine wOps rfl ?_ | refine wDraw rfl rfl ?_ | simp only [seval, push_cast, ↓reduceIte, ↓bP_some, ↓aP_true, reduceCtorEq, h0]))
  refine wCntH rfl 7 p.length (fun _ => []) HS (fun _ => True) rfl rfl trivial ?_ ?_
  · intro j hj _
    obtain ⟨x, hx, _⟩ := get_of hj
    obtain rfl := size_of hs hj
    have hw := wrap_succ (show j < 9223372036854775807 by omega)
    obtain ⟨HY, src, y1, y2, y3, y4⟩ := hy j x hx
    (repeat' (first | refine wSeq rfl ?_ | refine wBlock rfl ?_ | refine wSkip rfl ?_ | refine wExit rfl ?_ | refine wRet rfl ?_ | refine wCondT rfl rfl ?_ | refine wCondF rfl rfl ?_ | refine wOpsP rfl ?_ | refine wDraw rfl rfl ?_ | simp only [seval, push_cast, ↓reduceIte, ↓bP_some, ↓aP_true, reduceCtorEq, hj, hx, iaQ_tl hj]))
    refine opsP_any rfl y1 ?_
    rintro r h' ⟨rfl, rfl⟩
    (repeat' (first | refine wSeq rfl ?_ | refine wBlock rfl ?_ | refine wSkip rfl ?_ | refine wExit rfl ?_ | refine wRet rfl ?_ | refine wCondT rfl rfl ?_ | refine wCondF rfl rfl ?_ | refine wOps rfl ?_ | refine wDraw rfl rfl ?_ | simp only [seval, push_cast, ↓reduceIte, ↓bP_some, ↓aP_true, reduceCtorEq, hw]))
    refine qR_s src [] y2 ?_ y4 trivial
    simp only [Env.sh, List.map_cons, List.map_nil, ren_yld y3]
    rfl
  · intro _
    (repeat' (first | refine wSeq rfl ?_ | refine wBlock rfl ?_ | refine wSkip rfl ?_ | refine wExit rfl ?_ | refine wRet rfl ?_ | refine wCondT rfl rfl ?_ | refine wCondF rfl rfl ?_ | refine wOps rfl ?_ | refine wDraw rfl rfl ?_ | simp only [seval, push_cast, ↓reduceIte, ↓bP_some, ↓aP_true, reduceCtorEq]))
    refine Eq.mpr (if_pos rfl) ?_
    exact FnQ.atN rfl ⟨rfl, rfl⟩
theorem values_v (s : Nat) (p : List Int) (c : Option Nat) : AFn L (.fn 193) [tl mrow s p c] [] (fun r H' => r = .fn 261 [] [.ptr 0 1 0 0] ∧ H' = [some (.arr 1 [[tl mrow s p c]])]) := by
  refine AFn.of_body (F := T193.1) (by rw [hL]; rfl) rfl ?_
  (repeat' (first | refine wSeq rfl ?_ | refine wBlock rfl ?_ | refine wSkip rfl ?_ | refine wExit rfl ?_ | refine wRet rfl ?_ | refine wCondT rfl rfl ?_ | refine wCondF rfl rfl ?_ | refine wOps rfl ?_ | refine wDraw rfl rfl ?_ | simp only [seval, push_cast, ↓reduceIte, ↓bP_some, ↓aP_true, reduceCtorEq]))
  exact FnQ.at rfl ⟨rfl, rfl⟩
theorem appendSeq_a (s : Nat) (p : List Int) (c : Option Nat) (hs : s = 1 ∨ p = []) (hne : p ≠ []) (hl : p.length ≤ 17592186043904) : AFn L (.fn 293) [.lst 0 [] (some 0), .fn 261 [] [.ptr 0 1 0 0]] [some (.arr 1 [[tl mrow s p c]])] (fun r H' => r = .ref 1 1 0 p.length none ∧ H' = [some (.arr 1 [[tl mrow s p c]]), some (.arr 1 (p.map mrow))]) := by
  refine AFn.of_body (F := T293.1) (by rw [hL]; rfl) rfl ?_
  (repeat' (first | refine wSeq rfl ?_ | refine wBlock rfl ?_ | refine wSkip rfl ?_ | refine wExit rfl ?_ | refine wRet rfl ?_ | refine wCondT rfl rfl ?_ | refine wCondF rfl rfl ?_ | refine wOps rfl ?_ | refine wDraw rfl rfl ?_ | simp only [seval, push_cast, ↓reduceIte, ↓bP_some, ↓aP_true, reduceCtorEq]))
  refine wRange rfl rfl ?_
  refine AFn.mono (valuesIt_a (y := 2) hL hs (by omega) (fun j => some (.arr 1 [[tl mrow s p c]]) :: some (.arr 1 [[accV 3 1 (p.take j)]]) :: some (.loop T293.1.ntmps [(2, V.ptr 1 1 0 0), (6, V.fn 261 [] [V.ptr 0 1 0 0])] T293.1.body.r.l.r.l.ps T293.1.body.r.l.r.l.l T293.1.body.r.l.r.l.r) :: accT (p.take j)) rfl ?_) ?_
  · intro j x hx
    have hj := (List.getElem?_eq_some_iff.1 hx).1
    have hlen : (p.take j).length = j := by rw [List.length_take]; omega
    rw [take_snoc hx]
    generalize p.take j = r at hlen ⊢
    have hput : putArgs [(2, V.ptr 1 1 0 0), (6, V.fn 261 [] [V.ptr 0 1 0 0])] T293.1.body.r.l.r.l.ps [V.int IntKind.i64 x] = [(2, V.ptr 1 1 0 0), (6, V.fn 261 [] [V.ptr 0 1 0 0]), (7, V.int .i64 x)] := rfl
    have hroom : (r.length + 1) * 8 ≤ 140737488355328 := by omega
    by_cases hr : r = []
    · subst hr
      refine ⟨[some (.arr 1 [[tl mrow s p c]]), some (.arr 1 [[.ref 4 1 0 1 none]]), some (.loop T293.1.ntmps [(2, V.ptr 1 1 0 0), (6, V.fn 261 [] [V.ptr 0 1 0 0])] T293.1.body.r.l.r.l.ps T293.1.body.r.l.r.l.l T293.1.body.r.l.r.l.r), some (.arr 1 [[.int .i64 x]]), some (.arr 1 [[.int .i64 x]])], [some 0, some 1, some 2, some 4], AFn.of_round rfl rfl rfl ?_, rfl, rfl, ?_⟩
      · (repeat' (first | refine wSeq rfl ?_ | refine wBlock rfl ?_ | refine wSkip rfl ?_ | refine wExit rfl ?_ | refine wRet rfl ?_ | refine wCondT rfl rfl ?_ | refine wCondF rfl rfl ?_ | refine wOps rfl ?_ | refine wDraw rfl rfl ?_ | simp only [seval, push_cast, ↓reduceIte, ↓bP_some, ↓aP_true, reduceCtorEq, accV_nil, hput, accT_nil]))
      · exact sh_c rfl (sh_c rfl (sh_c rfl (sh_c rfl sh_n)))
    · refine ⟨[some (.arr 1 [[tl mrow s p c]]), some (.arr 1 [[.ref 5 1 0 (r.length + 1) none]]), some (.loop T293.1.ntmps [(2, V.ptr 1 1 0 0), (6, V.fn 261 [] [V.ptr 0 1 0 0])] T293.1.body.r.l.r.l.ps T293.1.body.r.l.r.l.l T293.1.body.r.l.r.l.r), none, some (.arr 1 [[.int .i64 x]]), some (.arr 1 ((r ++ [x]).map mrow))], [some 0, some 1, some 2, some 5], ?_, rfl, rfl, ?_⟩
      · rw [show accT r = [some (.arr 1 (r.map mrow))] from if_neg hr]
        refine AFn.of_round rfl rfl rfl ?_
        (repeat' (first | refine wSeq rfl ?_ | refine wBlock rfl ?_ | refine wSkip rfl ?_ | refine wExit rfl ?_ | refine wRet rfl ?_ | refine wCondT rfl rfl ?_ | refine wCondF rfl rfl ?_ | refine wOps rfl ?_ | refine wDraw rfl rfl ?_ | simp only [seval, push_cast, ↓reduceIte, ↓bP_some, ↓aP_true, reduceCtorEq, accV_cons hr, hroom, hput]))
      · rw [accV_snoc, show accT (r ++ [x]) = [some (.arr 1 ((r ++ [x]).map mrow))] from if_neg (by simp)]
        exact sh_c rfl (sh_c rfl (sh_c rfl (sh_c (sh_b closed_mrow rfl) sh_n)))
  · rintro r h' ⟨rfl, rfl⟩
    rw [take_all]
    rw [show accT p = [some (.arr 1 (p.map mrow))] from if_neg hne, accV_cons hne]
    show qB _ (qN _ _ _ _ (FnQ _ _ _)) .normal _ _
    (repeat' (first | refine wSeq rfl ?_ | refine wBlock rfl ?_ | refine wSkip rfl ?_ | refine wExit rfl ?_ | refine wRet rfl ?_ | refine wCondT rfl rfl ?_ | refine wCondF rfl rfl ?_ | refine wOps rfl ?_ | refine wDraw rfl rfl ?_ | simp only [seval, push_cast, ↓reduceIte, ↓bP_some, ↓aP_true, reduceCtorEq]))
    exact FnQ.sh [some 0, some 3] [] rfl rfl rfl (sh_c rfl (sh_c (sh_b closed_mrow rfl) sh_n)) ⟨rfl, rfl⟩
theorem collect_a (s : Nat) (p : List Int) (c : Option Nat) (hs : s = 1 ∨ p = []) (hne : p ≠ []) (hl : p.length ≤ 17592186043904) : AFn L (.fn 260) [.fn 261 [] [.ptr 0 1 0 0]] [some (.arr 1 [[tl mrow s p c]])] (fun r H' => r = .ref 1 1 0 p.length none ∧ H' = [some (.arr 1 [[tl mrow s p c]]), some (.arr 1 (p.map mrow))]) := by
  refine AFn.of_body (F := T260.1) (by rw [hL]; rfl) rfl ?_
  (repeat' (first | refine wSeq rfl ?_ | refine wBlock rfl ?_ | refine wSkip rfl ?_ | refine wExit rfl ?_ | refine wRet rfl ?_ | refine wCondT rfl rfl ?_ | refine wCondF rfl rfl ?_ | refine wOpsP rfl ?_ | refine wDraw rfl rfl ?_ | simp only [seval, push_cast, ↓reduceIte, ↓bP_some, ↓aP_true, reduceCtorEq]))
  refine opsP_any rfl (appendSeq_a hL s p c hs hne hl) ?_
  rintro r h' ⟨rfl, rfl⟩
  (repeat' (first | refine wSeq rfl ?_ | refine wBlock rfl ?_ | refine wSkip rfl ?_ | refine wExit rfl ?_ | refine wRet rfl ?_ | refine wCondT rfl rfl ?_ | refine wCondF rfl rfl ?_ | refine wOps rfl ?_ | refine wDraw rfl rfl ?_ | simp only [seval, push_cast, ↓reduceIte, ↓bP_some, ↓aP_true, reduceCtorEq]))
  exact FnQ.at rfl ⟨rfl, rfl⟩
theorem sorted_a (s : Nat) (p : List Int) (c : Option Nat) (hs : s = 1 ∨ p = []) (hne : p ≠ []) (hl : p.length ≤ 12) : AFn L (.fn 192) [.fn 261 [] [.ptr 0 1 0 0]] [some (.arr 1 [[tl mrow s p c]])] (fun r H' => r = .ref 1 1 0 p.length none ∧ ∃ m : List Int, m.Perm p ∧ m.Pairwise (· ≤ ·) ∧ H' = [some (.arr 1 [[tl mrow s p c]]), some (.arr 1 (m.map mrow))]) := by
  refine AFn.of_body (F := T192.1) (by rw [hL]; rfl) rfl ?_
  (repeat' (first | refine wSeq rfl ?_ | refine wBlock rfl ?_ | refine wSkip rfl ?_ | refine wExit rfl ?_ | refine wRet rfl ?_ | refine wCondT rfl rfl ?_ | refine wCondF rfl rfl ?_ | refine wOpsP rfl ?_ | refine wDraw rfl rfl ?_ | simp only [seval, push_cast, ↓reduceIte, ↓bP_some, ↓aP_true, reduceCtorEq]))
  refine opsP_any rfl (collect_a hL s p c hs hne (by omega)) ?_
  rintro r h' ⟨rfl, rfl⟩
  (repeat' (first | refine wSeq rfl ?_ | refine wBlock rfl ?_ | refine wSkip rfl ?_ | refine wExit rfl ?_ | refine wRet rfl ?_ | refine wCondT rfl rfl ?_ | refine wCondF rfl rfl ?_ | refine wOpsP rfl ?_ | refine wDraw rfl rfl ?_ | simp only [seval, push_cast, ↓reduceIte, ↓bP_some, ↓aP_true, reduceCtorEq]))
  refine opsP_frm (k := 245) (vs' := [.ref 0 1 0 p.length none]) (H0 := [some (.arr 1 (p.map mrow))]) [1] rfl rfl rfl rfl (sh_c (sh_b closed_mrow rfl) sh_n) (sort_a (Hc := []) hL hl) ?_
  rintro r h' ⟨rfl, q, q1, q2, rfl⟩
  rw [back_one, ren_tup0]
  (repeat' (first | refine wSeq rfl ?_ | refine wBlock rfl ?_ | refine wSkip rfl ?_ | refine wExit rfl ?_ | refine wRet rfl ?_ | refine wCondT rfl rfl ?_ | refine wCondF rfl rfl ?_ | refine wOps rfl ?_ | refine wDraw rfl rfl ?_ | simp only [seval, push_cast, ↓reduceIte, ↓bP_some, ↓aP_true, reduceCtorEq]))
  exact FnQ.at rfl ⟨rfl, q, q1, q2, rfl⟩
end Go.Proofs.YtncdaicaljpgfaaGreat
