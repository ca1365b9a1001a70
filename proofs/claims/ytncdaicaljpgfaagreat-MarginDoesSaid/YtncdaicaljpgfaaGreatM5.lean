/- AL: functions that are known by what they yield at some values, one by one. · Generic functions of the library, walked: lists of numbers. · Margins: the least number of ballots, by the program, walked. · Margins: Least, by the program and by the reference, walked. -/
import Derived.Test.YtncdaicaljpgfaaGreatAlV
import Derived.Test.YtncdaicaljpgfaaGreatM1
import Derived.Test.YtncdaicaljpgfaaGreatAlXl
import Derived.Test.YtncdaicaljpgfaaGreatM3
import Derived.Test.YtncdaicaljpgfaaGreatM4
import Derived.Test.YtncdaicaljpgfaaGreatM2
import Derived.Shelf.SlicesG.Cmp
set_option linter.unusedVariables false
namespace Go.Proofs.YtncdaicaljpgfaaGreat
def tabX : List (Nat × List V × V) → Nat → List V → Option V
  | [], _, _ => none
  | p :: r, k, args => bif Nat.beq p.1 k && eqVs p.2.1 args then some p.2.2 else tabX r k args
theorem tabX_mem : ∀ {xs : List (Nat × List V × V)} {k : Nat} {args : List V} {r : V}, tabX xs k args = some r → (k, args, r) ∈ xs
  | [], k, args, r, h => by cases h
  | p :: xs, k, args, r, h => by
    unfold tabX at h
    cases hb : (Nat.beq p.1 k && eqVs p.2.1 args) with
    | true =>
      rw [hb] at h
      simp only [cond_true, Option.some.injEq] at h
      rw [Bool.and_eq_true] at hb
      have e1 := Nat.eq_of_beq_eq_true hb.1
      have e2 := eqVs_eq hb.2
      obtain ⟨a, b, c⟩ := p
      simp only at e1 e2 h
      subst e1 e2 h
      exact List.mem_cons_self
    | false =>
      rw [hb] at h
      exact List.mem_cons_of_mem _ (tabX_mem h)
/-- Values that hold neither blocks nor lists. -/
def V.bare (v : V) : Bool := v.closed && v.noLst
theorem imm_none {A : Nat → Prop} {w : World} {β : Nat → Option Nat} {h : Nat → Option Blk} {b : Nat} (hb : Imm A w β h b) : Imm A w (fun _ => none) (Heap.get []) b := ⟨hb.lt, fun ⟨a, ha, _⟩ => ha (by simp [Heap.get]), hb.al, hb.arr⟩
theorem okT {L : Lib} {C : Ctx} (h0 : Ok L C) (xs : List (Nat × List V × V)) (hx : ∀ p ∈ xs, AFn L (.fn p.1) p.2.1 [] (fun r' H' => r' = p.2.2 ∧ True)) (hc : (xs.all fun p => p.2.1.all V.bare && V.bare p.2.2) = true) : Ok { L with X := tabX xs } C := by
  refine ⟨h0.fn, h0.gl, h0.body, fun k fid args r hk hX A w β h vs hh hg ha hA => ?_, h0.extr, h0.exty⟩
  have hm := tabX_mem hX
  have hb := List.all_eq_true.1 hc _ hm
  simp only [Bool.and_eq_true, List.all_eq_true] at hb
  have hrun := hx _ hm C h0 A w (fun _ => none) vs (fun b hb => hb.elim (hA b) (fun ⟨a, ha, _⟩ => absurd (by simp [Heap.get]) ha)) (fun _ _ => rfl) ⟨fun a k h => by simp [Heap.get] at h, fun a a' b h => absurd (by simp [Heap.get]) h⟩
    (fun g k v h1 h2 => (hg g k v h1 h2).mono (fun b hb => imm_none hb) (fun _ _ => rfl) (fun _ _ h => h) (fun _ _ h => h))
    ⟨ha.1, fun i v x hv hx => by
      have hbv := hb.1 v (List.mem_of_getElem? hv)
      unfold V.bare at hbv
      rw [Bool.and_eq_true] at hbv
      exact ((ha.2 i v x hv hx).of_closed hbv.1 _).mono (fun b hb => imm_none hb) (fun _ _ => rfl) (fun _ _ h => h) (fun _ _ h => h)⟩ fid hk
  refine Calls.mono hrun ?_
  rintro e w' ⟨v, r', H', β', rfl, ⟨rfl, _⟩, _, _, _, _, hrel, _, hf⟩
  have hbr := hb.2
  unfold V.bare at hbr
  rw [Bool.and_eq_true] at hbr
  exact ⟨v, rfl, ⟨hf.os, hf.tape, hf.output, hf.size, fun b hb _ => hf.block b hb (fun ⟨a, ha, _⟩ => by simp [Heap.get] at ha), hf.room⟩, (hrel.of_closed hbr.1 β).of_noLst hbr.2⟩
/-- A run to a value, told as a contract. -/
def isV (r : V) (o : Option (V × Tri Blk × Nat)) : Bool := match o with | some (v, _, _) => eqV v r | none => false
theorem isV_spec {r : V} {o : Option (V × Tri Blk × Nat)} (h : isV r o = true) : ∃ T n, o = some (r, T, n) := by
  unfold isV at h
  split at h
  · rename_i v T n
    rw [eqV_eq h]; exact ⟨T, n, rfl⟩
  · cases h
theorem afn_val {L : Lib} {k m : Nat} {args : List V} {r : V} (hrun : isV r (funcR L m (.fn k) args .e 0) = true) : AFn L (.fn k) args [] (fun r' H' => r' = r ∧ True) := by
  obtain ⟨T, n, hr⟩ := isV_spec hrun
  exact (funcR_sound L m (.fn k) args .e 0 _ T n hr [] ⟨rfl, by funext a; simp [Heap.get, Tri.get]⟩).mono (fun r' H' ⟨e, _⟩ => ⟨e, trivial⟩)
end Go.Proofs.YtncdaicaljpgfaaGreat
set_option maxRecDepth 100000
set_option linter.unusedVariables false
set_option linter.unusedSimpArgs false
namespace Go.Proofs.YtncdaicaljpgfaaGreat
def sortedB : List Int → Bool
  | x :: y :: r => decide (x ≤ y) && sortedB (y :: r)
  | _ => true
/-- From one place down: each is not less than the one before. -/
theorem sortedB_iff : ∀ (l : List Int), sortedB l = true ↔ ∀ i x y, l[i]? = some x → l[i + 1]? = some y → x ≤ y
  | [] => by simp [sortedB]
  | [a] => by simp [sortedB]
  | a :: b :: r => by
    simp only [sortedB, Bool.and_eq_true, decide_eq_true_eq, sortedB_iff (b :: r)]
    constructor
    · rintro ⟨h1, h2⟩ i x y hx hy
      cases i with
      | zero => simp at hx hy; subst hx; subst hy; exact h1
      | succ i => exact h2 i x y (by simpa using hx) (by simpa using hy)
    · intro h
      exact ⟨h 0 a b rfl rfl, fun i x y hx hy => h (i + 1) x y (by simpa using hx) (by simpa using hy)⟩
theorem sortedB_pw (l : List Int) : sortedB l = decide (l.Pairwise (· ≤ ·)) := by
  by_cases h : l.Pairwise (· ≤ ·)
  · rw [decide_eq_true h]
    refine (sortedB_iff l).2 fun i x y hx hy => ?_
    obtain ⟨h1, rfl⟩ := List.getElem?_eq_some_iff.1 hx
    obtain ⟨h2, rfl⟩ := List.getElem?_eq_some_iff.1 hy
    exact List.pairwise_iff_getElem.1 h i (i + 1) h1 h2 (by omega)
  · rw [decide_eq_false h, Bool.eq_false_iff]
    intro hs
    exact h (adj_pw l fun j x y _ hx hy => (sortedB_iff l).1 hs j x y hx hy)
variable {L : Lib} (hL : L.T = tab.get)
include hL
theorem isNaN_v (x : Int) : VFn L 82 [.int .i64 x] (.bool false) := by
  refine VFn.start (F := T82.1) (by rw [hL]; rfl) rfl rfl rfl ?_
  (repeat' (first | refine wSeq rfl ?_ | refine wBlock rfl ?_ | refine wSkip rfl ?_ | refine wExit rfl ?_ | refine wRet rfl ?_ | refine wCondT rfl rfl ?_ | refine wCondF rfl rfl ?_ | refine wOps rfl ?_ | refine wDraw rfl rfl ?_ | simp only [seval, push_cast, ↓reduceIte, ↓bP_some, ↓aP_true, reduceCtorEq]))
  exact FnQ.ret rfl rfl
theorem less_v (x y : Int) : VFn L 122 [.int .i64 x, .int .i64 y] (.bool (decide (x < y))) := by
  refine VFn.start (F := T122.1) (by rw [hL]; rfl) rfl rfl rfl ?_
  (repeat' (first | refine wSeq rfl ?_ | refine wBlock rfl ?_ | refine wSkip rfl ?_ | refine wExit rfl ?_ | refine wRet rfl ?_ | refine wCondT rfl rfl ?_ | refine wCondF rfl rfl ?_ | refine wOps rfl ?_ | refine wDraw rfl rfl ?_ | refine opsV_call rfl rfl (isNaN_v hL _) ?_ | simp only [seval, push_cast, ↓reduceIte, ↓bP_some, ↓aP_true, reduceCtorEq]))
  exact FnQ.ret rfl rfl
theorem isSorted_v (s : Nat) (l : List Int) (c : Option Nat) (hs : s = 1 ∨ l = []) (hl : l.length < 4611686018427387904) : VFn L 77 [tl mrow s l c] (.bool (sortedB l)) := by
  refine VFn.start (F := T77.1) (by rw [hL]; rfl) rfl rfl rfl ?_
  (repeat' (first | refine wSeq rfl ?_ | refine wBlock rfl ?_ | refine wSkip rfl ?_ | refine wExit rfl ?_ | refine wRet rfl ?_ | refine wCondT rfl rfl ?_ | refine wCondF rfl rfl ?_ | refine wOps rfl ?_ | refine wDraw rfl rfl ?_ | simp only [seval, push_cast, ↓reduceIte, ↓bP_some, ↓aP_true, reduceCtorEq, wrap_pred (show l.length < 9223372036854775807 by omega)]))
  refine wWhile rfl (fun j : Nat => [(0, tl mrow s l c), (3, V.int IntKind.i64 ((j : Int) - 1))]) (fun _ => []) (fun j => j) (fun j => j ≤ l.length ∧ ∀ i x y, j ≤ i + 1 → l[i]? = some x → l[i + 1]? = some y → x ≤ y) l.length rfl rfl ⟨by omega, fun i x y hi hx hy => ?_⟩ ?_
  · have := (List.getElem?_eq_some_iff.1 hy).1
    omega
  rintro j ⟨hj, hall⟩
  by_cases hlt : 1 < j
  · obtain ⟨i, rfl⟩ : ∃ i, j = i + 2 := ⟨j - 2, by omega⟩
    obtain rfl := size_of hs (show i < l.length by omega)
    obtain ⟨x, hx, _⟩ := get_of (show i < l.length by omega)
    obtain ⟨y, hy, _⟩ := get_of (show i + 1 < l.length by omega)
    have e1 : (((i + 2 : Nat) : Int) - 1) = ((i + 1 : Nat) : Int) := by omega
    rw [e1]
    have hp : (0 : Int) < (i : Int) + 1 := by omega
    have hw := wrap_nat (n := i) (by omega)
    cases hlt2 : decide (y < x) with
    | true =>
      (repeat' (first | refine wSeq rfl ?_ | refine wBlock rfl ?_ | refine wSkip rfl ?_ | refine wExit rfl ?_ | refine wRet rfl ?_ | refine wCondT rfl rfl ?_ | refine wCondF rfl rfl ?_ | refine wOps rfl ?_ | refine wDraw rfl rfl ?_ | refine opsV_call rfl rfl (less_v hL _ _) ?_ | simp only [seval, push_cast, ↓reduceIte, ↓bP_some, ↓aP_true, reduceCtorEq, hp, add_sub1, hw, iaQ_tl (show i < l.length by omega), iaQ_tl (show i + 1 < l.length by omega), hx, hy, hlt2]))
      rw [Bool.eq_false_iff.2 (fun h => by
        have := (sortedB_iff l).1 h i x y hx hy
        have := of_decide_eq_true hlt2
        omega : ¬ sortedB l = true)]
      exact FnQ.ret rfl rfl
    | false =>
      (repeat' (first | refine wSeq rfl ?_ | refine wBlock rfl ?_ | refine wSkip rfl ?_ | refine wExit rfl ?_ | refine wRet rfl ?_ | refine wCondT rfl rfl ?_ | refine wCondF rfl rfl ?_ | refine wOps rfl ?_ | refine wDraw rfl rfl ?_ | refine opsV_call rfl rfl (less_v hL _ _) ?_ | simp only [seval, push_cast, ↓reduceIte, ↓bP_some, ↓aP_true, reduceCtorEq, hp, add_sub1, hw, iaQ_tl (show i < l.length by omega), iaQ_tl (show i + 1 < l.length by omega), hx, hy, hlt2]))
      refine qW_n (i + 1) (by simp) rfl ⟨by omega, by omega, fun k u v hk hu hv => ?_⟩
      by_cases h : k = i
      · subst h; rw [hx] at hu; rw [hy] at hv; cases hu; cases hv
        have := of_decide_eq_false hlt2
        omega
      · exact hall k u v (by omega) hu hv
  · have hp : ¬ (0 : Int) < (j : Int) - 1 := by omega
    (repeat' (first | refine wSeq rfl ?_ | refine wBlock rfl ?_ | refine wSkip rfl ?_ | refine wExit rfl ?_ | refine wRet rfl ?_ | refine wCondT rfl rfl ?_ | refine wCondF rfl rfl ?_ | refine wOps rfl ?_ | refine wDraw rfl rfl ?_ | simp only [seval, push_cast, ↓reduceIte, ↓bP_some, ↓aP_true, reduceCtorEq, hp]))
    rw [(sortedB_iff l).2 (fun i x y hx hy => hall i x y (by omega) hx hy)]
    exact FnQ.ret rfl rfl
theorem index_v (s : Nat) (l : List Int) (c : Option Nat) (x : Int) (hs : s = 1 ∨ l = []) (hl : l.length < 4611686018427387904) : VFn L 78 [tl mrow s l c, .int .i64 x] (.int .i64 (placeL l x)) := by
  refine VFn.start (F := T78.1) (by rw [hL]; rfl) rfl rfl rfl ?_
  (repeat' (first | refine wSeq rfl ?_ | refine wBlock rfl ?_ | refine wSkip rfl ?_ | refine wExit rfl ?_ | refine wRet rfl ?_ | refine wCondT rfl rfl ?_ | refine wCondF rfl rfl ?_ | refine wOps rfl ?_ | refine wDraw rfl rfl ?_ | simp only [seval, push_cast, ↓reduceIte, ↓bP_some, ↓aP_true, reduceCtorEq]))
  refine wCnt rfl 8 l.length (fun _ => []) (fun j => placeL l x = placeGo l x j) rfl (place_start l x) ?_ ?_
  · intro j hj hI
    obtain ⟨a, ha, _⟩ := get_of hj
    obtain rfl := size_of hs hj
    by_cases e : a = x
    · subst e
      (repeat' (first | refine wSeq rfl ?_ | refine wBlock rfl ?_ | refine wSkip rfl ?_ | refine wExit rfl ?_ | refine wRet rfl ?_ | refine wCondT rfl rfl ?_ | refine wCondF rfl rfl ?_ | refine wOps rfl ?_ | refine wDraw rfl rfl ?_ | simp only [seval, push_cast, ↓reduceIte, ↓bP_some, ↓aP_true, reduceCtorEq, iaQ_tl hj, ha, hj]))
      rw [hI, place_hit ha rfl]
      exact FnQ.ret rfl rfl
    · (repeat' (first | refine wSeq rfl ?_ | refine wBlock rfl ?_ | refine wSkip rfl ?_ | refine wExit rfl ?_ | refine wRet rfl ?_ | refine wCondT rfl rfl ?_ | refine wCondF rfl rfl ?_ | refine wOps rfl ?_ | refine wDraw rfl rfl ?_ | simp only [seval, push_cast, ↓reduceIte, ↓bP_some, ↓aP_true, reduceCtorEq, iaQ_tl hj, ha, hj, ne_both e, wrap_succ (show j < 9223372036854775807 by omega)]))
      exact qR_n rfl rfl (by rw [hI, place_miss ha e])
  · intro hI
    (repeat' (first | refine wSeq rfl ?_ | refine wBlock rfl ?_ | refine wSkip rfl ?_ | refine wExit rfl ?_ | refine wRet rfl ?_ | refine wCondT rfl rfl ?_ | refine wCondF rfl rfl ?_ | refine wOps rfl ?_ | refine wDraw rfl rfl ?_ | simp only [seval, push_cast, ↓reduceIte, ↓bP_some, ↓aP_true, reduceCtorEq]))
    rw [hI, place_end (by omega)]
    exact FnQ.ret rfl rfl
omit hL
def cmpI (x y : Int) : Int := if x < y then -1 else if y < x then 1 else 0
def cmpL : List Int → List Int → Int
  | [], [] => 0
  | [], _ :: _ => -1
  | _ :: _, [] => 1
  | a :: r, b :: s => if a = b then cmpL r s else cmpI a b
theorem cmpL_ahead : ∀ (l m : List Int), aheadL l m = decide (cmpL l m < 0)
  | [], [] => rfl
  | [], _ :: _ => rfl
  | _ :: _, [] => rfl
  | a :: r, b :: s => by
    unfold aheadL cmpL
    by_cases h : a = b
    · rw [if_pos h, if_pos h]; exact cmpL_ahead r s
    · rw [if_neg h, if_neg h]
      unfold cmpI
      by_cases h1 : a < b
      · rw [if_pos h1, decide_eq_true h1]; rfl
      · rw [if_neg h1, if_pos (by omega), decide_eq_false h1]; rfl
theorem cmpL_zero : ∀ (l m : List Int), cmpL l m = 0 ↔ l = m
  | [], [] => by simp [cmpL]
  | [], _ :: _ => by simp [cmpL]
  | _ :: _, [] => by simp [cmpL]
  | a :: r, b :: s => by
    unfold cmpL
    by_cases h : a = b
    · rw [if_pos h, cmpL_zero r s]; simp [h]
    · rw [if_neg h]
      have : cmpI a b ≠ 0 := by unfold cmpI; split; omega; rw [if_pos (by omega)]; omega
      simp [this, h]
theorem drop_at {α : Type} {l : List α} {j : Nat} {x : α} (h : l[j]? = some x) : l.drop j = x :: l.drop (j + 1) := by
  obtain ⟨h1, rfl⟩ := List.getElem?_eq_some_iff.1 h
  exact List.drop_eq_getElem_cons h1
include hL
theorem cmp_v (x y : Int) : VFn L 46 [.int .i64 x, .int .i64 y] (.int .i64 (cmpI x y)) := by
  refine VFn.start (F := T46.1) (by rw [hL]; rfl) rfl rfl rfl ?_
  by_cases h : x < y
  · (repeat' (first | refine wSeq rfl ?_ | refine wBlock rfl ?_ | refine wSkip rfl ?_ | refine wExit rfl ?_ | refine wRet rfl ?_ | refine wCondT rfl rfl ?_ | refine wCondF rfl rfl ?_ | refine wOps rfl ?_ | refine wDraw rfl rfl ?_ | refine opsV_call rfl rfl (isNaN_v hL _) ?_ | simp only [seval, push_cast, ↓reduceIte, ↓bP_some, ↓aP_true, reduceCtorEq, h]))
    rw [show cmpI x y = -1 from if_pos h]
    exact FnQ.ret rfl rfl
  · by_cases h2 : y < x
    · (repeat' (first | refine wSeq rfl ?_ | refine wBlock rfl ?_ | refine wSkip rfl ?_ | refine wExit rfl ?_ | refine wRet rfl ?_ | refine wCondT rfl rfl ?_ | refine wCondF rfl rfl ?_ | refine wOps rfl ?_ | refine wDraw rfl rfl ?_ | refine opsV_call rfl rfl (isNaN_v hL _) ?_ | simp only [seval, push_cast, ↓reduceIte, ↓bP_some, ↓aP_true, reduceCtorEq, h, h2]))
      rw [show cmpI x y = 1 by unfold cmpI; rw [if_neg h, if_pos h2]]
      exact FnQ.ret rfl rfl
    · (repeat' (first | refine wSeq rfl ?_ | refine wBlock rfl ?_ | refine wSkip rfl ?_ | refine wExit rfl ?_ | refine wRet rfl ?_ | refine wCondT rfl rfl ?_ | refine wCondF rfl rfl ?_ | refine wOps rfl ?_ | refine wDraw rfl rfl ?_ | refine opsV_call rfl rfl (isNaN_v hL _) ?_ | simp only [seval, push_cast, ↓reduceIte, ↓bP_some, ↓aP_true, reduceCtorEq, h, h2]))
      rw [show cmpI x y = 0 by unfold cmpI; rw [if_neg h, if_neg h2]]
      exact FnQ.ret rfl rfl
theorem compare_v (s t : Nat) (l m : List Int) (c d : Option Nat) (hs : s = 1 ∨ l = []) (ht : t = 1 ∨ m = []) (hl : l.length < 4611686018427387904) (hm : m.length < 4611686018427387904) : VFn L 99 [tl mrow s l c, tl mrow t m d] (.int .i64 (cmpL l m)) := by
  refine VFn.start (F := T99.1) (by rw [hL]; rfl) rfl rfl rfl ?_
  (repeat' (first | refine wSeq rfl ?_ | refine wBlock rfl ?_ | refine wSkip rfl ?_ | refine wExit rfl ?_ | refine wRet rfl ?_ | refine wCondT rfl rfl ?_ | refine wCondF rfl rfl ?_ | refine wOps rfl ?_ | refine wDraw rfl rfl ?_ | simp only [seval, push_cast, ↓reduceIte, ↓bP_some, ↓aP_true, reduceCtorEq]))
  refine wCnt rfl 11 l.length (fun _ => []) (fun j => cmpL l m = cmpL (l.drop j) (m.drop j) ∧ j ≤ m.length) rfl ⟨rfl, by omega⟩ ?_ ?_
  · rintro j hj ⟨hI, hjm⟩
    obtain ⟨a, ha, _⟩ := get_of hj
    obtain rfl := size_of hs hj
    by_cases hm' : j < m.length
    · obtain ⟨b, hb, _⟩ := get_of hm'
      obtain rfl := size_of ht hm'
      have hle : ¬ m.length ≤ j := by omega
      by_cases e : a = b
      · subst e
        (repeat' (first | refine wSeq rfl ?_ | refine wBlock rfl ?_ | refine wSkip rfl ?_ | refine wExit rfl ?_ | refine wRet rfl ?_ | refine wCondT rfl rfl ?_ | refine wCondF rfl rfl ?_ | refine wOps rfl ?_ | refine wDraw rfl rfl ?_ | refine opsV_call rfl rfl (cmp_v hL _ _) ?_ | simp only [seval, push_cast, ↓reduceIte, ↓bP_some, ↓aP_true, reduceCtorEq, iaQ_tl hj, iaQ_tl hm', ha, hb, hj, hle, wrap_succ (show j < 9223372036854775807 by omega), (show cmpI a a = 0 by simp [cmpI])]))
        exact qR_n rfl rfl ⟨by rw [hI, drop_at ha, drop_at hb]; exact if_pos rfl, by omega⟩
      · have hne : cmpI a b ≠ 0 := by unfold cmpI; split; omega; rw [if_pos (by omega)]; omega
        (repeat' (first | refine wSeq rfl ?_ | refine wBlock rfl ?_ | refine wSkip rfl ?_ | refine wExit rfl ?_ | refine wRet rfl ?_ | refine wCondT rfl rfl ?_ | refine wCondF rfl rfl ?_ | refine wOps rfl ?_ | refine wDraw rfl rfl ?_ | refine opsV_call rfl rfl (cmp_v hL _ _) ?_ | simp only [seval, push_cast, ↓reduceIte, ↓bP_some, ↓aP_true, reduceCtorEq, iaQ_tl hj, iaQ_tl hm', ha, hb, hj, hle, hne]))
        rw [show cmpL l m = cmpI a b by rw [hI, drop_at ha, drop_at hb]; exact if_neg e]
        exact FnQ.ret rfl rfl
    · have hle : m.length ≤ j := by omega
      (repeat' (first | refine wSeq rfl ?_ | refine wBlock rfl ?_ | refine wSkip rfl ?_ | refine wExit rfl ?_ | refine wRet rfl ?_ | refine wCondT rfl rfl ?_ | refine wCondF rfl rfl ?_ | refine wOps rfl ?_ | refine wDraw rfl rfl ?_ | simp only [seval, push_cast, ↓reduceIte, ↓bP_some, ↓aP_true, reduceCtorEq, hj, hle, iaQ_tl hj, ha]))
      rw [show cmpL l m = 1 by rw [hI, drop_at ha, List.drop_eq_nil_of_le hle]; rfl]
      exact FnQ.ret rfl rfl
  · rintro ⟨hI, hjm⟩
    rw [List.drop_eq_nil_of_le (Nat.le_refl _)] at hI
    by_cases hlt : l.length < m.length
    · obtain ⟨b, hb, _⟩ := get_of hlt
      (repeat' (first | refine wSeq rfl ?_ | refine wBlock rfl ?_ | refine wSkip rfl ?_ | refine wExit rfl ?_ | refine wRet rfl ?_ | refine wCondT rfl rfl ?_ | refine wCondF rfl rfl ?_ | refine wOps rfl ?_ | refine wDraw rfl rfl ?_ | simp only [seval, push_cast, ↓reduceIte, ↓bP_some, ↓aP_true, reduceCtorEq, hlt]))
      rw [show cmpL l m = -1 by rw [hI, drop_at hb]; rfl]
      exact FnQ.ret rfl rfl
    · (repeat' (first | refine wSeq rfl ?_ | refine wBlock rfl ?_ | refine wSkip rfl ?_ | refine wExit rfl ?_ | refine wRet rfl ?_ | refine wCondT rfl rfl ?_ | refine wCondF rfl rfl ?_ | refine wOps rfl ?_ | refine wDraw rfl rfl ?_ | simp only [seval, push_cast, ↓reduceIte, ↓bP_some, ↓aP_true, reduceCtorEq, hlt]))
      rw [show cmpL l m = 0 by rw [hI, List.drop_eq_nil_of_le (by omega)]; rfl]
      exact FnQ.ret rfl rfl
omit hL
theorem maxOf_snoc {l : List Int} {j : Nat} {x : Int} (hj : 0 < j) (hx : l[j]? = some x) : Lib.maxOf (l.take (j + 1)) = max (Lib.maxOf (l.take j)) x := by
  have hd : (l.take (j + 1)).headD 0 = (l.take j).headD 0 := by
    cases l with
    | nil => simp at hx
    | cons a r => cases j with | zero => omega | succ j => rfl
  unfold Lib.maxOf
  rw [hd, take_snoc hx, List.foldl_append]; rfl
theorem pick_max (x y : Int) : (if x < y then y else x) = max x y := by
  rw [Int.max_def]; split <;> split <;> omega
include hL
end Go.Proofs.YtncdaicaljpgfaaGreat
set_option maxRecDepth 100000
set_option maxHeartbeats 4000000
set_option linter.unusedVariables false
set_option linter.unusedSimpArgs false
namespace Go.Proofs.YtncdaicaljpgfaaGreat
def leV (p : Int × Bool) : V := .tup [.int .i64 p.1, .bool p.2]
def cfM (a b : Int × Int) : Int := Lib.compareInt b.1 a.1
/-- The library's sort of pairs, by the program's own comparison. -/
def SortPOk (L : Lib) : Prop := ∀ (l : List (Int × Int)) (c : Option Nat), 0 < l.length → l.length < 4611686018427387904 → AFn L (.fn 44) [.ref 0 2 0 l.length c, .fn 45 [] []] [some (.arr 2 (l.map prow))] (sortP cfM l)
theorem cf_sorted {m : List (Int × Int)} (h : m.Pairwise (fun x y => ¬ cfM y x < 0)) : m.Pairwise (fun x y => y.1 ≤ x.1) := h.imp fun {x y} h => by
  unfold cfM Lib.compareInt at h
  split at h
  · omega
  · omega
theorem prow_eq (p : Int × Int) : prow p = [.int .i64 p.1, .int .i64 p.2] := rfl
theorem closed_prow (p : Int × Int) : (prow p).all V.closed = true := rfl
theorem minI {q c : Int} : (if q < c then q else c) = min c q := by rw [Int.min_def]; split <;> split <;> omega
theorem quo_i {k : IntKind} {x y : Int} (h : ¬ y = 0) : binV .quo (.int k x) (.int k y) = some (.int k (k.wrap (x.tdiv y))) := by simp [binV, binInt, h]
theorem sortF0 : AFn LL (.fn 44) [.lst 0 [] (some 0), .fn 45 [] []] [] (fun r' H' => r' = .tup [] ∧ True) := afn_val (m := 100) (by rw [← funcF_eq]; kernel_rfl)
/-- Where the program's loop stands: rows done, what is needed still, how many. -/
structure LeI (m : List (Int × Int)) (need : Int) (s : Nat × Int × Int) : Prop where
  j : s.1 ≤ m.length
  run : runP (m.drop s.1) s.2.1 s.2.2 = runP m need 0
  n : 0 ≤ s.2.2 ∧ s.2.2 ≤ s.1 * 1000000
  nd : -1000000000000 ≤ s.2.1 ∨ s.2.1 = need
  le : s.2.1 ≤ need
theorem runP_end {m : List (Int × Int)} {nd n : Int} (h : m = [] ∨ ∃ p r, m = p :: r ∧ (nd ≤ 0 ∨ p.1 = 0)) : runP m nd n = if 0 < nd then (0, false) else (n, true) := by
  rcases h with rfl | ⟨⟨g, c⟩, r, rfl, h⟩
  · rfl
  · unfold runP; rw [if_pos h]
theorem runP_step {g c : Int} {r : List (Int × Int)} {nd n : Int} (h : ¬ (nd ≤ 0 ∨ g = 0)) : runP ((g, c) :: r) nd n = runP r (nd - min c ((nd + g - 1).tdiv g) * g) (n + min c ((nd + g - 1).tdiv g)) := by
  rw [runP, if_neg h]
variable {L : Lib} (hL : L.T = tab.get)
include hL
theorem least_nil (need : Int) : VFn L 22 [.lst 0 [] (some 0), .int .i64 need] (leV (runP [] need 0)) := by
  refine VFn.start (F := T22.1) (by rw [hL]; rfl) rfl rfl rfl ?_
  (repeat' (first | refine wSeq rfl ?_ | refine wBlock rfl ?_ | refine wSkip rfl ?_ | refine wExit rfl ?_ | refine wRet rfl ?_ | refine wCondT rfl rfl ?_ | refine wCondF rfl rfl ?_ | refine wOpsP rfl ?_ | refine wDraw rfl rfl ?_ | simp only [seval, push_cast, ↓reduceIte, ↓bP_some, ↓aP_true, reduceCtorEq]))
  refine opsP_any rfl (sortF0.more hL (by simp)) ?_
  rintro r h' ⟨rfl, _⟩
  (repeat' (first | refine wSeq rfl ?_ | refine wBlock rfl ?_ | refine wSkip rfl ?_ | refine wExit rfl ?_ | refine wRet rfl ?_ | refine wCondT rfl rfl ?_ | refine wCondF rfl rfl ?_ | refine wOpsP rfl ?_ | refine wDraw rfl rfl ?_ | simp only [seval, push_cast, ↓reduceIte, ↓bP_some, ↓aP_true, reduceCtorEq]))
  refine wCnt rfl 13 0 (fun _ => []) (fun _ => True) rfl trivial (fun j hj => absurd hj (Nat.not_lt_zero j)) (fun _ => ?_)
  by_cases h : 0 < need
  · (repeat' (first | refine wSeq rfl ?_ | refine wBlock rfl ?_ | refine wSkip rfl ?_ | refine wExit rfl ?_ | refine wRet rfl ?_ | refine wCondT rfl rfl ?_ | refine wCondF rfl rfl ?_ | refine wOps rfl ?_ | refine wDraw rfl rfl ?_ | simp only [seval, push_cast, ↓reduceIte, ↓bP_some, ↓aP_true, reduceCtorEq, h]))
    rw [show runP [] need 0 = (0, false) from if_pos h]
    exact FnQ.ret rfl rfl
  · (repeat' (first | refine wSeq rfl ?_ | refine wBlock rfl ?_ | refine wSkip rfl ?_ | refine wExit rfl ?_ | refine wRet rfl ?_ | refine wCondT rfl rfl ?_ | refine wCondF rfl rfl ?_ | refine wOps rfl ?_ | refine wDraw rfl rfl ?_ | simp only [seval, push_cast, ↓reduceIte, ↓bP_some, ↓aP_true, reduceCtorEq, h]))
    rw [show runP [] need 0 = (0, true) from if_neg h]
    exact FnQ.ret rfl rfl
theorem least_v (hS : SortPOk L) {l : List (Int × Int)} (hne : l ≠ []) (hl : l.length ≤ 64) (hb : ∀ p ∈ l, (0 ≤ p.1 ∧ p.1 ≤ 1000000) ∧ 0 ≤ p.2 ∧ p.2 ≤ 1000000) (c : Option Nat) {need : Int} (hn : -9223372036854775808 ≤ need ∧ need ≤ 64000000000000) :
    AFn L (.fn 22) [.ref 0 2 0 l.length c, .int .i64 need] [some (.arr 2 (l.map prow))] (fun r H' => r = leV (refR l l.length (List.replicate l.length false) need 0) ∧ True) := by
  refine AFn.of_body (F := T22.1) (by rw [hL]; rfl) rfl ?_
  (repeat' (first | refine wSeq rfl ?_ | refine wBlock rfl ?_ | refine wSkip rfl ?_ | refine wExit rfl ?_ | refine wRet rfl ?_ | refine wCondT rfl rfl ?_ | refine wCondF rfl rfl ?_ | refine wOpsP rfl ?_ | refine wDraw rfl rfl ?_ | simp only [seval, push_cast, ↓reduceIte, ↓bP_some, ↓aP_true, reduceCtorEq]))
  refine opsP_any rfl (hS l c (List.length_pos_iff.2 hne) (by omega)) ?_
  rintro r h' ⟨rfl, m, hp, hm, rfl⟩
  have hml := hp.length_eq
  have hb' : ∀ p ∈ m, (0 ≤ p.1 ∧ p.1 ≤ 1000000) ∧ 0 ≤ p.2 ∧ p.2 ≤ 1000000 := fun p h => hb p (hp.mem_iff.2 h)
  have hres : refR l l.length (List.replicate l.length false) need 0 = runP m need 0 := by
    rw [refR_sorted (fun p h => ⟨(hb p h).1.1, (hb p h).2.1⟩) hp (cf_sorted hm), runP_R _ (fun p h => ⟨(hb' p h).1.1, (hb' p h).2.1⟩)]
  rw [hres, hml]
  (repeat' (first | refine wSeq rfl ?_ | refine wBlock rfl ?_ | refine wSkip rfl ?_ | refine wExit rfl ?_ | refine wRet rfl ?_ | refine wCondT rfl rfl ?_ | refine wCondF rfl rfl ?_ | refine wOpsP rfl ?_ | refine wDraw rfl rfl ?_ | simp only [seval, push_cast, ↓reduceIte, ↓bP_some, ↓aP_true, reduceCtorEq]))
  refine wWhile rfl (fun s : Nat × Int × Int => [(1, V.int IntKind.i64 s.2.1), (4, V.int IntKind.i64 s.2.2), (11, V.ref 0 2 0 m.length c), (12, V.int IntKind.i64 m.length), (13, V.int IntKind.i64 (s.1 : Int))]) (fun _ => [some (Blk.arr 2 (m.map prow))]) (fun s => m.length - s.1) (LeI m need) (0, need, 0) rfl rfl ⟨Nat.zero_le _, rfl, by constructor <;> simp, .inr rfl, Int.le_refl _⟩ ?_
  rintro ⟨j, nd, n⟩ hI
  have hfin : (m.drop j = [] ∨ ∃ p r, m.drop j = p :: r ∧ (nd ≤ 0 ∨ p.1 = 0)) → (0 < nd → runP m need 0 = (0, false)) ∧ (¬ 0 < nd → runP m need 0 = (n, true)) := fun h => by
    have := hI.run
    rw [runP_end h] at this
    exact ⟨fun e => by rw [← this, if_pos e], fun e => by rw [← this, if_neg e]⟩
  have i1 := hI.n
  have i2 := hI.nd
  have i3 := hI.le
  have i4 := hI.j
  simp only at i1 i2 i3 i4
  by_cases hj : j < m.length
  · obtain ⟨⟨g, d⟩, hx, hmem⟩ := get_of hj
    have hd := drop_at' hx
    have hgd := hb' _ hmem
    simp only at hgd
    have hw := wrap_succ (show j < 9223372036854775807 by omega)
    by_cases h1 : nd ≤ 0
    · have h1' : ¬ 0 < nd := by omega
      (repeat' (first | refine wSeq rfl ?_ | refine wBlock rfl ?_ | refine wSkip rfl ?_ | refine wExit rfl ?_ | refine wRet rfl ?_ | refine wCondT rfl rfl ?_ | refine wCondF rfl rfl ?_ | refine wOps rfl ?_ | refine wDraw rfl rfl ?_ | simp only [seval, push_cast, ↓reduceIte, ↓bP_some, ↓aP_true, reduceCtorEq, hj, hx, prow_eq, h1, h1']))
      rw [(hfin (.inr ⟨_, _, hd, .inl h1⟩)).2 h1']
      exact FnQ.at rfl rfl
    have h1' : 0 < nd := by omega
    by_cases h2 : g = 0
    · (repeat' (first | refine wSeq rfl ?_ | refine wBlock rfl ?_ | refine wSkip rfl ?_ | refine wExit rfl ?_ | refine wRet rfl ?_ | refine wCondT rfl rfl ?_ | refine wCondF rfl rfl ?_ | refine wOps rfl ?_ | refine wDraw rfl rfl ?_ | simp only [seval, push_cast, ↓reduceIte, ↓bP_some, ↓aP_true, reduceCtorEq, hj, hx, prow_eq, h1, h1', h2]))
      rw [(hfin (.inr ⟨_, _, hd, .inr h2⟩)).1 h1']
      exact FnQ.at rfl rfl
    have hq0 : 0 ≤ (nd + g - 1).tdiv g := Int.tdiv_nonneg (by omega) (by omega)
    have hq1 : (nd + g - 1).tdiv g ≤ nd + g - 1 := Int.tdiv_le_self _ (by omega)
    have hk : 0 ≤ min d ((nd + g - 1).tdiv g) ∧ min d ((nd + g - 1).tdiv g) ≤ d := by omega
    have hrun := hI.run
    simp only at hrun
    rw [hd, runP_step (by omega)] at hrun
    generalize hqd : (nd + g - 1).tdiv g = q at *
    have hmin : (if q < d then q else d) = min d q := minI
    generalize hkk : min d q = k at *
    have hp1 : 0 ≤ k * g := Int.mul_nonneg hk.1 (by omega)
    have hp2 : k * g ≤ 1000000 * 1000000 := Int.mul_le_mul (by omega) (by omega) (by omega) (by decide)
    generalize hkg : k * g = kg at *
    (repeat' (first | refine wSeq rfl ?_ | refine wBlock rfl ?_ | refine wSkip rfl ?_ | refine wExit rfl ?_ | refine wRet rfl ?_ | refine wCondT rfl rfl ?_ | refine wCondF rfl rfl ?_ | refine wOps rfl ?_ | refine wDraw rfl rfl ?_ | simp only [seval, push_cast, ↓reduceIte, ↓bP_some, ↓aP_true, reduceCtorEq, hj, hx, prow_eq, h1, h1', h2, quo_i h2, hqd, hmin, hkg, wrap_i64 (n := nd + g) (by omega) (by omega), wrap_i64 (n := nd + g - 1) (by omega) (by omega), wrap_i64 (n := q) (by omega) (by omega), wrap_i64 (n := kg) (by omega) (by omega), wrap_i64 (n := nd - kg) (by omega) (by omega), wrap_i64 (n := n + k) (by omega) (by omega), hw]))
    refine qW_s (j + 1, nd - kg, n + k) [some 0] [] rfl rfl ?_ ⟨by show m.length - (j + 1) < m.length - j; omega, by show j + 1 ≤ m.length; omega, hrun, ?_, .inl ?_, ?_⟩
    · exact sh_c (sh_b closed_prow rfl) sh_n
    · show 0 ≤ n + k ∧ n + k ≤ ((j + 1 : Nat) : Int) * 1000000
      omega
    · show -1000000000000 ≤ nd - kg
      omega
    · show nd - kg ≤ need
      omega
  · obtain rfl : j = m.length := by omega
    have hn2 : m.drop m.length = [] := List.drop_eq_nil_of_le (Nat.le_refl _)
    by_cases h1 : 0 < nd
    · (repeat' (first | refine wSeq rfl ?_ | refine wBlock rfl ?_ | refine wSkip rfl ?_ | refine wExit rfl ?_ | refine wRet rfl ?_ | refine wCondT rfl rfl ?_ | refine wCondF rfl rfl ?_ | refine wOps rfl ?_ | refine wDraw rfl rfl ?_ | simp only [seval, push_cast, ↓reduceIte, ↓bP_some, ↓aP_true, reduceCtorEq, h1]))
      rw [(hfin (.inl hn2)).1 h1]
      exact FnQ.at rfl rfl
    · (repeat' (first | refine wSeq rfl ?_ | refine wBlock rfl ?_ | refine wSkip rfl ?_ | refine wExit rfl ?_ | refine wRet rfl ?_ | refine wCondT rfl rfl ?_ | refine wCondF rfl rfl ?_ | refine wOps rfl ?_ | refine wDraw rfl rfl ?_ | simp only [seval, push_cast, ↓reduceIte, ↓bP_some, ↓aP_true, reduceCtorEq, h1]))
      rw [(hfin (.inl hn2)).2 h1]
      exact FnQ.at rfl rfl
end Go.Proofs.YtncdaicaljpgfaaGreat
set_option maxRecDepth 100000
set_option maxHeartbeats 4000000
set_option linter.unusedVariables false
set_option linter.unusedSimpArgs false
namespace Go.Proofs.YtncdaicaljpgfaaGreat
theorem acc_case {α : Type} (f : α → List V) (a n : Nat) (r : List α) : accV a n r = .lst 0 [] (some 0) ∧ accB f n r = none ∧ r = [] ∨ accV a n r = .ref a n 0 r.length none ∧ accB f n r = some (.arr n (r.map f)) ∧ r ≠ [] := by
  by_cases hr : r = []
  · subst hr; exact .inl ⟨rfl, rfl, rfl⟩
  · exact .inr ⟨accV_cons hr, accB_cons hr, hr⟩
def outM (x : Int) : Bool := decide (x < 0) || decide (1000000 < x)
def badM (g d : List Int) : Prop := g.length ≠ d.length ∨ 64 < g.length ∨ g.any outM = true ∨ d.any outM = true
instance (g d : List Int) : Decidable (badM g d) := by unfold badM; infer_instance
def runM (g d : List Int) (need : Int) : Int × Bool := refR (g.zip d) (g.zip d).length (List.replicate (g.zip d).length false) need 0
def LeastV (g d : List Int) (need : Int) : V := if badM g d then .tup [.int .i64 0, .bool false, .int .i64 2] else .tup [.int .i64 (runM g d need).1, .bool (runM g d need).2, .int .i64 0]
theorem out_no {x : Int} : outM x = false ↔ 0 ≤ x ∧ x ≤ 1000000 := by simp [outM]
theorem any_no {l : List Int} : l.any outM = false ↔ ∀ x ∈ l, 0 ≤ x ∧ x ≤ 1000000 := by
  rw [List.any_eq_false]
  exact ⟨fun h x hx => out_no.1 (by simpa using h x hx), fun h x hx => by rw [out_no.2 (h x hx)]; simp⟩
theorem find_any (p : Int → Bool) (l : List Int) : decide (0 ≤ findL p l 0) = l.any p := by
  rcases findL_ge p l 0 with ⟨h1, h2⟩ | ⟨i, h1, h2, h3, x, h4, h5⟩
  · rw [h1]
    symm
    rw [show decide ((0 : Int) ≤ -1) = false from rfl, List.any_eq_false]
    exact fun x hx => by rw [h2 x hx]; simp
  · rw [h2, decide_eq_true (by omega)]
    symm
    exact List.any_eq_true.2 ⟨x, List.mem_of_getElem? h4, h5⟩
theorem zip_ok {g d : List Int} (h1 : g.any outM = false) (h2 : d.any outM = false) : ∀ p ∈ g.zip d, (0 ≤ p.1 ∧ p.1 ≤ 1000000) ∧ 0 ≤ p.2 ∧ p.2 ≤ 1000000 := fun p hp => ⟨any_no.1 h1 _ (List.of_mem_zip hp).1, any_no.1 h2 _ (List.of_mem_zip hp).2⟩
theorem run_big {g d : List Int} {need : Int} (h : ¬ badM g d) (hn : 64000000000000 < need) : runM g d need = (0, false) := by
  unfold badM at h
  have h1 : g.any outM = false := by simpa using fun e => h (.inr (.inr (.inl e)))
  have h2 : d.any outM = false := by simpa using fun e => h (.inr (.inr (.inr e)))
  have hz := zip_ok h1 h2
  have h0 : ∀ p ∈ g.zip d, 0 ≤ p.1 ∧ 0 ≤ p.2 := fun p hp => ⟨(hz p hp).1.1, (hz p hp).2.1⟩
  obtain ⟨i1, i2⟩ := ordL_ok (g.zip d) (g.zip d).length (List.replicate (g.zip d).length false) (by rw [freeL_all]; exact Nat.le_refl _)
  rw [freeL_all] at i1
  unfold runM
  rw [refR_ord]
  refine runR_big (fun p hp => h0 p (i1.mem_iff.1 hp)) _ ?_
  have h3 := totR_le (b := 1000000) (by decide) (l := ordL (g.zip d) (g.zip d).length (List.replicate (g.zip d).length false)) (fun p hp => hz p (i1.mem_iff.1 hp))
  have h4 := i1.length_eq
  generalize ordL (g.zip d) (g.zip d).length (List.replicate (g.zip d).length false) = O at *
  have h5 : (g.zip d).length = min g.length d.length := List.length_zip
  have h6 : O.length ≤ 64 := by omega
  omega
theorem opv_f {G : Nat → Option V} {E : Nat → Option V} {k : Nat} : opval G E (.f k) = some (.fn k [] []) := rfl
variable {L : Lib} (hL : L.T = tab.get)
include hL
theorem out_v (x : Int) : VFn L 20 [.int .i64 x] (.bool (outM x)) := by
  refine VFn.start (F := T20.1) (by rw [hL]; rfl) rfl rfl rfl ?_
  unfold outM
  by_cases h : x < 0
  · (repeat' (first | refine wSeq rfl ?_ | refine wBlock rfl ?_ | refine wSkip rfl ?_ | refine wExit rfl ?_ | refine wRet rfl ?_ | refine wCondT rfl rfl ?_ | refine wCondF rfl rfl ?_ | refine wOps rfl ?_ | refine wDraw rfl rfl ?_ | simp only [seval, push_cast, ↓reduceIte, ↓bP_some, ↓aP_true, reduceCtorEq, h]))
    exact FnQ.ret rfl rfl
  · rw [show (decide (x < 0) || decide (1000000 < x)) = decide (1000000 < x) by rw [decide_eq_false h, Bool.false_or]]
    (repeat' (first | refine wSeq rfl ?_ | refine wBlock rfl ?_ | refine wSkip rfl ?_ | refine wExit rfl ?_ | refine wRet rfl ?_ | refine wCondT rfl rfl ?_ | refine wCondF rfl rfl ?_ | refine wOps rfl ?_ | refine wDraw rfl rfl ?_ | simp only [seval, push_cast, ↓reduceIte, ↓bP_some, ↓aP_true, reduceCtorEq, h]))
    exact FnQ.ret rfl rfl
theorem cont_v {s : Nat} {l : List Int} {c : Option Nat} (hs : s = 1 ∨ l = []) (hl : l.length < 4611686018427387904) : VFn L 21 [tl mrow s l c, .fn 20 [] []] (.bool (l.any outM)) := by
  refine ⟨rfl, rfl, ?_⟩
  have := containsFunc_a hL (H := []) (kf := 20) (fs := []) (cs := []) (p := outM) (IsSl.tl (s := s) (l := l) (c := c) hs) hl (fun x _ => (out_v hL x).at _)
  rwa [find_any] at this
theorem Least_v (hS : SortPOk L) {s t : Nat} {g d : List Int} {c e : Option Nat} (hs : s = 1 ∨ g = []) (ht : t = 1 ∨ d = []) (hg : g.length < 4611686018427387904) (hd : d.length < 4611686018427387904) (need : Int) (hn : -9223372036854775808 ≤ need) : VFn L 9 [tl mrow s g c, tl mrow t d e, .int .i64 need] (LeastV g d need) := by
  refine VFn.start (F := T9.1) (by rw [hL]; rfl) rfl rfl (by unfold LeastV; split <;> rfl) ?_
  have bad : badM g d → LeastV g d need = .tup [.int .i64 0, .bool false, .int .i64 2] := fun h => if_pos h
  have k1 := cont_v hL (c := c) hs hg
  have k2 := cont_v hL (c := e) ht hd
  by_cases e0 : ¬ g.length = d.length
  · have e0' : ¬ (g.length : Int) = d.length := by omega
    (repeat' (first | refine wSeq rfl ?_ | refine wBlock rfl ?_ | refine wSkip rfl ?_ | refine wExit rfl ?_ | refine wRet rfl ?_ | refine wCondT rfl rfl ?_ | refine wCondF rfl rfl ?_ | refine wOps rfl ?_ | refine wDraw rfl rfl ?_ | simp only [seval, push_cast, ↓reduceIte, ↓bP_some, ↓aP_true, reduceCtorEq, opv_f, e0', e0]))
    rw [bad (.inl e0)]
    exact FnQ.ret rfl rfl
  have e1 : g.length = d.length := Decidable.not_not.1 e0
  by_cases e2 : (64 : Int) < d.length
  · (repeat' (first | refine wSeq rfl ?_ | refine wBlock rfl ?_ | refine wSkip rfl ?_ | refine wExit rfl ?_ | refine wRet rfl ?_ | refine wCondT rfl rfl ?_ | refine wCondF rfl rfl ?_ | refine wOps rfl ?_ | refine wDraw rfl rfl ?_ | simp only [seval, push_cast, ↓reduceIte, ↓bP_some, ↓aP_true, reduceCtorEq, opv_f, e1, e2]))
    rw [bad (.inr (.inl (by omega)))]
    exact FnQ.ret rfl rfl
  cases e3 : g.any outM with
  | true =>
    rw [e3] at k1
    (repeat' (first | refine wSeq rfl ?_ | refine wBlock rfl ?_ | refine wSkip rfl ?_ | refine wExit rfl ?_ | refine wRet rfl ?_ | refine wCondT rfl rfl ?_ | refine wCondF rfl rfl ?_ | refine wOps rfl ?_ | refine wDraw rfl rfl ?_ | refine opsV_call rfl rfl (k1) ?_ | simp only [seval, push_cast, ↓reduceIte, ↓bP_some, ↓aP_true, reduceCtorEq, opv_f, e1, e2]))
    rw [bad (.inr (.inr (.inl e3)))]
    exact FnQ.ret rfl rfl
  | false =>
  cases e4 : d.any outM with
  | true =>
    rw [e3] at k1
    rw [e4] at k2
    (repeat' (first | refine wSeq rfl ?_ | refine wBlock rfl ?_ | refine wSkip rfl ?_ | refine wExit rfl ?_ | refine wRet rfl ?_ | refine wCondT rfl rfl ?_ | refine wCondF rfl rfl ?_ | refine wOps rfl ?_ | refine wDraw rfl rfl ?_ | refine opsV_call rfl rfl (k1) ?_ | refine opsV_call rfl rfl (k2) ?_ | simp only [seval, push_cast, ↓reduceIte, ↓bP_some, ↓aP_true, reduceCtorEq, opv_f, e1, e2]))
    rw [bad (.inr (.inr (.inr e4)))]
    exact FnQ.ret rfl rfl
  | false =>
  rw [e3] at k1
  rw [e4] at k2
  have hb : ¬ badM g d := by
    unfold badM
    rw [e3, e4]
    simp only [Bool.false_eq_true, or_false, not_or]
    exact ⟨by simpa using e1, by omega⟩
  have hV : LeastV g d need = .tup [.int .i64 (runM g d need).1, .bool (runM g d need).2, .int .i64 0] := if_neg hb
  by_cases e5 : 64000000000000 < need
  · (repeat' (first | refine wSeq rfl ?_ | refine wBlock rfl ?_ | refine wSkip rfl ?_ | refine wExit rfl ?_ | refine wRet rfl ?_ | refine wCondT rfl rfl ?_ | refine wCondF rfl rfl ?_ | refine wOps rfl ?_ | refine wDraw rfl rfl ?_ | refine opsV_call rfl rfl (k1) ?_ | refine opsV_call rfl rfl (k2) ?_ | simp only [seval, push_cast, ↓reduceIte, ↓bP_some, ↓aP_true, reduceCtorEq, opv_f, e1, e2, e5]))
    rw [hV, run_big hb e5]
    exact FnQ.ret rfl rfl
  (repeat' (first | refine wSeq rfl ?_ | refine wBlock rfl ?_ | refine wSkip rfl ?_ | refine wExit rfl ?_ | refine wRet rfl ?_ | refine wCondT rfl rfl ?_ | refine wCondF rfl rfl ?_ | refine wOps rfl ?_ | refine wDraw rfl rfl ?_ | refine opsV_call rfl rfl (k1) ?_ | refine opsV_call rfl rfl (k2) ?_ | simp only [seval, push_cast, ↓reduceIte, ↓bP_some, ↓aP_true, reduceCtorEq, opv_f, e1, e2, e5]))
  have hlz : (g.zip d).length = d.length := by rw [List.length_zip, e1, Nat.min_self]
  have hg64 : g.length ≤ 64 := by omega
  refine wPad [none] rfl (by simp only [Env.sh, List.map_cons, List.map_nil]; rfl) rfl ?_
  refine wCntH rfl 37 d.length (fun j => [(10, accV 0 2 ((g.zip d).take j))]) (fun j => [accB prow 2 ((g.zip d).take j)]) (fun _ => True) rfl rfl trivial ?_ ?_
  · intro j hj _
    have hj1 : j < g.length := by omega
    obtain ⟨x, hx, _⟩ := get_of hj1
    obtain ⟨y, hy, _⟩ := get_of hj
    obtain rfl := size_of hs hj1
    obtain rfl := size_of ht hj
    have hz : (g.zip d)[j]? = some (x, y) := by rw [List.getElem?_zip_eq_some]; exact ⟨hx, hy⟩
    have hw := wrap_succ (show j < 9223372036854775807 by omega)
    have hrl : ((g.zip d).take j).length ≤ 64 := by rw [List.length_take]; omega
    rw [take_snoc hz]
    generalize (g.zip d).take j = r at *
    have hroom : (r.length + 1) * 16 ≤ 140737488355328 := by omega
    have hm : r.map prow ++ [[V.int IntKind.i64 x, V.int IntKind.i64 y]] = (r ++ [(x, y)]).map prow := by rw [List.map_append]; rfl
    rcases acc_case prow 0 2 r with ⟨hV', hB, rfl⟩ | ⟨hV', hB, hr⟩
    · (repeat' (first | refine wSeq rfl ?_ | refine wBlock rfl ?_ | refine wSkip rfl ?_ | refine wExit rfl ?_ | refine wRet rfl ?_ | refine wCondT rfl rfl ?_ | refine wCondF rfl rfl ?_ | refine wOps rfl ?_ | refine wDraw rfl rfl ?_ | simp only [seval, push_cast, ↓reduceIte, ↓bP_some, ↓aP_true, reduceCtorEq, hj, hV', hB, hw, hx, hy, iaQ_tl hj1, iaQ_tl hj]))
      exact qR_s [some 2] [] rfl rfl rfl trivial
    · (repeat' (first | refine wSeq rfl ?_ | refine wBlock rfl ?_ | refine wSkip rfl ?_ | refine wExit rfl ?_ | refine wRet rfl ?_ | refine wCondT rfl rfl ?_ | refine wCondF rfl rfl ?_ | refine wOps rfl ?_ | refine wDraw rfl rfl ?_ | simp only [seval, push_cast, ↓reduceIte, ↓bP_some, ↓aP_true, reduceCtorEq, hj, hV', hB, hw, hroom, hm, hx, hy, iaQ_tl hj1, iaQ_tl hj]))
      exact qR_s [some 2] [] rfl (by simp only [accV_snoc]; rfl) (by rw [accB_snoc]; exact sh_c (sh_b closed_prow rfl) sh_n) trivial
  · intro _
    rw [List.take_of_length_le (Nat.le_of_eq hlz)]
    by_cases hz : g.zip d = []
    · have hr : runM g d need = runP [] need 0 := by unfold runM; rw [hz]; rfl
      rw [hz, accV_nil, accB_nil]
      (repeat' (first | refine wSeq rfl ?_ | refine wBlock rfl ?_ | refine wSkip rfl ?_ | refine wExit rfl ?_ | refine wRet rfl ?_ | refine wCondT rfl rfl ?_ | refine wCondF rfl rfl ?_ | refine wOps rfl ?_ | refine wDraw rfl rfl ?_ | refine opsV_call rfl rfl (least_nil hL need) ?_ | simp only [seval, push_cast, ↓reduceIte, ↓bP_some, ↓aP_true, reduceCtorEq, leV]))
      rw [hV, hr]
      exact FnQ.ret rfl rfl
    · rw [accV_cons hz, accB_cons hz]
      (repeat' (first | refine wSeq rfl ?_ | refine wBlock rfl ?_ | refine wSkip rfl ?_ | refine wExit rfl ?_ | refine wRet rfl ?_ | refine wCondT rfl rfl ?_ | refine wCondF rfl rfl ?_ | refine wOpsP rfl ?_ | refine wDraw rfl rfl ?_ | simp only [seval, push_cast, ↓reduceIte, ↓bP_some, ↓aP_true, reduceCtorEq]))
      refine opsP_any rfl (least_v hL hS hz (by omega) (zip_ok e3 e4) none ⟨hn, by omega⟩) ?_
      rintro r h' ⟨rfl, _⟩
      (repeat' (first | refine wSeq rfl ?_ | refine wBlock rfl ?_ | refine wSkip rfl ?_ | refine wExit rfl ?_ | refine wRet rfl ?_ | refine wCondT rfl rfl ?_ | refine wCondF rfl rfl ?_ | refine wOps rfl ?_ | refine wDraw rfl rfl ?_ | simp only [seval, push_cast, ↓reduceIte, ↓bP_some, ↓aP_true, reduceCtorEq, leV]))
      rw [hV]
      exact FnQ.ret rfl rfl
end Go.Proofs.YtncdaicaljpgfaaGreat
