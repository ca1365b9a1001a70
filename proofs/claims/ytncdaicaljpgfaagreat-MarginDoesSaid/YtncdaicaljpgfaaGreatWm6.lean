/- Margins: Least by the reference, and the law MarginDoes, walked. -/
import Derived.Test.YtncdaicaljpgfaaGreatWm5
import Derived.Test.YtncdaicaljpgfaaGreatM6
set_option maxRecDepth 100000
set_option maxHeartbeats 4000000
set_option linter.unusedVariables false
set_option linter.unusedSimpArgs false
namespace Go.Proofs.YtncdaicaljpgfaaGreat
theorem any_take {l : List Int} {j : Nat} {x : Int} (h : (l.take j).any outM = false) (hx : l[j]? = some x) (ho : outM x = false) : (l.take (j + 1)).any outM = false := by
  rw [take_snoc hx, List.any_append, h, List.any_cons, ho]; rfl
theorem any_at {l : List Int} {j : Nat} {x : Int} (hx : l[j]? = some x) (ho : outM x = true) : l.any outM = true := List.any_eq_true.2 ⟨x, List.mem_of_getElem? hx, ho⟩
theorem outM_lt {x : Int} (h : x < 0) : outM x = true := by simp [outM, h]
theorem outM_gt {x : Int} (h : 1000000 < x) : outM x = true := by simp [outM, h]
variable {L : Lib} (hL : L.T = tab.get)
include hL
theorem rLeast_v {s t : Nat} {g d : List Int} {c e : Option Nat} (hs : s = 1 ∨ g = []) (ht : t = 1 ∨ d = []) (need : Int) (hn : need < 9223372036854775808) : VFn L 10 [tl mrow s g c, tl mrow t d e, .int .i64 need] (LeastV g d need) := by
  refine VFn.start (F := T10.1) (by rw [hL]; rfl) rfl rfl (by unfold LeastV; split <;> rfl) ?_
  have bad : badM g d → LeastV g d need = .tup [.int .i64 0, .bool false, .int .i64 2] := fun h => if_pos h
  by_cases e0 : ¬ g.length = d.length
  · have e0' : ¬ (g.length : Int) = d.length := by omega
    (repeat' (first | refine wSeq rfl ?_ | refine wBlock rfl ?_ | refine wSkip rfl ?_ | refine wExit rfl ?_ | refine wRet rfl ?_ | refine wCondT rfl rfl ?_ | refine wCondF rfl rfl ?_ | refine wOps rfl ?_ | refine wDraw rfl rfl ?_ | simp only [seval, push_cast, ↓reduceIte, ↓bP_some, ↓aP_true, reduceCtorEq, e0', e0]))
    rw [bad (.inl e0)]
    exact FnQ.ret rfl rfl
  have e1 : g.length = d.length := Decidable.not_not.1 e0
  by_cases e2 : (64 : Int) < d.length
  · (repeat' (first | refine wSeq rfl ?_ | refine wBlock rfl ?_ | refine wSkip rfl ?_ | refine wExit rfl ?_ | refine wRet rfl ?_ | refine wCondT rfl rfl ?_ | refine wCondF rfl rfl ?_ | refine wOps rfl ?_ | refine wDraw rfl rfl ?_ | simp only [seval, push_cast, ↓reduceIte, ↓bP_some, ↓aP_true, reduceCtorEq, e1, e2]))
    rw [bad (.inr (.inl (by omega)))]
    exact FnQ.ret rfl rfl
  (repeat' (first | refine wSeq rfl ?_ | refine wBlock rfl ?_ | refine wSkip rfl ?_ | refine wExit rfl ?_ | refine wRet rfl ?_ | refine wCondT rfl rfl ?_ | refine wCondF rfl rfl ?_ | refine wOps rfl ?_ | refine wDraw rfl rfl ?_ | simp only [seval, push_cast, ↓reduceIte, ↓bP_some, ↓aP_true, reduceCtorEq, e1, e2]))
  refine wCnt rfl 9 d.length (fun _ => []) (fun j => (g.take j).any outM = false ∧ (d.take j).any outM = false) rfl ⟨rfl, rfl⟩ ?_ ?_
  · rintro j hj ⟨i1, i2⟩
    have hj1 : j < g.length := by omega
    obtain ⟨x, hx, _⟩ := get_of hj1
    obtain ⟨y, hy, _⟩ := get_of hj
    obtain rfl := size_of hs hj1
    obtain rfl := size_of ht hj
    have hw := wrap_succ (show j < 9223372036854775807 by omega)
    by_cases h1 : x < 0
    · (repeat' (first | refine wSeq rfl ?_ | refine wBlock rfl ?_ | refine wSkip rfl ?_ | refine wExit rfl ?_ | refine wRet rfl ?_ | refine wCondT rfl rfl ?_ | refine wCondF rfl rfl ?_ | refine wOps rfl ?_ | refine wDraw rfl rfl ?_ | simp only [seval, push_cast, ↓reduceIte, ↓bP_some, ↓aP_true, reduceCtorEq, e1, hj, iaQ_tl hj1, iaQ_tl hj, hx, hy, h1]))
      rw [bad (.inr (.inr (.inl (any_at hx (outM_lt h1)))))]
      exact FnQ.ret rfl rfl
    by_cases h2 : 1000000 < x
    · (repeat' (first | refine wSeq rfl ?_ | refine wBlock rfl ?_ | refine wSkip rfl ?_ | refine wExit rfl ?_ | refine wRet rfl ?_ | refine wCondT rfl rfl ?_ | refine wCondF rfl rfl ?_ | refine wOps rfl ?_ | refine wDraw rfl rfl ?_ | simp only [seval, push_cast, ↓reduceIte, ↓bP_some, ↓aP_true, reduceCtorEq, e1, hj, iaQ_tl hj1, iaQ_tl hj, hx, hy, h1, h2]))
      rw [bad (.inr (.inr (.inl (any_at hx (outM_gt h2)))))]
      exact FnQ.ret rfl rfl
    by_cases h3 : y < 0
    · (repeat' (first | refine wSeq rfl ?_ | refine wBlock rfl ?_ | refine wSkip rfl ?_ | refine wExit rfl ?_ | refine wRet rfl ?_ | refine wCondT rfl rfl ?_ | refine wCondF rfl rfl ?_ | refine wOps rfl ?_ | refine wDraw rfl rfl ?_ | simp only [seval, push_cast, ↓reduceIte, ↓bP_some, ↓aP_true, reduceCtorEq, e1, hj, iaQ_tl hj1, iaQ_tl hj, hx, hy, h1, h2, h3]))
      rw [bad (.inr (.inr (.inr (any_at hy (outM_lt h3)))))]
      exact FnQ.ret rfl rfl
    by_cases h4 : 1000000 < y
    · (repeat' (first | refine wSeq rfl ?_ | refine wBlock rfl ?_ | refine wSkip rfl ?_ | refine wExit rfl ?_ | refine wRet rfl ?_ | refine wCondT rfl rfl ?_ | refine wCondF rfl rfl ?_ | refine wOps rfl ?_ | refine wDraw rfl rfl ?_ | simp only [seval, push_cast, ↓reduceIte, ↓bP_some, ↓aP_true, reduceCtorEq, e1, hj, iaQ_tl hj1, iaQ_tl hj, hx, hy, h1, h2, h3, h4]))
      rw [bad (.inr (.inr (.inr (any_at hy (outM_gt h4)))))]
      exact FnQ.ret rfl rfl
    (repeat' (first | refine wSeq rfl ?_ | refine wBlock rfl ?_ | refine wSkip rfl ?_ | refine wExit rfl ?_ | refine wRet rfl ?_ | refine wCondT rfl rfl ?_ | refine wCondF rfl rfl ?_ | refine wOps rfl ?_ | refine wDraw rfl rfl ?_ | simp only [seval, push_cast, ↓reduceIte, ↓bP_some, ↓aP_true, reduceCtorEq, e1, hj, iaQ_tl hj1, iaQ_tl hj, hx, hy, h1, h2, h3, h4, hw]))
    exact qR_n rfl rfl ⟨any_take i1 hx (out_no.2 (by omega)), any_take i2 hy (out_no.2 (by omega))⟩
  · rintro ⟨i1, i2⟩
    rw [List.take_of_length_le (by omega)] at i1 i2
    have hb : ¬ badM g d := by
      unfold badM
      rw [i1, i2]
      simp only [Bool.false_eq_true, or_false, not_or]
      exact ⟨by simpa using e1, by omega⟩
    have hV : LeastV g d need = .tup [.int .i64 (runM g d need).1, .bool (runM g d need).2, .int .i64 0] := if_neg hb
    (repeat' (first | refine wSeq rfl ?_ | refine wBlock rfl ?_ | refine wSkip rfl ?_ | refine wExit rfl ?_ | refine wRet rfl ?_ | refine wCondT rfl rfl ?_ | refine wCondF rfl rfl ?_ | refine wOps rfl ?_ | refine wDraw rfl rfl ?_ | refine opsV_call rfl rfl (rleast_v hL hs ht e1 (by omega) i1 i2 need hn) ?_ | simp only [seval, push_cast, ↓reduceIte, ↓bP_some, ↓aP_true, reduceCtorEq, e1, leV]))
    rw [hV]
    exact FnQ.ret rfl rfl
theorem does_v (hS : SortPOk L) (hw : VFn L 6 [] (.bool true)) (r cands w x need : Int) (a g d : Nl Int) (ha : okI a) (hg : okI g) (hd : okI d) (hn : -9223372036854775808 ≤ need ∧ need ≤ 9223372036854775807) : VFn L 3 [.int .u8 r, .int .i64 cands, nlv mrow 1 a, .int .i64 w, .int .i64 x, nlv mrow 1 g, nlv mrow 1 d, .int .i64 need] (.bool true) := by
  unfold okI at ha hg hd
  obtain ⟨s1, c1, n1, z1⟩ := nlv_tl (f := mrow) (n := 1) (o := a)
  obtain ⟨s2, c2, n2, z2⟩ := nlv_tl (f := mrow) (n := 1) (o := g)
  obtain ⟨s3, c3, n3, z3⟩ := nlv_tl (f := mrow) (n := 1) (o := d)
  rw [n1, n2, n3]
  generalize a.l = a at *
  generalize g.l = g at *
  generalize d.l = d at *
  refine VFn.start (F := T3.1) (by rw [hL]; rfl) rfl rfl rfl ?_
  by_cases h1 : (100 : Int) < a.length
  · (repeat' (first | refine wSeq rfl ?_ | refine wBlock rfl ?_ | refine wSkip rfl ?_ | refine wExit rfl ?_ | refine wRet rfl ?_ | refine wCondT rfl rfl ?_ | refine wCondF rfl rfl ?_ | refine wOps rfl ?_ | refine wDraw rfl rfl ?_ | refine opsV_call rfl rfl (hw) ?_ | simp only [seval, push_cast, ↓reduceIte, ↓bP_some, ↓aP_true, reduceCtorEq, h1]))
    exact FnQ.ret rfl rfl
  by_cases h2 : (100 : Int) < g.length
  · (repeat' (first | refine wSeq rfl ?_ | refine wBlock rfl ?_ | refine wSkip rfl ?_ | refine wExit rfl ?_ | refine wRet rfl ?_ | refine wCondT rfl rfl ?_ | refine wCondF rfl rfl ?_ | refine wOps rfl ?_ | refine wDraw rfl rfl ?_ | refine opsV_call rfl rfl (hw) ?_ | simp only [seval, push_cast, ↓reduceIte, ↓bP_some, ↓aP_true, reduceCtorEq, h1, h2]))
    exact FnQ.ret rfl rfl
  by_cases h3 : (100 : Int) < d.length
  · (repeat' (first | refine wSeq rfl ?_ | refine wBlock rfl ?_ | refine wSkip rfl ?_ | refine wExit rfl ?_ | refine wRet rfl ?_ | refine wCondT rfl rfl ?_ | refine wCondF rfl rfl ?_ | refine wOps rfl ?_ | refine wDraw rfl rfl ?_ | refine opsV_call rfl rfl (hw) ?_ | simp only [seval, push_cast, ↓reduceIte, ↓bP_some, ↓aP_true, reduceCtorEq, h1, h2, h3]))
    exact FnQ.ret rfl rfl
  have k1 := Gain_v hL r cands w x (c := c1) z1 (by omega)
  have k2 := rGain_v hL r cands w x (c := c1) z1 (by omega)
  have k3 := Least_v hL hS (c := c2) (e := c3) z2 z3 (by omega) (by omega) need hn.1
  have k4 := rLeast_v hL (c := c2) (e := c3) z2 z3 need (by omega)
  obtain ⟨p, q, hp⟩ : ∃ p q, gainV r cands a w x = .tup [.int .i64 p, .int .i64 q] := by unfold gainV; split <;> exact ⟨_, _, rfl⟩
  obtain ⟨u, v, y, hu⟩ : ∃ u v y, LeastV g d need = .tup [.int .i64 u, .bool v, .int .i64 y] := by unfold LeastV; split <;> exact ⟨_, _, _, rfl⟩
  rw [hp] at k1 k2
  rw [hu] at k3 k4
  have b1 : (v == v) = true := by simp
  (repeat' (first | refine wSeq rfl ?_ | refine wBlock rfl ?_ | refine wSkip rfl ?_ | refine wExit rfl ?_ | refine wRet rfl ?_ | refine wCondT rfl rfl ?_ | refine wCondF rfl rfl ?_ | refine wOps rfl ?_ | refine wDraw rfl rfl ?_ | refine opsV_call rfl rfl (k1) ?_ | refine opsV_call rfl rfl (k2) ?_ | refine opsV_call rfl rfl (k3) ?_ | refine opsV_call rfl rfl (k4) ?_ | refine opsV_call rfl rfl (hw) ?_ | simp only [seval, push_cast, ↓reduceIte, ↓bP_some, ↓aP_true, reduceCtorEq, h1, h2, h3, b1]))
  exact FnQ.ret rfl rfl
end Go.Proofs.YtncdaicaljpgfaaGreat
