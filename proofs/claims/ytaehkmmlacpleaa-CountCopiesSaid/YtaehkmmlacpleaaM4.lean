/- Calls of closures; results; lists that may be nil. · Outcomes: the reference's comparisons, walked. · Permutations, as the reference tells them. Nothing of the program is named here. · Outcomes: the reference's seats and what outcomes refer to, walked. · Permutations, as the program tells them: sorted, walked. · Outcomes: the reference's renaming of numbers, walked. · Outcomes: the reference's renaming, walked. · Outcomes: the reference's sizes, walked. · Outcomes: seats of candidates, by the program and by the reference, walked. -/
import Derived.Test.YtaehkmmlacpleaaM1
import Derived.Test.YtaehkmmlacpleaaAlXl
import Derived.Test.YtaehkmmlacpleaaM3
import Derived.Test.YtaehkmmlacpleaaAlS
import Derived.Test.YtaehkmmlacpleaaM2
set_option maxRecDepth 100000
set_option maxHeartbeats 4000000
set_option linter.unusedVariables false
set_option linter.unusedSimpArgs false
namespace Go.Proofs.Ytaehkmmlacpleaa
/-- A call of whatever is called, in a smaller memory: src are the blocks handed over. -/
theorem opsP_frm {L : Lib} {l : List AI} {K : Env → Heap → Prop} {E : Env} {H : Heap} {d : Option Nat} {anc : List Nat} (src : List Nat) {c : ACallee} {args : List AOpd} {k : Nat} {vs vs' : List V} {H0 : Heap} {Post : V → Heap → Prop} (hv : callee L.G E.get c args = some (.fn k, vs)) (hn : nodupO (src.map some) = true) (hlt : (src.all fun a => Nat.blt a H.length) = true) (hvs : vs.map (V.ren (sgOf H (src.map some) [])) = vs') (hH : H.sh (src.map some) [] = H0) (hf : AFn L (.fn k) vs' H0 Post) (h : ∀ r h', Post r h' → opsP L l K (E.put d (r.ren (outσ H.length src))) (H.back src h')) : opsP L (⟨d, .call c args, none, anc⟩ :: l) K E H := by
  show stepP L ⟨d, .call c args, none, anc⟩ (opsP L l K) E H
  unfold stepP AI.goes
  show CallP L E.get H c args _
  unfold CallP
  rw [hv]
  show AFn L (.fn k) vs H _
  refine AFn.frame (k' := .fn k) src [] rfl hn hlt ?_
  rw [hvs, hH]
  exact hf.mono fun r h' hp => ⟨rfl, h r h' hp⟩
/-- A call as it stands. -/
theorem opsP_all {L : Lib} {l : List AI} {K : Env → Heap → Prop} {E : Env} {H : Heap} {d : Option Nat} {anc : List Nat} {c : ACallee} {args : List AOpd} {k : Nat} {vs : List V} {Post : V → Heap → Prop} (hv : callee L.G E.get c args = some (.fn k, vs)) (hf : AFn L (.fn k) vs H Post) (h : ∀ r h', Post r h' → opsP L l K (E.put d r) h') : opsP L (⟨d, .call c args, none, anc⟩ :: l) K E H := by
  show stepP L ⟨d, .call c args, none, anc⟩ (opsP L l K) E H
  unfold stepP AI.goes
  show CallP L E.get H c args _
  unfold CallP
  rw [hv]
  show AFn L (.fn k) vs H _
  exact hf.mono h
theorem FnQ.at {F : AFunc} {n0 : Nat} {P : V → Heap → Prop} {E : Env} {H : Heap} {r : V} (h : resV E.get H.get F.results = some r) (hP : P r H) : FnQ F n0 P .ret E H := by
  have : ResP F.results n0 P E H := by
    unfold ResP
    rw [h]
    exact .inl hP
  exact this
theorem FnQ.sh {F : AFunc} {n0 : Nat} {P : V → Heap → Prop} {E : Env} {H : Heap} {r0 r : V} {H1 : Heap} (src : List (Option Nat)) (fz : List Nat) (ho : okSh n0 src = true) (h : resV E.get H.get F.results = some r0) (hr : r0.ren (sgOf H src fz) = r) (hH : H.sh src fz = H1) (hP : P r H1) : FnQ F n0 P .ret E H := by
  have : ResP F.results n0 P E H := by
    unfold ResP
    rw [h]
    refine .inr ⟨src, fz, ho, ?_⟩
    rw [hr, hH]; exact hP
  exact this
end Go.Proofs.Ytaehkmmlacpleaa
set_option maxRecDepth 100000
set_option maxHeartbeats 4000000
set_option linter.unusedVariables false
set_option linter.unusedSimpArgs false
namespace Go.Proofs.Ytaehkmmlacpleaa
def okI (o : Nl Int) : Prop := o.l.length * 8 ≤ 140737488351232
def okU (o : Nl Int) : Prop := o.l.length * 4 ≤ 140737488351232
def okRt (r : Rt) : Prop := okU r.num ∧ okU r.den
def okRd (d : Rd) : Prop := d.had.l.length * 56 ≤ 140737488351232 ∧ (∀ r ∈ d.had.l, okRt r) ∧ okRt d.lost ∧ okI d.el ∧ okI d.out
def okTi (t : Ti) : Prop := okI t.among
def okO (o : Oc) : Prop := okI o.el ∧ (o.rounds.l.length * 128 ≤ 140737488351232 ∧ ∀ d ∈ o.rounds.l, okRd d) ∧ o.ties.l.length * 32 ≤ 140737488351232 ∧ ∀ t ∈ o.ties.l, okTi t
theorem urow_eq (x : Int) : urow x = [.int .u32 x] := rfl
theorem rtrow_eq (r : Rt) : rtrow r = [.bool r.neg, nlv urow 1 r.num, nlv urow 1 r.den] := rfl
theorem rdrow_eq (d : Rd) : rdrow d = [nlv rtrow 3 d.had, .bool d.lost.neg, nlv urow 1 d.lost.num, nlv urow 1 d.lost.den, nlv mrow 1 d.el, nlv mrow 1 d.out] := rfl
theorem tirow_eq (t : Ti) : tirow t = [nlv mrow 1 t.among, .int .i64 t.chosen] := rfl
attribute [push_cast] urow_eq rtrow_eq rdrow_eq tirow_eq
theorem decide_ff {p : Prop} [Decidable p] (h : ¬ p) : decide p = false := decide_eq_false h
variable {L : Lib} (hL : L.T = tab.get)
include hL
theorem rints_v (s t : Nat) (l m : List Int) (c d : Option Nat) (hs : s = 1 ∨ l = []) (ht : t = 1 ∨ m = []) (hl : l.length < 4611686018427387904) (hm : m.length < 4611686018427387904) : VFn L 11 [tl mrow s l c, tl mrow t m d] (.bool (decide (l = m))) := by
  refine VFn.start (F := T11.1) (by rw [hL]; rfl) rfl rfl rfl ?_
  by_cases hlen : l.length = m.length
  · (repeat' (first | refine wSeq rfl ?_ | refine wBlock rfl ?_ | refine wSkip rfl ?_ | refine wExit rfl ?_ | refine wRet rfl ?_ | refine wCondT rfl rfl ?_ | refine wCondF rfl rfl ?_ | refine wOps rfl ?_ | refine wDraw rfl rfl ?_ | simp only [seval, push_cast, ↓reduceIte, ↓bP_some, ↓aP_true, reduceCtorEq, hlen]))
    refine wCnt rfl 5 l.length (fun _ => []) (fun j => l.take j = m.take j) rfl rfl ?_ ?_
    · intro j hj hI
      obtain ⟨a, ha, _⟩ := get_of hj
      obtain ⟨b, hb, _⟩ := get_of (show j < m.length by omega)
      obtain rfl := size_of hs hj
      obtain rfl := size_of ht (show j < m.length by omega)
      by_cases e : a = b
      · subst e
        (repeat' (first | refine wSeq rfl ?_ | refine wBlock rfl ?_ | refine wSkip rfl ?_ | refine wExit rfl ?_ | refine wRet rfl ?_ | refine wCondT rfl rfl ?_ | refine wCondF rfl rfl ?_ | refine wOps rfl ?_ | refine wDraw rfl rfl ?_ | simp only [seval, push_cast, ↓reduceIte, ↓bP_some, ↓aP_true, reduceCtorEq, iaQ_tl hj, iaQ_tl (show j < m.length by omega), ha, hb, hj, wrap_succ (show j < 9223372036854775807 by omega)]))
        exact qR_n rfl rfl (by rw [take_snoc ha, take_snoc hb, hI])
      · (repeat' (first | refine wSeq rfl ?_ | refine wBlock rfl ?_ | refine wSkip rfl ?_ | refine wExit rfl ?_ | refine wRet rfl ?_ | refine wCondT rfl rfl ?_ | refine wCondF rfl rfl ?_ | refine wOps rfl ?_ | refine wDraw rfl rfl ?_ | simp only [seval, push_cast, ↓reduceIte, ↓bP_some, ↓aP_true, reduceCtorEq, iaQ_tl hj, iaQ_tl (show j < m.length by omega), ha, hb, hj, ne_both e]))
        rw [show decide (l = m) = false from decide_eq_false fun h => e (by subst h; rw [ha] at hb; cases hb; rfl)]
        exact FnQ.ret rfl rfl
    · intro hI
      (repeat' (first | refine wSeq rfl ?_ | refine wBlock rfl ?_ | refine wSkip rfl ?_ | refine wExit rfl ?_ | refine wRet rfl ?_ | refine wCondT rfl rfl ?_ | refine wCondF rfl rfl ?_ | refine wOps rfl ?_ | refine wDraw rfl rfl ?_ | simp only [seval, push_cast, ↓reduceIte, ↓bP_some, ↓aP_true, reduceCtorEq, hlen]))
      rw [show decide (l = m) = true from decide_eq_true (by rwa [take_all, hlen, take_all] at hI)]
      exact FnQ.ret rfl rfl
  · (repeat' (first | refine wSeq rfl ?_ | refine wBlock rfl ?_ | refine wSkip rfl ?_ | refine wExit rfl ?_ | refine wRet rfl ?_ | refine wCondT rfl rfl ?_ | refine wCondF rfl rfl ?_ | refine wOps rfl ?_ | refine wDraw rfl rfl ?_ | simp only [seval, push_cast, ↓reduceIte, ↓bP_some, ↓aP_true, reduceCtorEq, hlen]))
    rw [show decide (l = m) = false from decide_eq_false fun h => hlen (by rw [h])]
    exact FnQ.ret rfl rfl
theorem rints_n (a b : Nl Int) (ha : okI a) (hb : okI b) : VFn L 11 [nlv mrow 1 a, nlv mrow 1 b] (.bool (decide (a.l = b.l))) := by
  obtain ⟨s, c, h1, h2⟩ := nlv_tl (f := mrow) (n := 1) (o := a)
  obtain ⟨t, d, h3, h4⟩ := nlv_tl (f := mrow) (n := 1) (o := b)
  rw [h1, h3]
  unfold okI at ha hb
  exact rints_v hL _ _ _ _ _ _ h2 h4 (by omega) (by omega)
theorem r03same_v (s t : Nat) (l m : List Int) (c d : Option Nat) (hs : s = 1 ∨ l = []) (ht : t = 1 ∨ m = []) (hl : l.length < 4611686018427387904) (hm : m.length < 4611686018427387904) : VFn L 63 [tl urow s l c, tl urow t m d] (.bool (decide (l = m))) := by
  refine VFn.start (F := T63.1) (by rw [hL]; rfl) rfl rfl rfl ?_
  by_cases hlen : l.length = m.length
  · (repeat' (first | refine wSeq rfl ?_ | refine wBlock rfl ?_ | refine wSkip rfl ?_ | refine wExit rfl ?_ | refine wRet rfl ?_ | refine wCondT rfl rfl ?_ | refine wCondF rfl rfl ?_ | refine wOps rfl ?_ | refine wDraw rfl rfl ?_ | simp only [seval, push_cast, ↓reduceIte, ↓bP_some, ↓aP_true, reduceCtorEq, hlen]))
    refine wCnt rfl 5 l.length (fun _ => []) (fun j => l.take j = m.take j) rfl rfl ?_ ?_
    · intro j hj hI
      obtain ⟨a, ha, _⟩ := get_of hj
      obtain ⟨b, hb, _⟩ := get_of (show j < m.length by omega)
      obtain rfl := size_of hs hj
      obtain rfl := size_of ht (show j < m.length by omega)
      by_cases e : a = b
      · subst e
        (repeat' (first | refine wSeq rfl ?_ | refine wBlock rfl ?_ | refine wSkip rfl ?_ | refine wExit rfl ?_ | refine wRet rfl ?_ | refine wCondT rfl rfl ?_ | refine wCondF rfl rfl ?_ | refine wOps rfl ?_ | refine wDraw rfl rfl ?_ | simp only [seval, push_cast, ↓reduceIte, ↓bP_some, ↓aP_true, reduceCtorEq, iaQ_tl hj, iaQ_tl (show j < m.length by omega), ha, hb, hj, wrap_succ (show j < 9223372036854775807 by omega)]))
        exact qR_n rfl rfl (by rw [take_snoc ha, take_snoc hb, hI])
      · (repeat' (first | refine wSeq rfl ?_ | refine wBlock rfl ?_ | refine wSkip rfl ?_ | refine wExit rfl ?_ | refine wRet rfl ?_ | refine wCondT rfl rfl ?_ | refine wCondF rfl rfl ?_ | refine wOps rfl ?_ | refine wDraw rfl rfl ?_ | simp only [seval, push_cast, ↓reduceIte, ↓bP_some, ↓aP_true, reduceCtorEq, iaQ_tl hj, iaQ_tl (show j < m.length by omega), ha, hb, hj, ne_both e]))
        rw [show decide (l = m) = false from decide_eq_false fun h => e (by subst h; rw [ha] at hb; cases hb; rfl)]
        exact FnQ.ret rfl rfl
    · intro hI
      (repeat' (first | refine wSeq rfl ?_ | refine wBlock rfl ?_ | refine wSkip rfl ?_ | refine wExit rfl ?_ | refine wRet rfl ?_ | refine wCondT rfl rfl ?_ | refine wCondF rfl rfl ?_ | refine wOps rfl ?_ | refine wDraw rfl rfl ?_ | simp only [seval, push_cast, ↓reduceIte, ↓bP_some, ↓aP_true, reduceCtorEq, hlen]))
      rw [show decide (l = m) = true from decide_eq_true (by rwa [take_all, hlen, take_all] at hI)]
      exact FnQ.ret rfl rfl
  · (repeat' (first | refine wSeq rfl ?_ | refine wBlock rfl ?_ | refine wSkip rfl ?_ | refine wExit rfl ?_ | refine wRet rfl ?_ | refine wCondT rfl rfl ?_ | refine wCondF rfl rfl ?_ | refine wOps rfl ?_ | refine wDraw rfl rfl ?_ | simp only [seval, push_cast, ↓reduceIte, ↓bP_some, ↓aP_true, reduceCtorEq, hlen]))
    rw [show decide (l = m) = false from decide_eq_false fun h => hlen (by rw [h])]
    exact FnQ.ret rfl rfl
theorem r03same_n (a b : Nl Int) (ha : okU a) (hb : okU b) : VFn L 63 [nlv urow 1 a, nlv urow 1 b] (.bool (decide (a.l = b.l))) := by
  obtain ⟨s, c, h1, h2⟩ := nlv_tl (f := urow) (n := 1) (o := a)
  obtain ⟨t, d, h3, h4⟩ := nlv_tl (f := urow) (n := 1) (o := b)
  rw [h1, h3]
  unfold okU at ha hb
  exact r03same_v hL _ _ _ _ _ _ h2 h4 (by omega) (by omega)
theorem r04same_v (x y : Rt) (hx : okRt x) (hy : okRt y) : VFn L 47 [.agg [.bool x.neg, nlv urow 1 x.num, nlv urow 1 x.den], .agg [.bool y.neg, nlv urow 1 y.num, nlv urow 1 y.den]] (.bool (sameRt x y)) := by
  refine VFn.start (F := T47.1) (by rw [hL]; rfl) rfl (by simp [V.closeds, V.closed, closed_nlv]) rfl ?_
  by_cases h1 : x.neg = y.neg
  · have hb : (x.neg == y.neg) = true := by simp [h1]
    by_cases h2 : x.num.l = y.num.l
    · (repeat' (first | refine wSeq rfl ?_ | refine wBlock rfl ?_ | refine wSkip rfl ?_ | refine wExit rfl ?_ | refine wRet rfl ?_ | refine wCondT rfl rfl ?_ | refine wCondF rfl rfl ?_ | refine wOps rfl ?_ | refine wDraw rfl rfl ?_ | refine opsV_call rfl rfl (r03same_n hL x.num y.num hx.1 hy.1) ?_ | refine opsV_call rfl rfl (r03same_n hL x.den y.den hx.2 hy.2) ?_ | simp only [seval, push_cast, ↓reduceIte, ↓bP_some, ↓aP_true, reduceCtorEq, hb, h2, decide_true]))
      rw [show sameRt x y = decide (x.den.l = y.den.l) by simp [sameRt, erRt, h1, h2]]
      exact FnQ.ret rfl rfl
    · (repeat' (first | refine wSeq rfl ?_ | refine wBlock rfl ?_ | refine wSkip rfl ?_ | refine wExit rfl ?_ | refine wRet rfl ?_ | refine wCondT rfl rfl ?_ | refine wCondF rfl rfl ?_ | refine wOps rfl ?_ | refine wDraw rfl rfl ?_ | refine opsV_call rfl rfl (r03same_n hL x.num y.num hx.1 hy.1) ?_ | refine opsV_call rfl rfl (r03same_n hL x.den y.den hx.2 hy.2) ?_ | simp only [seval, push_cast, ↓reduceIte, ↓bP_some, ↓aP_true, reduceCtorEq, hb, decide_ff h2]))
      rw [show sameRt x y = false by simp [sameRt, erRt, h1, h2]]
      exact FnQ.ret rfl rfl
  · have hb : (x.neg == y.neg) = false := by simp [h1]
    (repeat' (first | refine wSeq rfl ?_ | refine wBlock rfl ?_ | refine wSkip rfl ?_ | refine wExit rfl ?_ | refine wRet rfl ?_ | refine wCondT rfl rfl ?_ | refine wCondF rfl rfl ?_ | refine wOps rfl ?_ | refine wDraw rfl rfl ?_ | refine opsV_call rfl rfl (r03same_n hL x.num y.num hx.1 hy.1) ?_ | refine opsV_call rfl rfl (r03same_n hL x.den y.den hx.2 hy.2) ?_ | simp only [seval, push_cast, ↓reduceIte, ↓bP_some, ↓aP_true, reduceCtorEq, hb]))
    rw [show sameRt x y = false by simp [sameRt, erRt, h1]]
    exact FnQ.ret rfl rfl
theorem r04all_v (s t : Nat) (l m : List Rt) (c d : Option Nat) (hs : s = 3 ∨ l = []) (ht : t = 3 ∨ m = []) (hl : l.length < 4611686018427387904) (hm : m.length < 4611686018427387904) (kl : ∀ x ∈ l, okRt x) (km : ∀ x ∈ m, okRt x) : VFn L 46 [tl rtrow s l c, tl rtrow t m d] (.bool (decide (l.map erRt = m.map erRt))) := by
  refine VFn.start (F := T46.1) (by rw [hL]; rfl) rfl rfl rfl ?_
  by_cases hlen : l.length = m.length
  · (repeat' (first | refine wSeq rfl ?_ | refine wBlock rfl ?_ | refine wSkip rfl ?_ | refine wExit rfl ?_ | refine wRet rfl ?_ | refine wCondT rfl rfl ?_ | refine wCondF rfl rfl ?_ | refine wOps rfl ?_ | refine wDraw rfl rfl ?_ | simp only [seval, push_cast, ↓reduceIte, ↓bP_some, ↓aP_true, reduceCtorEq, hlen]))
    refine wCnt rfl 5 l.length (fun _ => []) (fun j => (l.take j).map erRt = (m.take j).map erRt) rfl rfl ?_ ?_
    · intro j hj hI
      obtain ⟨a, ha, ka⟩ := get_of hj
      obtain ⟨b, hb, kb⟩ := get_of (show j < m.length by omega)
      obtain rfl := size_of hs hj
      obtain rfl := size_of ht (show j < m.length by omega)
      have kc := r04same_v hL a b (kl a ka) (km b kb)
      by_cases e : erRt a = erRt b
      · have es : sameRt a b = true := decide_eq_true e
        (repeat' (first | refine wSeq rfl ?_ | refine wBlock rfl ?_ | refine wSkip rfl ?_ | refine wExit rfl ?_ | refine wRet rfl ?_ | refine wCondT rfl rfl ?_ | refine wCondF rfl rfl ?_ | refine wOps rfl ?_ | refine wDraw rfl rfl ?_ | refine opsV_call rfl rfl (kc) ?_ | simp only [seval, push_cast, ↓reduceIte, ↓bP_some, ↓aP_true, reduceCtorEq, iaQ_tl hj, iaQ_tl (show j < m.length by omega), ha, hb, hj, es, wrap_succ (show j < 9223372036854775807 by omega)]))
        exact qR_n rfl rfl (by rw [take_snoc ha, take_snoc hb, List.map_append, List.map_append, hI, List.map_singleton, List.map_singleton, e])
      · have es : sameRt a b = false := decide_eq_false e
        (repeat' (first | refine wSeq rfl ?_ | refine wBlock rfl ?_ | refine wSkip rfl ?_ | refine wExit rfl ?_ | refine wRet rfl ?_ | refine wCondT rfl rfl ?_ | refine wCondF rfl rfl ?_ | refine wOps rfl ?_ | refine wDraw rfl rfl ?_ | refine opsV_call rfl rfl (kc) ?_ | simp only [seval, push_cast, ↓reduceIte, ↓bP_some, ↓aP_true, reduceCtorEq, iaQ_tl hj, iaQ_tl (show j < m.length by omega), ha, hb, hj, es]))
        rw [decide_eq_false (list_ne (e := erRt) ha hb e)]
        exact FnQ.ret rfl rfl
    · intro hI
      (repeat' (first | refine wSeq rfl ?_ | refine wBlock rfl ?_ | refine wSkip rfl ?_ | refine wExit rfl ?_ | refine wRet rfl ?_ | refine wCondT rfl rfl ?_ | refine wCondF rfl rfl ?_ | refine wOps rfl ?_ | refine wDraw rfl rfl ?_ | simp only [seval, push_cast, ↓reduceIte, ↓bP_some, ↓aP_true, reduceCtorEq, hlen]))
      rw [show decide (l.map erRt = m.map erRt) = true from decide_eq_true (by rwa [take_all, hlen, take_all] at hI)]
      exact FnQ.ret rfl rfl
  · (repeat' (first | refine wSeq rfl ?_ | refine wBlock rfl ?_ | refine wSkip rfl ?_ | refine wExit rfl ?_ | refine wRet rfl ?_ | refine wCondT rfl rfl ?_ | refine wCondF rfl rfl ?_ | refine wOps rfl ?_ | refine wDraw rfl rfl ?_ | simp only [seval, push_cast, ↓reduceIte, ↓bP_some, ↓aP_true, reduceCtorEq, hlen]))
    rw [show decide (l.map erRt = m.map erRt) = false from decide_eq_false fun h => hlen (by simpa using congrArg List.length h)]
    exact FnQ.ret rfl rfl
theorem r04all_n (a b : Nl Rt) (ha : a.l.length * 56 ≤ 140737488351232) (hb : b.l.length * 56 ≤ 140737488351232) (ka : ∀ x ∈ a.l, okRt x) (kb : ∀ x ∈ b.l, okRt x) : VFn L 46 [nlv rtrow 3 a, nlv rtrow 3 b] (.bool (decide (a.l.map erRt = b.l.map erRt))) := by
  obtain ⟨s, c, h1, h2⟩ := nlv_tl (f := rtrow) (n := 3) (o := a)
  obtain ⟨t, d, h3, h4⟩ := nlv_tl (f := rtrow) (n := 3) (o := b)
  rw [h1, h3]
  exact r04all_v hL _ _ _ _ _ _ h2 h4 (by omega) (by omega) ka kb
theorem r11rounds_v (s t : Nat) (l m : List Rd) (c d : Option Nat) (hs : s = 6 ∨ l = []) (ht : t = 6 ∨ m = []) (hl : l.length < 4611686018427387904) (hm : m.length < 4611686018427387904) (kl : ∀ x ∈ l, okRd x) (km : ∀ x ∈ m, okRd x) : VFn L 27 [tl rdrow s l c, tl rdrow t m d] (.bool (decide (l.map erRd = m.map erRd))) := by
  refine VFn.start (F := T27.1) (by rw [hL]; rfl) rfl rfl rfl ?_
  by_cases hlen : l.length = m.length
  · (repeat' (first | refine wSeq rfl ?_ | refine wBlock rfl ?_ | refine wSkip rfl ?_ | refine wExit rfl ?_ | refine wRet rfl ?_ | refine wCondT rfl rfl ?_ | refine wCondF rfl rfl ?_ | refine wOps rfl ?_ | refine wDraw rfl rfl ?_ | simp only [seval, push_cast, ↓reduceIte, ↓bP_some, ↓aP_true, reduceCtorEq, hlen]))
    refine wCnt rfl 5 l.length (fun _ => []) (fun j => (l.take j).map erRd = (m.take j).map erRd) rfl rfl ?_ ?_
    · intro j hj hI
      obtain ⟨a, ha, ka⟩ := get_of hj
      obtain ⟨b, hb, kb⟩ := get_of (show j < m.length by omega)
      obtain rfl := size_of hs hj
      obtain rfl := size_of ht (show j < m.length by omega)
      by_cases e : erRd a = erRd b
      · have e' := e
        simp only [erRd, Prod.mk.injEq] at e'
        obtain ⟨e1, e2, e3, e4⟩ := e'
        have es : sameRt a.lost b.lost = true := decide_eq_true e2
        (repeat' (first | refine wSeq rfl ?_ | refine wBlock rfl ?_ | refine wSkip rfl ?_ | refine wExit rfl ?_ | refine wRet rfl ?_ | refine wCondT rfl rfl ?_ | refine wCondF rfl rfl ?_ | refine wOps rfl ?_ | refine wDraw rfl rfl ?_ | refine opsV_call rfl rfl (r04all_n hL a.had b.had (kl a ka).1 (km b kb).1 (kl a ka).2.1 (km b kb).2.1) ?_ | refine opsV_call rfl rfl (r04same_v hL a.lost b.lost (kl a ka).2.2.1 (km b kb).2.2.1) ?_ | refine opsV_call rfl rfl (rints_n hL a.el b.el (kl a ka).2.2.2.1 (km b kb).2.2.2.1) ?_ | refine opsV_call rfl rfl (rints_n hL a.out b.out (kl a ka).2.2.2.2 (km b kb).2.2.2.2) ?_ | simp only [seval, push_cast, ↓reduceIte, ↓bP_some, ↓aP_true, reduceCtorEq, iaQ_tl hj, iaQ_tl (show j < m.length by omega), ha, hb, hj, e1, es, e3, e4, decide_true, wrap_succ (show j < 9223372036854775807 by omega)]))
        exact qR_n rfl rfl (by rw [take_snoc ha, take_snoc hb, List.map_append, List.map_append, hI, List.map_singleton, List.map_singleton, e])
      · by_cases e1 : a.had.l.map erRt = b.had.l.map erRt
        · by_cases e2 : erRt a.lost = erRt b.lost
          · have es : sameRt a.lost b.lost = true := decide_eq_true e2
            by_cases e3 : a.el.l = b.el.l
            · have e4 : ¬ a.out.l = b.out.l := fun h => e (by simp only [erRd, e1, e2, e3, h])
              (repeat' (first | refine wSeq rfl ?_ | refine wBlock rfl ?_ | refine wSkip rfl ?_ | refine wExit rfl ?_ | refine wRet rfl ?_ | refine wCondT rfl rfl ?_ | refine wCondF rfl rfl ?_ | refine wOps rfl ?_ | refine wDraw rfl rfl ?_ | refine opsV_call rfl rfl (r04all_n hL a.had b.had (kl a ka).1 (km b kb).1 (kl a ka).2.1 (km b kb).2.1) ?_ | refine opsV_call rfl rfl (r04same_v hL a.lost b.lost (kl a ka).2.2.1 (km b kb).2.2.1) ?_ | refine opsV_call rfl rfl (rints_n hL a.el b.el (kl a ka).2.2.2.1 (km b kb).2.2.2.1) ?_ | refine opsV_call rfl rfl (rints_n hL a.out b.out (kl a ka).2.2.2.2 (km b kb).2.2.2.2) ?_ | simp only [seval, push_cast, ↓reduceIte, ↓bP_some, ↓aP_true, reduceCtorEq, iaQ_tl hj, iaQ_tl (show j < m.length by omega), ha, hb, hj, e1, es, e3, decide_ff e4, decide_true]))
              rw [decide_eq_false (list_ne (e := erRd) ha hb e)]
              exact FnQ.ret rfl rfl
            · (repeat' (first | refine wSeq rfl ?_ | refine wBlock rfl ?_ | refine wSkip rfl ?_ | refine wExit rfl ?_ | refine wRet rfl ?_ | refine wCondT rfl rfl ?_ | refine wCondF rfl rfl ?_ | refine wOps rfl ?_ | refine wDraw rfl rfl ?_ | refine opsV_call rfl rfl (r04all_n hL a.had b.had (kl a ka).1 (km b kb).1 (kl a ka).2.1 (km b kb).2.1) ?_ | refine opsV_call rfl rfl (r04same_v hL a.lost b.lost (kl a ka).2.2.1 (km b kb).2.2.1) ?_ | refine opsV_call rfl rfl (rints_n hL a.el b.el (kl a ka).2.2.2.1 (km b kb).2.2.2.1) ?_ | refine opsV_call rfl rfl (rints_n hL a.out b.out (kl a ka).2.2.2.2 (km b kb).2.2.2.2) ?_ | simp only [seval, push_cast, ↓reduceIte, ↓bP_some, ↓aP_true, reduceCtorEq, iaQ_tl hj, iaQ_tl (show j < m.length by omega), ha, hb, hj, e1, es, decide_ff e3, decide_true]))
              rw [decide_eq_false (list_ne (e := erRd) ha hb e)]
              exact FnQ.ret rfl rfl
          · have es : sameRt a.lost b.lost = false := decide_eq_false e2
            (repeat' (first | refine wSeq rfl ?_ | refine wBlock rfl ?_ | refine wSkip rfl ?_ | refine wExit rfl ?_ | refine wRet rfl ?_ | refine wCondT rfl rfl ?_ | refine wCondF rfl rfl ?_ | refine wOps rfl ?_ | refine wDraw rfl rfl ?_ | refine opsV_call rfl rfl (r04all_n hL a.had b.had (kl a ka).1 (km b kb).1 (kl a ka).2.1 (km b kb).2.1) ?_ | refine opsV_call rfl rfl (r04same_v hL a.lost b.lost (kl a ka).2.2.1 (km b kb).2.2.1) ?_ | refine opsV_call rfl rfl (rints_n hL a.el b.el (kl a ka).2.2.2.1 (km b kb).2.2.2.1) ?_ | refine opsV_call rfl rfl (rints_n hL a.out b.out (kl a ka).2.2.2.2 (km b kb).2.2.2.2) ?_ | simp only [seval, push_cast, ↓reduceIte, ↓bP_some, ↓aP_true, reduceCtorEq, iaQ_tl hj, iaQ_tl (show j < m.length by omega), ha, hb, hj, e1, es, decide_true]))
            rw [decide_eq_false (list_ne (e := erRd) ha hb e)]
            exact FnQ.ret rfl rfl
        · (repeat' (first | refine wSeq rfl ?_ | refine wBlock rfl ?_ | refine wSkip rfl ?_ | refine wExit rfl ?_ | refine wRet rfl ?_ | refine wCondT rfl rfl ?_ | refine wCondF rfl rfl ?_ | refine wOps rfl ?_ | refine wDraw rfl rfl ?_ | refine opsV_call rfl rfl (r04all_n hL a.had b.had (kl a ka).1 (km b kb).1 (kl a ka).2.1 (km b kb).2.1) ?_ | refine opsV_call rfl rfl (r04same_v hL a.lost b.lost (kl a ka).2.2.1 (km b kb).2.2.1) ?_ | refine opsV_call rfl rfl (rints_n hL a.el b.el (kl a ka).2.2.2.1 (km b kb).2.2.2.1) ?_ | refine opsV_call rfl rfl (rints_n hL a.out b.out (kl a ka).2.2.2.2 (km b kb).2.2.2.2) ?_ | simp only [seval, push_cast, ↓reduceIte, ↓bP_some, ↓aP_true, reduceCtorEq, iaQ_tl hj, iaQ_tl (show j < m.length by omega), ha, hb, hj, decide_ff e1]))
          rw [decide_eq_false (list_ne (e := erRd) ha hb e)]
          exact FnQ.ret rfl rfl
    · intro hI
      (repeat' (first | refine wSeq rfl ?_ | refine wBlock rfl ?_ | refine wSkip rfl ?_ | refine wExit rfl ?_ | refine wRet rfl ?_ | refine wCondT rfl rfl ?_ | refine wCondF rfl rfl ?_ | refine wOps rfl ?_ | refine wDraw rfl rfl ?_ | simp only [seval, push_cast, ↓reduceIte, ↓bP_some, ↓aP_true, reduceCtorEq, hlen]))
      rw [show decide (l.map erRd = m.map erRd) = true from decide_eq_true (by rwa [take_all, hlen, take_all] at hI)]
      exact FnQ.ret rfl rfl
  · (repeat' (first | refine wSeq rfl ?_ | refine wBlock rfl ?_ | refine wSkip rfl ?_ | refine wExit rfl ?_ | refine wRet rfl ?_ | refine wCondT rfl rfl ?_ | refine wCondF rfl rfl ?_ | refine wOps rfl ?_ | refine wDraw rfl rfl ?_ | simp only [seval, push_cast, ↓reduceIte, ↓bP_some, ↓aP_true, reduceCtorEq, hlen]))
    rw [show decide (l.map erRd = m.map erRd) = false from decide_eq_false fun h => hlen (by simpa using congrArg List.length h)]
    exact FnQ.ret rfl rfl
theorem r11rounds_n (a b : Nl Rd) (ha : a.l.length * 128 ≤ 140737488351232) (hb : b.l.length * 128 ≤ 140737488351232) (ka : ∀ x ∈ a.l, okRd x) (kb : ∀ x ∈ b.l, okRd x) : VFn L 27 [nlv rdrow 6 a, nlv rdrow 6 b] (.bool (decide (a.l.map erRd = b.l.map erRd))) := by
  obtain ⟨s, c, h1, h2⟩ := nlv_tl (f := rdrow) (n := 6) (o := a)
  obtain ⟨t, d, h3, h4⟩ := nlv_tl (f := rdrow) (n := 6) (o := b)
  rw [h1, h3]
  exact r11rounds_v hL _ _ _ _ _ _ h2 h4 (by omega) (by omega) ka kb
theorem r11ties_v (s t : Nat) (l m : List Ti) (c d : Option Nat) (hs : s = 2 ∨ l = []) (ht : t = 2 ∨ m = []) (hl : l.length < 4611686018427387904) (hm : m.length < 4611686018427387904) (kl : ∀ x ∈ l, okTi x) (km : ∀ x ∈ m, okTi x) : VFn L 28 [tl tirow s l c, tl tirow t m d] (.bool (decide (l.map erTi = m.map erTi))) := by
  refine VFn.start (F := T28.1) (by rw [hL]; rfl) rfl rfl rfl ?_
  by_cases hlen : l.length = m.length
  · (repeat' (first | refine wSeq rfl ?_ | refine wBlock rfl ?_ | refine wSkip rfl ?_ | refine wExit rfl ?_ | refine wRet rfl ?_ | refine wCondT rfl rfl ?_ | refine wCondF rfl rfl ?_ | refine wOps rfl ?_ | refine wDraw rfl rfl ?_ | simp only [seval, push_cast, ↓reduceIte, ↓bP_some, ↓aP_true, reduceCtorEq, hlen]))
    refine wCnt rfl 5 l.length (fun _ => []) (fun j => (l.take j).map erTi = (m.take j).map erTi) rfl rfl ?_ ?_
    · intro j hj hI
      obtain ⟨a, ha, ka⟩ := get_of hj
      obtain ⟨b, hb, kb⟩ := get_of (show j < m.length by omega)
      obtain rfl := size_of hs hj
      obtain rfl := size_of ht (show j < m.length by omega)
      by_cases e : erTi a = erTi b
      · have e' := e
        simp only [erTi, Prod.mk.injEq] at e'
        obtain ⟨e1, e2⟩ := e'
        (repeat' (first | refine wSeq rfl ?_ | refine wBlock rfl ?_ | refine wSkip rfl ?_ | refine wExit rfl ?_ | refine wRet rfl ?_ | refine wCondT rfl rfl ?_ | refine wCondF rfl rfl ?_ | refine wOps rfl ?_ | refine wDraw rfl rfl ?_ | refine opsV_call rfl rfl (rints_n hL a.among b.among (kl a ka) (km b kb)) ?_ | simp only [seval, push_cast, ↓reduceIte, ↓bP_some, ↓aP_true, reduceCtorEq, iaQ_tl hj, iaQ_tl (show j < m.length by omega), ha, hb, hj, e1, e2, decide_true, wrap_succ (show j < 9223372036854775807 by omega)]))
        exact qR_n rfl rfl (by rw [take_snoc ha, take_snoc hb, List.map_append, List.map_append, hI, List.map_singleton, List.map_singleton, e])
      · by_cases e2 : a.chosen = b.chosen
        · have e1 : ¬ a.among.l = b.among.l := fun h => e (by simp only [erTi, e2, h])
          (repeat' (first | refine wSeq rfl ?_ | refine wBlock rfl ?_ | refine wSkip rfl ?_ | refine wExit rfl ?_ | refine wRet rfl ?_ | refine wCondT rfl rfl ?_ | refine wCondF rfl rfl ?_ | refine wOps rfl ?_ | refine wDraw rfl rfl ?_ | refine opsV_call rfl rfl (rints_n hL a.among b.among (kl a ka) (km b kb)) ?_ | simp only [seval, push_cast, ↓reduceIte, ↓bP_some, ↓aP_true, reduceCtorEq, iaQ_tl hj, iaQ_tl (show j < m.length by omega), ha, hb, hj, e2, decide_ff e1]))
          rw [decide_eq_false (list_ne (e := erTi) ha hb e)]
          exact FnQ.ret rfl rfl
        · (repeat' (first | refine wSeq rfl ?_ | refine wBlock rfl ?_ | refine wSkip rfl ?_ | refine wExit rfl ?_ | refine wRet rfl ?_ | refine wCondT rfl rfl ?_ | refine wCondF rfl rfl ?_ | refine wOps rfl ?_ | refine wDraw rfl rfl ?_ | refine opsV_call rfl rfl (rints_n hL a.among b.among (kl a ka) (km b kb)) ?_ | simp only [seval, push_cast, ↓reduceIte, ↓bP_some, ↓aP_true, reduceCtorEq, iaQ_tl hj, iaQ_tl (show j < m.length by omega), ha, hb, hj, ne_both e2]))
          rw [decide_eq_false (list_ne (e := erTi) ha hb e)]
          exact FnQ.ret rfl rfl
    · intro hI
      (repeat' (first | refine wSeq rfl ?_ | refine wBlock rfl ?_ | refine wSkip rfl ?_ | refine wExit rfl ?_ | refine wRet rfl ?_ | refine wCondT rfl rfl ?_ | refine wCondF rfl rfl ?_ | refine wOps rfl ?_ | refine wDraw rfl rfl ?_ | simp only [seval, push_cast, ↓reduceIte, ↓bP_some, ↓aP_true, reduceCtorEq, hlen]))
      rw [show decide (l.map erTi = m.map erTi) = true from decide_eq_true (by rwa [take_all, hlen, take_all] at hI)]
      exact FnQ.ret rfl rfl
  · (repeat' (first | refine wSeq rfl ?_ | refine wBlock rfl ?_ | refine wSkip rfl ?_ | refine wExit rfl ?_ | refine wRet rfl ?_ | refine wCondT rfl rfl ?_ | refine wCondF rfl rfl ?_ | refine wOps rfl ?_ | refine wDraw rfl rfl ?_ | simp only [seval, push_cast, ↓reduceIte, ↓bP_some, ↓aP_true, reduceCtorEq, hlen]))
    rw [show decide (l.map erTi = m.map erTi) = false from decide_eq_false fun h => hlen (by simpa using congrArg List.length h)]
    exact FnQ.ret rfl rfl
theorem r11ties_n (a b : Nl Ti) (ha : a.l.length * 32 ≤ 140737488351232) (hb : b.l.length * 32 ≤ 140737488351232) (ka : ∀ x ∈ a.l, okTi x) (kb : ∀ x ∈ b.l, okTi x) : VFn L 28 [nlv tirow 2 a, nlv tirow 2 b] (.bool (decide (a.l.map erTi = b.l.map erTi))) := by
  obtain ⟨s, c, h1, h2⟩ := nlv_tl (f := tirow) (n := 2) (o := a)
  obtain ⟨t, d, h3, h4⟩ := nlv_tl (f := tirow) (n := 2) (o := b)
  rw [h1, h3]
  exact r11ties_v hL _ _ _ _ _ _ h2 h4 (by omega) (by omega) ka kb
theorem r11same_v (x y : Oc) (hx : okO x) (hy : okO y) : VFn L 10 [ocv x, ocv y] (.bool (sameO x y)) := by
  refine VFn.start (F := T10.1) (by rw [hL]; rfl) rfl (by simp [V.closeds, closed_ocv]) rfl ?_
  have k1 := rints_n hL x.el y.el hx.1 hy.1
  have k2 := r11rounds_n hL x.rounds y.rounds hx.2.1.1 hy.2.1.1 hx.2.1.2 hy.2.1.2
  have k3 := r11ties_n hL x.ties y.ties hx.2.2.1 hy.2.2.1 hx.2.2.2 hy.2.2.2
  by_cases h1 : x.el.l = y.el.l
  · by_cases h2 : x.rounds.l.map erRd = y.rounds.l.map erRd
    · rw [show sameO x y = decide (x.ties.l.map erTi = y.ties.l.map erTi) by simp [sameO, h1, h2]]
      (repeat' (first | refine wSeq rfl ?_ | refine wBlock rfl ?_ | refine wSkip rfl ?_ | refine wExit rfl ?_ | refine wRet rfl ?_ | refine wCondT rfl rfl ?_ | refine wCondF rfl rfl ?_ | refine wOps rfl ?_ | refine wDraw rfl rfl ?_ | refine opsV_call rfl rfl (k1) ?_ | refine opsV_call rfl rfl (k2) ?_ | refine opsV_call rfl rfl (k3) ?_ | simp only [seval, push_cast, ↓reduceIte, ↓bP_some, ↓aP_true, reduceCtorEq, ocv, occs, h1, h2, decide_true]))
      exact FnQ.ret rfl rfl
    · rw [show sameO x y = false by simp [sameO, h2]]
      (repeat' (first | refine wSeq rfl ?_ | refine wBlock rfl ?_ | refine wSkip rfl ?_ | refine wExit rfl ?_ | refine wRet rfl ?_ | refine wCondT rfl rfl ?_ | refine wCondF rfl rfl ?_ | refine wOps rfl ?_ | refine wDraw rfl rfl ?_ | refine opsV_call rfl rfl (k1) ?_ | refine opsV_call rfl rfl (k2) ?_ | refine opsV_call rfl rfl (k3) ?_ | simp only [seval, push_cast, ↓reduceIte, ↓bP_some, ↓aP_true, reduceCtorEq, ocv, occs, h1, decide_ff h2, decide_true]))
      exact FnQ.ret rfl rfl
  · rw [show sameO x y = false by simp [sameO, h1]]
    (repeat' (first | refine wSeq rfl ?_ | refine wBlock rfl ?_ | refine wSkip rfl ?_ | refine wExit rfl ?_ | refine wRet rfl ?_ | refine wCondT rfl rfl ?_ | refine wCondF rfl rfl ?_ | refine wOps rfl ?_ | refine wDraw rfl rfl ?_ | refine opsV_call rfl rfl (k1) ?_ | refine opsV_call rfl rfl (k2) ?_ | refine opsV_call rfl rfl (k3) ?_ | simp only [seval, push_cast, ↓reduceIte, ↓bP_some, ↓aP_true, reduceCtorEq, ocv, occs, decide_ff h1, decide_true]))
    exact FnQ.ret rfl rfl
end Go.Proofs.Ytaehkmmlacpleaa
set_option linter.unusedVariables false
namespace Go.Proofs.Ytaehkmmlacpleaa
theorem nodup_len : ∀ (n : Nat) (p : List Int), p.Nodup → (∀ x ∈ p, 0 ≤ x ∧ x < (n : Int)) → p.length ≤ n
  | 0, p, _, h => by
    cases p with
    | nil => exact Nat.le_refl _
    | cons x r => have := h x List.mem_cons_self; omega
  | n + 1, p, hd, h => by
    by_cases hm : (n : Int) ∈ p
    · have h1 := nodup_len n (p.erase (n : Int)) (hd.erase _) (fun x hx => by
        have h2 := (List.Nodup.mem_erase_iff hd).1 hx
        have h3 := h x h2.2
        have : x ≠ (n : Int) := h2.1
        omega)
      rw [List.length_erase_of_mem hm] at h1
      omega
    · have h1 := nodup_len n p hd (fun x hx => by
        have h3 := h x hx
        have : x ≠ (n : Int) := fun e => hm (e ▸ hx)
        omega)
      omega
theorem turned_iff {p : List Int} : turnedL p = true ↔ (1 ≤ p.length ∧ p.length ≤ 10) ∧ (∀ x ∈ p, 0 ≤ x ∧ x < p.length) ∧ p.Nodup := by
  constructor
  · intro h
    exact ⟨turned_len h, fun x hx => turned_range h hx, turned_nodup h⟩
  · rintro ⟨h1, h2, h3⟩
    unfold turnedL
    rw [Bool.and_eq_true, List.all_eq_true]
    refine ⟨decide_eq_true h1, fun i hi => decide_eq_true ?_⟩
    have hi' := List.mem_range.1 hi
    apply Classical.byContradiction
    intro hn
    have := nodup_len p.length ((i : Int) :: p) (List.nodup_cons.2 ⟨hn, h3⟩) (fun x hx => by
      rcases List.mem_cons.1 hx with rfl | hx
      · omega
      · exact h2 x hx)
    simp only [List.length_cons] at this
    omega
/-- Up to j, numbers are in range and none stands twice. -/
def permTo (p : List Int) (j : Nat) : Prop := ∀ i : Nat, i < j → ∀ x : Int, p[i]? = some x → (0 ≤ x ∧ x < p.length) ∧ ∀ k : Nat, k < i → p[k]? ≠ some x
theorem permTo_end {p : List Int} (h1 : 1 ≤ p.length ∧ p.length ≤ 10) (h : permTo p p.length) : turnedL p = true := by
  refine turned_iff.2 ⟨h1, fun x hx => ?_, ?_⟩
  · obtain ⟨i, hi⟩ := List.mem_iff_getElem?.1 hx
    exact (h i (List.getElem?_eq_some_iff.1 hi).1 x hi).1
  · rw [List.nodup_iff_pairwise_ne]
    rw [List.pairwise_iff_getElem]
    intro i j hi hj hij e
    have := (h j hj _ (List.getElem?_eq_getElem hj)).2 i hij
    exact this (by rw [← e]; exact List.getElem?_eq_getElem hi)
theorem perm_no {p : List Int} (h : ¬ (1 ≤ p.length ∧ p.length ≤ 10)) : turnedL p = false := by
  cases ht : turnedL p with
  | false => rfl
  | true => exact absurd (turned_len ht) h
theorem perm_out {p : List Int} {j : Nat} {x : Int} (hx : p[j]? = some x) (h : ¬ (0 ≤ x ∧ x < p.length)) : turnedL p = false := by
  cases ht : turnedL p with
  | false => rfl
  | true => exact absurd (turned_range ht (List.mem_of_getElem? hx)) h
theorem perm_twice {p : List Int} {j k : Nat} {x : Int} (hx : p[j]? = some x) (hk : p[k]? = some x) (h : k < j) : turnedL p = false := by
  cases ht : turnedL p with
  | false => rfl
  | true => have := nodup_at (turned_nodup ht) hx hk; omega
theorem ofL_nil (n : Int) : ofL [] n = true := rfl
theorem ofL_take {l : List Int} {n : Int} {j : Nat} {x : Int} (h : ofL (l.take j) n = true) (hx : l[j]? = some x) (h1 : 0 ≤ x ∧ x < n) : ofL (l.take (j + 1)) n = true := by
  rw [take_snoc hx]
  unfold ofL at h ⊢
  rw [List.all_append, h]
  simp [h1]
theorem all_take {α : Type} {p : α → Bool} {l : List α} {j : Nat} {x : α} (h : (l.take j).all p = true) (hx : l[j]? = some x) (h1 : p x = true) : (l.take (j + 1)).all p = true := by
  rw [take_snoc hx, List.all_append, h]
  simp [h1]
theorem all_ff {α : Type} {p : α → Bool} {l : List α} {j : Nat} {x : α} (hx : l[j]? = some x) (h1 : p x = false) : l.all p = false := by
  cases h : l.all p with
  | false => rfl
  | true =>
    have := List.all_eq_true.1 h x (List.mem_of_getElem? hx)
    rw [h1] at this; cases this
theorem ofL_no {l : List Int} {n : Int} {j : Nat} {x : Int} (hx : l[j]? = some x) (h1 : ¬ (0 ≤ x ∧ x < n)) : ofL l n = false := all_ff hx (decide_eq_false h1)
/-- A list that is nil where it is empty. -/
def nz {α : Type} (l : List α) : Nl α := if l = [] then none else some l
theorem nz_l {α : Type} (l : List α) : (nz l).l = l := by
  unfold nz
  split
  · rename_i h; rw [h]; rfl
  · rfl
theorem nlv_nz {α : Type} {f : α → List V} {n : Nat} {l : List α} (h : l ≠ []) : nlv f n (nz l) = .lst n (l.map f) none := by
  have : ¬ l.length = 0 := fun e => h (List.length_eq_zero_iff.1 e)
  unfold nz nlv
  rw [if_neg h]
  simp only [this, if_false]
theorem frz_nz {α : Type} {f : α → List V} (hf : ∀ x, (f x).all V.closed = true) {H : Heap} {src : List (Option Nat)} {fz : List Nat} {a n : Nat} {r : List α} (hn : 0 < n) (hs : posIn src a 0 = none) (ha : fz.contains a = true) (h : H.get a = accB f n r) : V.ren (sgOf H src fz) (accV a n r) = nlv f n (nz r) := by
  by_cases hr : r = []
  · subst hr; rfl
  · rw [accB_cons hr] at h
    rw [nlv_nz hr, accV_cons hr]
    have e : sgOf H src fz a = .frz n (r.map f) := by
      unfold sgOf
      simp only [hs, ha, h, closeds_tl hf, cond_true]
    rw [V.ren, e]
    simp only [hn, Nat.zero_add, List.length_map, Nat.le_refl, and_self, if_true, List.drop_zero]
    rw [List.take_of_length_le (by simp)]
/-- Seats, up to j. -/
theorem seatsGo_snoc (n : Int) : ∀ {l acc : List Int} {r : List Int} {x : Int}, seatsGo n l acc = some r → seatsGo n (l ++ [x]) acc = if x < 0 ∨ n ≤ x then none else some (r.set x.toNat (r.getD x.toNat 0 + 1))
  | [], acc, r, x, h => by
    simp only [seatsGo, Option.some.injEq] at h
    subst h
    simp [seatsGo]
  | c :: l, acc, r, x, h => by
    simp only [seatsGo] at h
    simp only [List.cons_append, seatsGo]
    split at h
    · cases h
    · rename_i hc
      rw [if_neg hc]
      exact seatsGo_snoc n h
theorem seatsGo_none (n : Int) : ∀ {l acc : List Int} {m : List Int}, seatsGo n l acc = none → seatsGo n (l ++ m) acc = none
  | [], acc, m, h => by simp [seatsGo] at h
  | c :: l, acc, m, h => by
    simp only [seatsGo] at h
    simp only [List.cons_append, seatsGo]
    split at h
    · rename_i hc; rw [if_pos hc]
    · rename_i hc
      rw [if_neg hc]
      exact seatsGo_none n h
theorem seatsGo_len (n : Int) : ∀ {l acc r : List Int}, seatsGo n l acc = some r → r.length = acc.length
  | [], acc, r, h => by simp only [seatsGo, Option.some.injEq] at h; subst h; rfl
  | c :: l, acc, r, h => by
    simp only [seatsGo] at h
    split at h
    · cases h
    · rw [seatsGo_len n h]; simp
theorem seatsGo_le (n : Int) : ∀ {l acc r : List Int} {b : Int}, seatsGo n l acc = some r → (∀ x ∈ acc, 0 ≤ x ∧ x ≤ b) → ∀ x ∈ r, 0 ≤ x ∧ x ≤ b + l.length
  | [], acc, r, b, h, ha => by simp only [seatsGo, Option.some.injEq] at h; subst h; simpa using ha
  | c :: l, acc, r, b, h, ha => by
    simp only [seatsGo] at h
    split at h
    · cases h
    · intro x hx
      have := seatsGo_le n h (b := b + 1) (fun y hy => by
        rcases List.mem_or_eq_of_mem_set hy with hy | hy
        · have := ha y hy; omega
        · by_cases hc : c.toNat < acc.length
          · have h1 : acc[c.toNat]? = some acc[c.toNat] := List.getElem?_eq_getElem hc
            have h2 := ha _ (List.mem_of_getElem? h1)
            rw [List.getD_eq_getElem?_getD, h1, Option.getD_some] at hy
            omega
          · rw [List.getD_eq_getElem?_getD, List.getElem?_eq_none (by omega), Option.getD_none] at hy
            cases acc with
            | nil => exact absurd hx (by
                have := seatsGo_len n h
                simp at this
                subst this; simp)
            | cons a acc =>
              have := ha a List.mem_cons_self
              omega) x hx
      simp only [List.length_cons]
      omega
end Go.Proofs.Ytaehkmmlacpleaa
set_option maxRecDepth 100000
set_option maxHeartbeats 4000000
set_option linter.unusedVariables false
set_option linter.unusedSimpArgs false
namespace Go.Proofs.Ytaehkmmlacpleaa
theorem deep_one {h : HG} {a : Nat} {x : Int} {c : Option Nat} (ha : h a = some (.arr 1 [[.int .i64 x]])) : Deep h 2 (.ref a 1 0 1 c) (nlv mrow 1 (some [x])) :=
  OwnLf.deep (F := fun _ => True) leaf_mrow (by decide) (.inr ⟨a, c, rfl, ha, trivial⟩)
theorem deep_int {h : HG} {k : IntKind} {n : Int} : Deep h 1 (.int k n) (.int k n) := rfl
theorem blk_closed (σ : Nat → Sg) {B : Blk} (hc : B.closed = true) : Blk.ren σ B = B := by
  cases B with
  | arr s rows =>
    unfold Blk.ren
    dsimp only
    congr 1
    have hr : ∀ r ∈ rows, r.map (V.ren σ) = r := fun r hr => ren_row (List.all_eq_true.1 hc r hr) σ
    calc rows.map (fun r => r.map (V.ren σ)) = rows.map id := List.map_congr_left hr
      _ = rows := List.map_id rows
  | _ => cases hc
theorem sh_k {H : Heap} {σ : Nat → Sg} {a : Nat} {B : Blk} (h : H.get a = some B) (hc : B.closed = true) : ((some a).bind fun a => (H.get a).map (Blk.ren σ)) = some B := by
  show (H.get a).map (Blk.ren σ) = _
  rw [h, Option.map_some, blk_closed _ hc]
variable {L : Lib} (hL : L.T = tab.get)
include hL
theorem of_v (s : Nat) (l : List Int) (c : Option Nat) (hs : s = 1 ∨ l = []) (hl : l.length < 4611686018427387904) (n : Int) : VFn L 45 [tl mrow s l c, .int .i64 n] (.bool (ofL l n)) := by
  refine VFn.start (F := T45.1) (by rw [hL]; rfl) rfl rfl rfl ?_
  (repeat' (first | refine wSeq rfl ?_ | refine wBlock rfl ?_ | refine wSkip rfl ?_ | refine wExit rfl ?_ | refine wRet rfl ?_ | refine wCondT rfl rfl ?_ | refine wCondF rfl rfl ?_ | refine wOps rfl ?_ | refine wDraw rfl rfl ?_ | simp only [seval, push_cast, ↓reduceIte, ↓bP_some, ↓aP_true, reduceCtorEq]))
  refine wCnt rfl 5 l.length (fun _ => []) (fun j => ofL (l.take j) n = true) rfl (ofL_nil n) ?_ ?_
  · intro j hj hI
    obtain ⟨a, ha, _⟩ := get_of hj
    obtain rfl := size_of hs hj
    have w := wrap_succ (show j < 9223372036854775807 by omega)
    by_cases h1 : a < 0
    · (repeat' (first | refine wSeq rfl ?_ | refine wBlock rfl ?_ | refine wSkip rfl ?_ | refine wExit rfl ?_ | refine wRet rfl ?_ | refine wCondT rfl rfl ?_ | refine wCondF rfl rfl ?_ | refine wOps rfl ?_ | refine wDraw rfl rfl ?_ | simp only [seval, push_cast, ↓reduceIte, ↓bP_some, ↓aP_true, reduceCtorEq, iaQ_tl hj, ha, hj, h1]))
      rw [ofL_no ha (by omega)]
      exact FnQ.ret rfl rfl
    · by_cases h2 : n ≤ a
      · (repeat' (first | refine wSeq rfl ?_ | refine wBlock rfl ?_ | refine wSkip rfl ?_ | refine wExit rfl ?_ | refine wRet rfl ?_ | refine wCondT rfl rfl ?_ | refine wCondF rfl rfl ?_ | refine wOps rfl ?_ | refine wDraw rfl rfl ?_ | simp only [seval, push_cast, ↓reduceIte, ↓bP_some, ↓aP_true, reduceCtorEq, iaQ_tl hj, ha, hj, h1, h2]))
        rw [ofL_no ha (by omega)]
        exact FnQ.ret rfl rfl
      · (repeat' (first | refine wSeq rfl ?_ | refine wBlock rfl ?_ | refine wSkip rfl ?_ | refine wExit rfl ?_ | refine wRet rfl ?_ | refine wCondT rfl rfl ?_ | refine wCondF rfl rfl ?_ | refine wOps rfl ?_ | refine wDraw rfl rfl ?_ | simp only [seval, push_cast, ↓reduceIte, ↓bP_some, ↓aP_true, reduceCtorEq, iaQ_tl hj, ha, hj, h1, h2, w]))
        exact qR_n rfl rfl (ofL_take hI ha (by omega))
  · intro hI
    rw [take_all] at hI
    (repeat' (first | refine wSeq rfl ?_ | refine wBlock rfl ?_ | refine wSkip rfl ?_ | refine wExit rfl ?_ | refine wRet rfl ?_ | refine wCondT rfl rfl ?_ | refine wCondF rfl rfl ?_ | refine wOps rfl ?_ | refine wDraw rfl rfl ?_ | simp only [seval, push_cast, ↓reduceIte, ↓bP_some, ↓aP_true, reduceCtorEq]))
    rw [hI]
    exact FnQ.ret rfl rfl
theorem of_n (a : Nl Int) (ha : okI a) (n : Int) : VFn L 45 [nlv mrow 1 a, .int .i64 n] (.bool (ofL a.l n)) := by
  obtain ⟨s, c, h1, h2⟩ := nlv_tl (f := mrow) (n := 1) (o := a)
  rw [h1]
  unfold okI at ha
  exact of_v hL _ _ _ h2 (by omega) n
theorem of_1 (x n : Int) {H : Heap} {a : Nat} {c : Option Nat} (ha : H.get a = some (.arr 1 [[.int .i64 x]])) : AFn L (.fn 45) [.ref a 1 0 1 c, .int .i64 n] H (fun r H' => r = .bool (ofL [x] n) ∧ H' = H) :=
  (of_n hL (some [x]) (by simp [okI, Nl.l]) n).deep rfl ⟨⟨2, deep_one ha⟩, ⟨1, deep_int⟩, trivial⟩
theorem rfits_v (o : Oc) (ho : okO o) (n : Int) : VFn L 24 [ocv o, .int .i64 n] (.bool (fitsO o n)) := by
  refine VFn.start (F := T24.1) (by rw [hL]; rfl) rfl (by simp [V.closeds, closed_ocv, V.closed]) rfl ?_
  obtain ⟨b1, ⟨b2, b2'⟩, b3, b3'⟩ := ho
  cases h1 : ofL o.el.l n with
  | false =>
    (repeat' (first | refine wSeq rfl ?_ | refine wBlock rfl ?_ | refine wSkip rfl ?_ | refine wExit rfl ?_ | refine wRet rfl ?_ | refine wCondT rfl rfl ?_ | refine wCondF rfl rfl ?_ | refine wOps rfl ?_ | refine wDraw rfl rfl ?_ | refine opsV_call rfl rfl (of_n hL o.el b1 n) ?_ | simp only [seval, push_cast, ↓reduceIte, ↓bP_some, ↓aP_true, reduceCtorEq, ocv, occs, h1]))
    rw [show fitsO o n = false by simp [fitsO, h1]]
    exact FnQ.ret rfl rfl
  | true =>
    (repeat' (first | refine wSeq rfl ?_ | refine wBlock rfl ?_ | refine wSkip rfl ?_ | refine wExit rfl ?_ | refine wRet rfl ?_ | refine wCondT rfl rfl ?_ | refine wCondF rfl rfl ?_ | refine wOps rfl ?_ | refine wDraw rfl rfl ?_ | refine opsV_call rfl rfl (of_n hL o.el b1 n) ?_ | simp only [seval, push_cast, ↓reduceIte, ↓bP_some, ↓aP_true, reduceCtorEq, ocv, occs, h1]))
    refine wCnt rfl 5 o.rounds.l.length (fun _ => []) (fun j => ((o.rounds.l.take j).all fun d => ofRd d n) = true) rfl rfl ?_ ?_
    · intro j hj hI
      obtain ⟨d, hd, md⟩ := get_of hj
      have kd := b2' d md
      have w := wrap_succ (show j < 9223372036854775807 by omega)
      have bad : ofRd d n = false → fitsO o n = false := fun h => by simp only [fitsO, all_ff (p := fun d => ofRd d n) hd h, Bool.and_false, Bool.false_and]
      by_cases e1 : (d.had.l.length : Int) = n
      · cases e2 : ofL d.el.l n with
        | false =>
          (repeat' (first | refine wSeq rfl ?_ | refine wBlock rfl ?_ | refine wSkip rfl ?_ | refine wExit rfl ?_ | refine wRet rfl ?_ | refine wCondT rfl rfl ?_ | refine wCondF rfl rfl ?_ | refine wOps rfl ?_ | refine wDraw rfl rfl ?_ | refine opsV_call rfl rfl (of_n hL d.el kd.2.2.2.1 n) ?_ | refine opsV_call rfl rfl (of_n hL d.out kd.2.2.2.2 n) ?_ | simp only [seval, push_cast, ↓reduceIte, ↓bP_some, ↓aP_true, reduceCtorEq, iaQ_nlv hj, hd, hj, e1, e2]))
          rw [bad (by simp [ofRd, e2])]
          exact FnQ.ret rfl rfl
        | true =>
          cases e3 : ofL d.out.l n with
          | false =>
            (repeat' (first | refine wSeq rfl ?_ | refine wBlock rfl ?_ | refine wSkip rfl ?_ | refine wExit rfl ?_ | refine wRet rfl ?_ | refine wCondT rfl rfl ?_ | refine wCondF rfl rfl ?_ | refine wOps rfl ?_ | refine wDraw rfl rfl ?_ | refine opsV_call rfl rfl (of_n hL d.el kd.2.2.2.1 n) ?_ | refine opsV_call rfl rfl (of_n hL d.out kd.2.2.2.2 n) ?_ | simp only [seval, push_cast, ↓reduceIte, ↓bP_some, ↓aP_true, reduceCtorEq, iaQ_nlv hj, hd, hj, e1, e2, e3]))
            rw [bad (by simp [ofRd, e3])]
            exact FnQ.ret rfl rfl
          | true =>
            (repeat' (first | refine wSeq rfl ?_ | refine wBlock rfl ?_ | refine wSkip rfl ?_ | refine wExit rfl ?_ | refine wRet rfl ?_ | refine wCondT rfl rfl ?_ | refine wCondF rfl rfl ?_ | refine wOps rfl ?_ | refine wDraw rfl rfl ?_ | refine opsV_call rfl rfl (of_n hL d.el kd.2.2.2.1 n) ?_ | refine opsV_call rfl rfl (of_n hL d.out kd.2.2.2.2 n) ?_ | simp only [seval, push_cast, ↓reduceIte, ↓bP_some, ↓aP_true, reduceCtorEq, iaQ_nlv hj, hd, hj, e1, e2, e3, w]))
            exact qR_n rfl rfl (all_take hI hd (by simp [ofRd, e1, e2, e3]))
      · (repeat' (first | refine wSeq rfl ?_ | refine wBlock rfl ?_ | refine wSkip rfl ?_ | refine wExit rfl ?_ | refine wRet rfl ?_ | refine wCondT rfl rfl ?_ | refine wCondF rfl rfl ?_ | refine wOps rfl ?_ | refine wDraw rfl rfl ?_ | refine opsV_call rfl rfl (of_n hL d.el kd.2.2.2.1 n) ?_ | refine opsV_call rfl rfl (of_n hL d.out kd.2.2.2.2 n) ?_ | simp only [seval, push_cast, ↓reduceIte, ↓bP_some, ↓aP_true, reduceCtorEq, iaQ_nlv hj, hd, hj, e1, ne_both e1]))
        rw [bad (by simp [ofRd, e1])]
        exact FnQ.ret rfl rfl
    · intro hR
      rw [take_all] at hR
      (repeat' (first | refine wSeq rfl ?_ | refine wBlock rfl ?_ | refine wSkip rfl ?_ | refine wExit rfl ?_ | refine wRet rfl ?_ | refine wCondT rfl rfl ?_ | refine wCondF rfl rfl ?_ | refine wOps rfl ?_ | refine wDraw rfl rfl ?_ | simp only [seval, push_cast, ↓reduceIte, ↓bP_some, ↓aP_true, reduceCtorEq]))
      refine wCntH rfl 6 o.ties.l.length (fun _ => []) (fun _ => [some (.arr 3 [[nlv mrow 1 o.el, nlv rdrow 6 o.rounds, nlv tirow 2 o.ties]])]) (fun j => ((o.ties.l.take j).all fun t => ofTi t n) = true) rfl rfl rfl ?_ ?_
      · intro j hj hI
        obtain ⟨t, ht, mt⟩ := get_of hj
        have kt := b3' t mt
        have w := wrap_succ (show j < 9223372036854775807 by omega)
        have bad : ofTi t n = false → fitsO o n = false := fun h => by simp only [fitsO, all_ff (p := fun t => ofTi t n) ht h, Bool.and_false]
        cases e1 : ofL t.among.l n with
        | false =>
          (repeat' (first | refine wSeq rfl ?_ | refine wBlock rfl ?_ | refine wSkip rfl ?_ | refine wExit rfl ?_ | refine wRet rfl ?_ | refine wCondT rfl rfl ?_ | refine wCondF rfl rfl ?_ | refine wOpsP rfl ?_ | refine wDrawM [] rfl rfl ?_ | refine opsV_call rfl rfl (of_n hL t.among kt n) ?_ | refine opsP_call rfl (of_n hL t.among kt n) ?_ | simp only [seval, push_cast, ↓reduceIte, ↓bP_some, ↓aP_true, reduceCtorEq, iaQ_nlv hj, ht, hj, e1]))
          rw [bad (by simp [ofTi, e1])]
          exact FnQ.ret rfl rfl
        | true =>
          (repeat' (first | refine wSeq rfl ?_ | refine wBlock rfl ?_ | refine wSkip rfl ?_ | refine wExit rfl ?_ | refine wRet rfl ?_ | refine wCondT rfl rfl ?_ | refine wCondF rfl rfl ?_ | refine wOpsP rfl ?_ | refine wDrawM [] rfl rfl ?_ | refine opsV_call rfl rfl (of_n hL t.among kt n) ?_ | refine opsP_call rfl (of_n hL t.among kt n) ?_ | simp only [seval, push_cast, ↓reduceIte, ↓bP_some, ↓aP_true, reduceCtorEq, iaQ_nlv hj, ht, hj, e1]))
          refine opsP_all rfl (of_1 hL t.chosen n (a := 1) rfl) ?_
          rintro r h' ⟨rfl, rfl⟩
          cases e2 : ofL [t.chosen] n with
          | false =>
            (repeat' (first | refine wSeq rfl ?_ | refine wBlock rfl ?_ | refine wSkip rfl ?_ | refine wExit rfl ?_ | refine wRet rfl ?_ | refine wCondT rfl rfl ?_ | refine wCondF rfl rfl ?_ | refine wOpsP rfl ?_ | refine wDrawM [] rfl rfl ?_ | simp only [seval, push_cast, ↓reduceIte, ↓bP_some, ↓aP_true, reduceCtorEq, iaQ_nlv hj, ht, hj, e1, e2]))
            rw [bad (by simp [ofTi, e2])]
            exact FnQ.ret rfl rfl
          | true =>
            (repeat' (first | refine wSeq rfl ?_ | refine wBlock rfl ?_ | refine wSkip rfl ?_ | refine wExit rfl ?_ | refine wRet rfl ?_ | refine wCondT rfl rfl ?_ | refine wCondF rfl rfl ?_ | refine wOpsP rfl ?_ | refine wDrawM [] rfl rfl ?_ | simp only [seval, push_cast, ↓reduceIte, ↓bP_some, ↓aP_true, reduceCtorEq, iaQ_nlv hj, ht, hj, e1, e2, w]))
            exact qR_s [some 0] [] rfl rfl (sh_c (sh_k rfl (by simp [Blk.closed, closed_nlv])) sh_n) (all_take hI ht (by simp [ofTi, e1, e2]))
      · intro hI
        rw [take_all] at hI
        (repeat' (first | refine wSeq rfl ?_ | refine wBlock rfl ?_ | refine wSkip rfl ?_ | refine wExit rfl ?_ | refine wRet rfl ?_ | refine wCondT rfl rfl ?_ | refine wCondF rfl rfl ?_ | refine wOps rfl ?_ | refine wDraw rfl rfl ?_ | simp only [seval, push_cast, ↓reduceIte, ↓bP_some, ↓aP_true, reduceCtorEq]))
        rw [show fitsO o n = true by simp only [fitsO, h1, hR, hI, Bool.and_self]]
        exact FnQ.ret rfl rfl
theorem rperm_v (s : Nat) (p : List Int) (c : Option Nat) (hs : s = 1 ∨ p = []) (hp : p.length < 4611686018427387904) : VFn L 23 [tl mrow s p c] (.bool (turnedL p)) := by
  refine VFn.start (F := T23.1) (by rw [hL]; rfl) rfl rfl rfl ?_
  by_cases h1 : p.length < 1
  · have h1' : (p.length : Int) < 1 := by omega
    (repeat' (first | refine wSeq rfl ?_ | refine wBlock rfl ?_ | refine wSkip rfl ?_ | refine wExit rfl ?_ | refine wRet rfl ?_ | refine wCondT rfl rfl ?_ | refine wCondF rfl rfl ?_ | refine wOps rfl ?_ | refine wDraw rfl rfl ?_ | simp only [seval, push_cast, ↓reduceIte, ↓bP_some, ↓aP_true, reduceCtorEq, h1, h1']))
    rw [perm_no (by omega)]
    exact FnQ.ret rfl rfl
  · have h1' : ¬ (p.length : Int) < 1 := by omega
    by_cases h2 : 10 < p.length
    · have h2' : (10 : Int) < p.length := by omega
      (repeat' (first | refine wSeq rfl ?_ | refine wBlock rfl ?_ | refine wSkip rfl ?_ | refine wExit rfl ?_ | refine wRet rfl ?_ | refine wCondT rfl rfl ?_ | refine wCondF rfl rfl ?_ | refine wOps rfl ?_ | refine wDraw rfl rfl ?_ | simp only [seval, push_cast, ↓reduceIte, ↓bP_some, ↓aP_true, reduceCtorEq, h1, h1', h2, h2']))
      rw [perm_no (by omega)]
      exact FnQ.ret rfl rfl
    · have h2' : ¬ (10 : Int) < p.length := by omega
      (repeat' (first | refine wSeq rfl ?_ | refine wBlock rfl ?_ | refine wSkip rfl ?_ | refine wExit rfl ?_ | refine wRet rfl ?_ | refine wCondT rfl rfl ?_ | refine wCondF rfl rfl ?_ | refine wOps rfl ?_ | refine wDraw rfl rfl ?_ | simp only [seval, push_cast, ↓reduceIte, ↓bP_some, ↓aP_true, reduceCtorEq, h1, h1', h2, h2']))
      refine wCnt rfl 3 p.length (fun _ => []) (fun j => permTo p j) rfl (fun i h => by omega) ?_ ?_
      · intro j hj hI
        obtain ⟨a, ha, _⟩ := get_of hj
        obtain rfl := size_of hs hj
        have w := wrap_succ (show j < 9223372036854775807 by omega)
        by_cases e1 : a < 0
        · (repeat' (first | refine wSeq rfl ?_ | refine wBlock rfl ?_ | refine wSkip rfl ?_ | refine wExit rfl ?_ | refine wRet rfl ?_ | refine wCondT rfl rfl ?_ | refine wCondF rfl rfl ?_ | refine wOps rfl ?_ | refine wDraw rfl rfl ?_ | simp only [seval, push_cast, ↓reduceIte, ↓bP_some, ↓aP_true, reduceCtorEq, iaQ_tl hj, ha, hj, e1]))
          rw [perm_out ha (by omega)]
          exact FnQ.ret rfl rfl
        · by_cases e2 : (p.length : Int) ≤ a
          · (repeat' (first | refine wSeq rfl ?_ | refine wBlock rfl ?_ | refine wSkip rfl ?_ | refine wExit rfl ?_ | refine wRet rfl ?_ | refine wCondT rfl rfl ?_ | refine wCondF rfl rfl ?_ | refine wOps rfl ?_ | refine wDraw rfl rfl ?_ | simp only [seval, push_cast, ↓reduceIte, ↓bP_some, ↓aP_true, reduceCtorEq, iaQ_tl hj, ha, hj, e1, e2]))
            rw [perm_out ha (by omega)]
            exact FnQ.ret rfl rfl
          · (repeat' (first | refine wSeq rfl ?_ | refine wBlock rfl ?_ | refine wSkip rfl ?_ | refine wExit rfl ?_ | refine wRet rfl ?_ | refine wCondT rfl rfl ?_ | refine wCondF rfl rfl ?_ | refine wOps rfl ?_ | refine wDraw rfl rfl ?_ | simp only [seval, push_cast, ↓reduceIte, ↓bP_some, ↓aP_true, reduceCtorEq, iaQ_tl hj, ha, hj, e1, e2]))
            refine wCnt rfl 4 j (fun _ => []) (fun k => ∀ q : Nat, q < k → p[q]? ≠ some a) rfl (fun q h => by omega) ?_ ?_
            · intro k hk hK
              have hk' : k < p.length := by omega
              obtain ⟨b, hb, _⟩ := get_of hk'
              by_cases e3 : b = a
              · subst e3
                (repeat' (first | refine wSeq rfl ?_ | refine wBlock rfl ?_ | refine wSkip rfl ?_ | refine wExit rfl ?_ | refine wRet rfl ?_ | refine wCondT rfl rfl ?_ | refine wCondF rfl rfl ?_ | refine wOps rfl ?_ | refine wDraw rfl rfl ?_ | simp only [seval, push_cast, ↓reduceIte, ↓bP_some, ↓aP_true, reduceCtorEq, iaQ_tl hj, iaQ_tl hk', ha, hb, hj, hk, hk']))
                rw [perm_twice ha hb hk]
                exact FnQ.ret rfl rfl
              · (repeat' (first | refine wSeq rfl ?_ | refine wBlock rfl ?_ | refine wSkip rfl ?_ | refine wExit rfl ?_ | refine wRet rfl ?_ | refine wCondT rfl rfl ?_ | refine wCondF rfl rfl ?_ | refine wOps rfl ?_ | refine wDraw rfl rfl ?_ | simp only [seval, push_cast, ↓reduceIte, ↓bP_some, ↓aP_true, reduceCtorEq, iaQ_tl hj, iaQ_tl hk', ha, hb, hj, hk, hk', e3, wrap_succ (show k < 9223372036854775807 by omega)]))
                refine qR_n rfl rfl (fun q hq => ?_)
                by_cases e : q = k
                · subst e; rw [hb]; intro h; cases h; exact e3 rfl
                · exact hK q (by omega)
            · intro hK
              (repeat' (first | refine wSeq rfl ?_ | refine wBlock rfl ?_ | refine wSkip rfl ?_ | refine wExit rfl ?_ | refine wRet rfl ?_ | refine wCondT rfl rfl ?_ | refine wCondF rfl rfl ?_ | refine wOps rfl ?_ | refine wDraw rfl rfl ?_ | simp only [seval, push_cast, ↓reduceIte, ↓bP_some, ↓aP_true, reduceCtorEq, w]))
              refine qR_n rfl rfl (fun i hi x hx => ?_)
              by_cases e : i = j
              · subst e
                rw [ha] at hx; cases hx
                exact ⟨by omega, hK⟩
              · exact hI i (by omega) x hx
      · intro hI
        (repeat' (first | refine wSeq rfl ?_ | refine wBlock rfl ?_ | refine wSkip rfl ?_ | refine wExit rfl ?_ | refine wRet rfl ?_ | refine wCondT rfl rfl ?_ | refine wCondF rfl rfl ?_ | refine wOps rfl ?_ | refine wDraw rfl rfl ?_ | simp only [seval, push_cast, ↓reduceIte, ↓bP_some, ↓aP_true, reduceCtorEq]))
        rw [permTo_end (by omega) hI]
        exact FnQ.ret rfl rfl
end Go.Proofs.Ytaehkmmlacpleaa
set_option maxRecDepth 100000
set_option maxHeartbeats 4000000
set_option linter.unusedVariables false
set_option linter.unusedSimpArgs false
namespace Go.Proofs.Ytaehkmmlacpleaa
theorem FnQ.atN {F : AFunc} {n0 : Nat} {P : V → Heap → Prop} {E : Env} {H : Heap} {r : V} (h : resV E.get H.get F.results = some r) (hP : P r H) : FnQ F n0 P .normal E H := by
  have : ResP F.results n0 P E H := by
    unfold ResP
    rw [h]
    exact .inl hP
  exact this
theorem AFn.shift {L : Lib} {k : Tgt} {args : List V} {H : Heap} {P : V → Heap → Prop} (h : AFn L k args H (fun r H' => ∃ src fz, okSh H.length src = true ∧ P (r.ren (sgOf H' src fz)) (H'.sh src fz))) : AFn L k args H P := by
  intro C hC A w β vs hA hd hh hg ha
  refine (h C hC A w β vs hA hd hh hg ha).mono ?_
  rintro e w' ⟨v, r, H', β', h1, ⟨src, fz, hok, hp⟩, h3, h4, h5, h6, h7, h8, h9⟩
  simp only [okSh, Bool.and_eq_true, List.all_eq_true] at hok
  obtain ⟨hn, hall⟩ := hok
  have hid : ∀ i, i < H.length → src[i]? = some (some i) := fun i hi => by
    have := hall i (List.mem_range.2 hi)
    split at this
    · rename_i j hj
      have : j = i := by simpa using this
      rw [hj, this]
    · cases this
  have hlive : ∀ b, Live (shβ src β') (H'.sh src fz).get b → Live β' H'.get b := fun b hb => by
    obtain ⟨k, a, h1, h2, h3⟩ := sh_live (Agr.self H' src fz) hb
    exact ⟨a, h2, h3⟩
  have himm : ∀ b, Imm A w' β' H'.get b → Imm A w' (shβ src β') (H'.sh src fz).get b := fun b hb => ⟨hb.lt, fun h => hb.free (hlive b h), hb.al, hb.arr⟩
  have hren : RenOk C.N w' (Imm A w' (shβ src β') (H'.sh src fz).get) (sgOf H' src fz) β' (shβ src β') := sh_renOk (Agr.self H' src fz) h6 himm (fun a b s rows h1 h2 h3 h4 => by
    have h3' : H'.get a ≠ none := by rw [h3]; simp
    obtain ⟨b', g1, g2, g3⟩ := h6.at' a _ h3
    rw [h4] at g1; cases g1
    refine ⟨g2, fun hl => ?_, hA b (h8 b ⟨a, h3', h4⟩), ?_⟩
    rotate_left
    · obtain ⟨cells, T, fz', q1, _⟩ := g3
      exact ⟨cells, T, fz', q1⟩
    · obtain ⟨k, a', g1, g2, g3⟩ := sh_live (Agr.self H' src fz) hl
      have := h6.inj a a' b h3' g2 h4 g3
      subst this
      exact posIn_none h2 k g1)
  refine ⟨v, _, _, shβ src β', h1, hp, ?_, fun i hi => ?_, fun i hi => ?_, sh_heap (Agr.self H' src fz) hn h6 himm hren, h7.ren himm hren, fun b hb => h8 b (hlive b hb), h9⟩
  · unfold Heap.sh
    rw [List.length_map]
    rcases Nat.eq_zero_or_pos H.length with h0 | h0
    · omega
    · have := (List.getElem?_eq_some_iff.1 (hid (H.length - 1) (by omega))).1; omega
  · have : src[i]? = none := List.getElem?_eq_none (by unfold Heap.sh at hi; simpa using hi)
    simp [shβ, this]
  · rw [shβ_to (hid i hi)]; exact h5 i hi
theorem opsP_any {L : Lib} {l : List AI} {K : Env → Heap → Prop} {E : Env} {H : Heap} {d : Option Nat} {anc : List Nat} {c : ACallee} {args : List AOpd} {k : Tgt} {vs : List V} {Post : V → Heap → Prop} (hv : callee L.G E.get c args = some (k, vs)) (hf : AFn L k vs H Post) (h : ∀ r h', Post r h' → opsP L l K (E.put d r) h') : opsP L (⟨d, .call c args, none, anc⟩ :: l) K E H := by
  show stepP L ⟨d, .call c args, none, anc⟩ (opsP L l K) E H
  unfold stepP AI.goes
  show CallP L E.get H c args _
  unfold CallP
  rw [hv]
  exact hf.mono h
def AC.ps : AC → List Nat
  | .range _ ps _ _ => ps
  | _ => []
theorem wRange {L : Lib} {n0 N : Nat} {Q : Exit → Env → Heap → Prop} {E : Env} {H : Heap} {c : AC} {k : Nat} {fs cs : List V} (h : c.tag = 7) (hg : opval L.G E.get c.c = some (.fn k fs cs)) (hf : AFn L (.fn k) (fs ++ [.yld H.length] ++ cs) (H ++ [some (.loop N E c.ps c.l c.r)]) (fun _ H' => RangeP H.length Q E H')) : SWP L n0 N c Q E H := by
  cases c with
  | range g ps a b => exact SWP.range hg hf
  | ops d _ _ => cases d <;> cases h
  | _ => cases h
section
variable {L : Lib} {n0 nt a : Nat} {ps : List Nat} {ad body : AC} {E0 E : Env} {H : Heap} {Q : Exit → Env → Heap → Prop} {Post : V → Heap → Prop}
theorem roundA_n : RoundA L n0 nt body Q .normal E H = SWP L n0 nt body Q E H := rfl
theorem roundQ_n : RoundQ a nt E0 ps ad body Post .normal E H = (H.get a = none ∧ Post (.bool true) (H.set a (some (.loop nt E0 ps ad body)))) := rfl
end
attribute [push_cast] roundA_n roundQ_n
theorem ren_yld {σ : Nat → Sg} {y : Nat} (h : σ y = .to y) : V.ren σ (.yld y) = .yld y := by simp [V.ren, h]
def accT (r : List Int) : Heap := if r = [] then [] else [some (.arr 1 (r.map mrow))]
theorem ren_tup0 {σ : Nat → Sg} : V.ren σ (.tup []) = .tup [] := rfl
theorem back_one {B0 B1 : Option Blk} {q : List Int} : Heap.back [B0, B1] [1] [some (.arr 1 (q.map mrow))] = [B0, some (.arr 1 (q.map mrow))] := by
  show [B0, Option.map (Blk.ren (outσ 2 [1])) (some (.arr 1 (q.map mrow)))] = _
  rw [Option.map_some, ren_tl closed_mrow]
theorem accT_nil : accT [] = [] := rfl
variable {L : Lib} (hL : L.T = tab.get)
include hL
/-- The iterator of slices.Values, over memory numbered by its rounds. -/
theorem valuesIt_a {p : List Int} {s : Nat} {c : Option Nat} {y : Nat} (hs : s = 1 ∨ p = []) (hl : p.length < 4611686018427387904) (HS : Nat → Heap) (h0 : (HS 0).get 0 = some (.arr 1 [[tl mrow s p c]]))
    (hy : ∀ j x, p[j]? = some x → ∃ HY src, AFn L (.yl y) [.int .i64 x] (HS j) (fun r H' => r = .bool true ∧ H' = HY) ∧ okSh (HS 0).length src = true ∧ sgOf HY src [] y = .to y ∧ HY.sh src [] = HS (j + 1)) : AFn L (.fn 50) [.yld y, .ptr 0 1 0 0] (HS 0) (fun r H' => r = .tup [] ∧ H' = HS p.length) := by
  refine AFn.of_body (F := T50.1) (by rw [hL]; rfl) rfl ?_
  (repeat' (first | refine wSeq rfl ?_ | refine wBlock rfl ?_ | refine wSkip rfl ?_ | refine wExit rfl ?_ | refine wRet rfl ?_ | refine wCondT rfl rfl ?_ | refine wCondF rfl rfl ?_ | refine wOps rfl ?_ | refine wDraw rfl rfl ?_ | simp only [seval, push_cast, ↓reduceIte, ↓bP_some, ↓aP_true, reduceCtorEq, h0]))
  refine wCntH rfl 7 p.length (fun _ => []) HS (fun _ => True) rfl rfl trivial ?_ ?_
  · intro j hj _
    obtain ⟨x, hx, _⟩ := get_of hj
    obtain rfl := size_of hs hj
    have hw := wrap_succ (show j < 9223372036854775807 by omega)
    obtain ⟨HY, src, y1, y2, y3, y4⟩ := hy j x hx
    (repeat' (first | refine wSeq rfl ?_ | refine wBlock rfl ?_ | refine wSkip rfl ?_ | refine wExit rfl ?_ | refine wRet rfl ?_ | refine wCondT rfl rfl ?_ | refine wCondF rfl rfl ?_ | refine wOpsP rfl ?_ | refine wDraw rfl rfl ?_ | simp only [seval, push_cast, ↓reduceIte, ↓bP_some, ↓aP_true, reduceCtorEq, hj, hx, iaQ_tl hj]))
    refine opsP_any rfl y1 ?_
    rintro r h' ⟨rfl, rfl⟩
    (repeat' (first | refine wSeq rfl ?_ | refine wBlock rfl ?_ | refine wSkip rfl ?_ | refine wExit rfl ?_ | refine wRet rfl ?_ | refine wCondT rfl rfl ?_ | refine wCondF rfl rfl ?_ | refine wOps rfl ?_ | refine wDraw rfl rfl ?_ | simp only [seval, push_cast, ↓reduceIte, ↓bP_some, ↓aP_true, reduceCtorEq, hw]))
    refine qR_s src [] y2 ?_ y4 trivial
    simp only [Env.sh, List.map_cons, List.map_nil, ren_yld y3]
    rfl
  · intro _
    (repeat' (first | refine wSeq rfl ?_ | refine wBlock rfl ?_ | refine wSkip rfl ?_ | refine wExit rfl ?_ | refine wRet rfl ?_ | refine wCondT rfl rfl ?_ | refine wCondF rfl rfl ?_ | refine wOps rfl ?_ | refine wDraw rfl rfl ?_ | simp only [seval, push_cast, ↓reduceIte, ↓bP_some, ↓aP_true, reduceCtorEq]))
    refine Eq.mpr (if_pos rfl) ?_
    exact FnQ.atN rfl ⟨rfl, rfl⟩
theorem values_v (s : Nat) (p : List Int) (c : Option Nat) : AFn L (.fn 39) [tl mrow s p c] [] (fun r H' => r = .fn 50 [] [.ptr 0 1 0 0] ∧ H' = [some (.arr 1 [[tl mrow s p c]])]) := by
  refine AFn.of_body (F := T39.1) (by rw [hL]; rfl) rfl ?_
  (repeat' (first | refine wSeq rfl ?_ | refine wBlock rfl ?_ | refine wSkip rfl ?_ | refine wExit rfl ?_ | refine wRet rfl ?_ | refine wCondT rfl rfl ?_ | refine wCondF rfl rfl ?_ | refine wOps rfl ?_ | refine wDraw rfl rfl ?_ | simp only [seval, push_cast, ↓reduceIte, ↓bP_some, ↓aP_true, reduceCtorEq]))
  exact FnQ.at rfl ⟨rfl, rfl⟩
theorem appendSeq_a (s : Nat) (p : List Int) (c : Option Nat) (hs : s = 1 ∨ p = []) (hne : p ≠ []) (hl : p.length ≤ 17592186043904) : AFn L (.fn 65) [.lst 0 [] (some 0), .fn 50 [] [.ptr 0 1 0 0]] [some (.arr 1 [[tl mrow s p c]])] (fun r H' => r = .ref 1 1 0 p.length none ∧ H' = [some (.arr 1 [[tl mrow s p c]]), some (.arr 1 (p.map mrow))]) := by
  refine AFn.of_body (F := T65.1) (by rw [hL]; rfl) rfl ?_
  (repeat' (first | refine wSeq rfl ?_ | refine wBlock rfl ?_ | refine wSkip rfl ?_ | refine wExit rfl ?_ | refine wRet rfl ?_ | refine wCondT rfl rfl ?_ | refine wCondF rfl rfl ?_ | refine wOps rfl ?_ | refine wDraw rfl rfl ?_ | simp only [seval, push_cast, ↓reduceIte, ↓bP_some, ↓aP_true, reduceCtorEq]))
  refine wRange rfl rfl ?_
  refine AFn.mono (valuesIt_a (y := 2) hL hs (by omega) (fun j => some (.arr 1 [[tl mrow s p c]]) :: some (.arr 1 [[accV 3 1 (p.take j)]]) :: some (.loop T65.1.ntmps [(2, V.ptr 1 1 0 0), (6, V.fn 50 [] [V.ptr 0 1 0 0])] T65.1.body.r.l.r.l.ps T65.1.body.r.l.r.l.l T65.1.body.r.l.r.l.r) :: accT (p.take j)) rfl ?_) ?_
  · intro j x hx
    have hj := (List.getElem?_eq_some_iff.1 hx).1
    have hlen : (p.take j).length = j := by rw [List.length_take]; omega
    rw [take_snoc hx]
    generalize p.take j = r at hlen ⊢
    have hput : putArgs [(2, V.ptr 1 1 0 0), (6, V.fn 50 [] [V.ptr 0 1 0 0])] T65.1.body.r.l.r.l.ps [V.int IntKind.i64 x] = [(2, V.ptr 1 1 0 0), (6, V.fn 50 [] [V.ptr 0 1 0 0]), (7, V.int .i64 x)] := rfl
    have hroom : (r.length + 1) * 8 ≤ 140737488355328 := by omega
    by_cases hr : r = []
    · subst hr
      refine ⟨[some (.arr 1 [[tl mrow s p c]]), some (.arr 1 [[.ref 4 1 0 1 none]]), some (.loop T65.1.ntmps [(2, V.ptr 1 1 0 0), (6, V.fn 50 [] [V.ptr 0 1 0 0])] T65.1.body.r.l.r.l.ps T65.1.body.r.l.r.l.l T65.1.body.r.l.r.l.r), some (.arr 1 [[.int .i64 x]]), some (.arr 1 [[.int .i64 x]])], [some 0, some 1, some 2, some 4], AFn.of_round rfl rfl rfl ?_, rfl, rfl, ?_⟩
      · (repeat' (first | refine wSeq rfl ?_ | refine wBlock rfl ?_ | refine wSkip rfl ?_ | refine wExit rfl ?_ | refine wRet rfl ?_ | refine wCondT rfl rfl ?_ | refine wCondF rfl rfl ?_ | refine wOps rfl ?_ | refine wDraw rfl rfl ?_ | simp only [seval, push_cast, ↓reduceIte, ↓bP_some, ↓aP_true, reduceCtorEq, accV_nil, hput, accT_nil]))
      · exact sh_c rfl (sh_c rfl (sh_c rfl (sh_c rfl sh_n)))
    · refine ⟨[some (.arr 1 [[tl mrow s p c]]), some (.arr 1 [[.ref 5 1 0 (r.length + 1) none]]), some (.loop T65.1.ntmps [(2, V.ptr 1 1 0 0), (6, V.fn 50 [] [V.ptr 0 1 0 0])] T65.1.body.r.l.r.l.ps T65.1.body.r.l.r.l.l T65.1.body.r.l.r.l.r), none, some (.arr 1 [[.int .i64 x]]), some (.arr 1 ((r ++ [x]).map mrow))], [some 0, some 1, some 2, some 5], ?_, rfl, rfl, ?_⟩
      · rw [show accT r = [some (.arr 1 (r.map mrow))] from if_neg hr]
        refine AFn.of_round rfl rfl rfl ?_
        (repeat' (first | refine wSeq rfl ?_ | refine wBlock rfl ?_ | refine wSkip rfl ?_ | refine wExit rfl ?_ | refine wRet rfl ?_ | refine wCondT rfl rfl ?_ | refine wCondF rfl rfl ?_ | refine wOps rfl ?_ | refine wDraw rfl rfl ?_ | simp only [seval, push_cast, ↓reduceIte, ↓bP_some, ↓aP_true, reduceCtorEq, accV_cons hr, hroom, hput]))
      · rw [accV_snoc, show accT (r ++ [x]) = [some (.arr 1 ((r ++ [x]).map mrow))] from if_neg (by simp)]
        exact sh_c rfl (sh_c rfl (sh_c rfl (sh_c (sh_b closed_mrow rfl) sh_n)))
  · rintro r h' ⟨rfl, rfl⟩
    rw [take_all]
    rw [show accT p = [some (.arr 1 (p.map mrow))] from if_neg hne, accV_cons hne]
    show qB _ (qN _ _ _ _ (FnQ _ _ _)) .normal _ _
    (repeat' (first | refine wSeq rfl ?_ | refine wBlock rfl ?_ | refine wSkip rfl ?_ | refine wExit rfl ?_ | refine wRet rfl ?_ | refine wCondT rfl rfl ?_ | refine wCondF rfl rfl ?_ | refine wOps rfl ?_ | refine wDraw rfl rfl ?_ | simp only [seval, push_cast, ↓reduceIte, ↓bP_some, ↓aP_true, reduceCtorEq]))
    exact FnQ.sh [some 0, some 3] [] rfl rfl rfl (sh_c rfl (sh_c (sh_b closed_mrow rfl) sh_n)) ⟨rfl, rfl⟩
theorem collect_a (s : Nat) (p : List Int) (c : Option Nat) (hs : s = 1 ∨ p = []) (hne : p ≠ []) (hl : p.length ≤ 17592186043904) : AFn L (.fn 49) [.fn 50 [] [.ptr 0 1 0 0]] [some (.arr 1 [[tl mrow s p c]])] (fun r H' => r = .ref 1 1 0 p.length none ∧ H' = [some (.arr 1 [[tl mrow s p c]]), some (.arr 1 (p.map mrow))]) := by
  refine AFn.of_body (F := T49.1) (by rw [hL]; rfl) rfl ?_
  (repeat' (first | refine wSeq rfl ?_ | refine wBlock rfl ?_ | refine wSkip rfl ?_ | refine wExit rfl ?_ | refine wRet rfl ?_ | refine wCondT rfl rfl ?_ | refine wCondF rfl rfl ?_ | refine wOpsP rfl ?_ | refine wDraw rfl rfl ?_ | simp only [seval, push_cast, ↓reduceIte, ↓bP_some, ↓aP_true, reduceCtorEq]))
  refine opsP_any rfl (appendSeq_a hL s p c hs hne hl) ?_
  rintro r h' ⟨rfl, rfl⟩
  (repeat' (first | refine wSeq rfl ?_ | refine wBlock rfl ?_ | refine wSkip rfl ?_ | refine wExit rfl ?_ | refine wRet rfl ?_ | refine wCondT rfl rfl ?_ | refine wCondF rfl rfl ?_ | refine wOps rfl ?_ | refine wDraw rfl rfl ?_ | simp only [seval, push_cast, ↓reduceIte, ↓bP_some, ↓aP_true, reduceCtorEq]))
  exact FnQ.at rfl ⟨rfl, rfl⟩
/-- The library's Sort, at lists of numbers that are not empty. -/
def SortOk (L : Lib) : Prop := ∀ (l : List Int) (c : Option Nat), 0 < l.length → l.length < 4611686018427387904 → AFn L (.fn 22) [.ref 0 1 0 l.length c] [some (.arr 1 (l.map mrow))] (fun r H' => r = .tup [] ∧ ∃ m : List Int, l.Perm m ∧ m.Pairwise (· ≤ ·) ∧ H' = [some (.arr 1 (m.map mrow))])
theorem len0_v : VFn L 62 [.int .u64 0] (.int .i64 0) := by
  have w1 : ¬ (4294967296 : Int) ≤ 0 := by omega
  have w2 : ¬ (65536 : Int) ≤ 0 := by omega
  have w3 : ¬ (256 : Int) ≤ 0 := by omega
  refine VFn.start (F := T62.1) (by rw [hL]; rfl) rfl rfl rfl ?_
  (repeat' (first | refine wSeq rfl ?_ | refine wBlock rfl ?_ | refine wSkip rfl ?_ | refine wExit rfl ?_ | refine wRet rfl ?_ | refine wCondT rfl rfl ?_ | refine wCondF rfl rfl ?_ | refine wOps rfl ?_ | refine wDraw rfl rfl ?_ | simp only [seval, push_cast, ↓reduceIte, ↓bP_some, ↓aP_true, reduceCtorEq, w1, w2, w3]))
  refine ⟨_, rfl, ?_⟩
  refine ⟨_, rfl, ?_⟩
  refine ⟨_, rfl, ?_⟩
  (repeat' (first | refine wSeq rfl ?_ | refine wBlock rfl ?_ | refine wSkip rfl ?_ | refine wExit rfl ?_ | refine wRet rfl ?_ | refine wCondT rfl rfl ?_ | refine wCondF rfl rfl ?_ | refine wOps rfl ?_ | refine wDraw rfl rfl ?_ | simp only [seval, push_cast, ↓reduceIte, ↓bP_some, ↓aP_true, reduceCtorEq]))
  exact FnQ.ret rfl rfl
theorem len00_v : VFn L 44 [.int .u64 0] (.int .i64 0) := by
  refine VFn.start (F := T44.1) (by rw [hL]; rfl) rfl rfl rfl ?_
  (repeat' (first | refine wSeq rfl ?_ | refine wBlock rfl ?_ | refine wSkip rfl ?_ | refine wExit rfl ?_ | refine wRet rfl ?_ | refine wCondT rfl rfl ?_ | refine wCondF rfl rfl ?_ | refine wOps rfl ?_ | refine wDraw rfl rfl ?_ | refine opsV_call rfl rfl (len0_v hL) ?_ | simp only [seval, push_cast, ↓reduceIte, ↓bP_some, ↓aP_true, reduceCtorEq]))
  exact FnQ.ret rfl rfl
theorem ins0_a (v : V) (H : Heap) : AFn L (.fn 52) [v, .int .i64 0, .int .i64 0] H (fun r H' => r = .tup [] ∧ H' = H) := by
  refine AFn.of_body (F := T52.1) (by rw [hL]; rfl) rfl ?_
  have w1 : IntKind.i64.wrap 1 = 1 := wrap_i64 (by omega) (by omega)
  (repeat' (first | refine wSeq rfl ?_ | refine wBlock rfl ?_ | refine wSkip rfl ?_ | refine wExit rfl ?_ | refine wRet rfl ?_ | refine wCondT rfl rfl ?_ | refine wCondF rfl rfl ?_ | refine wOps rfl ?_ | refine wDraw rfl rfl ?_ | simp only [seval, push_cast, ↓reduceIte, ↓bP_some, ↓aP_true, reduceCtorEq, w1]))
  refine wWhile rfl (fun _ : Unit => [(0, v), (1, .int .i64 0), (2, .int .i64 0), (6, .int .i64 1)]) (fun _ => H) (fun _ => 0) (fun _ => True) () rfl rfl trivial (fun _ _ => ?_)
  have h1 : ¬ ((1 : Int) < 0) := by omega
  (repeat' (first | refine wSeq rfl ?_ | refine wBlock rfl ?_ | refine wSkip rfl ?_ | refine wExit rfl ?_ | refine wRet rfl ?_ | refine wCondT rfl rfl ?_ | refine wCondF rfl rfl ?_ | refine wOps rfl ?_ | refine wDraw rfl rfl ?_ | simp only [seval, push_cast, ↓reduceIte, ↓bP_some, ↓aP_true, reduceCtorEq, h1]))
  refine (if_pos (by rfl)).mpr ?_
  exact FnQ.atN rfl ⟨rfl, rfl⟩
theorem pdq0_a (v : V) (m : Int) (H : Heap) : AFn L (.fn 43) [v, .int .i64 0, .int .i64 0, .int .i64 m] H (fun r H' => r = .tup [] ∧ H' = H) := by
  refine AFn.of_body (F := T43.1) (by rw [hL]; rfl) rfl ?_
  (repeat' (first | refine wSeq rfl ?_ | refine wBlock rfl ?_ | refine wSkip rfl ?_ | refine wExit rfl ?_ | refine wRet rfl ?_ | refine wCondT rfl rfl ?_ | refine wCondF rfl rfl ?_ | refine wOps rfl ?_ | refine wDraw rfl rfl ?_ | simp only [seval, push_cast, ↓reduceIte, ↓bP_some, ↓aP_true, reduceCtorEq]))
  refine wWhile rfl (fun _ : Unit => [(0, v), (1, .int .i64 0), (2, .int .i64 0), (3, .int .i64 m), (8, .bool true), (9, .bool true)]) (fun _ => H) (fun _ => 0) (fun _ => True) () rfl rfl trivial (fun _ _ => ?_)
  (repeat' (first | refine wSeq rfl ?_ | refine wBlock rfl ?_ | refine wSkip rfl ?_ | refine wExit rfl ?_ | refine wRet rfl ?_ | refine wCondT rfl rfl ?_ | refine wCondF rfl rfl ?_ | refine wOpsP rfl ?_ | refine wDraw rfl rfl ?_ | simp only [seval, push_cast, ↓reduceIte, ↓bP_some, ↓aP_true, reduceCtorEq]))
  refine opsP_all rfl (ins0_a hL v H) ?_
  rintro r h' ⟨rfl, rfl⟩
  (repeat' (first | refine wSeq rfl ?_ | refine wBlock rfl ?_ | refine wSkip rfl ?_ | refine wExit rfl ?_ | refine wRet rfl ?_ | refine wCondT rfl rfl ?_ | refine wCondF rfl rfl ?_ | refine wOps rfl ?_ | refine wDraw rfl rfl ?_ | simp only [seval, push_cast, ↓reduceIte, ↓bP_some, ↓aP_true, reduceCtorEq]))
  exact FnQ.at rfl ⟨rfl, rfl⟩
theorem sort0_a (v : V) (hv : lenQ v = some (.int .i64 0)) (H : Heap) : AFn L (.fn 22) [v] H (fun r H' => r = .tup [] ∧ H' = H) := by
  refine AFn.of_body (F := T22.1) (by rw [hL]; rfl) rfl ?_
  (repeat' (first | refine wSeq rfl ?_ | refine wBlock rfl ?_ | refine wSkip rfl ?_ | refine wExit rfl ?_ | refine wRet rfl ?_ | refine wCondT rfl rfl ?_ | refine wCondF rfl rfl ?_ | refine wOpsP rfl ?_ | refine wDraw rfl rfl ?_ | simp only [seval, push_cast, ↓reduceIte, ↓bP_some, ↓aP_true, reduceCtorEq, hv]))
  refine opsP_all rfl ((len00_v hL).at _) ?_
  rintro r h' ⟨rfl, rfl⟩
  (repeat' (first | refine wSeq rfl ?_ | refine wBlock rfl ?_ | refine wSkip rfl ?_ | refine wExit rfl ?_ | refine wRet rfl ?_ | refine wCondT rfl rfl ?_ | refine wCondF rfl rfl ?_ | refine wOpsP rfl ?_ | refine wDraw rfl rfl ?_ | simp only [seval, push_cast, ↓reduceIte, ↓bP_some, ↓aP_true, reduceCtorEq]))
  refine opsP_all rfl (pdq0_a hL v 0 _) ?_
  rintro r h' ⟨rfl, rfl⟩
  (repeat' (first | refine wSeq rfl ?_ | refine wBlock rfl ?_ | refine wSkip rfl ?_ | refine wExit rfl ?_ | refine wRet rfl ?_ | refine wCondT rfl rfl ?_ | refine wCondF rfl rfl ?_ | refine wOps rfl ?_ | refine wDraw rfl rfl ?_ | simp only [seval, push_cast, ↓reduceIte, ↓bP_some, ↓aP_true, reduceCtorEq]))
  exact FnQ.atN rfl ⟨rfl, rfl⟩
theorem appendSeq_0 (s : Nat) (c : Option Nat) : AFn L (.fn 65) [.lst 0 [] (some 0), .fn 50 [] [.ptr 0 1 0 0]] [some (.arr 1 [[tl mrow s [] c]])] (fun r H' => r = .lst 0 [] (some 0) ∧ H' = [some (.arr 1 [[tl mrow s [] c]])]) := by
  refine AFn.of_body (F := T65.1) (by rw [hL]; rfl) rfl ?_
  (repeat' (first | refine wSeq rfl ?_ | refine wBlock rfl ?_ | refine wSkip rfl ?_ | refine wExit rfl ?_ | refine wRet rfl ?_ | refine wCondT rfl rfl ?_ | refine wCondF rfl rfl ?_ | refine wOps rfl ?_ | refine wDraw rfl rfl ?_ | simp only [seval, push_cast, ↓reduceIte, ↓bP_some, ↓aP_true, reduceCtorEq]))
  refine wRange rfl rfl ?_
  refine AFn.mono (valuesIt_a (p := []) (y := 2) hL (.inr rfl) (by decide) (fun j => some (.arr 1 [[tl mrow s [] c]]) :: some (.arr 1 [[accV 3 1 ([] : List Int)]]) :: some (.loop T65.1.ntmps [(2, V.ptr 1 1 0 0), (6, V.fn 50 [] [V.ptr 0 1 0 0])] T65.1.body.r.l.r.l.ps T65.1.body.r.l.r.l.l T65.1.body.r.l.r.l.r) :: []) rfl (fun j x hx => by simp at hx)) ?_
  rintro r h' ⟨rfl, rfl⟩
  show qB _ (qN _ _ _ _ (FnQ _ _ _)) .normal _ _
  (repeat' (first | refine wSeq rfl ?_ | refine wBlock rfl ?_ | refine wSkip rfl ?_ | refine wExit rfl ?_ | refine wRet rfl ?_ | refine wCondT rfl rfl ?_ | refine wCondF rfl rfl ?_ | refine wOps rfl ?_ | refine wDraw rfl rfl ?_ | simp only [seval, push_cast, ↓reduceIte, ↓bP_some, ↓aP_true, reduceCtorEq]))
  exact FnQ.sh [some 0] [] rfl rfl rfl (sh_c rfl sh_n) ⟨rfl, rfl⟩
theorem collect_0 (s : Nat) (c : Option Nat) : AFn L (.fn 49) [.fn 50 [] [.ptr 0 1 0 0]] [some (.arr 1 [[tl mrow s [] c]])] (fun r H' => r = .lst 0 [] (some 0) ∧ H' = [some (.arr 1 [[tl mrow s [] c]])]) := by
  refine AFn.of_body (F := T49.1) (by rw [hL]; rfl) rfl ?_
  (repeat' (first | refine wSeq rfl ?_ | refine wBlock rfl ?_ | refine wSkip rfl ?_ | refine wExit rfl ?_ | refine wRet rfl ?_ | refine wCondT rfl rfl ?_ | refine wCondF rfl rfl ?_ | refine wOpsP rfl ?_ | refine wDraw rfl rfl ?_ | simp only [seval, push_cast, ↓reduceIte, ↓bP_some, ↓aP_true, reduceCtorEq]))
  refine opsP_any rfl (appendSeq_0 hL s c) ?_
  rintro r h' ⟨rfl, rfl⟩
  (repeat' (first | refine wSeq rfl ?_ | refine wBlock rfl ?_ | refine wSkip rfl ?_ | refine wExit rfl ?_ | refine wRet rfl ?_ | refine wCondT rfl rfl ?_ | refine wCondF rfl rfl ?_ | refine wOps rfl ?_ | refine wDraw rfl rfl ?_ | simp only [seval, push_cast, ↓reduceIte, ↓bP_some, ↓aP_true, reduceCtorEq]))
  exact FnQ.at rfl ⟨rfl, rfl⟩
theorem sorted_0 (s : Nat) (c : Option Nat) : AFn L (.fn 38) [.fn 50 [] [.ptr 0 1 0 0]] [some (.arr 1 [[tl mrow s [] c]])] (fun r H' => r = .lst 0 [] (some 0) ∧ H' = [some (.arr 1 [[tl mrow s [] c]])]) := by
  refine AFn.of_body (F := T38.1) (by rw [hL]; rfl) rfl ?_
  (repeat' (first | refine wSeq rfl ?_ | refine wBlock rfl ?_ | refine wSkip rfl ?_ | refine wExit rfl ?_ | refine wRet rfl ?_ | refine wCondT rfl rfl ?_ | refine wCondF rfl rfl ?_ | refine wOpsP rfl ?_ | refine wDraw rfl rfl ?_ | simp only [seval, push_cast, ↓reduceIte, ↓bP_some, ↓aP_true, reduceCtorEq]))
  refine opsP_any rfl (collect_0 hL s c) ?_
  rintro r h' ⟨rfl, rfl⟩
  (repeat' (first | refine wSeq rfl ?_ | refine wBlock rfl ?_ | refine wSkip rfl ?_ | refine wExit rfl ?_ | refine wRet rfl ?_ | refine wCondT rfl rfl ?_ | refine wCondF rfl rfl ?_ | refine wOpsP rfl ?_ | refine wDraw rfl rfl ?_ | simp only [seval, push_cast, ↓reduceIte, ↓bP_some, ↓aP_true, reduceCtorEq]))
  refine opsP_all rfl (sort0_a hL _ rfl _) ?_
  rintro r h' ⟨rfl, rfl⟩
  (repeat' (first | refine wSeq rfl ?_ | refine wBlock rfl ?_ | refine wSkip rfl ?_ | refine wExit rfl ?_ | refine wRet rfl ?_ | refine wCondT rfl rfl ?_ | refine wCondF rfl rfl ?_ | refine wOps rfl ?_ | refine wDraw rfl rfl ?_ | simp only [seval, push_cast, ↓reduceIte, ↓bP_some, ↓aP_true, reduceCtorEq]))
  exact FnQ.at rfl ⟨rfl, rfl⟩
theorem sorted_s (hS : SortOk L) (s : Nat) (p : List Int) (c : Option Nat) (hs : s = 1 ∨ p = []) (hne : p ≠ []) (hl : p.length ≤ 17592186043904) : AFn L (.fn 38) [.fn 50 [] [.ptr 0 1 0 0]] [some (.arr 1 [[tl mrow s p c]])] (fun r H' => r = .ref 1 1 0 p.length none ∧ ∃ m : List Int, m.Perm p ∧ m.Pairwise (· ≤ ·) ∧ H' = [some (.arr 1 [[tl mrow s p c]]), some (.arr 1 (m.map mrow))]) := by
  refine AFn.of_body (F := T38.1) (by rw [hL]; rfl) rfl ?_
  have hp : 0 < p.length := List.length_pos_iff.2 hne
  (repeat' (first | refine wSeq rfl ?_ | refine wBlock rfl ?_ | refine wSkip rfl ?_ | refine wExit rfl ?_ | refine wRet rfl ?_ | refine wCondT rfl rfl ?_ | refine wCondF rfl rfl ?_ | refine wOpsP rfl ?_ | refine wDraw rfl rfl ?_ | simp only [seval, push_cast, ↓reduceIte, ↓bP_some, ↓aP_true, reduceCtorEq]))
  refine opsP_any rfl (collect_a hL s p c hs hne hl) ?_
  rintro r h' ⟨rfl, rfl⟩
  (repeat' (first | refine wSeq rfl ?_ | refine wBlock rfl ?_ | refine wSkip rfl ?_ | refine wExit rfl ?_ | refine wRet rfl ?_ | refine wCondT rfl rfl ?_ | refine wCondF rfl rfl ?_ | refine wOpsP rfl ?_ | refine wDraw rfl rfl ?_ | simp only [seval, push_cast, ↓reduceIte, ↓bP_some, ↓aP_true, reduceCtorEq]))
  refine opsP_frm (k := 22) (vs' := [.ref 0 1 0 p.length none]) (H0 := [some (.arr 1 (p.map mrow))]) [1] rfl rfl rfl rfl (sh_c (sh_b closed_mrow rfl) sh_n) (hS p none hp (by omega)) ?_
  rintro r h' ⟨rfl, q, q1, q2, rfl⟩
  rw [back_one, ren_tup0]
  (repeat' (first | refine wSeq rfl ?_ | refine wBlock rfl ?_ | refine wSkip rfl ?_ | refine wExit rfl ?_ | refine wRet rfl ?_ | refine wCondT rfl rfl ?_ | refine wCondF rfl rfl ?_ | refine wOps rfl ?_ | refine wDraw rfl rfl ?_ | simp only [seval, push_cast, ↓reduceIte, ↓bP_some, ↓aP_true, reduceCtorEq]))
  exact FnQ.at rfl ⟨rfl, q, q1.symm, q2, rfl⟩
theorem turns_v (hS : SortOk L) (s : Nat) (p : List Int) (c : Option Nat) (hs : s = 1 ∨ p = []) (hp : p.length ≤ 17592186043904) : VFn L 19 [tl mrow s p c] (.bool (turnedL p)) := by
  refine VFn.start (F := T19.1) (by rw [hL]; rfl) rfl rfl rfl ?_
  (repeat' (first | refine wSeq rfl ?_ | refine wBlock rfl ?_ | refine wSkip rfl ?_ | refine wExit rfl ?_ | refine wRet rfl ?_ | refine wCondT rfl rfl ?_ | refine wCondF rfl rfl ?_ | refine wOpsP rfl ?_ | refine wDraw rfl rfl ?_ | simp only [seval, push_cast, ↓reduceIte, ↓bP_some, ↓aP_true, reduceCtorEq]))
  refine opsP_any rfl (values_v hL s p c) ?_
  rintro r h' ⟨rfl, rfl⟩
  (repeat' (first | refine wSeq rfl ?_ | refine wBlock rfl ?_ | refine wSkip rfl ?_ | refine wExit rfl ?_ | refine wRet rfl ?_ | refine wCondT rfl rfl ?_ | refine wCondF rfl rfl ?_ | refine wOpsP rfl ?_ | refine wDraw rfl rfl ?_ | simp only [seval, push_cast, ↓reduceIte, ↓bP_some, ↓aP_true, reduceCtorEq]))
  by_cases hne : p = []
  · subst hne
    refine opsP_any rfl (sorted_0 hL s c) ?_
    rintro r h' ⟨rfl, rfl⟩
    (repeat' (first | refine wSeq rfl ?_ | refine wBlock rfl ?_ | refine wSkip rfl ?_ | refine wExit rfl ?_ | refine wRet rfl ?_ | refine wCondT rfl rfl ?_ | refine wCondF rfl rfl ?_ | refine wOps rfl ?_ | refine wDraw rfl rfl ?_ | simp only [seval, push_cast, ↓reduceIte, ↓bP_some, ↓aP_true, reduceCtorEq]))
    refine wCnt rfl 11 0 (fun _ => []) (fun _ => True) rfl trivial (fun j hj => absurd hj (by omega)) (fun _ => ?_)
    (repeat' (first | refine wSeq rfl ?_ | refine wBlock rfl ?_ | refine wSkip rfl ?_ | refine wExit rfl ?_ | refine wRet rfl ?_ | refine wCondT rfl rfl ?_ | refine wCondF rfl rfl ?_ | refine wOps rfl ?_ | refine wDraw rfl rfl ?_ | simp only [seval, push_cast, ↓reduceIte, ↓bP_some, ↓aP_true, reduceCtorEq]))
    rw [show turnedL [] = false from rfl]
    exact FnQ.ret rfl rfl
  · refine opsP_any rfl (sorted_s hL hS s p c hs hne hp) ?_
    rintro r h' ⟨rfl, m, m1, m2, rfl⟩
    (repeat' (first | refine wSeq rfl ?_ | refine wBlock rfl ?_ | refine wSkip rfl ?_ | refine wExit rfl ?_ | refine wRet rfl ?_ | refine wCondT rfl rfl ?_ | refine wCondF rfl rfl ?_ | refine wOps rfl ?_ | refine wDraw rfl rfl ?_ | simp only [seval, push_cast, ↓reduceIte, ↓bP_some, ↓aP_true, reduceCtorEq]))
    refine wCnt rfl 11 p.length (fun _ => []) (fun j => ∀ i : Nat, i < j → m[i]? = some (i : Int)) rfl (fun i h => by omega) ?_ ?_
    · intro j hj hI
      have hw := wrap_succ (show j < 9223372036854775807 by omega)
      obtain ⟨x, hx, _⟩ := get_of (show j < m.length by rw [m1.length_eq]; exact hj)
      by_cases e : x = (j : Int)
      · subst e
        (repeat' (first | refine wSeq rfl ?_ | refine wBlock rfl ?_ | refine wSkip rfl ?_ | refine wExit rfl ?_ | refine wRet rfl ?_ | refine wCondT rfl rfl ?_ | refine wCondF rfl rfl ?_ | refine wOps rfl ?_ | refine wDraw rfl rfl ?_ | simp only [seval, push_cast, ↓reduceIte, ↓bP_some, ↓aP_true, reduceCtorEq, hj, hx, hw]))
        refine qR_n rfl rfl fun i hi => ?_
        by_cases e : i = j
        · subst e; exact hx
        · exact hI i (by omega)
      · (repeat' (first | refine wSeq rfl ?_ | refine wBlock rfl ?_ | refine wSkip rfl ?_ | refine wExit rfl ?_ | refine wRet rfl ?_ | refine wCondT rfl rfl ?_ | refine wCondF rfl rfl ?_ | refine wOps rfl ?_ | refine wDraw rfl rfl ?_ | simp only [seval, push_cast, ↓reduceIte, ↓bP_some, ↓aP_true, reduceCtorEq, hj, hx, hw, e]))
        rw [turned_bad m1 m2 hI hx e]
        exact FnQ.ret rfl rfl
    · intro hI
      by_cases h1 : (1 : Int) ≤ p.length
      · by_cases h2 : (p.length : Int) ≤ 10
        · (repeat' (first | refine wSeq rfl ?_ | refine wBlock rfl ?_ | refine wSkip rfl ?_ | refine wExit rfl ?_ | refine wRet rfl ?_ | refine wCondT rfl rfl ?_ | refine wCondF rfl rfl ?_ | refine wOps rfl ?_ | refine wDraw rfl rfl ?_ | simp only [seval, push_cast, ↓reduceIte, ↓bP_some, ↓aP_true, reduceCtorEq, h1, h2]))
          rw [turned_good m1 (by omega) hI]
          exact FnQ.ret rfl rfl
        · (repeat' (first | refine wSeq rfl ?_ | refine wBlock rfl ?_ | refine wSkip rfl ?_ | refine wExit rfl ?_ | refine wRet rfl ?_ | refine wCondT rfl rfl ?_ | refine wCondF rfl rfl ?_ | refine wOps rfl ?_ | refine wDraw rfl rfl ?_ | simp only [seval, push_cast, ↓reduceIte, ↓bP_some, ↓aP_true, reduceCtorEq, h1, h2]))
          rw [perm_no (by omega)]
          exact FnQ.ret rfl rfl
      · (repeat' (first | refine wSeq rfl ?_ | refine wBlock rfl ?_ | refine wSkip rfl ?_ | refine wExit rfl ?_ | refine wRet rfl ?_ | refine wCondT rfl rfl ?_ | refine wCondF rfl rfl ?_ | refine wOps rfl ?_ | refine wDraw rfl rfl ?_ | simp only [seval, push_cast, ↓reduceIte, ↓bP_some, ↓aP_true, reduceCtorEq, h1]))
        rw [perm_no (by omega)]
        exact FnQ.ret rfl rfl
end Go.Proofs.Ytaehkmmlacpleaa
set_option maxRecDepth 100000
set_option maxHeartbeats 4000000
set_option linter.unusedVariables false
set_option linter.unusedSimpArgs false
namespace Go.Proofs.Ytaehkmmlacpleaa
theorem acc_case {α : Type} (f : α → List V) (a n : Nat) (r : List α) : accV a n r = .lst 0 [] (some 0) ∧ accB f n r = none ∧ r = [] ∨ accV a n r = .ref a n 0 r.length none ∧ accB f n r = some (.arr n (r.map f)) ∧ r ≠ [] := by
  by_cases hr : r = []
  · subst hr; exact .inl ⟨rfl, rfl, rfl⟩
  · exact .inr ⟨accV_cons hr, accB_cons hr, hr⟩
/-- Numbers laid in, one after another. -/
def risT (l : List Int) (n : Nat) : List Int := (List.range n).flatMap fun (n : Nat) => l.filter fun x => decide (x = (n : Int))
theorem risT_succ (l : List Int) (n : Nat) : risT l (n + 1) = risT l n ++ l.filter fun x => decide (x = (n : Int)) := by
  unfold risT
  rw [List.range_succ, List.flatMap_append]
  simp
theorem ris_split (n : Nat) : ∀ l : List Int, (l.filter fun x => decide (0 ≤ x ∧ x < ((n + 1 : Nat) : Int))).length = (l.filter fun x => decide (0 ≤ x ∧ x < (n : Int))).length + (l.filter fun x => decide (x = (n : Int))).length
  | [] => rfl
  | x :: l => by
    have ih := ris_split n l
    simp only [List.filter_cons]
    by_cases h1 : x = (n : Int)
    · subst h1
      rw [if_pos (by simp; omega), if_neg (by simp), if_pos (by simp)]
      simp only [List.length_cons, ih]; omega
    · by_cases h2 : 0 ≤ x ∧ x < (n : Int)
      · rw [if_pos (by simp; omega), if_pos (by simp [h2]), if_neg (by simp [h1])]
        simp only [List.length_cons, ih]; omega
      · rw [if_neg (by simp; omega), if_neg (by simp; omega), if_neg (by simp [h1])]
        exact ih
theorem risT_len (l : List Int) (n : Nat) : (risT l n).length = (l.filter fun x => decide (0 ≤ x ∧ x < (n : Int))).length := by
  induction n with
  | zero =>
    have : (l.filter fun x => decide (0 ≤ x ∧ x < ((0 : Nat) : Int))) = [] := by
      rw [List.filter_eq_nil_iff]
      intro x _
      simp <;> omega
    rw [this]; simp [risT]
  | succ n ih => rw [risT_succ, List.length_append, ih, ris_split]
theorem ris_room (l : List Int) (n j : Nat) : (risT l n ++ (l.take j).filter fun x => decide (x = (n : Int))).length ≤ l.length := by
  rw [List.length_append, risT_len]
  have h1 := ris_split n l
  have h2 : ((l.take j).filter fun x => decide (x = (n : Int))).length ≤ (l.filter fun x => decide (x = (n : Int))).length := ((List.take_sublist j l).filter _).length_le
  have h3 := List.length_filter_le (fun x : Int => decide (0 ≤ x ∧ x < ((n + 1 : Nat) : Int))) l
  omega
theorem filter_snoc {l : List Int} {j : Nat} {x : Int} {p : Int → Bool} (h : l[j]? = some x) : (l.take (j + 1)).filter p = (l.take j).filter p ++ (if p x then [x] else []) := by
  rw [take_snoc h, List.filter_append]
  congr 1
  cases hp : p x <;> simp [hp]
variable {L : Lib} (hL : L.T = tab.get)
include hL
theorem named_v (a p : Nl Int) (ha : okI a) (hp : okI p) (h : ∀ x ∈ a.l, 0 ≤ x ∧ x < p.l.length) : VFn L 25 [nlv mrow 1 a, nlv mrow 1 p] (nlv mrow 1 (nz (a.l.map (imL p.l)))) := by
  unfold okI at ha hp
  refine VFn.start (F := T25.1) (by rw [hL]; rfl) rfl (by simp [V.closeds, closed_nlv]) closed_nlv ?_
  (repeat' (first | refine wSeq rfl ?_ | refine wBlock rfl ?_ | refine wSkip rfl ?_ | refine wExit rfl ?_ | refine wRet rfl ?_ | refine wCondT rfl rfl ?_ | refine wCondF rfl rfl ?_ | refine wOps rfl ?_ | refine wDraw rfl rfl ?_ | simp only [seval, push_cast, ↓reduceIte, ↓bP_some, ↓aP_true, reduceCtorEq]))
  refine wPad [none] rfl (by simp only [Env.sh, List.map_cons, List.map_nil, ren_nlv]; rfl) rfl ?_
  refine wCntH rfl 6 a.l.length (fun j => [(5, accV 0 1 ((a.l.take j).map (imL p.l)))]) (fun j => [accB mrow 1 ((a.l.take j).map (imL p.l))]) (fun _ => True) rfl rfl trivial ?_ ?_
  · intro j hj _
    obtain ⟨x, hx, mx⟩ := get_of hj
    have hrg := h x mx
    obtain ⟨n, rfl⟩ : ∃ n : Nat, x = n := ⟨x.toNat, by omega⟩
    have hn : n < p.l.length := by omega
    obtain ⟨y, hy, _⟩ := get_of hn
    have hw := wrap_succ (show j < 9223372036854775807 by omega)
    have hst : (a.l.take (j + 1)).map (imL p.l) = (a.l.take j).map (imL p.l) ++ [y] := by rw [take_snoc hx, List.map_append]; simp [imL, hy]
    have hlen : ((a.l.take j).map (imL p.l)).length ≤ j := by simp; omega
    rw [hst]
    generalize (a.l.take j).map (imL p.l) = r at *
    have hroom : (r.length + 1) * 8 ≤ 140737488355328 := by omega
    rcases acc_case mrow 0 1 r with ⟨hV, hB, rfl⟩ | ⟨hV, hB, hr⟩
    · (repeat' (first | refine wSeq rfl ?_ | refine wBlock rfl ?_ | refine wSkip rfl ?_ | refine wExit rfl ?_ | refine wRet rfl ?_ | refine wCondT rfl rfl ?_ | refine wCondF rfl rfl ?_ | refine wOps rfl ?_ | refine wDraw rfl rfl ?_ | simp only [seval, push_cast, ↓reduceIte, ↓bP_some, ↓aP_true, reduceCtorEq, hj, hV, hB, hw, hx, hy, iaQ_nlv hj, iaQ_nlv hn]))
      exact qR_s [some 2] [] rfl (by simp only [Env.sh, List.map_cons, List.map_nil, ren_nlv]; rfl) rfl trivial
    · (repeat' (first | refine wSeq rfl ?_ | refine wBlock rfl ?_ | refine wSkip rfl ?_ | refine wExit rfl ?_ | refine wRet rfl ?_ | refine wCondT rfl rfl ?_ | refine wCondF rfl rfl ?_ | refine wOps rfl ?_ | refine wDraw rfl rfl ?_ | simp only [seval, push_cast, ↓reduceIte, ↓bP_some, ↓aP_true, reduceCtorEq, hj, hV, hB, hw, hroom, hx, hy, iaQ_nlv hj, iaQ_nlv hn]))
      exact qR_s [some 2] [] rfl (by simp only [accV_snoc, Env.sh, List.map_cons, List.map_nil, ren_nlv]; rfl) (by (simp only [accV_snoc, accB_snoc, accV_nil, accB_nil]; (repeat (first | exact sh_n | refine sh_c (sh_b closed_mrow rfl) ?_ | refine sh_c rfl ?_)))) trivial
  · intro _
    rw [take_all]
    (repeat' (first | refine wSeq rfl ?_ | refine wBlock rfl ?_ | refine wSkip rfl ?_ | refine wExit rfl ?_ | refine wRet rfl ?_ | refine wCondT rfl rfl ?_ | refine wCondF rfl rfl ?_ | refine wOps rfl ?_ | refine wDraw rfl rfl ?_ | simp only [seval, push_cast, ↓reduceIte, ↓bP_some, ↓aP_true, reduceCtorEq]))
    exact FnQ.frz [0] rfl (frz_nz closed_mrow (by decide) rfl rfl rfl)
theorem rising_v (a : Nl Int) (ha : okI a) : VFn L 26 [nlv mrow 1 a] (nlv mrow 1 (nz (risingL a.l))) := by
  unfold okI at ha
  refine VFn.start (F := T26.1) (by rw [hL]; rfl) rfl (by simp [V.closeds, closed_nlv]) closed_nlv ?_
  (repeat' (first | refine wSeq rfl ?_ | refine wBlock rfl ?_ | refine wSkip rfl ?_ | refine wExit rfl ?_ | refine wRet rfl ?_ | refine wCondT rfl rfl ?_ | refine wCondF rfl rfl ?_ | refine wOps rfl ?_ | refine wDraw rfl rfl ?_ | simp only [seval, push_cast, ↓reduceIte, ↓bP_some, ↓aP_true, reduceCtorEq]))
  refine wPad [none] rfl (by simp only [Env.sh, List.map_cons, List.map_nil, ren_nlv]; rfl) rfl ?_
  refine wCntH rfl 4 10 (fun n => [(3, accV 0 1 (risT a.l n))]) (fun n => [accB mrow 1 (risT a.l n)]) (fun _ => True) rfl rfl trivial ?_ ?_
  · intro n hn _
    have hn' : (n : Int) < 10 := by omega
    have hw := wrap_succ (show n < 9223372036854775807 by omega)
    have hrm := fun j => ris_room a.l n j
    have hs := risT_succ a.l n
    generalize risT a.l n = r0 at *
    (repeat' (first | refine wSeq rfl ?_ | refine wBlock rfl ?_ | refine wSkip rfl ?_ | refine wExit rfl ?_ | refine wRet rfl ?_ | refine wCondT rfl rfl ?_ | refine wCondF rfl rfl ?_ | refine wOps rfl ?_ | refine wDraw rfl rfl ?_ | simp only [seval, push_cast, ↓reduceIte, ↓bP_some, ↓aP_true, reduceCtorEq, hn', hn]))
    refine wCntH rfl 5 a.l.length (fun j => [(3, accV 0 1 (r0 ++ (a.l.take j).filter fun x => decide (x = (n : Int))))]) (fun j => [accB mrow 1 (r0 ++ (a.l.take j).filter fun x => decide (x = (n : Int)))]) (fun _ => True) ?_ ?_ trivial ?_ ?_
    · simp only [List.take_zero, List.filter_nil, List.append_nil]; rfl
    · simp only [List.take_zero, List.filter_nil, List.append_nil]
    · intro j hj _
      obtain ⟨x, hx, mx⟩ := get_of hj
      have hwj := wrap_succ (show j < 9223372036854775807 by omega)
      have hst := filter_snoc (p := fun x => decide (x = (n : Int))) hx
      rw [hst]
      have hl3 := hrm j
      rw [← List.append_assoc]
      generalize (r0 ++ (a.l.take j).filter fun x => decide (x = (n : Int))) = r at *
      by_cases e : x = (n : Int)
      · subst e
        have hroom : (r.length + 1) * 8 ≤ 140737488355328 := by omega
        simp only [decide_true, if_true]
        rcases acc_case mrow 0 1 r with ⟨hV, hB, rfl⟩ | ⟨hV, hB, hr⟩
        · (repeat' (first | refine wSeq rfl ?_ | refine wBlock rfl ?_ | refine wSkip rfl ?_ | refine wExit rfl ?_ | refine wRet rfl ?_ | refine wCondT rfl rfl ?_ | refine wCondF rfl rfl ?_ | refine wOps rfl ?_ | refine wDraw rfl rfl ?_ | simp only [seval, push_cast, ↓reduceIte, ↓bP_some, ↓aP_true, reduceCtorEq, hj, hn, hn', hV, hB, hwj, hx, iaQ_nlv hj]))
          exact qR_s [some 2] [] rfl (by simp only [Env.sh, List.map_cons, List.map_nil, ren_nlv]; rfl) rfl trivial
        · (repeat' (first | refine wSeq rfl ?_ | refine wBlock rfl ?_ | refine wSkip rfl ?_ | refine wExit rfl ?_ | refine wRet rfl ?_ | refine wCondT rfl rfl ?_ | refine wCondF rfl rfl ?_ | refine wOps rfl ?_ | refine wDraw rfl rfl ?_ | simp only [seval, push_cast, ↓reduceIte, ↓bP_some, ↓aP_true, reduceCtorEq, hj, hn, hn', hV, hB, hwj, hroom, hx, iaQ_nlv hj]))
          exact qR_s [some 2] [] rfl (by simp only [accV_snoc, Env.sh, List.map_cons, List.map_nil, ren_nlv]; rfl) (by (simp only [accV_snoc, accB_snoc, accV_nil, accB_nil]; (repeat (first | exact sh_n | refine sh_c (sh_b closed_mrow rfl) ?_ | refine sh_c rfl ?_)))) trivial
      · have ed : decide (x = (n : Int)) = false := decide_eq_false e
        simp only [ed, if_false, List.append_nil, Bool.false_eq_true]
        (repeat' (first | refine wSeq rfl ?_ | refine wBlock rfl ?_ | refine wSkip rfl ?_ | refine wExit rfl ?_ | refine wRet rfl ?_ | refine wCondT rfl rfl ?_ | refine wCondF rfl rfl ?_ | refine wOps rfl ?_ | refine wDraw rfl rfl ?_ | simp only [seval, push_cast, ↓reduceIte, ↓bP_some, ↓aP_true, reduceCtorEq, hj, hn, hn', hwj, hx, iaQ_nlv hj, e]))
        exact qR_n rfl rfl trivial
    · intro _
      rw [take_all, ← hs]
      (repeat' (first | refine wSeq rfl ?_ | refine wBlock rfl ?_ | refine wSkip rfl ?_ | refine wExit rfl ?_ | refine wRet rfl ?_ | refine wCondT rfl rfl ?_ | refine wCondF rfl rfl ?_ | refine wOps rfl ?_ | refine wDraw rfl rfl ?_ | simp only [seval, push_cast, ↓reduceIte, ↓bP_some, ↓aP_true, reduceCtorEq, hw]))
      exact qR_n rfl rfl trivial
  · intro _
    rw [show risT a.l 10 = risingL a.l from rfl]
    (repeat' (first | refine wSeq rfl ?_ | refine wBlock rfl ?_ | refine wSkip rfl ?_ | refine wExit rfl ?_ | refine wRet rfl ?_ | refine wCondT rfl rfl ?_ | refine wCondF rfl rfl ?_ | refine wOps rfl ?_ | refine wDraw rfl rfl ?_ | simp only [seval, push_cast, ↓reduceIte, ↓bP_some, ↓aP_true, reduceCtorEq]))
    exact FnQ.frz [0] rfl (frz_nz closed_mrow (by decide) rfl rfl rfl)
end Go.Proofs.Ytaehkmmlacpleaa
set_option maxRecDepth 100000
set_option maxHeartbeats 1000000
set_option linter.unusedVariables false
set_option linter.unusedSimpArgs false
namespace Go.Proofs.Ytaehkmmlacpleaa
def renRdR (p : List Int) (d : Rd) : Rd := { had := some (hadP p d.had.l), lost := d.lost, el := nz (d.el.l.map (imL p)), out := nz (d.out.l.map (imL p)) }
def renTiR (p : List Int) (t : Ti) : Ti := { among := nz (risingL (t.among.l.map (imL p))), chosen := imL p t.chosen }
def renOR (p : List Int) (o : Oc) : Oc := { el := nz (o.el.l.map (imL p)), rounds := nz (o.rounds.l.map (renRdR p)), ties := nz (o.ties.l.map (renTiR p)) }
def renLR (o : Oc) (p : List Int) : Oc × Int := if turnedL p = true ∧ fitsO o p.length = true then (renOR p o, 0) else (zeroO, 2)
/-- The totals laid at their new places, up to j. -/
def hadTo (p : List Int) (l : List Rt) (j : Nat) : List Rt := (List.range j).foldl (fun q i => q.set (p.getD i 0).toNat (l.getD i default)) (List.replicate p.length default)
theorem hadTo_succ (p : List Int) (l : List Rt) (j : Nat) : hadTo p l (j + 1) = (hadTo p l j).set (p.getD j 0).toNat (l.getD j default) := by simp [hadTo, List.range_succ]
theorem hadTo_len (p : List Int) (l : List Rt) (j : Nat) : (hadTo p l j).length = p.length := by
  induction j with
  | zero => simp [hadTo]
  | succ j ih => rw [hadTo_succ, List.length_set, ih]
theorem hadTo_at {p : List Int} (ht : turnedL p = true) {l : List Rt} (j : Nat) : j ≤ p.length → ∀ (c m : Nat) (x : Rt), c < j → p[c]? = some (m : Int) → l[c]? = some x → (hadTo p l j)[m]? = some x := by
  induction j with
  | zero => intro _ c m x h; omega
  | succ j ih =>
    intro hj c m x hc hp hx
    have hm : m < p.length := by
      have := turned_range ht (List.mem_of_getElem? hp); omega
    rw [hadTo_succ]
    by_cases e : c = j
    · subst e
      have e1 : (p.getD c 0).toNat = m := by rw [List.getD_eq_getElem?_getD, hp]; simp
      have e2 : l.getD c default = x := by rw [List.getD_eq_getElem?_getD, hx]; rfl
      rw [e1, e2, List.getElem?_set_self (by rw [hadTo_len]; exact hm)]
    · have hjp : p[j]? = some p[j] := List.getElem?_eq_getElem (by omega)
      have hrg := turned_range ht (List.mem_of_getElem? hjp)
      have hne : (p.getD j 0).toNat ≠ m := by
        rw [List.getD_eq_getElem?_getD, hjp, Option.getD_some]
        intro h
        have h2 : p[j] = (m : Int) := by omega
        rw [h2] at hjp
        exact e (nodup_at (turned_nodup ht) hp hjp)
      rw [List.getElem?_set_ne hne]
      exact ih (by omega) c m x (by omega) hp hx
theorem hadTo_end {p : List Int} (ht : turnedL p = true) {l : List Rt} (hl : l.length = p.length) : hadTo p l p.length = hadP p l :=
  had_eq ht (hadTo_len _ _ _) hl (fun c m x hp hx => hadTo_at ht p.length (Nat.le_refl _) c m x (List.getElem?_eq_some_iff.1 hp).1 hp hx)
def rdrowR (n : Nat) (d : Rd) : List V := [.lst 3 (d.had.l.map rtrow) (some n), .bool d.lost.neg, nlv urow 1 d.lost.num, nlv urow 1 d.lost.den, nlv mrow 1 d.el, nlv mrow 1 d.out]
theorem closed_rdrowR (n : Nat) (d : Rd) : (rdrowR n d).all V.closed = true := by simp [rdrowR, closed_nlv, V.closed]
theorem ofL_all {l : List Int} {n : Int} (h : ofL l n = true) : ∀ x ∈ l, 0 ≤ x ∧ x < n := ofL_iff.1 h
theorem deep_same {h : HG} {α : Type} {f : α → List V} {n : Nat} {o : Nl α} (k : Nat) : Deep h (k + 1) (nlv f n o) (nlv f n o) := by cases o <;> exact .inl rfl
theorem deep_list {h : HG} {k : Nat} {α : Type} {f g : α → List V} {l : List α} (hl : ∀ x ∈ l, (g x).length = (f x).length ∧ ∀ p ∈ (f x).zip (g x), Deep h k p.1 p.2) : ∀ (i : Nat) (r r' : List V), (l.map f)[i]? = some r → (l.map g)[i]? = some r' → r'.length = r.length ∧ ∀ (j : Nat) (c d : V), r[j]? = some c → r'[j]? = some d → Deep h k c d := fun i r r' hr hr' => by
  rw [List.getElem?_map, Option.map_eq_some_iff] at hr hr'
  obtain ⟨x, hx, rfl⟩ := hr
  obtain ⟨y, hy, rfl⟩ := hr'
  rw [hx] at hy; cases hy
  obtain ⟨h1, h2⟩ := hl x (List.mem_of_getElem? hx)
  exact ⟨h1, deep_cells h2⟩
theorem deep_acc {H : Heap} {k a n : Nat} {α : Type} {f g : α → List V} {l : List α} (hn : 0 < n) (hb : H.get a = accB f n l) (hl : ∀ x ∈ l, (g x).length = (f x).length ∧ ∀ p ∈ (f x).zip (g x), Deep H.get k p.1 p.2) : Deep H.get (k + 1) (accV a n l) (nlv g n (nz l)) := by
  by_cases hr : l = []
  · subst hr; exact .inl rfl
  · rw [accV_cons hr, nlv_nz hr]
    rw [accB_cons hr] at hb
    have : ¬ l.length = 0 := fun e => hr (List.length_eq_zero_iff.1 e)
    refine ⟨l.map f, l.map g, hb, hn, by simp, by simp, fun i r r' hr1 hr2 => ?_, by simp only [this, if_false]⟩
    rw [Nat.zero_add] at hr1
    exact deep_list hl i r r' hr1 hr2
theorem deep_rdR {h : HG} {n : Nat} (d : Rd) (hd : ∃ l, d.had = some l ∧ l ≠ []) : (rdrow d).length = (rdrowR n d).length ∧ ∀ p ∈ (rdrowR n d).zip (rdrow d), Deep h 2 p.1 p.2 := by
  refine ⟨rfl, fun p hp => ?_⟩
  simp only [rdrow, rdrowR, List.zip_cons_cons, List.zip_nil_right, List.mem_cons, List.not_mem_nil, or_false] at hp
  rcases hp with rfl | rfl | rfl | rfl | rfl | rfl
  · obtain ⟨l, h1, h2⟩ := hd
    have h3 : ¬ l.length = 0 := fun e => h2 (List.length_eq_zero_iff.1 e)
    rw [h1]
    refine .inr ⟨l.map rtrow, rfl, deep_list (fun x _ => ⟨rfl, fun p hp => ?_⟩), by simp only [nlv, h3, if_false]⟩
    simp only [rtrow, List.zip_cons_cons, List.zip_nil_right, List.mem_cons, List.not_mem_nil, or_false] at hp
    rcases hp with rfl | rfl | rfl
    · exact deep_leaf rfl 0
    · exact deep_same 0
    · exact deep_same 0
  · exact deep_leaf rfl 1
  all_goals exact deep_same 1
theorem sh_r {H : Heap} {σ : Nat → Sg} {a n : Nat} {rows rows' : List (List V)} (h : H.get a = some (.arr n rows)) (hr : rows.map (fun r => r.map (V.ren σ)) = rows') : ((some a).bind fun a => (H.get a).map (Blk.ren σ)) = some (.arr n rows') := by
  show (H.get a).map (Blk.ren σ) = _
  rw [h, Option.map_some]
  show some (Blk.arr n _) = _
  rw [hr]
theorem ren_b {σ : Nat → Sg} {b : Bool} : V.ren σ (.bool b) = .bool b := V.ren_closed _ rfl
theorem ren_i {σ : Nat → Sg} {k : IntKind} {n : Int} : V.ren σ (.int k n) = .int k n := V.ren_closed _ rfl
theorem ren_l {σ : Nat → Sg} {s : Nat} {r : List (List V)} {c : Option Nat} : V.ren σ (.lst s r c) = .lst s r c := V.ren_closed _ rfl
theorem ren_accV {α : Type} {σ : Nat → Sg} {a b n : Nat} {r : List α} (h : σ a = .to b) : V.ren σ (accV a n r) = accV b n r := by
  unfold accV
  split
  · exact ren_l
  · rw [V.ren, h]
theorem sh_acc {α : Type} {f : α → List V} (hf : ∀ x, (f x).all V.closed = true) {H : Heap} {σ : Nat → Sg} {a n : Nat} {l : List α} (h : H.get a = accB f n l) : ((some a).bind fun a => (H.get a).map (Blk.ren σ)) = accB f n l := by
  show (H.get a).map (Blk.ren σ) = _
  rw [h]
  unfold accB
  split
  · rfl
  · rw [Option.map_some, ren_tl hf]
theorem ren_rows {α : Type} {f : α → List V} (hf : ∀ x, (f x).all V.closed = true) {σ : Nat → Sg} {l : List α} : (l.map f).map (fun r => r.map (V.ren σ)) = l.map f := by
  rw [List.map_map]
  exact List.map_congr_left fun x _ => ren_row (hf x) σ
theorem rt_set {l : List Rt} {i : Nat} {x : Rt} : (l.map rtrow).set i [.bool x.neg, nlv urow 1 x.num, nlv urow 1 x.den] = (l.set i x).map rtrow := (List.map_set).symm
theorem deep_tup2 {h : HG} {n : Nat} {a a' b b' : V} (h1 : Deep h n a a') (h2 : Deep h n b b') : Deep h (n + 1) (.tup [a, b]) (.tup [a', b']) :=
  ⟨[a', b'], rfl, rfl, deep_cells (fun p hp => by
    simp only [List.zip_cons_cons, List.zip_nil_right, List.mem_cons, List.not_mem_nil, or_false] at hp
    rcases hp with rfl | rfl
    · exact h1
    · exact h2)⟩
theorem deep_agg3 {h : HG} {n : Nat} {a a' b b' c c' : V} (h1 : Deep h n a a') (h2 : Deep h n b b') (h3 : Deep h n c c') : Deep h (n + 1) (.agg [a, b, c]) (.agg [a', b', c']) :=
  ⟨[a', b', c'], rfl, rfl, deep_cells (fun p hp => by
    simp only [List.zip_cons_cons, List.zip_nil_right, List.mem_cons, List.not_mem_nil, or_false] at hp
    rcases hp with rfl | rfl | rfl
    · exact h1
    · exact h2
    · exact h3)⟩
variable {L : Lib} (hL : L.T = tab.get)
include hL
theorem rrenameO_v (o : Oc) (p : Nl Int) (ho : okO o) (hp : okI p) : VFn L 9 [ocv o, nlv mrow 1 p] (.tup [ocv (renLR o p.l).1, .int .i64 (renLR o p.l).2]) := by
  have hp' := hp
  unfold okI at hp'
  obtain ⟨sp, cp, ep, hsp⟩ := nlv_tl (f := mrow) (n := 1) (o := p)
  have kperm := rperm_v hL _ p.l cp hsp (by omega)
  rw [← ep] at kperm
  have kfits := rfits_v hL o ho p.l.length
  have hcl : V.closeds [ocv o, nlv mrow 1 p] = true := by simp [V.closeds, closed_ocv, closed_nlv]
  refine ⟨hcl, by simp [V.closed, V.closeds, closed_ocv], ?_⟩
  refine AFn.whole (P := fun r => r = .tup [ocv (renLR o p.l).1, .int .i64 (renLR o p.l).2]) ?_
  refine AFn.of_body (F := T9.1) (by rw [hL]; rfl) rfl ?_
  cases ht : turnedL p.l with
  | false =>
    (repeat' (first | refine wSeq rfl ?_ | refine wBlock rfl ?_ | refine wSkip rfl ?_ | refine wExit rfl ?_ | refine wRet rfl ?_ | refine wCondT rfl rfl ?_ | refine wCondF rfl rfl ?_ | refine wOps rfl ?_ | refine wDraw rfl rfl ?_ | refine opsV_call rfl rfl (kperm) ?_ | refine opsV_call rfl rfl (kfits) ?_ | simp only [seval, push_cast, ↓reduceIte, ↓bP_some, ↓aP_true, reduceCtorEq, ocv, occs, ht]))
    rw [show renLR o p.l = (zeroO, 2) from if_neg (by rw [ht]; simp)]
    exact FnQ.at rfl ⟨3, _, deep_tup2 (deep_agg3 (.inl rfl) (.inl rfl) (.inl rfl)) (deep_leaf rfl 1), rfl⟩
  | true =>
  cases hf : fitsO o p.l.length with
  | false =>
    (repeat' (first | refine wSeq rfl ?_ | refine wBlock rfl ?_ | refine wSkip rfl ?_ | refine wExit rfl ?_ | refine wRet rfl ?_ | refine wCondT rfl rfl ?_ | refine wCondF rfl rfl ?_ | refine wOps rfl ?_ | refine wDraw rfl rfl ?_ | refine opsV_call rfl rfl (kperm) ?_ | refine opsV_call rfl rfl (kfits) ?_ | simp only [seval, push_cast, ↓reduceIte, ↓bP_some, ↓aP_true, reduceCtorEq, ocv, occs, ht, hf]))
    rw [show renLR o p.l = (zeroO, 2) from if_neg (by rw [hf]; simp)]
    exact FnQ.at rfl ⟨3, _, deep_tup2 (deep_agg3 (.inl rfl) (.inl rfl) (.inl rfl)) (deep_leaf rfl 1), rfl⟩
  | true =>
  rw [show renLR o p.l = (renOR p.l o, 0) from if_pos ⟨ht, hf⟩]
  have hlen := turned_len ht
  have hf' := hf
  unfold fitsO at hf'
  rw [Bool.and_eq_true, Bool.and_eq_true, List.all_eq_true, List.all_eq_true] at hf'
  obtain ⟨⟨f1, f2⟩, f3⟩ := hf'
  obtain ⟨b1, ⟨b2, b2'⟩, b3, b3'⟩ := ho
  have kn := named_v hL o.el p b1 hp (ofL_all f1)
  (repeat' (first | refine wSeq rfl ?_ | refine wBlock rfl ?_ | refine wSkip rfl ?_ | refine wExit rfl ?_ | refine wRet rfl ?_ | refine wCondT rfl rfl ?_ | refine wCondF rfl rfl ?_ | refine wOps rfl ?_ | refine wDraw rfl rfl ?_ | refine opsV_call rfl rfl (kperm) ?_ | refine opsV_call rfl rfl (kfits) ?_ | refine opsV_call rfl rfl (kn) ?_ | simp only [seval, push_cast, ↓reduceIte, ↓bP_some, ↓aP_true, reduceCtorEq, ocv, occs, ht, hf]))
  refine wPad (H1 := [some (.arr 3 [[nlv mrow 1 o.el, nlv rdrow 6 o.rounds, nlv tirow 2 o.ties]]), some (.arr 3 [[.lst 0 [] (some 0), .lst 0 [] (some 0), .lst 0 [] (some 0)]]), some (.arr 3 [[nlv mrow 1 (nz (o.el.l.map (imL p.l))), .lst 0 [] (some 0), .lst 0 [] (some 0)]]), none]) [some 0, some 1, some 2, none] rfl (by simp only [Env.sh, List.map_cons, List.map_nil, ren_nlv]; rfl) (sh_c (sh_k rfl (by simp [Blk.closed, closed_nlv])) (sh_c (sh_k rfl rfl) (sh_c (sh_k rfl (by simp [Blk.closed, closed_nlv, V.closed])) (sh_c rfl sh_n)))) ?_
  refine wCntH rfl 7 o.rounds.l.length (fun _ => []) (fun j => [some (.arr 3 [[nlv mrow 1 o.el, nlv rdrow 6 o.rounds, nlv tirow 2 o.ties]]), some (.arr 3 [[.lst 0 [] (some 0), .lst 0 [] (some 0), .lst 0 [] (some 0)]]), some (.arr 3 [[nlv mrow 1 (nz (o.el.l.map (imL p.l))), accV 3 6 ((o.rounds.l.take j).map (renRdR p.l)), .lst 0 [] (some 0)]]), accB (rdrowR p.l.length) 6 ((o.rounds.l.take j).map (renRdR p.l))]) (fun _ => True) rfl rfl trivial ?_ ?_
  · intro j hj _
    obtain ⟨d, hd, md⟩ := get_of hj
    have kd := b2' d md
    have fd := f2 d md
    unfold ofRd at fd
    rw [Bool.and_eq_true, Bool.and_eq_true, decide_eq_true_eq] at fd
    obtain ⟨⟨g1, g2⟩, g3⟩ := fd
    have hw := wrap_succ (show j < 9223372036854775807 by omega)
    have k1 := named_v hL d.el p kd.2.2.2.1 hp (ofL_all g2)
    have k2 := named_v hL d.out p kd.2.2.2.2 hp (ofL_all g3)
    have q2 : p.l.length * 56 ≤ 140737488355328 := by omega
    have q3 : p.l.length < 9223372036854775808 := by omega
    have hst : (o.rounds.l.take (j + 1)).map (renRdR p.l) = (o.rounds.l.take j).map (renRdR p.l) ++ [renRdR p.l d] := by rw [take_snoc hd, List.map_append]; rfl
    have hl2 : ((o.rounds.l.take j).map (renRdR p.l)).length ≤ j := by simp; omega
    rw [hst]
    generalize (o.rounds.l.take j).map (renRdR p.l) = r at *
    have hroom : (r.length + 1) * 128 ≤ 140737488355328 := by omega
    (repeat' (first | refine wSeq rfl ?_ | refine wBlock rfl ?_ | refine wSkip rfl ?_ | refine wExit rfl ?_ | refine wRet rfl ?_ | refine wCondT rfl rfl ?_ | refine wCondF rfl rfl ?_ | refine wOps rfl ?_ | refine wDraw rfl rfl ?_ | simp only [seval, push_cast, ↓reduceIte, ↓bP_some, ↓aP_true, reduceCtorEq, hj]))
    have hrow : (o.rounds.l.map rdrow)[j]? = some (rdrow d) := by rw [List.getElem?_map, hd]; rfl
    obtain ⟨s1, r1, c1, z1⟩ := nlv_lst (f := mrow) (n := 1) (o := nz (d.el.l.map (imL p.l)))
    obtain ⟨s2, r2, c2, z2⟩ := nlv_lst (f := mrow) (n := 1) (o := nz (d.out.l.map (imL p.l)))
    rw [z1] at k1
    rw [z2] at k2
    refine wDrawD rfl ?_
    refine dops_op rfl rfl rfl rfl rfl ?_
    simp only [seval, push_cast, ↓reduceIte, ↓bP_some, ↓aP_true, reduceCtorEq, happ_eq, upds_nil, upds_cons]
    refine dops_lenN (o := p) rfl rfl ?_
    simp only [seval, push_cast, ↓reduceIte, ↓bP_some, ↓aP_true, reduceCtorEq, happ_eq, upds_nil, upds_cons]
    refine dops_mks rfl rfl q2 q3 rfl rfl ?_
    simp only [seval, push_cast, ↓reduceIte, ↓bP_some, ↓aP_true, reduceCtorEq, happ_eq, upds_nil, upds_cons]
    refine dops_op rfl rfl rfl rfl rfl ?_
    simp only [seval, push_cast, ↓reduceIte, ↓bP_some, ↓aP_true, reduceCtorEq, happ_eq, upds_nil, upds_cons]
    refine dops_op rfl rfl rfl rfl rfl ?_
    simp only [seval, push_cast, ↓reduceIte, ↓bP_some, ↓aP_true, reduceCtorEq, happ_eq, upds_nil, upds_cons]
    refine dops_op rfl rfl rfl rfl rfl ?_
    simp only [seval, push_cast, ↓reduceIte, ↓bP_some, ↓aP_true, reduceCtorEq, happ_eq, upds_nil, upds_cons]
    refine dops_iaN rfl rfl hj rfl ?_
    simp only [seval, push_cast, ↓reduceIte, ↓bP_some, ↓aP_true, reduceCtorEq, happ_eq, upds_nil, upds_cons]
    refine dops_op rfl rfl rfl rfl rfl ?_
    simp only [seval, push_cast, ↓reduceIte, ↓bP_some, ↓aP_true, reduceCtorEq, happ_eq, upds_nil, upds_cons]
    refine dops_ldI rfl hrow rfl rfl ?_
    simp only [seval, push_cast, ↓reduceIte, ↓bP_some, ↓aP_true, reduceCtorEq, happ_eq, upds_nil, upds_cons]
    refine dops_op rfl rfl rfl rfl rfl ?_
    simp only [seval, push_cast, ↓reduceIte, ↓bP_some, ↓aP_true, reduceCtorEq, happ_eq, upds_nil, upds_cons]
    refine dops_op rfl rfl rfl rfl rfl ?_
    simp only [seval, push_cast, ↓reduceIte, ↓bP_some, ↓aP_true, reduceCtorEq, happ_eq, upds_nil, upds_cons]
    refine dops_op rfl rfl rfl rfl rfl ?_
    simp only [seval, push_cast, ↓reduceIte, ↓bP_some, ↓aP_true, reduceCtorEq, happ_eq, upds_nil, upds_cons]
    refine dops_iaN rfl rfl hj rfl ?_
    simp only [seval, push_cast, ↓reduceIte, ↓bP_some, ↓aP_true, reduceCtorEq, happ_eq, upds_nil, upds_cons]
    refine dops_op rfl rfl rfl rfl rfl ?_
    simp only [seval, push_cast, ↓reduceIte, ↓bP_some, ↓aP_true, reduceCtorEq, happ_eq, upds_nil, upds_cons]
    refine dops_ldI rfl hrow rfl rfl ?_
    simp only [seval, push_cast, ↓reduceIte, ↓bP_some, ↓aP_true, reduceCtorEq, happ_eq, upds_nil, upds_cons]
    refine dops_op rfl rfl rfl rfl rfl ?_
    simp only [seval, push_cast, ↓reduceIte, ↓bP_some, ↓aP_true, reduceCtorEq, happ_eq, upds_nil, upds_cons]
    refine dops_call rfl rfl rfl k1 rfl ?_
    simp only [seval, push_cast, ↓reduceIte, ↓bP_some, ↓aP_true, reduceCtorEq, happ_eq, upds_nil, upds_cons]
    refine dops_op rfl rfl rfl rfl rfl ?_
    simp only [seval, push_cast, ↓reduceIte, ↓bP_some, ↓aP_true, reduceCtorEq, happ_eq, upds_nil, upds_cons]
    refine dops_op rfl rfl rfl rfl rfl ?_
    simp only [seval, push_cast, ↓reduceIte, ↓bP_some, ↓aP_true, reduceCtorEq, happ_eq, upds_nil, upds_cons]
    refine dops_op rfl rfl rfl rfl rfl ?_
    simp only [seval, push_cast, ↓reduceIte, ↓bP_some, ↓aP_true, reduceCtorEq, happ_eq, upds_nil, upds_cons]
    refine dops_iaN rfl rfl hj rfl ?_
    simp only [seval, push_cast, ↓reduceIte, ↓bP_some, ↓aP_true, reduceCtorEq, happ_eq, upds_nil, upds_cons]
    refine dops_op rfl rfl rfl rfl rfl ?_
    simp only [seval, push_cast, ↓reduceIte, ↓bP_some, ↓aP_true, reduceCtorEq, happ_eq, upds_nil, upds_cons]
    refine dops_ldI rfl hrow rfl rfl ?_
    simp only [seval, push_cast, ↓reduceIte, ↓bP_some, ↓aP_true, reduceCtorEq, happ_eq, upds_nil, upds_cons]
    refine dops_op rfl rfl rfl rfl rfl ?_
    simp only [seval, push_cast, ↓reduceIte, ↓bP_some, ↓aP_true, reduceCtorEq, happ_eq, upds_nil, upds_cons]
    refine dops_call rfl rfl rfl k2 rfl ?_
    simp only [seval, push_cast, ↓reduceIte, ↓bP_some, ↓aP_true, reduceCtorEq, happ_eq, upds_nil, upds_cons]
    refine dops_op rfl rfl rfl rfl rfl ?_
    simp only [seval, push_cast, ↓reduceIte, ↓bP_some, ↓aP_true, reduceCtorEq, happ_eq, upds_nil, upds_cons]
    refine dops_op rfl rfl rfl rfl rfl ?_
    simp only [seval, push_cast, ↓reduceIte, ↓bP_some, ↓aP_true, reduceCtorEq, happ_eq, upds_nil, upds_cons]
    refine dops_op rfl rfl rfl rfl rfl ?_
    simp only [seval, push_cast, ↓reduceIte, ↓bP_some, ↓aP_true, reduceCtorEq, happ_eq, upds_nil, upds_cons]
    refine dops_nil ?_
    (repeat' (first | refine wSeq rfl ?_ | refine wBlock rfl ?_ | refine wSkip rfl ?_ | refine wExit rfl ?_ | refine wRet rfl ?_ | refine wCondT rfl rfl ?_ | refine wCondF rfl rfl ?_ | refine wOps rfl ?_ | refine wDraw rfl rfl ?_ | simp only [seval, push_cast, ↓reduceIte, ↓bP_some, ↓aP_true, reduceCtorEq]))
    rw [← z1, ← z2]
    refine wCntH rfl 9 p.l.length (fun _ => []) (fun c => [some (.arr 3 [[nlv mrow 1 o.el, nlv rdrow 6 o.rounds, nlv tirow 2 o.ties]]), some (.arr 3 [[.lst 0 [] (some 0), .lst 0 [] (some 0), .lst 0 [] (some 0)]]), some (.arr 3 [[nlv mrow 1 (nz (o.el.l.map (imL p.l))), accV 3 6 r, .lst 0 [] (some 0)]]), accB (rdrowR p.l.length) 6 r,
      some (.arr 3 ((hadTo p.l d.had.l c).map rtrow)), some (.arr 6 [[.ref 4 3 0 p.l.length (some p.l.length), .bool d.lost.neg, nlv urow 1 d.lost.num, nlv urow 1 d.lost.den, nlv mrow 1 (nz (d.el.l.map (imL p.l))), nlv mrow 1 (nz (d.out.l.map (imL p.l)))]])]) (fun _ => True) rfl ?_ trivial ?_ ?_
    · rw [show (hadTo p.l d.had.l 0).map rtrow = List.replicate p.l.length [.bool false, .lst 0 [] (some 0), .lst 0 [] (some 0)] by rw [show hadTo p.l d.had.l 0 = List.replicate p.l.length default from rfl, List.map_replicate]; rfl]
    · intro c hc _
      obtain ⟨x, hx, _⟩ := get_of (show c < d.had.l.length by omega)
      obtain ⟨m', hm', mm⟩ := get_of hc
      have rg := turned_range ht mm
      obtain ⟨m, rfl⟩ : ∃ m : Nat, m' = m := ⟨m'.toNat, by omega⟩
      have hm : m < p.l.length := by omega
      obtain ⟨y, hy, _⟩ := get_of (show m < (hadTo p.l d.had.l c).length by rw [hadTo_len]; exact hm)
      have hs := hadTo_succ p.l d.had.l c
      rw [show (p.l.getD c 0).toNat = m by rw [List.getD_eq_getElem?_getD, hm']; simp, show d.had.l.getD c default = x by rw [List.getD_eq_getElem?_getD, hx]; rfl] at hs
      have hcl : c < d.had.l.length := by omega
      rw [hs]
      (repeat' (first | refine wSeq rfl ?_ | refine wBlock rfl ?_ | refine wSkip rfl ?_ | refine wExit rfl ?_ | refine wRet rfl ?_ | refine wCondT rfl rfl ?_ | refine wCondF rfl rfl ?_ | refine wOps rfl ?_ | refine wDraw rfl rfl ?_ | simp only [seval, push_cast, ↓reduceIte, ↓bP_some, ↓aP_true, reduceCtorEq, hj, hd, iaQ_nlv hj, iaQ_nlv hc, hm', iaQ_nlv hcl, hx, hy, hc, hm, rt_set, wrap_succ (show c < 9223372036854775807 by omega)]))
      exact qR_n rfl rfl trivial
    · intro _
      rw [hadTo_end ht (by omega)]
      have hfr : ∀ (H : Heap) (src : List (Option Nat)), posIn src 4 0 = none → H.get 4 = some (.arr 3 ((hadP p.l d.had.l).map rtrow)) → V.ren (sgOf H src [4]) (.ref 4 3 0 p.l.length (some p.l.length)) = .lst 3 ((hadP p.l d.had.l).map rtrow) (some p.l.length) := fun H src h1 h2 => by
        have e : sgOf H src [4] 4 = .frz 3 ((hadP p.l d.had.l).map rtrow) := by
          unfold sgOf
          simp only [h1, h2, closeds_tl closed_rtrow, cond_true]
          rfl
        rw [V.ren, e]
        simp only [had_len, List.length_map, Nat.zero_add, Nat.le_refl, and_self, List.drop_zero]
        rw [if_pos ⟨⟨trivial, by decide⟩, trivial⟩, List.take_of_length_le (by simp [had_len])]
      rcases acc_case (rdrowR p.l.length) 3 6 r with ⟨hV, hB, rfl⟩ | ⟨hV, hB, hr⟩
      · (repeat' (first | refine wSeq rfl ?_ | refine wBlock rfl ?_ | refine wSkip rfl ?_ | refine wExit rfl ?_ | refine wRet rfl ?_ | refine wCondT rfl rfl ?_ | refine wCondF rfl rfl ?_ | refine wOps rfl ?_ | refine wDraw rfl rfl ?_ | simp only [seval, push_cast, ↓reduceIte, ↓bP_some, ↓aP_true, reduceCtorEq, hV, hB, hw, hroom]))
        refine qR_s [some 0, some 1, some 2, some 7] [4] rfl ?_ ?_ trivial
        · simp only [Env.sh, List.map_cons, List.map_nil, ren_nlv]; rfl
        · first | simp only [accV_snoc, accB_snoc] | simp only [List.nil_append, accV_one, accB_one]
          refine sh_c (sh_k rfl (by simp [Blk.closed, closed_nlv])) (sh_c (sh_k rfl rfl) (sh_c (sh_r rfl (by simp only [List.map_cons, List.map_nil, ren_nlv]; rfl)) (sh_c (sh_r rfl ?_) sh_n)))
          rw [List.map_cons, List.map_nil]
          simp only [List.map_cons, List.map_nil, ren_nlv, ren_b]
          rw [hfr _ _ rfl rfl]
          first | rfl | (rw [List.map_append]; rfl)
      · (repeat' (first | refine wSeq rfl ?_ | refine wBlock rfl ?_ | refine wSkip rfl ?_ | refine wExit rfl ?_ | refine wRet rfl ?_ | refine wCondT rfl rfl ?_ | refine wCondF rfl rfl ?_ | refine wOps rfl ?_ | refine wDraw rfl rfl ?_ | simp only [seval, push_cast, ↓reduceIte, ↓bP_some, ↓aP_true, reduceCtorEq, hV, hB, hw, hroom]))
        refine qR_s [some 0, some 1, some 2, some 7] [4] rfl ?_ ?_ trivial
        · simp only [Env.sh, List.map_cons, List.map_nil, ren_nlv]; rfl
        · first | simp only [accV_snoc, accB_snoc] | simp only [List.nil_append, accV_one, accB_one]
          refine sh_c (sh_k rfl (by simp [Blk.closed, closed_nlv])) (sh_c (sh_k rfl rfl) (sh_c (sh_r rfl (by simp only [List.map_cons, List.map_nil, ren_nlv]; rfl)) (sh_c (sh_r rfl ?_) sh_n)))
          rw [List.map_append, List.map_cons, List.map_nil, ren_rows (closed_rdrowR _)]
          simp only [List.map_cons, List.map_nil, ren_nlv, ren_b]
          rw [hfr _ _ rfl rfl]
          first | rfl | (rw [List.map_append]; rfl)
  · intro _
    rw [take_all]
    generalize hrs : o.rounds.l.map (renRdR p.l) = rs
    (repeat' (first | refine wSeq rfl ?_ | refine wBlock rfl ?_ | refine wSkip rfl ?_ | refine wExit rfl ?_ | refine wRet rfl ?_ | refine wCondT rfl rfl ?_ | refine wCondF rfl rfl ?_ | refine wOps rfl ?_ | refine wDraw rfl rfl ?_ | simp only [seval, push_cast, ↓reduceIte, ↓bP_some, ↓aP_true, reduceCtorEq]))
    refine wPad (H1 := [some (.arr 3 [[nlv mrow 1 o.el, nlv rdrow 6 o.rounds, nlv tirow 2 o.ties]]), some (.arr 3 [[.lst 0 [] (some 0), .lst 0 [] (some 0), .lst 0 [] (some 0)]]), some (.arr 3 [[nlv mrow 1 (nz (o.el.l.map (imL p.l))), accV 3 6 rs, .lst 0 [] (some 0)]]), accB (rdrowR p.l.length) 6 rs, none]) [some 0, some 1, some 2, some 3, none] rfl (by simp only [Env.sh, List.map_cons, List.map_nil, ren_nlv]; rfl) ?_ ?_
    · exact sh_c (sh_k rfl (by simp [Blk.closed, closed_nlv])) (sh_c (sh_k rfl rfl) (sh_c (sh_r rfl (by simp only [List.map_cons, List.map_nil, ren_nlv, ren_l, ren_accV (show sgOf _ [some 0, some 1, some 2, some 3, none] [] 3 = .to 3 from rfl)])) (sh_c (sh_acc (closed_rdrowR _) rfl) (sh_c rfl sh_n))))
    refine wCntH rfl 10 o.ties.l.length (fun _ => []) (fun j => [some (.arr 3 [[nlv mrow 1 o.el, nlv rdrow 6 o.rounds, nlv tirow 2 o.ties]]), some (.arr 3 [[.lst 0 [] (some 0), .lst 0 [] (some 0), .lst 0 [] (some 0)]]), some (.arr 3 [[nlv mrow 1 (nz (o.el.l.map (imL p.l))), accV 3 6 rs, accV 4 2 ((o.ties.l.take j).map (renTiR p.l))]]), accB (rdrowR p.l.length) 6 rs, accB tirow 2 ((o.ties.l.take j).map (renTiR p.l))]) (fun _ => True) rfl rfl trivial ?_ ?_
    · intro j hj _
      obtain ⟨t, ht', mt⟩ := get_of hj
      have kt := b3' t mt
      have ft := f3 t mt
      unfold ofTi at ft
      rw [Bool.and_eq_true] at ft
      obtain ⟨g1, g2⟩ := ft
      have hch := ofL_all g2 t.chosen (by simp)
      obtain ⟨c, hc⟩ : ∃ c : Nat, t.chosen = c := ⟨t.chosen.toNat, by omega⟩
      have hcl : c < p.l.length := by omega
      obtain ⟨y, hy, _⟩ := get_of hcl
      have him : imL p.l t.chosen = y := by rw [hc]; simp [imL, hy]
      have hw := wrap_succ (show j < 9223372036854775807 by omega)
      have k1 := named_v hL t.among p kt hp (ofL_all g1)
      have k2 := rising_v hL (nz (t.among.l.map (imL p.l))) (by unfold okI; unfold okTi okI at kt; rw [nz_l]; simpa using kt)
      rw [nz_l] at k2
      have hst : (o.ties.l.take (j + 1)).map (renTiR p.l) = (o.ties.l.take j).map (renTiR p.l) ++ [renTiR p.l t] := by rw [take_snoc ht', List.map_append]; rfl
      have hl2 : ((o.ties.l.take j).map (renTiR p.l)).length ≤ j := by simp; omega
      rw [hst]
      generalize (o.ties.l.take j).map (renTiR p.l) = r at *
      have hroom : (r.length + 1) * 32 ≤ 140737488355328 := by omega
      rcases acc_case tirow 4 2 r with ⟨hV, hB, rfl⟩ | ⟨hV, hB, hr⟩
      · (repeat' (first | refine wSeq rfl ?_ | refine wBlock rfl ?_ | refine wSkip rfl ?_ | refine wExit rfl ?_ | refine wRet rfl ?_ | refine wCondT rfl rfl ?_ | refine wCondF rfl rfl ?_ | refine wOps rfl ?_ | refine wDraw rfl rfl ?_ | refine opsV_call rfl rfl (k1) ?_ | refine opsV_call rfl rfl (k2) ?_ | simp only [seval, push_cast, ↓reduceIte, ↓bP_some, ↓aP_true, reduceCtorEq, hj, ht', iaQ_nlv hj, hV, hB, hw, hroom, hc, iaQ_nlv hcl, hy]))
        refine qR_s [some 0, some 1, some 2, some 3, some 6] [] rfl ?_ ?_ trivial
        · simp only [Env.sh, List.map_cons, List.map_nil, ren_nlv]; rfl
        · first | simp only [accV_snoc, accB_snoc] | simp only [List.nil_append, accV_one, accB_one]
          refine sh_c (sh_k rfl (by simp [Blk.closed, closed_nlv])) (sh_c (sh_k rfl rfl) (sh_c (sh_r rfl (by simp only [List.map_cons, List.map_nil, ren_nlv, ren_l, ren_accV (show sgOf _ [some 0, some 1, some 2, some 3, some 6] [] 3 = .to 3 from rfl)]; rfl)) (sh_c (sh_acc (closed_rdrowR _) rfl) (sh_c (sh_r rfl ?_) sh_n))))
          first | rw [List.map_append, List.map_cons, List.map_nil, ren_rows closed_tirow] | rw [List.map_cons, List.map_nil]
          simp only [List.map_cons, List.map_nil, ren_nlv, ren_i]
          first | (rw [← him]; rfl) | (rw [← him, List.map_append]; rfl)
      · (repeat' (first | refine wSeq rfl ?_ | refine wBlock rfl ?_ | refine wSkip rfl ?_ | refine wExit rfl ?_ | refine wRet rfl ?_ | refine wCondT rfl rfl ?_ | refine wCondF rfl rfl ?_ | refine wOps rfl ?_ | refine wDraw rfl rfl ?_ | refine opsV_call rfl rfl (k1) ?_ | refine opsV_call rfl rfl (k2) ?_ | simp only [seval, push_cast, ↓reduceIte, ↓bP_some, ↓aP_true, reduceCtorEq, hj, ht', iaQ_nlv hj, hV, hB, hw, hroom, hc, iaQ_nlv hcl, hy]))
        refine qR_s [some 0, some 1, some 2, some 3, some 6] [] rfl ?_ ?_ trivial
        · simp only [Env.sh, List.map_cons, List.map_nil, ren_nlv]; rfl
        · first | simp only [accV_snoc, accB_snoc] | simp only [List.nil_append, accV_one, accB_one]
          refine sh_c (sh_k rfl (by simp [Blk.closed, closed_nlv])) (sh_c (sh_k rfl rfl) (sh_c (sh_r rfl (by simp only [List.map_cons, List.map_nil, ren_nlv, ren_l, ren_accV (show sgOf _ [some 0, some 1, some 2, some 3, some 6] [] 3 = .to 3 from rfl)]; rfl)) (sh_c (sh_acc (closed_rdrowR _) rfl) (sh_c (sh_r rfl ?_) sh_n))))
          first | rw [List.map_append, List.map_cons, List.map_nil, ren_rows closed_tirow] | rw [List.map_cons, List.map_nil]
          simp only [List.map_cons, List.map_nil, ren_nlv, ren_i]
          first | (rw [← him]; rfl) | (rw [← him, List.map_append]; rfl)
    · intro _
      rw [take_all]
      (repeat' (first | refine wSeq rfl ?_ | refine wBlock rfl ?_ | refine wSkip rfl ?_ | refine wExit rfl ?_ | refine wRet rfl ?_ | refine wCondT rfl rfl ?_ | refine wCondF rfl rfl ?_ | refine wOps rfl ?_ | refine wDraw rfl rfl ?_ | simp only [seval, push_cast, ↓reduceIte, ↓bP_some, ↓aP_true, reduceCtorEq]))
      refine FnQ.at rfl ⟨6, _, deep_tup2 (deep_agg3 (deep_same 3) (Deep.le (n := 3) (by decide) ?_) (Deep.le (n := 2) (by decide) ?_)) (deep_leaf rfl 4), rfl⟩
      · subst hrs
        refine deep_acc (f := rdrowR p.l.length) (g := rdrow) (by decide) rfl (fun x hx => ?_)
        obtain ⟨d, _, rfl⟩ := List.mem_map.1 hx
        refine deep_rdR _ ⟨hadP p.l d.had.l, rfl, fun h => ?_⟩
        have := had_len p.l d.had.l
        rw [h] at this
        simp at this
        omega
      · refine deep_acc (f := tirow) (g := tirow) (by decide) rfl (fun x hx => ⟨rfl, fun q hq => ?_⟩)
        simp only [tirow, List.zip_cons_cons, List.zip_nil_right, List.mem_cons, List.not_mem_nil, or_false] at hq
        rcases hq with rfl | rfl
        · exact deep_same 0
        · exact deep_leaf rfl 0
end Go.Proofs.Ytaehkmmlacpleaa
set_option maxRecDepth 100000
set_option maxHeartbeats 4000000
set_option linter.unusedVariables false
set_option linter.unusedSimpArgs false
namespace Go.Proofs.Ytaehkmmlacpleaa
def mn (x y : Int) : Int := if y < x then y else x
theorem mn_le (x y : Int) : mn x y ≤ y := by unfold mn; split <;> omega
theorem mn_ge {x y : Int} (hx : 0 ≤ x) (hy : 0 ≤ y) : 0 ≤ mn x y := by unfold mn; split <;> omega
def lenI {α : Type} (o : Nl α) : Int := o.l.length
theorem lenI_ge {α : Type} (o : Nl α) : 0 ≤ lenI o := Int.natCast_nonneg _
def gA (d : Rd) (n : Int) : Int := n + mn (lenI d.had) 300 + mn (lenI d.el) 300 + mn (lenI d.out) 300 + mn (lenI d.lost.num) 300 + mn (lenI d.lost.den) 300
def gB (r : Rt) (n : Int) : Int := n + mn (lenI r.num) 3000 + mn (lenI r.den) 3000
def gH (l : List Rt) (n : Int) : Int := l.foldl (fun n r => gB r n) n
def gR (l : List Rd) (n : Int) : Int := l.foldl (fun n d => gH (d.had.l.take 300) (gA d n)) n
def gT (l : List Ti) (n : Int) : Int := l.foldl (fun n t => n + mn (lenI t.among) 300) n
def greatO (o : Oc) : Bool := if 200 < lenI o.el + lenI o.rounds + lenI o.ties then true else decide (3000 < gT o.ties.l (gR o.rounds.l (lenI o.el + lenI o.rounds + lenI o.ties)))
theorem gA_b (d : Rd) {n : Int} (h : 0 ≤ n) : 0 ≤ gA d n ∧ gA d n ≤ n + 1500 := by
  have h1 := mn_ge (lenI_ge d.had) (show (0 : Int) ≤ 300 by omega)
  have h2 := mn_ge (lenI_ge d.el) (show (0 : Int) ≤ 300 by omega)
  have h3 := mn_ge (lenI_ge d.out) (show (0 : Int) ≤ 300 by omega)
  have h4 := mn_ge (lenI_ge d.lost.num) (show (0 : Int) ≤ 300 by omega)
  have h5 := mn_ge (lenI_ge d.lost.den) (show (0 : Int) ≤ 300 by omega)
  have k1 := mn_le (lenI d.had) 300
  have k2 := mn_le (lenI d.el) 300
  have k3 := mn_le (lenI d.out) 300
  have k4 := mn_le (lenI d.lost.num) 300
  have k5 := mn_le (lenI d.lost.den) 300
  unfold gA; omega
theorem gB_b (r : Rt) {n : Int} (h : 0 ≤ n) : 0 ≤ gB r n ∧ gB r n ≤ n + 6000 := by
  have h1 := mn_ge (lenI_ge r.num) (show (0 : Int) ≤ 3000 by omega)
  have h2 := mn_ge (lenI_ge r.den) (show (0 : Int) ≤ 3000 by omega)
  have k1 := mn_le (lenI r.num) 3000
  have k2 := mn_le (lenI r.den) 3000
  unfold gB; omega
theorem gH_b : ∀ (l : List Rt) {n : Int}, 0 ≤ n → 0 ≤ gH l n ∧ gH l n ≤ n + 6000 * l.length
  | [], n, h => ⟨h, by simp [gH]⟩
  | r :: l, n, h => by
    have h1 := gB_b r h
    have h2 := gH_b l h1.1
    have e : gH (r :: l) n = gH l (gB r n) := rfl
    rw [e]
    simp only [List.length_cons]
    omega
theorem gR_b : ∀ (l : List Rd) {n : Int}, 0 ≤ n → 0 ≤ gR l n ∧ gR l n ≤ n + 1801500 * l.length
  | [], n, h => ⟨h, by simp [gR]⟩
  | d :: l, n, h => by
    have h1 := gA_b d h
    have h2 := gH_b (d.had.l.take 300) h1.1
    have h3 := gR_b l h2.1
    have e : gR (d :: l) n = gR l (gH (d.had.l.take 300) (gA d n)) := rfl
    have h4 : (d.had.l.take 300).length ≤ 300 := by simp; omega
    rw [e]
    simp only [List.length_cons]
    omega
theorem gT_b : ∀ (l : List Ti) {n : Int}, 0 ≤ n → 0 ≤ gT l n ∧ gT l n ≤ n + 300 * l.length
  | [], n, h => ⟨h, by simp [gT]⟩
  | t :: l, n, h => by
    have h1 := mn_ge (lenI_ge t.among) (show (0 : Int) ≤ 300 by omega)
    have k1 := mn_le (lenI t.among) 300
    have h3 := gT_b l (show 0 ≤ n + mn (lenI t.among) 300 by omega)
    have e : gT (t :: l) n = gT l (n + mn (lenI t.among) 300) := rfl
    rw [e]
    simp only [List.length_cons]
    omega
theorem gH_snoc {l : List Rt} {j : Nat} {x : Rt} {n : Int} (h : l[j]? = some x) : gH (l.take (j + 1)) n = gB x (gH (l.take j) n) := by rw [take_snoc h]; simp [gH]
theorem gR_snoc {l : List Rd} {j : Nat} {x : Rd} {n : Int} (h : l[j]? = some x) : gR (l.take (j + 1)) n = gH (x.had.l.take 300) (gA x (gR (l.take j) n)) := by rw [take_snoc h]; simp [gR]
theorem gT_snoc {l : List Ti} {j : Nat} {x : Ti} {n : Int} (h : l[j]? = some x) : gT (l.take (j + 1)) n = gT (l.take j) n + mn (lenI x.among) 300 := by rw [take_snoc h]; simp [gT]
theorem mn_eq (x y : Int) : (if y < x then y else x) = mn x y := rfl
theorem lenI_eq {α : Type} (o : Nl α) : ((o.l.length : Nat) : Int) = lenI o := rfl
variable {L : Lib} (hL : L.T = tab.get)
include hL
theorem great_v (o : Oc) (ho : okO o) : VFn L 4 [ocv o] (.bool (greatO o)) := by
  refine VFn.start (F := T4.1) (by rw [hL]; rfl) rfl (by simp [V.closeds, closed_ocv]) rfl ?_
  obtain ⟨b1, ⟨b2, _⟩, b3, _⟩ := ho
  unfold okI at b1
  have p1 := lenI_ge o.el
  have p2 := lenI_ge o.rounds
  have p3 := lenI_ge o.ties
  have q1 : lenI o.el ≤ 140737488351232 := by unfold lenI; omega
  have q2 : lenI o.rounds ≤ 140737488351232 := by unfold lenI; omega
  have q3 : lenI o.ties ≤ 140737488351232 := by unfold lenI; omega
  have w1 : IntKind.i64.wrap (lenI o.el + lenI o.rounds) = lenI o.el + lenI o.rounds := wrap_i64 (by omega) (by omega)
  have w2 : IntKind.i64.wrap (lenI o.el + lenI o.rounds + lenI o.ties) = lenI o.el + lenI o.rounds + lenI o.ties := wrap_i64 (by omega) (by omega)
  by_cases hg : 200 < lenI o.el + lenI o.rounds + lenI o.ties
  · (repeat' (first | refine wSeq rfl ?_ | refine wBlock rfl ?_ | refine wSkip rfl ?_ | refine wExit rfl ?_ | refine wRet rfl ?_ | refine wCondT rfl rfl ?_ | refine wCondF rfl rfl ?_ | refine wOps rfl ?_ | refine wDraw rfl rfl ?_ | simp only [seval, push_cast, ↓reduceIte, ↓bP_some, ↓aP_true, reduceCtorEq, ocv, occs, lenI_eq, w1, w2, hg]))
    rw [show greatO o = true from if_pos hg]
    exact FnQ.ret rfl rfl
  · (repeat' (first | refine wSeq rfl ?_ | refine wBlock rfl ?_ | refine wSkip rfl ?_ | refine wExit rfl ?_ | refine wRet rfl ?_ | refine wCondT rfl rfl ?_ | refine wCondF rfl rfl ?_ | refine wOps rfl ?_ | refine wDraw rfl rfl ?_ | simp only [seval, push_cast, ↓reduceIte, ↓bP_some, ↓aP_true, reduceCtorEq, ocv, occs, lenI_eq, w1, w2, hg]))
    generalize hS : lenI o.el + lenI o.rounds + lenI o.ties = S at hg
    refine wCnt rfl 4 o.rounds.l.length (fun j => [(3, .int .i64 (gR (o.rounds.l.take j) S))]) (fun _ => True) rfl trivial ?_ ?_
    · intro j hj _
      obtain ⟨d, hd, _⟩ := get_of hj
      have hS0 : 0 ≤ S := by omega
      have hn := gR_b (o.rounds.l.take j) hS0
      have hlj : (o.rounds.l.take j).length ≤ 200 := by
        have : lenI o.rounds ≤ 200 := by omega
        unfold lenI at this
        rw [List.length_take]; omega
      have hj2 : j < 200 := by
        have : lenI o.rounds ≤ 200 := by omega
        unfold lenI at this; omega
      have gs := gR_snoc (n := S) hd
      generalize gR (o.rounds.l.take j) S = n at hn gs ⊢
      have c1 := mn_ge (lenI_ge d.had) (show (0 : Int) ≤ 300 by omega)
      have c2 := mn_ge (lenI_ge d.el) (show (0 : Int) ≤ 300 by omega)
      have c3 := mn_ge (lenI_ge d.out) (show (0 : Int) ≤ 300 by omega)
      have c4 := mn_ge (lenI_ge d.lost.num) (show (0 : Int) ≤ 300 by omega)
      have c5 := mn_ge (lenI_ge d.lost.den) (show (0 : Int) ≤ 300 by omega)
      have k1 := mn_le (lenI d.had) 300
      have k2 := mn_le (lenI d.el) 300
      have k3 := mn_le (lenI d.out) 300
      have k4 := mn_le (lenI d.lost.num) 300
      have k5 := mn_le (lenI d.lost.den) 300
      have v1 : IntKind.i64.wrap (n + mn (lenI d.had) 300) = n + mn (lenI d.had) 300 := wrap_i64 (by omega) (by omega)
      have v2 : IntKind.i64.wrap (n + mn (lenI d.had) 300 + mn (lenI d.el) 300) = n + mn (lenI d.had) 300 + mn (lenI d.el) 300 := wrap_i64 (by omega) (by omega)
      have v3 : IntKind.i64.wrap (n + mn (lenI d.had) 300 + mn (lenI d.el) 300 + mn (lenI d.out) 300) = n + mn (lenI d.had) 300 + mn (lenI d.el) 300 + mn (lenI d.out) 300 := wrap_i64 (by omega) (by omega)
      have v4 : IntKind.i64.wrap (n + mn (lenI d.had) 300 + mn (lenI d.el) 300 + mn (lenI d.out) 300 + mn (lenI d.lost.num) 300) = n + mn (lenI d.had) 300 + mn (lenI d.el) 300 + mn (lenI d.out) 300 + mn (lenI d.lost.num) 300 := wrap_i64 (by omega) (by omega)
      have v5 : IntKind.i64.wrap (n + mn (lenI d.had) 300 + mn (lenI d.el) 300 + mn (lenI d.out) 300 + mn (lenI d.lost.num) 300 + mn (lenI d.lost.den) 300) = gA d n := wrap_i64 (by omega) (by omega)
      have hjI : (j : Int) < lenI o.rounds := by unfold lenI; omega
      (repeat' (first | refine wSeq rfl ?_ | refine wBlock rfl ?_ | refine wSkip rfl ?_ | refine wExit rfl ?_ | refine wRet rfl ?_ | refine wCondT rfl rfl ?_ | refine wCondF rfl rfl ?_ | refine wOps rfl ?_ | refine wDraw rfl rfl ?_ | simp only [seval, push_cast, ↓reduceIte, ↓bP_some, ↓aP_true, reduceCtorEq, iaQ_nlv hj, hd, hj, hjI, mn_eq, lenI_eq, v1, v2, v3, v4, v5]))
      have hA := gA_b d hn.1
      generalize gA d n = m at hA gs ⊢
      have hN : min d.had.l.length 300 ≤ d.had.l.length := Nat.min_le_left _ _
      refine wCnt rfl 5 (min d.had.l.length 300) (fun k => [(3, .int .i64 (gH (d.had.l.take k) m))]) (fun _ => True) rfl trivial ?_ ?_
      · intro k hk _
        have hk1 : k < d.had.l.length := by omega
        have hk2 : (k : Int) < 300 := by omega
        obtain ⟨r, hr, _⟩ := get_of hk1
        have hh := gH_b (d.had.l.take k) hA.1
        have hl2 : (d.had.l.take k).length ≤ 300 := by rw [List.length_take]; omega
        have g2 := gH_snoc (n := m) hr
        generalize gH (d.had.l.take k) m = z at hh g2 ⊢
        have c1 := mn_ge (lenI_ge r.num) (show (0 : Int) ≤ 3000 by omega)
        have c2 := mn_ge (lenI_ge r.den) (show (0 : Int) ≤ 3000 by omega)
        have k1 := mn_le (lenI r.num) 3000
        have k2 := mn_le (lenI r.den) 3000
        have u1 : IntKind.i64.wrap (z + mn (lenI r.num) 3000) = z + mn (lenI r.num) 3000 := wrap_i64 (by omega) (by omega)
        have u2 : IntKind.i64.wrap (z + mn (lenI r.num) 3000 + mn (lenI r.den) 3000) = gB r z := wrap_i64 (by omega) (by omega)
        have hkI : (k : Int) < lenI d.had := by unfold lenI; omega
        (repeat' (first | refine wSeq rfl ?_ | refine wBlock rfl ?_ | refine wSkip rfl ?_ | refine wExit rfl ?_ | refine wRet rfl ?_ | refine wCondT rfl rfl ?_ | refine wCondF rfl rfl ?_ | refine wOps rfl ?_ | refine wDraw rfl rfl ?_ | simp only [seval, push_cast, ↓reduceIte, ↓bP_some, ↓aP_true, reduceCtorEq, iaQ_nlv hj, hd, hj, iaQ_nlv hk1, hr, hk1, hk2, hkI, mn_eq, lenI_eq, u1, u2, wrap_succ (show k < 9223372036854775807 by omega)]))
        exact qR_n (by rw [g2]) rfl trivial
      · intro _
        have wj := wrap_succ (show j < 9223372036854775807 by omega)
        by_cases hq : d.had.l.length ≤ 300
        · have e1 : min d.had.l.length 300 = d.had.l.length := Nat.min_eq_left hq
          have e2 : d.had.l.take 300 = d.had.l.take d.had.l.length := by rw [List.take_of_length_le hq, take_all]
          rw [e1]
          rw [e2] at gs
          (repeat' (first | refine wSeq rfl ?_ | refine wBlock rfl ?_ | refine wSkip rfl ?_ | refine wExit rfl ?_ | refine wRet rfl ?_ | refine wCondT rfl rfl ?_ | refine wCondF rfl rfl ?_ | refine wOps rfl ?_ | refine wDraw rfl rfl ?_ | simp only [seval, push_cast, ↓reduceIte, ↓bP_some, ↓aP_true, reduceCtorEq, iaQ_nlv hj, hd, hj, wj]))
          exact qR_n (by rw [gs]) rfl trivial
        · have e1 : min d.had.l.length 300 = 300 := Nat.min_eq_right (by omega)
          have h3 : 300 < d.had.l.length := by omega
          have h4 : ¬ (((300 : Nat) : Int) < 300) := by omega
          rw [e1]
          have h5 : (300 : Int) < (d.had.l.length : Int) := by omega
          have h6 : ¬ ((300 : Int) < 300) := by omega
          (repeat' (first | refine wSeq rfl ?_ | refine wBlock rfl ?_ | refine wSkip rfl ?_ | refine wExit rfl ?_ | refine wRet rfl ?_ | refine wCondT rfl rfl ?_ | refine wCondF rfl rfl ?_ | refine wOps rfl ?_ | refine wDraw rfl rfl ?_ | simp only [seval, push_cast, ↓reduceIte, ↓bP_some, ↓aP_true, reduceCtorEq, iaQ_nlv hj, hd, hj, h3, h4, h5, h6, wj]))
          exact qR_n (by rw [gs]) rfl trivial
    · intro _
      rw [take_all]
      have hS0 : 0 ≤ S := by omega
      have hn := gR_b o.rounds.l hS0
      have hl1 : (o.rounds.l.length : Int) ≤ 200 := by
        have : lenI o.rounds ≤ 200 := by omega
        exact this
      have hl2 : (o.ties.l.length : Int) ≤ 200 := by
        have : lenI o.ties ≤ 200 := by omega
        exact this
      rw [show greatO o = decide (3000 < gT o.ties.l (gR o.rounds.l S)) by unfold greatO; rw [hS, if_neg hg]]
      generalize gR o.rounds.l S = m at hn ⊢
      (repeat' (first | refine wSeq rfl ?_ | refine wBlock rfl ?_ | refine wSkip rfl ?_ | refine wExit rfl ?_ | refine wRet rfl ?_ | refine wCondT rfl rfl ?_ | refine wCondF rfl rfl ?_ | refine wOps rfl ?_ | refine wDraw rfl rfl ?_ | simp only [seval, push_cast, ↓reduceIte, ↓bP_some, ↓aP_true, reduceCtorEq]))
      refine wCnt rfl 6 o.ties.l.length (fun j => [(3, .int .i64 (gT (o.ties.l.take j) m))]) (fun _ => True) rfl trivial ?_ ?_
      · intro j hj _
        obtain ⟨t, ht, _⟩ := get_of hj
        have hh := gT_b (o.ties.l.take j) hn.1
        have hl3 : (o.ties.l.take j).length ≤ 200 := by rw [List.length_take]; omega
        have g2 := gT_snoc (n := m) ht
        generalize gT (o.ties.l.take j) m = z at hh g2 ⊢
        have c1 := mn_ge (lenI_ge t.among) (show (0 : Int) ≤ 300 by omega)
        have k1 := mn_le (lenI t.among) 300
        have u1 : IntKind.i64.wrap (z + mn (lenI t.among) 300) = z + mn (lenI t.among) 300 := wrap_i64 (by omega) (by omega)
        have hjI : (j : Int) < lenI o.ties := by unfold lenI; omega
        (repeat' (first | refine wSeq rfl ?_ | refine wBlock rfl ?_ | refine wSkip rfl ?_ | refine wExit rfl ?_ | refine wRet rfl ?_ | refine wCondT rfl rfl ?_ | refine wCondF rfl rfl ?_ | refine wOps rfl ?_ | refine wDraw rfl rfl ?_ | simp only [seval, push_cast, ↓reduceIte, ↓bP_some, ↓aP_true, reduceCtorEq, iaQ_nlv hj, ht, hj, hjI, mn_eq, lenI_eq, u1, wrap_succ (show j < 9223372036854775807 by omega)]))
        exact qR_n (by rw [g2]) rfl trivial
      · intro _
        rw [take_all]
        (repeat' (first | refine wSeq rfl ?_ | refine wBlock rfl ?_ | refine wSkip rfl ?_ | refine wExit rfl ?_ | refine wRet rfl ?_ | refine wCondT rfl rfl ?_ | refine wCondF rfl rfl ?_ | refine wOps rfl ?_ | refine wDraw rfl rfl ?_ | simp only [seval, push_cast, ↓reduceIte, ↓bP_some, ↓aP_true, reduceCtorEq]))
        exact FnQ.ret rfl rfl
end Go.Proofs.Ytaehkmmlacpleaa
set_option maxRecDepth 100000
set_option maxHeartbeats 4000000
set_option linter.unusedVariables false
set_option linter.unusedSimpArgs false
namespace Go.Proofs.Ytaehkmmlacpleaa
theorem row_set {α : Type} {f : α → List V} {l : List α} {i : Nat} {x : α} : (l.map f).set i (f x) = (l.set i x).map f := (List.map_set).symm
theorem mrow_set1 {l : List Int} {i : Nat} {x : Int} : (l.map mrow).set i [.int .i64 x] = (l.set i x).map mrow := row_set (f := mrow)
def seatsV (el : List Int) (n : Int) : V := match seatsL el n with | none => .tup [.lst 0 [] (some 0), .int .i64 2] | some r => .tup [tl mrow 1 r (some r.length), .int .i64 0]
theorem frz_cap {α : Type} {f : α → List V} (hf : ∀ x, (f x).all V.closed = true) {H : Heap} {fz : List Nat} {a n : Nat} {l : List α} {m : Nat} {c : Option Nat} (hm : l.length = m) (hn : 0 < n) (ha : fz.contains a = true) (h : H.get a = some (.arr n (l.map f))) : V.ren (sgOf H [] fz) (.ref a n 0 m c) = tl f n l c := by
  subst hm; exact frz_ref hf hn ha h
variable {L : Lib} (hL : L.T = tab.get)
include hL
theorem seats_v (o : Oc) (ho : okO o) (n : Int) : VFn L 6 [ocv o, .int .i64 n] (seatsV o.el.l n) := by
  refine VFn.start (F := T6.1) (by rw [hL]; rfl) rfl (by simp [V.closeds, closed_ocv, V.closed]) (by unfold seatsV; split <;> rfl) ?_
  obtain ⟨b1, _⟩ := ho
  unfold okI at b1
  by_cases h1 : n < 1
  · (repeat' (first | refine wSeq rfl ?_ | refine wBlock rfl ?_ | refine wSkip rfl ?_ | refine wExit rfl ?_ | refine wRet rfl ?_ | refine wCondT rfl rfl ?_ | refine wCondF rfl rfl ?_ | refine wOps rfl ?_ | refine wDraw rfl rfl ?_ | simp only [seval, push_cast, ↓reduceIte, ↓bP_some, ↓aP_true, reduceCtorEq, ocv, occs, h1]))
    rw [show seatsV o.el.l n = .tup [.lst 0 [] (some 0), .int .i64 2] by unfold seatsV seatsL; rw [if_pos (.inl h1)]]
    exact FnQ.ret rfl rfl
  by_cases h2 : 10 < n
  · (repeat' (first | refine wSeq rfl ?_ | refine wBlock rfl ?_ | refine wSkip rfl ?_ | refine wExit rfl ?_ | refine wRet rfl ?_ | refine wCondT rfl rfl ?_ | refine wCondF rfl rfl ?_ | refine wOps rfl ?_ | refine wDraw rfl rfl ?_ | simp only [seval, push_cast, ↓reduceIte, ↓bP_some, ↓aP_true, reduceCtorEq, ocv, occs, h1, h2]))
    rw [show seatsV o.el.l n = .tup [.lst 0 [] (some 0), .int .i64 2] by unfold seatsV seatsL; rw [if_pos (.inr h2)]]
    exact FnQ.ret rfl rfl
  obtain ⟨m, rfl⟩ : ∃ m : Nat, n = m := ⟨n.toNat, by omega⟩
  have e0 : seatsL o.el.l m = seatsGo m o.el.l (List.replicate m 0) := by unfold seatsL; rw [if_neg (by omega), Int.toNat_natCast]
  have q1 : m ≤ m ∧ m * 8 ≤ 140737488355328 ∧ m < 9223372036854775808 ∧ ([V.int IntKind.i64 0] : List V).length = 1 := ⟨Nat.le_refl _, by omega, by omega, rfl⟩
  have q2 : m * 8 ≤ 140737488355328 := by omega
  have q3 : m < 9223372036854775808 := by omega
  (repeat' (first | refine wSeq rfl ?_ | refine wBlock rfl ?_ | refine wSkip rfl ?_ | refine wExit rfl ?_ | refine wRet rfl ?_ | refine wCondT rfl rfl ?_ | refine wCondF rfl rfl ?_ | refine wOps rfl ?_ | refine wDraw rfl rfl ?_ | simp only [seval, push_cast, ↓reduceIte, ↓bP_some, ↓aP_true, reduceCtorEq, ocv, occs, h1, h2, q1, q2, q3, List.length_singleton]))
  refine wCntH rfl 20 o.el.l.length (fun _ => []) (fun j => [some (.arr 3 [[nlv mrow 1 o.el, nlv rdrow 6 o.rounds, nlv tirow 2 o.ties]]), some (.arr 1 (((seatsGo m (o.el.l.take j) (List.replicate m 0)).getD []).map mrow))]) (fun j => ∃ r, seatsGo m (o.el.l.take j) (List.replicate m 0) = some r) rfl ?_ ⟨_, rfl⟩ ?_ ?_
  · rw [List.take_zero, seatsGo, Option.getD_some, List.map_replicate]; rfl
  · rintro j hj ⟨r, hr⟩
    obtain ⟨a, ha, _⟩ := get_of hj
    have w := wrap_succ (show j < 9223372036854775807 by omega)
    have hlen := seatsGo_len m hr
    rw [List.length_replicate] at hlen
    have hle := seatsGo_le m hr (b := 0) (fun x hx => by rw [List.eq_of_mem_replicate hx]; omega)
    have hs := seatsGo_snoc (x := a) m hr
    have ht := take_snoc ha
    rw [hr, Option.getD_some]
    by_cases e1 : a < 0
    · rw [if_pos (.inl e1), ← ht] at hs
      (repeat' (first | refine wSeq rfl ?_ | refine wBlock rfl ?_ | refine wSkip rfl ?_ | refine wExit rfl ?_ | refine wRet rfl ?_ | refine wCondT rfl rfl ?_ | refine wCondF rfl rfl ?_ | refine wOps rfl ?_ | refine wDraw rfl rfl ?_ | simp only [seval, push_cast, ↓reduceIte, ↓bP_some, ↓aP_true, reduceCtorEq, iaQ_nlv hj, ha, hj, e1]))
      have := seatsGo_none m (m := o.el.l.drop (j + 1)) hs
      rw [List.take_append_drop] at this
      rw [show seatsV o.el.l m = .tup [.lst 0 [] (some 0), .int .i64 2] by unfold seatsV; rw [e0, this]]
      exact FnQ.ret rfl rfl
    by_cases e2 : (m : Int) ≤ a
    · rw [if_pos (.inr e2), ← ht] at hs
      (repeat' (first | refine wSeq rfl ?_ | refine wBlock rfl ?_ | refine wSkip rfl ?_ | refine wExit rfl ?_ | refine wRet rfl ?_ | refine wCondT rfl rfl ?_ | refine wCondF rfl rfl ?_ | refine wOps rfl ?_ | refine wDraw rfl rfl ?_ | simp only [seval, push_cast, ↓reduceIte, ↓bP_some, ↓aP_true, reduceCtorEq, iaQ_nlv hj, ha, hj, e1, e2]))
      have := seatsGo_none m (m := o.el.l.drop (j + 1)) hs
      rw [List.take_append_drop] at this
      rw [show seatsV o.el.l m = .tup [.lst 0 [] (some 0), .int .i64 2] by unfold seatsV; rw [e0, this]]
      exact FnQ.ret rfl rfl
    obtain ⟨c, rfl⟩ : ∃ c : Nat, a = c := ⟨a.toNat, by omega⟩
    rw [if_neg (by omega), ← ht, Int.toNat_natCast] at hs
    have hc : c < m := by omega
    obtain ⟨v, hv, mv⟩ := get_of (show c < r.length by omega)
    have hvb := hle v mv
    have hv' : r.getD c 0 = v := by simp [hv]
    rw [hv'] at hs
    have hl3 : (o.el.l.take j).length ≤ j := by rw [List.length_take]; omega
    have wv : IntKind.i64.wrap (v + 1) = v + 1 := wrap_i64 (by omega) (by omega)
    (repeat' (first | refine wSeq rfl ?_ | refine wBlock rfl ?_ | refine wSkip rfl ?_ | refine wExit rfl ?_ | refine wRet rfl ?_ | refine wCondT rfl rfl ?_ | refine wCondF rfl rfl ?_ | refine wOps rfl ?_ | refine wDraw rfl rfl ?_ | simp only [seval, push_cast, ↓reduceIte, ↓bP_some, ↓aP_true, reduceCtorEq, iaQ_nlv hj, ha, hj, e1, e2, hc, hv, row_tl, wv, w, mrow_set1]))
    exact qR_n rfl (by rw [hs, Option.getD_some]) ⟨_, hs⟩
  · rintro ⟨r, hr⟩
    rw [take_all] at hr ⊢
    have hlen := seatsGo_len m hr
    rw [List.length_replicate] at hlen
    rw [hr, Option.getD_some]
    (repeat' (first | refine wSeq rfl ?_ | refine wBlock rfl ?_ | refine wSkip rfl ?_ | refine wExit rfl ?_ | refine wRet rfl ?_ | refine wCondT rfl rfl ?_ | refine wCondF rfl rfl ?_ | refine wOps rfl ?_ | refine wDraw rfl rfl ?_ | simp only [seval, push_cast, ↓reduceIte, ↓bP_some, ↓aP_true, reduceCtorEq]))
    rw [show seatsV o.el.l m = .tup [tl mrow 1 r (some m), .int .i64 0] by unfold seatsV; rw [e0, hr, ← hlen]]
    refine FnQ.frz [1] rfl ?_
    exact congrArg (fun v => V.tup [v, .int .i64 0]) (frz_cap closed_mrow hlen (by decide) rfl rfl)
theorem rseats_v (o : Oc) (ho : okO o) (n : Int) : VFn L 7 [ocv o, .int .i64 n] (seatsV o.el.l n) := by
  refine VFn.start (F := T7.1) (by rw [hL]; rfl) rfl (by simp [V.closeds, closed_ocv, V.closed]) (by unfold seatsV; split <;> rfl) ?_
  obtain ⟨b1, _⟩ := ho
  unfold okI at b1
  by_cases h1 : n < 1
  · (repeat' (first | refine wSeq rfl ?_ | refine wBlock rfl ?_ | refine wSkip rfl ?_ | refine wExit rfl ?_ | refine wRet rfl ?_ | refine wCondT rfl rfl ?_ | refine wCondF rfl rfl ?_ | refine wOps rfl ?_ | refine wDraw rfl rfl ?_ | simp only [seval, push_cast, ↓reduceIte, ↓bP_some, ↓aP_true, reduceCtorEq, ocv, occs, h1]))
    rw [show seatsV o.el.l n = .tup [.lst 0 [] (some 0), .int .i64 2] by unfold seatsV seatsL; rw [if_pos (.inl h1)]]
    exact FnQ.ret rfl rfl
  by_cases h2 : 10 < n
  · (repeat' (first | refine wSeq rfl ?_ | refine wBlock rfl ?_ | refine wSkip rfl ?_ | refine wExit rfl ?_ | refine wRet rfl ?_ | refine wCondT rfl rfl ?_ | refine wCondF rfl rfl ?_ | refine wOps rfl ?_ | refine wDraw rfl rfl ?_ | simp only [seval, push_cast, ↓reduceIte, ↓bP_some, ↓aP_true, reduceCtorEq, ocv, occs, h1, h2]))
    rw [show seatsV o.el.l n = .tup [.lst 0 [] (some 0), .int .i64 2] by unfold seatsV seatsL; rw [if_pos (.inr h2)]]
    exact FnQ.ret rfl rfl
  obtain ⟨m, rfl⟩ : ∃ m : Nat, n = m := ⟨n.toNat, by omega⟩
  have e0 : seatsL o.el.l m = seatsGo m o.el.l (List.replicate m 0) := by unfold seatsL; rw [if_neg (by omega), Int.toNat_natCast]
  have q1 : m ≤ m ∧ m * 8 ≤ 140737488355328 ∧ m < 9223372036854775808 ∧ ([V.int IntKind.i64 0] : List V).length = 1 := ⟨Nat.le_refl _, by omega, by omega, rfl⟩
  have q2 : m * 8 ≤ 140737488355328 := by omega
  have q3 : m < 9223372036854775808 := by omega
  (repeat' (first | refine wSeq rfl ?_ | refine wBlock rfl ?_ | refine wSkip rfl ?_ | refine wExit rfl ?_ | refine wRet rfl ?_ | refine wCondT rfl rfl ?_ | refine wCondF rfl rfl ?_ | refine wOps rfl ?_ | refine wDraw rfl rfl ?_ | simp only [seval, push_cast, ↓reduceIte, ↓bP_some, ↓aP_true, reduceCtorEq, ocv, occs, h1, h2, q1, q2, q3, List.length_singleton]))
  refine wCntH rfl 7 o.el.l.length (fun _ => []) (fun j => [some (.arr 3 [[nlv mrow 1 o.el, nlv rdrow 6 o.rounds, nlv tirow 2 o.ties]]), some (.arr 1 (((seatsGo m (o.el.l.take j) (List.replicate m 0)).getD []).map mrow))]) (fun j => ∃ r, seatsGo m (o.el.l.take j) (List.replicate m 0) = some r) rfl ?_ ⟨_, rfl⟩ ?_ ?_
  · rw [List.take_zero, seatsGo, Option.getD_some, List.map_replicate]; rfl
  · rintro j hj ⟨r, hr⟩
    obtain ⟨a, ha, _⟩ := get_of hj
    have w := wrap_succ (show j < 9223372036854775807 by omega)
    have hlen := seatsGo_len m hr
    rw [List.length_replicate] at hlen
    have hle := seatsGo_le m hr (b := 0) (fun x hx => by rw [List.eq_of_mem_replicate hx]; omega)
    have hs := seatsGo_snoc (x := a) m hr
    have ht := take_snoc ha
    rw [hr, Option.getD_some]
    by_cases e1 : a < 0
    · rw [if_pos (.inl e1), ← ht] at hs
      (repeat' (first | refine wSeq rfl ?_ | refine wBlock rfl ?_ | refine wSkip rfl ?_ | refine wExit rfl ?_ | refine wRet rfl ?_ | refine wCondT rfl rfl ?_ | refine wCondF rfl rfl ?_ | refine wOps rfl ?_ | refine wDraw rfl rfl ?_ | simp only [seval, push_cast, ↓reduceIte, ↓bP_some, ↓aP_true, reduceCtorEq, iaQ_nlv hj, ha, hj, e1]))
      have := seatsGo_none m (m := o.el.l.drop (j + 1)) hs
      rw [List.take_append_drop] at this
      rw [show seatsV o.el.l m = .tup [.lst 0 [] (some 0), .int .i64 2] by unfold seatsV; rw [e0, this]]
      exact FnQ.ret rfl rfl
    by_cases e2 : (m : Int) ≤ a
    · rw [if_pos (.inr e2), ← ht] at hs
      (repeat' (first | refine wSeq rfl ?_ | refine wBlock rfl ?_ | refine wSkip rfl ?_ | refine wExit rfl ?_ | refine wRet rfl ?_ | refine wCondT rfl rfl ?_ | refine wCondF rfl rfl ?_ | refine wOps rfl ?_ | refine wDraw rfl rfl ?_ | simp only [seval, push_cast, ↓reduceIte, ↓bP_some, ↓aP_true, reduceCtorEq, iaQ_nlv hj, ha, hj, e1, e2]))
      have := seatsGo_none m (m := o.el.l.drop (j + 1)) hs
      rw [List.take_append_drop] at this
      rw [show seatsV o.el.l m = .tup [.lst 0 [] (some 0), .int .i64 2] by unfold seatsV; rw [e0, this]]
      exact FnQ.ret rfl rfl
    obtain ⟨c, rfl⟩ : ∃ c : Nat, a = c := ⟨a.toNat, by omega⟩
    rw [if_neg (by omega), ← ht, Int.toNat_natCast] at hs
    have hc : c < m := by omega
    obtain ⟨v, hv, mv⟩ := get_of (show c < r.length by omega)
    have hvb := hle v mv
    have hv' : r.getD c 0 = v := by simp [hv]
    rw [hv'] at hs
    have hl3 : (o.el.l.take j).length ≤ j := by rw [List.length_take]; omega
    have wv : IntKind.i64.wrap (v + 1) = v + 1 := wrap_i64 (by omega) (by omega)
    (repeat' (first | refine wSeq rfl ?_ | refine wBlock rfl ?_ | refine wSkip rfl ?_ | refine wExit rfl ?_ | refine wRet rfl ?_ | refine wCondT rfl rfl ?_ | refine wCondF rfl rfl ?_ | refine wOps rfl ?_ | refine wDraw rfl rfl ?_ | simp only [seval, push_cast, ↓reduceIte, ↓bP_some, ↓aP_true, reduceCtorEq, iaQ_nlv hj, ha, hj, e1, e2, hc, hv, row_tl, wv, w, mrow_set1]))
    exact qR_n rfl (by rw [hs, Option.getD_some]) ⟨_, hs⟩
  · rintro ⟨r, hr⟩
    rw [take_all] at hr ⊢
    have hlen := seatsGo_len m hr
    rw [List.length_replicate] at hlen
    rw [hr, Option.getD_some]
    (repeat' (first | refine wSeq rfl ?_ | refine wBlock rfl ?_ | refine wSkip rfl ?_ | refine wExit rfl ?_ | refine wRet rfl ?_ | refine wCondT rfl rfl ?_ | refine wCondF rfl rfl ?_ | refine wOps rfl ?_ | refine wDraw rfl rfl ?_ | simp only [seval, push_cast, ↓reduceIte, ↓bP_some, ↓aP_true, reduceCtorEq]))
    rw [show seatsV o.el.l m = .tup [tl mrow 1 r (some m), .int .i64 0] by unfold seatsV; rw [e0, hr, ← hlen]]
    refine FnQ.frz [1] rfl ?_
    exact congrArg (fun v => V.tup [v, .int .i64 0]) (frz_cap closed_mrow hlen (by decide) rfl rfl)
end Go.Proofs.Ytaehkmmlacpleaa
