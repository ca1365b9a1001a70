/- Outcomes: what they refer to, by the program, walked. · Outcomes: numbers renamed in place, walked. · Outcomes: sorting, copying, over memory that is in use. · Outcomes: the program's renaming, walked: the ties. · Outcomes: the program's renaming, walked: a round's totals laid at their new places. · Outcomes: the program's renaming, walked: the rounds. · Outcomes: the program's renaming, walked. · CountBack: what is known of renaming and of lists filled place by place. -/
import Derived.Test.YtkpfhnicdlgjiaaGreatM4
import Derived.Test.YtkpfhnicdlgjiaaGreatM5
import Derived.Test.YtkpfhnicdlgjiaaGreatM3
import Derived.Test.YtkpfhnicdlgjiaaGreatM2
set_option maxRecDepth 100000
set_option maxHeartbeats 4000000
set_option linter.unusedVariables false
set_option linter.unusedSimpArgs false
namespace Go.Proofs.YtkpfhnicdlgjiaaGreat
/-- A value is a slice of these things in this memory. -/
structure IsSl (H : Heap) (v : V) (l : List Int) : Prop where
  len : lenQ v = some (.int .i64 l.length)
  at' : ∀ i x, l[i]? = some x → ∃ p, iaQ 1 v i = some p ∧ loadQ H.get 1 true p = some (.int .i64 x)
theorem IsSl.tl {H : Heap} {s : Nat} {l : List Int} {c : Option Nat} (hs : s = 1 ∨ l = []) : IsSl H (tl mrow s l c) l :=
  ⟨lenQ_tl, fun i x hx => by
    have hi := (List.getElem?_eq_some_iff.1 hx).1
    obtain rfl := size_of hs hi
    refine ⟨_, iaQ_tl hi, ?_⟩
    rw [loadQ_iptr, row_tl, hx]; rfl⟩
/-- The first place where p holds, or -1. -/
def findL (p : Int → Bool) (l : List Int) (j : Nat) : Int := match l with | [] => -1 | x :: r => if p x then (j : Int) else findL p r (j + 1)
theorem drop_at' {α : Type} {l : List α} {j : Nat} {x : α} (h : l[j]? = some x) : l.drop j = x :: l.drop (j + 1) := by
  obtain ⟨h1, rfl⟩ := List.getElem?_eq_some_iff.1 h
  exact List.drop_eq_getElem_cons h1
variable {L : Lib} (hL : L.T = tab.get)
include hL
theorem indexFunc_a {H : Heap} {v : V} {l : List Int} {kf : Nat} {fs cs : List V} {p : Int → Bool} (hv : IsSl H v l) (hl : l.length < 4611686018427387904) (hf : ∀ x ∈ l, AFn L (.fn kf) (fs ++ [.int .i64 x] ++ cs) H (fun r H' => r = .bool (p x) ∧ H' = H)) : AFn L (.fn 70) [v, .fn kf fs cs] H (fun r H' => r = .int .i64 (findL p l 0) ∧ H' = H) := by
  refine AFn.of_body (F := T70.1) (by rw [hL]; rfl) rfl ?_
  (repeat' (first | refine wSeq rfl ?_ | refine wBlock rfl ?_ | refine wSkip rfl ?_ | refine wExit rfl ?_ | refine wRet rfl ?_ | refine wCondT rfl rfl ?_ | refine wCondF rfl rfl ?_ | refine wOps rfl ?_ | refine wDraw rfl rfl ?_ | simp only [seval, push_cast, ↓reduceIte, ↓bP_some, ↓aP_true, reduceCtorEq, hv.len]))
  refine wCnt rfl 8 l.length (fun _ => []) (fun j => findL p l 0 = findL p (l.drop j) j) rfl rfl ?_ ?_
  · intro j hj hI
    obtain ⟨x, hx, hm⟩ := get_of hj
    obtain ⟨q, hq1, hq2⟩ := hv.at' j x hx
    have hd := drop_at' hx
    (repeat' (first | refine wSeq rfl ?_ | refine wBlock rfl ?_ | refine wSkip rfl ?_ | refine wExit rfl ?_ | refine wRet rfl ?_ | refine wCondT rfl rfl ?_ | refine wCondF rfl rfl ?_ | refine wOpsP rfl ?_ | refine wDraw rfl rfl ?_ | simp only [seval, push_cast, ↓reduceIte, ↓bP_some, ↓aP_true, reduceCtorEq, hj, hq1, hq2]))
    refine opsP_all (k := kf) (vs := fs ++ [.int .i64 x] ++ cs) rfl (hf x hm) ?_
    rintro r h' ⟨rfl, rfl⟩
    cases hp : p x with
    | true =>
      (repeat' (first | refine wSeq rfl ?_ | refine wBlock rfl ?_ | refine wSkip rfl ?_ | refine wExit rfl ?_ | refine wRet rfl ?_ | refine wCondT rfl rfl ?_ | refine wCondF rfl rfl ?_ | refine wOps rfl ?_ | refine wDraw rfl rfl ?_ | simp only [seval, push_cast, ↓reduceIte, ↓bP_some, ↓aP_true, reduceCtorEq]))
      rw [show findL p l 0 = (j : Int) by rw [hI, hd]; exact if_pos hp]
      exact FnQ.at rfl ⟨rfl, rfl⟩
    | false =>
      (repeat' (first | refine wSeq rfl ?_ | refine wBlock rfl ?_ | refine wSkip rfl ?_ | refine wExit rfl ?_ | refine wRet rfl ?_ | refine wCondT rfl rfl ?_ | refine wCondF rfl rfl ?_ | refine wOps rfl ?_ | refine wDraw rfl rfl ?_ | simp only [seval, push_cast, ↓reduceIte, ↓bP_some, ↓aP_true, reduceCtorEq, wrap_succ (show j < 9223372036854775807 by omega)]))
      refine qR_n rfl rfl ?_
      rw [hI, hd]
      exact if_neg (by rw [hp]; simp)
  · intro hI
    (repeat' (first | refine wSeq rfl ?_ | refine wBlock rfl ?_ | refine wSkip rfl ?_ | refine wExit rfl ?_ | refine wRet rfl ?_ | refine wCondT rfl rfl ?_ | refine wCondF rfl rfl ?_ | refine wOps rfl ?_ | refine wDraw rfl rfl ?_ | simp only [seval, push_cast, ↓reduceIte, ↓bP_some, ↓aP_true, reduceCtorEq]))
    rw [show findL p l 0 = -1 by rw [hI, List.drop_eq_nil_of_le (Nat.le_refl _)]; rfl]
    exact FnQ.at rfl ⟨rfl, rfl⟩
omit hL
/-- What DeleteFunc keeps, and how it gets there: i places are filled, j looked at. -/
theorem findL_ge (p : Int → Bool) : ∀ (l : List Int) (j : Nat), findL p l j = -1 ∧ (∀ x ∈ l, p x = false) ∨ ∃ i, i < l.length ∧ findL p l j = ((j + i : Nat) : Int) ∧ (∀ x ∈ l.take i, p x = false) ∧ ∃ x, l[i]? = some x ∧ p x = true
  | [], j => .inl ⟨rfl, fun x h => by cases h⟩
  | a :: r, j => by
    unfold findL
    cases hp : p a with
    | true => exact .inr ⟨0, by simp, by simp, fun x h => by simp at h, a, rfl, hp⟩
    | false =>
      rw [if_neg (by simp)]
      rcases findL_ge p r (j + 1) with ⟨h1, h2⟩ | ⟨i, h1, h2, h3, x, h4, h5⟩
      · left
        refine ⟨h1, fun x hx => ?_⟩
        rcases List.mem_cons.1 hx with rfl | hx
        · exact hp
        · exact h2 x hx
      · right
        refine ⟨i + 1, by simp; omega, by rw [h2]; congr 1; omega, fun x hx => ?_, x, h4, h5⟩
        rw [List.take_succ_cons] at hx
        rcases List.mem_cons.1 hx with rfl | hx
        · exact hp
        · exact h3 x hx
theorem findL_of (l : List Int) (n : Int) : decide (0 ≤ findL (fun x => !decide (0 ≤ x ∧ x < n)) l 0) = !ofL l n := by
  rcases findL_ge (fun x => !decide (0 ≤ x ∧ x < n)) l 0 with ⟨h1, h2⟩ | ⟨i, h1, h2, h3, x, h4, h5⟩
  · have : ofL l n = true := ofL_iff.2 (fun x hx => by have := h2 x hx; simpa using this)
    rw [h1, this]; rfl
  · have h6 : ¬ (0 ≤ x ∧ x < n) := fun hc => by rw [decide_eq_true hc] at h5; cases h5
    rw [ofL_no h4 h6, h2]
    simp
include hL
theorem fits11_a {H : Heap} {a : Nat} {n : Int} (ha : H.get a = some (.arr 1 [[.int .i64 n]])) (x : Int) : AFn L (.fn 33) [.int .i64 x, .ptr a 1 0 0] H (fun r H' => r = .bool (!decide (0 ≤ x ∧ x < n)) ∧ H' = H) := by
  refine AFn.of_body (F := T33.1) (by rw [hL]; rfl) rfl ?_
  by_cases h1 : x < 0
  · (repeat' (first | refine wSeq rfl ?_ | refine wBlock rfl ?_ | refine wSkip rfl ?_ | refine wExit rfl ?_ | refine wRet rfl ?_ | refine wCondT rfl rfl ?_ | refine wCondF rfl rfl ?_ | refine wOps rfl ?_ | refine wDraw rfl rfl ?_ | simp only [seval, push_cast, ↓reduceIte, ↓bP_some, ↓aP_true, reduceCtorEq, ha, h1]))
    rw [show (!decide (0 ≤ x ∧ x < n)) = true by rw [decide_eq_false (by omega)]; rfl]
    exact FnQ.at rfl ⟨rfl, rfl⟩
  · by_cases h2 : n ≤ x
    · (repeat' (first | refine wSeq rfl ?_ | refine wBlock rfl ?_ | refine wSkip rfl ?_ | refine wExit rfl ?_ | refine wRet rfl ?_ | refine wCondT rfl rfl ?_ | refine wCondF rfl rfl ?_ | refine wOps rfl ?_ | refine wDraw rfl rfl ?_ | simp only [seval, push_cast, ↓reduceIte, ↓bP_some, ↓aP_true, reduceCtorEq, ha, h1, h2]))
      rw [show (!decide (0 ≤ x ∧ x < n)) = true by rw [decide_eq_false (by omega)]; rfl]
      exact FnQ.at rfl ⟨rfl, rfl⟩
    · (repeat' (first | refine wSeq rfl ?_ | refine wBlock rfl ?_ | refine wSkip rfl ?_ | refine wExit rfl ?_ | refine wRet rfl ?_ | refine wCondT rfl rfl ?_ | refine wCondF rfl rfl ?_ | refine wOps rfl ?_ | refine wDraw rfl rfl ?_ | simp only [seval, push_cast, ↓reduceIte, ↓bP_some, ↓aP_true, reduceCtorEq, ha, h1, h2]))
      rw [show (!decide (0 ≤ x ∧ x < n)) = false by rw [decide_eq_true (by omega)]; rfl]
      exact FnQ.at rfl ⟨rfl, rfl⟩
theorem containsFunc_a {H : Heap} {v : V} {l : List Int} {kf : Nat} {fs cs : List V} {p : Int → Bool} (hv : IsSl H v l) (hl : l.length < 4611686018427387904) (hf : ∀ x ∈ l, AFn L (.fn kf) (fs ++ [.int .i64 x] ++ cs) H (fun r H' => r = .bool (p x) ∧ H' = H)) : AFn L (.fn 32) [v, .fn kf fs cs] H (fun r H' => r = .bool (decide (0 ≤ findL p l 0)) ∧ H' = H) := by
  refine AFn.of_body (F := T32.1) (by rw [hL]; rfl) rfl ?_
  (repeat' (first | refine wSeq rfl ?_ | refine wBlock rfl ?_ | refine wSkip rfl ?_ | refine wExit rfl ?_ | refine wRet rfl ?_ | refine wCondT rfl rfl ?_ | refine wCondF rfl rfl ?_ | refine wOpsP rfl ?_ | refine wDraw rfl rfl ?_ | simp only [seval, push_cast, ↓reduceIte, ↓bP_some, ↓aP_true, reduceCtorEq]))
  refine opsP_all rfl (indexFunc_a hL hv hl hf) ?_
  rintro r h' ⟨rfl, rfl⟩
  (repeat' (first | refine wSeq rfl ?_ | refine wBlock rfl ?_ | refine wSkip rfl ?_ | refine wExit rfl ?_ | refine wRet rfl ?_ | refine wCondT rfl rfl ?_ | refine wCondF rfl rfl ?_ | refine wOps rfl ?_ | refine wDraw rfl rfl ?_ | simp only [seval, push_cast, ↓reduceIte, ↓bP_some, ↓aP_true, reduceCtorEq]))
  exact FnQ.at rfl ⟨rfl, rfl⟩
theorem fits1_a {H : Heap} {a : Nat} {n : Int} {v : V} {l : List Int} (ha : H.get a = some (.arr 1 [[.int .i64 n]])) (hv : IsSl H v l) (hl : l.length < 4611686018427387904) : AFn L (.fn 31) [v, .ptr a 1 0 0] H (fun r H' => r = .bool (ofL l n) ∧ H' = H) := by
  refine AFn.of_body (F := T31.1) (by rw [hL]; rfl) rfl ?_
  (repeat' (first | refine wSeq rfl ?_ | refine wBlock rfl ?_ | refine wSkip rfl ?_ | refine wExit rfl ?_ | refine wRet rfl ?_ | refine wCondT rfl rfl ?_ | refine wCondF rfl rfl ?_ | refine wOpsP rfl ?_ | refine wDraw rfl rfl ?_ | simp only [seval, push_cast, ↓reduceIte, ↓bP_some, ↓aP_true, reduceCtorEq]))
  refine opsP_all rfl (containsFunc_a hL (kf := 33) (fs := []) (cs := [.ptr a 1 0 0]) (p := fun x => !decide (0 ≤ x ∧ x < n)) hv hl (fun x _ => fits11_a hL ha x)) ?_
  rintro r h' ⟨rfl, rfl⟩
  rw [findL_of]
  (repeat' (first | refine wSeq rfl ?_ | refine wBlock rfl ?_ | refine wSkip rfl ?_ | refine wExit rfl ?_ | refine wRet rfl ?_ | refine wCondT rfl rfl ?_ | refine wCondF rfl rfl ?_ | refine wOps rfl ?_ | refine wDraw rfl rfl ?_ | simp only [seval, push_cast, ↓reduceIte, ↓bP_some, ↓aP_true, reduceCtorEq, Bool.not_not]))
  exact FnQ.at rfl ⟨rfl, rfl⟩
omit hL
theorem IsSl.nlv {H : Heap} {o : Nl Int} : IsSl H (nlv mrow 1 o) o.l := by
  obtain ⟨s, c, h1, h2⟩ := nlv_tl (f := mrow) (n := 1) (o := o)
  rw [h1]; exact IsSl.tl h2
theorem IsSl.one {H : Heap} {a : Nat} {x : Int} {c : Option Nat} (ha : H.get a = some (.arr 1 [[.int .i64 x]])) : IsSl H (.ref a 1 0 1 c) [x] :=
  ⟨rfl, fun i y hy => by
    match i with
    | 0 =>
      simp at hy; subst hy
      refine ⟨.ptr a 1 0 0, rfl, ?_⟩
      simp only [loadQ_ptr, ha]
      rfl
    | n + 1 => simp at hy⟩
include hL
theorem fits_v (o : Oc) (ho : okO o) (n : Int) : VFn L 13 [ocv o, .int .i64 n] (.bool (fitsO o n)) := by
  refine VFn.start (F := T13.1) (by rw [hL]; rfl) rfl (by simp [V.closeds, closed_ocv, V.closed]) rfl ?_
  obtain ⟨b1, ⟨b2, b2'⟩, b3, b3'⟩ := ho
  have sm : ∀ {q : Nl Int}, okI q → q.l.length < 4611686018427387904 := fun h => by unfold okI at h; omega
  (repeat' (first | refine wSeq rfl ?_ | refine wBlock rfl ?_ | refine wSkip rfl ?_ | refine wExit rfl ?_ | refine wRet rfl ?_ | refine wCondT rfl rfl ?_ | refine wCondF rfl rfl ?_ | refine wOpsP rfl ?_ | refine wDraw rfl rfl ?_ | simp only [seval, push_cast, ↓reduceIte, ↓bP_some, ↓aP_true, reduceCtorEq, ocv, occs]))
  refine opsP_all rfl (fits1_a hL (a := 1) rfl (IsSl.nlv (o := o.el)) (sm b1)) ?_
  rintro r h' ⟨rfl, rfl⟩
  cases h1 : ofL o.el.l n with
  | false =>
    (repeat' (first | refine wSeq rfl ?_ | refine wBlock rfl ?_ | refine wSkip rfl ?_ | refine wExit rfl ?_ | refine wRet rfl ?_ | refine wCondT rfl rfl ?_ | refine wCondF rfl rfl ?_ | refine wOps rfl ?_ | refine wDraw rfl rfl ?_ | simp only [seval, push_cast, ↓reduceIte, ↓bP_some, ↓aP_true, reduceCtorEq]))
    rw [show fitsO o n = false by simp [fitsO, h1]]
    exact FnQ.ret rfl rfl
  | true =>
    (repeat' (first | refine wSeq rfl ?_ | refine wBlock rfl ?_ | refine wSkip rfl ?_ | refine wExit rfl ?_ | refine wRet rfl ?_ | refine wCondT rfl rfl ?_ | refine wCondF rfl rfl ?_ | refine wOps rfl ?_ | refine wDraw rfl rfl ?_ | simp only [seval, push_cast, ↓reduceIte, ↓bP_some, ↓aP_true, reduceCtorEq]))
    refine wCntH rfl 19 o.rounds.l.length (fun _ => []) (fun _ => [some (.arr 3 [[nlv mrow 1 o.el, nlv rdrow 6 o.rounds, nlv tirow 2 o.ties]]), some (.arr 1 [[.int .i64 n]])]) (fun j => ((o.rounds.l.take j).all fun d => ofRd d n) = true) rfl rfl rfl ?_ ?_
    · intro j hj hI
      obtain ⟨d, hd, md⟩ := get_of hj
      have kd := b2' d md
      have w := wrap_succ (show j < 9223372036854775807 by omega)
      have bad : ofRd d n = false → fitsO o n = false := fun h => by simp only [fitsO, all_ff (p := fun d => ofRd d n) hd h, Bool.and_false, Bool.false_and]
      by_cases e1 : (d.had.l.length : Int) = n
      · (repeat' (first | refine wSeq rfl ?_ | refine wBlock rfl ?_ | refine wSkip rfl ?_ | refine wExit rfl ?_ | refine wRet rfl ?_ | refine wCondT rfl rfl ?_ | refine wCondF rfl rfl ?_ | refine wOpsP rfl ?_ | refine wDraw rfl rfl ?_ | simp only [seval, push_cast, ↓reduceIte, ↓bP_some, ↓aP_true, reduceCtorEq, iaQ_nlv hj, hd, hj, e1]))
        refine opsP_all rfl (fits1_a hL (a := 1) rfl (IsSl.nlv (o := d.el)) (sm kd.2.2.2.1)) ?_
        rintro r h' ⟨rfl, rfl⟩
        cases e2 : ofL d.el.l n with
        | false =>
          (repeat' (first | refine wSeq rfl ?_ | refine wBlock rfl ?_ | refine wSkip rfl ?_ | refine wExit rfl ?_ | refine wRet rfl ?_ | refine wCondT rfl rfl ?_ | refine wCondF rfl rfl ?_ | refine wOps rfl ?_ | refine wDraw rfl rfl ?_ | simp only [seval, push_cast, ↓reduceIte, ↓bP_some, ↓aP_true, reduceCtorEq]))
          rw [bad (by simp [ofRd, e2])]
          exact FnQ.ret rfl rfl
        | true =>
          (repeat' (first | refine wSeq rfl ?_ | refine wBlock rfl ?_ | refine wSkip rfl ?_ | refine wExit rfl ?_ | refine wRet rfl ?_ | refine wCondT rfl rfl ?_ | refine wCondF rfl rfl ?_ | refine wOpsP rfl ?_ | refine wDraw rfl rfl ?_ | simp only [seval, push_cast, ↓reduceIte, ↓bP_some, ↓aP_true, reduceCtorEq]))
          refine opsP_all rfl (fits1_a hL (a := 1) rfl (IsSl.nlv (o := d.out)) (sm kd.2.2.2.2)) ?_
          rintro r h' ⟨rfl, rfl⟩
          cases e3 : ofL d.out.l n with
          | false =>
            (repeat' (first | refine wSeq rfl ?_ | refine wBlock rfl ?_ | refine wSkip rfl ?_ | refine wExit rfl ?_ | refine wRet rfl ?_ | refine wCondT rfl rfl ?_ | refine wCondF rfl rfl ?_ | refine wOps rfl ?_ | refine wDraw rfl rfl ?_ | simp only [seval, push_cast, ↓reduceIte, ↓bP_some, ↓aP_true, reduceCtorEq]))
            rw [bad (by simp [ofRd, e3])]
            exact FnQ.ret rfl rfl
          | true =>
            (repeat' (first | refine wSeq rfl ?_ | refine wBlock rfl ?_ | refine wSkip rfl ?_ | refine wExit rfl ?_ | refine wRet rfl ?_ | refine wCondT rfl rfl ?_ | refine wCondF rfl rfl ?_ | refine wOps rfl ?_ | refine wDraw rfl rfl ?_ | simp only [seval, push_cast, ↓reduceIte, ↓bP_some, ↓aP_true, reduceCtorEq, w]))
            exact qR_s [some 0, some 1] [] rfl (by simp only [Env.sh, List.map_cons, List.map_nil, ren_nlv]; rfl) (sh_c (sh_k rfl (by simp [Blk.closed, closed_nlv])) (sh_c (sh_k rfl rfl) sh_n)) (all_take hI hd (by simp [ofRd, e1, e2, e3]))
      · (repeat' (first | refine wSeq rfl ?_ | refine wBlock rfl ?_ | refine wSkip rfl ?_ | refine wExit rfl ?_ | refine wRet rfl ?_ | refine wCondT rfl rfl ?_ | refine wCondF rfl rfl ?_ | refine wOps rfl ?_ | refine wDraw rfl rfl ?_ | simp only [seval, push_cast, ↓reduceIte, ↓bP_some, ↓aP_true, reduceCtorEq, iaQ_nlv hj, hd, hj, e1, ne_both e1]))
        rw [bad (by simp [ofRd, e1])]
        exact FnQ.ret rfl rfl
    · intro hR
      rw [take_all] at hR
      (repeat' (first | refine wSeq rfl ?_ | refine wBlock rfl ?_ | refine wSkip rfl ?_ | refine wExit rfl ?_ | refine wRet rfl ?_ | refine wCondT rfl rfl ?_ | refine wCondF rfl rfl ?_ | refine wOps rfl ?_ | refine wDraw rfl rfl ?_ | simp only [seval, push_cast, ↓reduceIte, ↓bP_some, ↓aP_true, reduceCtorEq]))
      refine wCntH rfl 46 o.ties.l.length (fun _ => []) (fun _ => [some (.arr 3 [[nlv mrow 1 o.el, nlv rdrow 6 o.rounds, nlv tirow 2 o.ties]]), some (.arr 1 [[.int .i64 n]])]) (fun j => ((o.ties.l.take j).all fun t => ofTi t n) = true) rfl rfl rfl ?_ ?_
      · intro j hj hI
        obtain ⟨t, ht, mt⟩ := get_of hj
        have kt := b3' t mt
        have w := wrap_succ (show j < 9223372036854775807 by omega)
        have bad : ofTi t n = false → fitsO o n = false := fun h => by simp only [fitsO, all_ff (p := fun t => ofTi t n) ht h, Bool.and_false]
        (repeat' (first | refine wSeq rfl ?_ | refine wBlock rfl ?_ | refine wSkip rfl ?_ | refine wExit rfl ?_ | refine wRet rfl ?_ | refine wCondT rfl rfl ?_ | refine wCondF rfl rfl ?_ | refine wOpsP rfl ?_ | refine wDraw rfl rfl ?_ | simp only [seval, push_cast, ↓reduceIte, ↓bP_some, ↓aP_true, reduceCtorEq, iaQ_nlv hj, ht, hj]))
        refine opsP_all rfl (fits1_a hL (a := 1) rfl (IsSl.nlv (o := t.among)) (sm kt)) ?_
        rintro r h' ⟨rfl, rfl⟩
        cases e1 : ofL t.among.l n with
        | false =>
          (repeat' (first | refine wSeq rfl ?_ | refine wBlock rfl ?_ | refine wSkip rfl ?_ | refine wExit rfl ?_ | refine wRet rfl ?_ | refine wCondT rfl rfl ?_ | refine wCondF rfl rfl ?_ | refine wOps rfl ?_ | refine wDraw rfl rfl ?_ | simp only [seval, push_cast, ↓reduceIte, ↓bP_some, ↓aP_true, reduceCtorEq]))
          rw [bad (by simp [ofTi, e1])]
          exact FnQ.ret rfl rfl
        | true =>
          (repeat' (first | refine wSeq rfl ?_ | refine wBlock rfl ?_ | refine wSkip rfl ?_ | refine wExit rfl ?_ | refine wRet rfl ?_ | refine wCondT rfl rfl ?_ | refine wCondF rfl rfl ?_ | refine wOpsP rfl ?_ | refine wDraw rfl rfl ?_ | simp only [seval, push_cast, ↓reduceIte, ↓bP_some, ↓aP_true, reduceCtorEq]))
          refine opsP_all rfl (fits1_a hL (a := 1) rfl (IsSl.one (a := 3) (x := t.chosen) rfl) (by simp)) ?_
          rintro r h' ⟨rfl, rfl⟩
          cases e2 : ofL [t.chosen] n with
          | false =>
            (repeat' (first | refine wSeq rfl ?_ | refine wBlock rfl ?_ | refine wSkip rfl ?_ | refine wExit rfl ?_ | refine wRet rfl ?_ | refine wCondT rfl rfl ?_ | refine wCondF rfl rfl ?_ | refine wOps rfl ?_ | refine wDraw rfl rfl ?_ | simp only [seval, push_cast, ↓reduceIte, ↓bP_some, ↓aP_true, reduceCtorEq]))
            rw [bad (by simp [ofTi, e2])]
            exact FnQ.ret rfl rfl
          | true =>
            (repeat' (first | refine wSeq rfl ?_ | refine wBlock rfl ?_ | refine wSkip rfl ?_ | refine wExit rfl ?_ | refine wRet rfl ?_ | refine wCondT rfl rfl ?_ | refine wCondF rfl rfl ?_ | refine wOps rfl ?_ | refine wDraw rfl rfl ?_ | simp only [seval, push_cast, ↓reduceIte, ↓bP_some, ↓aP_true, reduceCtorEq, w]))
            exact qR_s [some 0, some 1] [] rfl (by simp only [Env.sh, List.map_cons, List.map_nil, ren_nlv]; rfl) (sh_c (sh_k rfl (by simp [Blk.closed, closed_nlv])) (sh_c (sh_k rfl rfl) sh_n)) (all_take hI ht (by simp [ofTi, e1, e2]))
      · intro hI
        rw [take_all] at hI
        (repeat' (first | refine wSeq rfl ?_ | refine wBlock rfl ?_ | refine wSkip rfl ?_ | refine wExit rfl ?_ | refine wRet rfl ?_ | refine wCondT rfl rfl ?_ | refine wCondF rfl rfl ?_ | refine wOps rfl ?_ | refine wDraw rfl rfl ?_ | simp only [seval, push_cast, ↓reduceIte, ↓bP_some, ↓aP_true, reduceCtorEq]))
        rw [show fitsO o n = true by simp only [fitsO, h1, hR, hI, Bool.and_self]]
        exact FnQ.ret rfl rfl
end Go.Proofs.YtkpfhnicdlgjiaaGreat
set_option maxRecDepth 100000
set_option maxHeartbeats 1000000
set_option linter.unusedVariables false
set_option linter.unusedSimpArgs false
namespace Go.Proofs.YtkpfhnicdlgjiaaGreat
theorem set_same {H : Heap} {a : Nat} {x : Blk} (h : H.get a = some x) : H.set a (some x) = H := by
  have hl := get_len h
  apply List.ext_getElem?
  intro i
  by_cases e : i = a
  · subst e
    rw [List.getElem?_set_self hl, List.getElem?_eq_getElem hl]
    unfold Heap.get at h
    rw [List.getElem?_eq_getElem hl] at h
    simpa using h.symm
  · rw [List.getElem?_set_ne (Ne.symm e)]
theorem ren_mid {p q : List Int} {j : Nat} {x : Int} (h : q[j]? = some x) : (((q.take j).map (imL p) ++ q.drop j).map mrow).set j [.int .i64 (imL p x)] = ((q.take (j + 1)).map (imL p) ++ q.drop (j + 1)).map mrow := by
  have hj := (List.getElem?_eq_some_iff.1 h).1
  have e : j - ((q.take j).map (imL p)).length = 0 := by simp; omega
  rw [← mrow_eq, ← List.map_set, drop_atc h, List.set_append_right _ _ (by simp; omega), take_snoc h, e]
  congr 1
  simp
theorem ren_at {p q : List Int} {j : Nat} {x : Int} (h : q[j]? = some x) : ((q.take j).map (imL p) ++ q.drop j)[j]? = some x := by
  have hj := (List.getElem?_eq_some_iff.1 h).1
  rw [List.getElem?_append_right (by simp; omega)]
  have : j - ((q.take j).map (imL p)).length = 0 := by simp; omega
  rw [this, drop_atc h]; rfl
variable {L : Lib} (hL : L.T = tab.get)
include hL
theorem ren1_r {G : Heap} {a pb : Nat} {p : Nl Int} {q : List Int} {c : Option Nat} (hp : G.get pb = some (.arr 1 [[nlv mrow 1 p]])) (ha : G.get a = some (.arr 1 (q.map mrow))) (hne : pb ≠ a) (hr : ∀ x ∈ q, 0 ≤ x ∧ x < p.l.length) (hq : q.length < 4611686018427387904) :
    AFn L (.fn 15) [.ref a 1 0 q.length c, .ptr pb 1 0 0] G (fun r G' => r = .tup [] ∧ G' = G.set a (some (.arr 1 ((q.map (imL p.l)).map mrow)))) := by
  refine AFn.of_body (F := T15.1) (by rw [hL]; rfl) rfl ?_
  have hal := get_len ha
  have g1 : ∀ X, Heap.get (G.set a X) pb = some (.arr 1 [[nlv mrow 1 p]]) := fun X => by rw [get_set_ne hne]; exact hp
  have g2 : ∀ X, Heap.get (G.set a X) a = X := fun X => get_set_eq hal
  (repeat' (first | refine wSeq rfl ?_ | refine wBlock rfl ?_ | refine wSkip rfl ?_ | refine wExit rfl ?_ | refine wRet rfl ?_ | refine wCondT rfl rfl ?_ | refine wCondF rfl rfl ?_ | refine wOps rfl ?_ | refine wDraw rfl rfl ?_ | simp only [seval, push_cast, ↓reduceIte, ↓bP_some, ↓aP_true, reduceCtorEq]))
  refine wCntH rfl 7 q.length (fun _ => []) (fun j => G.set a (some (.arr 1 (((q.take j).map (imL p.l) ++ q.drop j).map mrow)))) (fun _ => True) rfl ?_ trivial ?_ ?_
  · simp only [List.take_zero, List.map_nil, List.nil_append, List.drop_zero]
    exact (set_same ha).symm
  · intro j hj _
    obtain ⟨x, hx, mx⟩ := get_of hj
    have hrg := hr x mx
    obtain ⟨n, rfl⟩ : ∃ n : Nat, x = n := ⟨x.toNat, by omega⟩
    have hn : n < p.l.length := by omega
    obtain ⟨y, hy, _⟩ := get_of hn
    have him : imL p.l (n : Int) = y := by simp [imL, hy]
    have w := wrap_succ (show j < 9223372036854775807 by omega)
    have e1 := ren_at (p := p.l) hx
    have e2 := ren_mid (p := p.l) hx
    rw [him] at e2
    have hlt : a < (G.set a (some (.arr 1 (((q.take j).map (imL p.l) ++ q.drop j).map mrow)))).length := by rw [List.length_set]; exact hal
    (repeat' (first | refine wSeq rfl ?_ | refine wBlock rfl ?_ | refine wSkip rfl ?_ | refine wExit rfl ?_ | refine wRet rfl ?_ | refine wCondT rfl rfl ?_ | refine wCondF rfl rfl ?_ | refine wOps rfl ?_ | refine wDraw rfl rfl ?_ | simp only [seval, push_cast, ↓reduceIte, ↓bP_some, ↓aP_true, reduceCtorEq, hj, g1, g2, e1, hy, iaQ_nlv hn, w, hal, List.length_set, row_tl, e2, List.set_set]))
    exact qR_n rfl rfl trivial
  · intro _
    rw [take_all, List.drop_eq_nil_of_le (Nat.le_refl _), List.append_nil]
    (repeat' (first | refine wSeq rfl ?_ | refine wBlock rfl ?_ | refine wSkip rfl ?_ | refine wExit rfl ?_ | refine wRet rfl ?_ | refine wCondT rfl rfl ?_ | refine wCondF rfl rfl ?_ | refine wOps rfl ?_ | refine wDraw rfl rfl ?_ | simp only [seval, push_cast, ↓reduceIte, ↓bP_some, ↓aP_true, reduceCtorEq]))
    refine (if_pos (by rfl)).mpr ?_
    exact FnQ.atN rfl ⟨rfl, rfl⟩
theorem ren1_0 {G : Heap} {pb : Nat} {v : V} (hv : lenQ v = some (.int .i64 0)) : AFn L (.fn 15) [v, .ptr pb 1 0 0] G (fun r G' => r = .tup [] ∧ G' = G) := by
  refine AFn.of_body (F := T15.1) (by rw [hL]; rfl) rfl ?_
  (repeat' (first | refine wSeq rfl ?_ | refine wBlock rfl ?_ | refine wSkip rfl ?_ | refine wExit rfl ?_ | refine wRet rfl ?_ | refine wCondT rfl rfl ?_ | refine wCondF rfl rfl ?_ | refine wOps rfl ?_ | refine wDraw rfl rfl ?_ | simp only [seval, push_cast, ↓reduceIte, ↓bP_some, ↓aP_true, reduceCtorEq, hv]))
  refine wCntH rfl 7 0 (fun _ => []) (fun _ => G) (fun _ => True) rfl rfl trivial (fun j hj => absurd hj (by omega)) (fun _ => ?_)
  (repeat' (first | refine wSeq rfl ?_ | refine wBlock rfl ?_ | refine wSkip rfl ?_ | refine wExit rfl ?_ | refine wRet rfl ?_ | refine wCondT rfl rfl ?_ | refine wCondF rfl rfl ?_ | refine wOps rfl ?_ | refine wDraw rfl rfl ?_ | simp only [seval, push_cast, ↓reduceIte, ↓bP_some, ↓aP_true, reduceCtorEq]))
  refine (if_pos (by rfl)).mpr ?_
  exact FnQ.atN rfl ⟨rfl, rfl⟩
theorem ren1_o {G : Heap} {pb : Nat} {p : Nl Int} {v : V} {o : Nl Int} {F : FP} (hp : G.get pb = some (.arr 1 [[nlv mrow 1 p]])) (hF : ¬ F pb) (ho : OwnLf mrow 1 G.get v o F) (hr : ∀ x ∈ o.l, 0 ≤ x ∧ x < p.l.length) (hq : o.l.length < 4611686018427387904) :
    AFn L (.fn 15) [v, .ptr pb 1 0 0] G (fun r G' => r = .tup [] ∧ G'.length = G.length ∧ (∀ b, ¬ F b → G'.get b = G.get b) ∧ OwnLf mrow 1 G'.get v (o.map (·.map (imL p.l))) F) := by
  cases o with
  | none =>
    obtain rfl : v = _ := ho
    exact (ren1_0 hL rfl).mono (fun r G' ⟨e1, e2⟩ => by subst e2; exact ⟨e1, rfl, fun _ _ => rfl, rfl⟩)
  | some q =>
    rcases ho with ⟨rfl, c, rfl⟩ | ⟨a, c, rfl, h2, h3⟩
    · exact (ren1_0 hL rfl).mono (fun r G' ⟨e1, e2⟩ => by subst e2; exact ⟨e1, rfl, fun _ _ => rfl, .inl ⟨rfl, c, rfl⟩⟩)
    · refine (ren1_r hL hp h2 (fun e => hF (e ▸ h3)) hr hq).mono (fun r G' ⟨e1, e2⟩ => ?_)
      subst e2
      refine ⟨e1, List.length_set, fun b hb => get_set_ne (fun e => hb (e ▸ h3)), .inr ⟨a, c, by simp, ?_, h3⟩⟩
      rw [get_set_eq (get_len h2)]
end Go.Proofs.YtkpfhnicdlgjiaaGreat
set_option maxRecDepth 100000
set_option maxHeartbeats 1000000
set_option linter.unusedVariables false
set_option linter.unusedSimpArgs false
namespace Go.Proofs.YtkpfhnicdlgjiaaGreat
/-- A function of values that makes blocks, called over memory in use. -/
theorem AFn.up {L : Lib} {k : Nat} {vs : List V} {Post : V → Heap → Prop} (hc : V.closeds vs = true) (h : AFn L (.fn k) vs [] Post) (H : Heap) : AFn L (.fn k) vs H (fun r H' => ∃ r0 h0, Post r0 h0 ∧ r = r0.ren (upσ H.length) ∧ H' = H ++ h0.map (Option.map (Blk.ren (upσ H.length)))) := by
  have e1 : vs.map (V.ren (sgOf H ([].map some) [])) = vs := by rw [← V.rens_map]; exact V.rens_closed _ hc
  refine AFn.frame (k' := .fn k) [] [] rfl rfl rfl ?_
  rw [e1]
  refine AFn.mono (show AFn L (.fn k) vs [] _ from h) ?_
  intro r' H' hp
  refine ⟨rfl, r', H', hp, by rw [outσ_nil], ?_⟩
  simp [Heap.back, Heap.upds, outσ_nil]
theorem up_at {H h0 : Heap} {b : Nat} {B : Blk} (h : h0.get b = some B) : Heap.get (H ++ h0.map (Option.map (Blk.ren (upσ H.length)))) (H.length + b) = some (B.ren (upσ H.length)) := by
  rw [get_app_r (by omega), Nat.add_sub_cancel_left, get_ren, h]; rfl
/-- A slice whose rows own what they point to, in its block. -/
structure SlAt {α : Type} (R : HG → List V → α → FP → Prop) (n : Nat) (h : HG) (a : Nat) (l : List α) (rs : List (List V)) (g : Nat → Nat) (F : FP) : Prop where
  at' : h a = some (.arr n rs)
  own : F a
  len : rs.length = l.length
  row : ∀ (i : Nat) (row : List V) (x : α), rs[i]? = some row → l[i]? = some x → R h row x (fun b => (F b ∧ b ≠ a) ∧ g b = i)
section
variable {α : Type} {R : HG → List V → α → FP → Prop} {n : Nat} {h h' : HG} {a : Nat} {l : List α} {rs : List (List V)} {g g' : Nat → Nat} {F F' : FP}
theorem SlAt.up (hR : LocR R) (H : SlAt R n h a l rs g F) {i : Nat} {x' : α} {row' : List V} (h1 : h' a = some (.arr n (rs.set i row'))) (h2 : ∀ b, F b → b ≠ a → g b ≠ i → h' b = h b) (hF : ∀ b, F b → F' b) (hg : ∀ b, F b → b ≠ a → g' b = g b) (h3 : R h' row' x' (fun b => (F' b ∧ b ≠ a) ∧ g' b = i)) : SlAt R n h' a (l.set i x') (rs.set i row') g' F' := by
  refine ⟨h1, hF _ H.own, by simp [H.len], fun j row x hr hx => ?_⟩
  by_cases e : i = j
  · subst e
    have hi := (List.getElem?_eq_some_iff.1 hx).1
    have hi' := (List.getElem?_eq_some_iff.1 hr).1
    simp only [List.length_set] at hi hi'
    rw [List.getElem?_set_self hi'] at hr
    rw [List.getElem?_set_self hi] at hx
    cases hr; cases hx
    exact h3
  · rw [List.getElem?_set_ne e] at hr hx
    exact hR _ _ _ _ _ _ (H.row j row x hr hx) (fun b hb => ⟨⟨⟨hF _ hb.1.1, hb.1.2⟩, by rw [hg b hb.1.1 hb.1.2]; exact hb.2⟩, h2 b hb.1.1 hb.1.2 (by rw [hb.2]; exact Ne.symm e)⟩)
theorem SlAt.sl (H : SlAt R n h a l rs g F) (c : Option Nat) : OwnSl R n h (.ref a n 0 l.length c) (some l) F := .inr ⟨a, c, rs, g, rfl, H.at', H.own, H.len, H.row⟩
end
/-- A list with its first j changed. -/
def upto {α : Type} (f : α → α) (l : List α) (j : Nat) : List α := (l.take j).map f ++ l.drop j
theorem upto_len {α : Type} {f : α → α} {l : List α} {j : Nat} : (upto f l j).length = l.length := by simp [upto]; omega
theorem upto_0 {α : Type} {f : α → α} {l : List α} : upto f l 0 = l := by simp [upto]
theorem upto_all {α : Type} {f : α → α} {l : List α} : upto f l l.length = l.map f := by simp [upto]
theorem upto_at {α : Type} {f : α → α} {l : List α} {j : Nat} {x : α} (h : l[j]? = some x) : (upto f l j)[j]? = some x := by
  have hj := (List.getElem?_eq_some_iff.1 h).1
  unfold upto
  rw [List.getElem?_append_right (by simp; omega)]
  have : j - ((l.take j).map f).length = 0 := by simp; omega
  rw [this, drop_atc h]; rfl
theorem upto_set {α : Type} {f : α → α} {l : List α} {j : Nat} {x : α} (h : l[j]? = some x) : (upto f l j).set j (f x) = upto f l (j + 1) := by
  have hj := (List.getElem?_eq_some_iff.1 h).1
  have e : j - ((l.take j).map f).length = 0 := by simp; omega
  unfold upto
  rw [drop_atc h, List.set_append_right _ _ (by simp; omega), take_snoc h, e]
  simp
variable {L : Lib} (hL : L.T = tab.get)
include hL
theorem twin_v (o : Oc) (ho : okO o) : VFn L 14 [ocv o] (ocv o) := by
  have h := AFn.whole (P := fun r => r = ocv o) ((twin_o hL o ho).mono (fun r H' h => ⟨5, _, h.deep, rfl⟩))
  exact ⟨by simp [V.closeds, closed_ocv], closed_ocv o, h⟩
theorem twin_up (o : Oc) (ho : okO o) (H : Heap) : AFn L (.fn 14) [ocv o] H (fun r H' => H.length ≤ H'.length ∧ (∀ b, b < H.length → H'.get b = H.get b) ∧ OwnOc H'.get r o (fun b => H.length ≤ b ∧ b < H'.length)) := by
  refine (AFn.up (by simp [V.closeds, closed_ocv]) (twin_o hL o ho) H).mono ?_
  rintro r H' ⟨r0, h0, hp, rfl, rfl⟩
  refine ⟨by simp, fun b hb => get_app_l hb, ?_⟩
  refine (OwnOc.up hp (fun b B hb => up_at hb)).loc (fun b hb => ⟨⟨hb.1, ?_⟩, rfl⟩)
  have h1 := hb.1
  have h2 := hb.2
  simp only [List.length_append, List.length_map]
  omega
/-- Numbers sorted in place. -/
theorem sort_o (hS : SortOk L) {G : Heap} {v : V} {o : Nl Int} {F : FP} (ho : OwnLf mrow 1 G.get v o F) (hr : ∀ x ∈ o.l, 0 ≤ x ∧ x < 10) (hq : o.l.length < 4611686018427387904) :
    AFn L (.fn 17) [v] G (fun r G' => r = .tup [] ∧ G'.length = G.length ∧ (∀ b, ¬ F b → G'.get b = G.get b) ∧ OwnLf mrow 1 G'.get v (o.map risingL) F) := by
  cases o with
  | none =>
    obtain rfl : v = _ := ho
    exact (sort0_a hL _ rfl G).mono (fun r G' ⟨e1, e2⟩ => by subst e2; exact ⟨e1, rfl, fun _ _ => rfl, rfl⟩)
  | some q =>
    rcases ho with ⟨rfl, c, rfl⟩ | ⟨a, c, rfl, h2, h3⟩
    · exact (sort0_a hL _ rfl G).mono (fun r G' ⟨e1, e2⟩ => by subst e2; exact ⟨e1, rfl, fun _ _ => rfl, .inl ⟨rfl, c, rfl⟩⟩)
    · by_cases hq0 : q = []
      · subst hq0
        exact (sort0_a hL _ rfl G).mono (fun r G' ⟨e1, e2⟩ => by subst e2; exact ⟨e1, rfl, fun _ _ => rfl, .inr ⟨a, c, rfl, h2, h3⟩⟩)
      · have hlt := get_len h2
        have hs : sgOf G ([a].map some) [] a = .to 0 := by simp [sgOf, posIn]
        refine AFn.frame (k' := .fn 17) [a] [] rfl rfl (by simpa using hlt) ?_
        have e1 : [V.ref a 1 0 q.length c].map (V.ren (sgOf G ([a].map some) [])) = [.ref 0 1 0 q.length c] := by
          simp only [List.map_cons, List.map_nil, V.ren]
          rw [show sgOf G [some a] [] a = .to 0 from hs]
        have e2 : G.sh ([a].map some) [] = [some (.arr 1 (q.map mrow))] := by
          unfold Heap.sh
          simp only [List.map_cons, List.map_nil, Option.bind_some, h2, Option.map_some]
          rw [ren_tl closed_mrow]
        rw [e1, e2]
        refine (hS q c (List.length_pos_iff.2 hq0) hq).mono ?_
        rintro r h' ⟨rfl, m, m1, m2, rfl⟩
        have hm : m = risingL q := rising_eq hr m1 m2
        have e3 : G.back [a] [some (.arr 1 (m.map mrow))] = G.set a (some (.arr 1 (m.map mrow))) := by
          show G.set a (Option.map (Blk.ren (outσ G.length [a])) (some (.arr 1 (m.map mrow)))) ++ [] = _
          rw [List.append_nil, Option.map_some, ren_tl closed_mrow]
        refine ⟨rfl, ren_tup0, ?_⟩
        rw [e3]
        refine ⟨List.length_set, fun b hb => get_set_ne (fun e => hb (e ▸ h3)), .inr ⟨a, c, by rw [← hm, m1.length_eq], ?_, h3⟩⟩
        rw [get_set_eq hlt, hm]
end Go.Proofs.YtkpfhnicdlgjiaaGreat
set_option maxRecDepth 100000
set_option maxHeartbeats 1000000
set_option linter.unusedVariables false
set_option linter.unusedSimpArgs false
namespace Go.Proofs.YtkpfhnicdlgjiaaGreat
theorem res_cell2 {E : Nat → Option V} {H : Heap} {t u a n : Nat} {row : List V} {x : V} (hE : E t = some (.ptr a n 0 0)) (hx : E u = some x) (hH : H.get a = some (.arr n [row])) (hl : row.length = n) : resV E H.get [.cell t n false, .t u] = some (.tup [.agg row, x]) := by
  simp only [resV, resVs, resV1, hE, hx, Option.bind_some, V.psz, loadV, shG, hH, Option.map_some, shape_same]
  simp [takeCells, ← hl]
/-- What the code that renames has in memory, beside the rounds and ties. -/
structure RnG (p : Nl Int) (o2 a6 : Nat) (ve vr vt : V) (el : Nl Int) (FE FR FT : FP) (H : Heap) : Prop where
  g1 : H.get 1 = some (.arr 1 [[nlv mrow 1 p]])
  g2 : H.get 2 = some (.arr 3 [[.lst 0 [] (some 0), .lst 0 [] (some 0), .lst 0 [] (some 0)]])
  g6 : H.get a6 = some (.arr 3 [[ve, vr, vt]])
  oe : OwnLf mrow 1 H.get ve el FE
  a6_2 : 2 < a6
  fe : ∀ b, FE b → 2 < b ∧ b < H.length ∧ b ≠ a6 ∧ ¬ FR b ∧ ¬ FT b
  fr : ∀ b, FR b → 2 < b ∧ b < H.length ∧ b ≠ a6 ∧ ¬ FT b
  ft : ∀ b, FT b → 2 < b ∧ b < H.length ∧ b ≠ a6
variable {L : Lib} (hL : L.T = tab.get)
include hL
theorem rename_3 (hS : SortOk L) (p : Nl Int) (hp : okI p) (ht : turnedL p.l = true) (el : Nl Int) (rd : Nl Rd) (ti : Nl Ti) (hti : ti.l.length * 32 ≤ 140737488351232 ∧ ∀ t ∈ ti.l, okTi t) (hf : ∀ t ∈ ti.l, ofTi t p.l.length = true) (H : Heap) (a6 : Nat) (ve vr vt : V) (FE FR FT : FP) (hG : RnG p 2 a6 ve vr vt el FE FR FT H)
    (hR : OwnSl OwnRd 6 H.get vr rd FR) (hT : OwnSl OwnTi 2 H.get vt ti FT) :
    SWP L 0 T6.val.ntmps T6.val.body.r.r.r.r.r.r (FnQ T6.val 0 (fun r H' => ∃ v, r = .tup [v, .int .i64 0] ∧ OwnOc H'.get v ⟨el, rd, ti.map (·.map (renTi p.l))⟩ (fun b => b < H'.length))) [(2, .ptr 0 3 0 0), (3, .ptr 1 1 0 0), (4, .ptr 2 3 0 0), (6, .ptr a6 3 0 0), (7, .fn 15 [] [.ptr 1 1 0 0])] H := by
  have q6 := hG.g6
  have q2l := get_len hG.g2
  have fin : ∀ G : Heap, G.length = H.length → (∀ b, ¬ FT b → G.get b = H.get b) → OwnSl OwnTi 2 G.get vt (ti.map (·.map (renTi p.l))) FT → OwnOc (Heap.get (G.set 2 (some (.arr 3 [[ve, vr, vt]])))) (.agg [ve, vr, vt]) ⟨el, rd, ti.map (·.map (renTi p.l))⟩ (fun b => b < (G.set 2 (some (.arr 3 [[ve, vr, vt]]))).length) := by
    intro G e1 e2 e3
    have gs : ∀ b, b ≠ 2 → Heap.get (G.set 2 (some (.arr 3 [[ve, vr, vt]]))) b = G.get b := fun b hb => get_set_ne hb
    rw [List.length_set, e1]
    refine ⟨_, _, _, fun b => @ite _ (FE b) (Classical.propDecidable _) 0 (@ite _ (FR b) (Classical.propDecidable _) 1 2), rfl, hG.oe.loc (fun b hb => ?_), hR.loc loc_rd (fun b hb => ?_), e3.loc loc_ti (fun b hb => ?_)⟩
    · obtain ⟨q1, q2, q3, q4, q5⟩ := hG.fe b hb
      exact ⟨⟨q2, if_pos hb⟩, by rw [gs b (by omega), e2 b q5]⟩
    · obtain ⟨q1, q2, q3, q4⟩ := hG.fr b hb
      exact ⟨⟨q2, (if_neg (fun h => (hG.fe b h).2.2.2.1 hb)).trans (if_pos hb)⟩, by rw [gs b (by omega), e2 b q4]⟩
    · obtain ⟨q1, q2, q3⟩ := hG.ft b hb
      exact ⟨⟨q2, (if_neg (fun h => (hG.fe b h).2.2.2.2 hb)).trans (if_neg (fun h => (hG.fr b h).2.2.2 hb))⟩, gs b (by omega)⟩
  have zero : lenQ vt = some (.int .i64 0) → OwnSl OwnTi 2 H.get vt (ti.map (·.map (renTi p.l))) FT → SWP L 0 T6.val.ntmps T6.val.body.r.r.r.r.r.r (FnQ T6.val 0 (fun r H' => ∃ v, r = .tup [v, .int .i64 0] ∧ OwnOc H'.get v ⟨el, rd, ti.map (·.map (renTi p.l))⟩ (fun b => b < H'.length))) [(2, .ptr 0 3 0 0), (3, .ptr 1 1 0 0), (4, .ptr 2 3 0 0), (6, .ptr a6 3 0 0), (7, .fn 15 [] [.ptr 1 1 0 0])] H := by
    intro hv ho
    (repeat' (first | refine wSeq rfl ?_ | refine wBlock rfl ?_ | refine wSkip rfl ?_ | refine wExit rfl ?_ | refine wRet rfl ?_ | refine wCondT rfl rfl ?_ | refine wCondF rfl rfl ?_ | refine wOps rfl ?_ | refine wDraw rfl rfl ?_ | simp only [seval, push_cast, ↓reduceIte, ↓bP_some, ↓aP_true, reduceCtorEq, q6, hv]))
    refine wCntH rfl 82 0 (fun _ => []) (fun _ => H) (fun _ => True) rfl rfl trivial (fun j hj => absurd hj (by omega)) (fun _ => ?_)
    (repeat' (first | refine wSeq rfl ?_ | refine wBlock rfl ?_ | refine wSkip rfl ?_ | refine wExit rfl ?_ | refine wRet rfl ?_ | refine wCondT rfl rfl ?_ | refine wCondF rfl rfl ?_ | refine wOps rfl ?_ | refine wDraw rfl rfl ?_ | simp only [seval, push_cast, ↓reduceIte, ↓bP_some, ↓aP_true, reduceCtorEq, q6, q2l, hG.g2]))
    exact FnQ.at (res_cell2 rfl rfl (get_set_eq q2l) rfl) ⟨_, rfl, fin H rfl (fun _ _ => rfl) ho⟩
  cases ti with
  | none =>
    obtain rfl : vt = _ := hT
    exact zero rfl rfl
  | some l =>
    rcases hT with ⟨rfl, c, rfl⟩ | ⟨a, c, rs0, g, rfl, k1, k2, k3, k4⟩
    · exact zero rfl (.inl ⟨rfl, c, rfl⟩)
    replace hti : l.length * 32 ≤ 140737488351232 ∧ ∀ t ∈ l, okTi t := hti
    replace hf : ∀ t ∈ l, ofTi t p.l.length = true := hf
    have ka : SlAt OwnTi 2 H.get a (upto (renTi p.l) l 0) rs0 g FT := by rw [upto_0]; exact ⟨k1, k2, k3, k4⟩
    have hlen := turned_len ht
    (repeat' (first | refine wSeq rfl ?_ | refine wBlock rfl ?_ | refine wSkip rfl ?_ | refine wExit rfl ?_ | refine wRet rfl ?_ | refine wCondT rfl rfl ?_ | refine wCondF rfl rfl ?_ | refine wOps rfl ?_ | refine wDraw rfl rfl ?_ | simp only [seval, push_cast, ↓reduceIte, ↓bP_some, ↓aP_true, reduceCtorEq, q6]))
    refine wWhile (σ := Nat × Heap) rfl (fun s => [(3, .ptr 1 1 0 0), (4, .ptr 2 3 0 0), (6, .ptr a6 3 0 0), (7, .fn 15 [] [.ptr 1 1 0 0]), (81, .int .i64 l.length), (82, .int .i64 (s.1 : Nat))]) (fun s => s.2) (fun s => l.length - s.1) (fun s => s.1 ≤ l.length ∧ s.2.length = H.length ∧ (∀ b, ¬ FT b → s.2.get b = H.get b) ∧ ∃ rs, SlAt OwnTi 2 s.2.get a (upto (renTi p.l) l s.1) rs g FT) (0, H) rfl rfl ⟨Nat.zero_le _, rfl, fun _ _ => rfl, _, ka⟩ ?_
    rintro ⟨j, G⟩ ⟨hj, hl, ho, rs, hs⟩
    dsimp only at hj hl ho hs ⊢
    have n1 : ¬ FT 1 := fun h => by have := (hG.ft 1 h).1; omega
    have n6 : ¬ FT a6 := fun h => (hG.ft a6 h).2.2 rfl
    have n2 : ¬ FT 2 := fun h => by have := (hG.ft 2 h).1; omega
    have g1 : G.get 1 = some (.arr 1 [[nlv mrow 1 p]]) := by rw [ho 1 n1]; exact hG.g1
    have g6 : G.get a6 = some (.arr 3 [[ve, vr, .ref a 2 0 l.length c]]) := by rw [ho a6 n6]; exact q6
    have g2l : 2 < G.length := by omega
    have g2 : G.get 2 = some (.arr 3 [[.lst 0 [] (some 0), .lst 0 [] (some 0), .lst 0 [] (some 0)]]) := by rw [ho 2 n2]; exact hG.g2
    by_cases hlt : j < l.length
    · obtain ⟨x, hx, mx⟩ := get_of hlt
      have hux := upto_at (f := renTi p.l) hx
      obtain ⟨row, hrow⟩ : ∃ row, rs[j]? = some row := ⟨_, List.getElem?_eq_getElem (by rw [hs.len, upto_len]; exact hlt)⟩
      obtain ⟨va, rfl, w1⟩ := hs.row j row x hrow hux
      have fx := hf x mx
      unfold ofTi at fx
      rw [Bool.and_eq_true] at fx
      have c1 := ofL_all fx.1
      have c2 := ofL_all fx.2 x.chosen (by simp)
      have kx := hti.2 x mx
      unfold okTi okI at kx
      obtain ⟨m, hm⟩ : ∃ m : Nat, x.chosen = m := ⟨x.chosen.toNat, by omega⟩
      have hml : m < p.l.length := by omega
      obtain ⟨y, hy, _⟩ := get_of hml
      have him : imL p.l x.chosen = y := by rw [hm]; simp [imL, hy]
      have w := wrap_succ (show j < 9223372036854775807 by omega)
      have r1 : ∀ z ∈ Nl.l (x.among.map (·.map (imL p.l))), 0 ≤ z ∧ z < 10 := fun z hz => by
        rw [l_map (f := List.map (imL p.l)) rfl] at hz
        obtain ⟨u, hu, rfl⟩ := List.mem_map.1 hz
        have h1 := c1 u hu
        obtain ⟨n, rfl⟩ : ∃ n : Nat, u = n := ⟨u.toNat, by omega⟩
        obtain ⟨v, hv, mv⟩ := get_of (show n < p.l.length by omega)
        have h2 := turned_range ht mv
        simp only [imL, Int.toNat_natCast, hv, Option.getD_some]
        omega
      have ga := hs.at'
      (repeat' (first | refine wSeq rfl ?_ | refine wBlock rfl ?_ | refine wSkip rfl ?_ | refine wExit rfl ?_ | refine wRet rfl ?_ | refine wCondT rfl rfl ?_ | refine wCondF rfl rfl ?_ | refine wOpsP rfl ?_ | refine wDraw rfl rfl ?_ | simp only [seval, push_cast, ↓reduceIte, ↓bP_some, ↓aP_true, reduceCtorEq, hlt, g1, g6, ga, hrow]))
      refine opsP_any rfl (ren1_o hL g1 (fun h => n1 h.1.1) w1 c1 (by omega)) ?_
      rintro r1' G1 ⟨rfl, l1, f1, w2⟩
      have ga1 : G1.get a = some (.arr 2 rs) := by rw [f1 a (fun h => h.1.2 rfl)]; exact ga
      have g11 : G1.get 1 = some (.arr 1 [[nlv mrow 1 p]]) := by rw [f1 1 (fun h => n1 h.1.1)]; exact g1
      (repeat' (first | refine wSeq rfl ?_ | refine wBlock rfl ?_ | refine wSkip rfl ?_ | refine wExit rfl ?_ | refine wRet rfl ?_ | refine wCondT rfl rfl ?_ | refine wCondF rfl rfl ?_ | refine wOpsP rfl ?_ | refine wDraw rfl rfl ?_ | simp only [seval, push_cast, ↓reduceIte, ↓bP_some, ↓aP_true, reduceCtorEq, ga1, hrow]))
      refine opsP_any rfl (sort_o hL hS w2 r1 (by rw [l_map (f := List.map (imL p.l)) rfl, List.length_map]; omega)) ?_
      rintro r2' G2 ⟨rfl, l2, f2, w3⟩
      have ga2 : G2.get a = some (.arr 2 rs) := by rw [f2 a (fun h => h.1.2 rfl)]; exact ga1
      have g12 : G2.get 1 = some (.arr 1 [[nlv mrow 1 p]]) := by rw [f2 1 (fun h => n1 h.1.1)]; exact g11
      have al2 := get_len ga2
      (repeat' (first | refine wSeq rfl ?_ | refine wBlock rfl ?_ | refine wSkip rfl ?_ | refine wExit rfl ?_ | refine wRet rfl ?_ | refine wCondT rfl rfl ?_ | refine wCondF rfl rfl ?_ | refine wOps rfl ?_ | refine wDraw rfl rfl ?_ | simp only [seval, push_cast, ↓reduceIte, ↓bP_some, ↓aP_true, reduceCtorEq, ga2, g12, hrow, hm, iaQ_nlv hml, hy, al2, w]))
      have hfr : ∀ b, ¬ FT b → Heap.get (G2.set a (some (.arr 2 (rs.set j [va, .int .i64 y])))) b = H.get b := fun b hb => by
        have hna : b ≠ a := fun e => hb (by rw [e]; exact k2)
        rw [get_set_ne hna, f2 b (fun h => hb h.1.1), f1 b (fun h => hb h.1.1), ho b hb]
      refine qW_n (j + 1, _) rfl rfl ⟨by omega, hlt, by rw [List.length_set, l2, l1, hl], hfr, rs.set j [va, .int .i64 y], ?_⟩
      rw [← upto_set hx]
      refine hs.up loc_ti (get_set_eq al2) (fun b hb hne hgj => ?_) (fun b hb => hb) (fun b hb hne => rfl) ⟨va, by rw [← him]; rfl, ?_⟩
      · rw [get_set_ne hne, f2 b (fun h => hgj h.2), f1 b (fun h => hgj h.2)]
      · rw [Option.map_map] at w3
        exact w3.loc (fun b hb => ⟨hb, get_set_ne hb.1.2⟩)
    · obtain rfl : j = l.length := by omega
      rw [upto_all] at hs
      (repeat' (first | refine wSeq rfl ?_ | refine wBlock rfl ?_ | refine wSkip rfl ?_ | refine wExit rfl ?_ | refine wRet rfl ?_ | refine wCondT rfl rfl ?_ | refine wCondF rfl rfl ?_ | refine wOps rfl ?_ | refine wDraw rfl rfl ?_ | simp only [seval, push_cast, ↓reduceIte, ↓bP_some, ↓aP_true, reduceCtorEq, hlt, g6, g2l, g2]))
      exact FnQ.at (res_cell2 rfl rfl (get_set_eq g2l) rfl) ⟨_, rfl, fin G hl ho (by have := hs.sl c; rw [List.length_map] at this; exact this)⟩
end Go.Proofs.YtkpfhnicdlgjiaaGreat
set_option maxRecDepth 100000
set_option maxHeartbeats 1000000
set_option linter.unusedVariables false
set_option linter.unusedSimpArgs false
namespace Go.Proofs.YtkpfhnicdlgjiaaGreat
theorem len3 : ∀ {l : List V}, l.length = 3 → ∃ a b c, l = [a, b, c]
  | [a, b, c], _ => ⟨a, b, c, rfl⟩
  | [], h => by simp at h
  | [_], h => by simp at h
  | [_, _], h => by simp at h
  | _ :: _ :: _ :: _ :: _, h => by simp at h
/-- Totals laid at their new places, up to c. -/
structure HdI (p : List Int) (rsf : List (List V)) (aH n : Nat) (G3 : Heap) (c : Nat) (G : Heap) : Prop where
  old : ∀ b, b < G3.length → b ≠ aH → G.get b = G3.get b
  len : G3.length ≤ G.length
  rows : ∃ rsH, G.get aH = some (.arr 3 rsH) ∧ rsH.length = n ∧ (∀ (i m : Nat) (row : List V), i < c → p[i]? = some (m : Int) → rsf[i]? = some row → rsH[m]? = some row) ∧ ∀ row ∈ rsH, row.length = 3
theorem HdI.done {p : List Int} (ht : turnedL p = true) {lh : List Rt} (hlh : lh.length = p.length) {rsf : List (List V)} {aH f : Nat} {G3 G : Heap} (I : HdI p rsf aH p.length G3 p.length G) {gf : Nat → Nat} {F : FP} (hs : SlAt OwnRt 3 G3.get f lh rsf gf F) (hF : ∀ b, F b → b < G3.length ∧ b ≠ aH) {F' : FP} (hF' : ∀ b, F b → F' b) (ha : F' aH) (cH : Option Nat) :
    OwnSl OwnRt 3 G.get (.ref aH 3 0 lh.length cH) (some (hadP p lh)) F' := by
  obtain ⟨rsH, e1, e2, e3, _⟩ := I.rows
  refine .inr ⟨aH, cH, rsH, fun b => (p.getD (gf b) 0).toNat, by rw [had_len, hlh], e1, ha, by rw [had_len, e2], fun i row x hr hx => ?_⟩
  have hi : i < p.length := by have := (List.getElem?_eq_some_iff.1 hr).1; omega
  obtain ⟨c, hc⟩ := List.mem_iff_getElem?.1 (turned_mem ht hi)
  have hcl := (List.getElem?_eq_some_iff.1 hc).1
  have hrf : rsf[c]? = some (rsf[c]'(by rw [hs.len]; omega)) := List.getElem?_eq_getElem _
  have hlx : lh[c]? = some (lh[c]'(by omega)) := List.getElem?_eq_getElem _
  have h1 := e3 c i _ hcl hc hrf
  rw [hr] at h1
  have h2 := had_at ht hlh hc hlx
  rw [hx] at h2
  rw [Option.some.inj h1, Option.some.inj h2]
  refine loc_rt _ _ _ _ _ _ (hs.row c _ _ hrf hlx) (fun b hb => ?_)
  obtain ⟨q1, q2⟩ := hF b hb.1.1
  refine ⟨⟨⟨hF' b hb.1.1, q2⟩, ?_⟩, I.old b q1 q2⟩
  show (p.getD (gf b) 0).toNat = i
  rw [hb.2, List.getD_eq_getElem?_getD, hc]; simp
variable {L : Lib} (hL : L.T = tab.get)
include hL
/-- The program's copies of numbers, over memory in use. -/
theorem ratios_up (o : Nl Rt) (ho : o.l.length * 56 ≤ 140737488351232) (hr : ∀ r ∈ o.l, okRt r) (H : Heap) : AFn L (.fn 16) [nlv rtrow 3 o] H (fun r H' => H.length ≤ H'.length ∧ (∀ b, b < H.length → H'.get b = H.get b) ∧ OwnSl OwnRt 3 H'.get r o (fun b => H.length ≤ b ∧ b < H'.length)) := by
  refine ((ratios_m hL o ho hr).at H).mono ?_
  rintro r H' ⟨rfl, rfl⟩
  refine ⟨by simp, fun b hb => get_app_l hb, ?_⟩
  refine (OwnSl.up loc_rt up_rt (fun b B hb => up_at hb) (own_rat0 o)).loc loc_rt (fun b hb => ⟨⟨hb.1, ?_⟩, rfl⟩)
  have h1 := hb.1
  have h2 := hb.2
  simp only [List.length_append, List.length_map]
  omega
omit hL in
theorem rename_h (p : Nl Int) (ht : turnedL p.l = true) (lh : List Rt) (hlh : lh.length = p.l.length) (G3 : Heap) (a6 aR aH f j N : Nat) (cf cH : Option Nat) (rs rsf : List (List V)) (v1 v2 ve vo : V) (ng : Bool) (gf : Nat → Nat) (F : FP) (hs : SlAt OwnRt 3 G3.get f lh rsf gf F) (hF : ∀ b, F b → b < G3.length ∧ b ≠ aH) {rsH0 : List (List V)} (hH : G3.get aH = some (.arr 3 rsH0)) (hH0 : rsH0.length = p.l.length) (hH3 : ∀ row ∈ rsH0, row.length = 3)
    (g1 : G3.get 1 = some (.arr 1 [[nlv mrow 1 p]])) (h1 : 1 ≠ aH) (gR : G3.get aR = some (.arr 6 rs)) (hR : aR ≠ aH) (hrow : rs[j]? = some [.ref aH 3 0 lh.length cH, .bool ng, v1, v2, ve, vo]) {Q : Exit → Env → Heap → Prop}
    (hQ : ∀ G, HdI p.l rsf aH p.l.length G3 p.l.length G → Q (.exit T6.val.body.r.r.r.r.r.l.r.l.l.r.r.l.l.r.r.r.r.r.l.l.r.l.r.id) [(2, .ptr 0 3 0 0), (3, .ptr 1 1 0 0), (4, .ptr 2 3 0 0), (6, .ptr a6 3 0 0), (7, .fn 15 [] [.ptr 1 1 0 0]), (9, .ptr aR 6 j 0), (34, .int .i64 N), (35, .int .i64 j), (60, .ref f 3 0 lh.length cf), (61, .int .i64 lh.length), (62, .int .i64 lh.length), (63, .bool false)] G) :
    SWP L 0 T6.val.ntmps T6.val.body.r.r.r.r.r.l.r.l.l.r.r.l.l.r.r.r.r.r.l Q [(2, .ptr 0 3 0 0), (3, .ptr 1 1 0 0), (4, .ptr 2 3 0 0), (6, .ptr a6 3 0 0), (7, .fn 15 [] [.ptr 1 1 0 0]), (9, .ptr aR 6 j 0), (34, .int .i64 N), (35, .int .i64 j), (60, .ref f 3 0 lh.length cf), (61, .int .i64 lh.length), (62, .int .i64 0)] G3 := by
  have hlen := turned_len ht
  refine wWhile (σ := Nat × Heap) rfl (fun s => [(2, .ptr 0 3 0 0), (3, .ptr 1 1 0 0), (4, .ptr 2 3 0 0), (6, .ptr a6 3 0 0), (7, .fn 15 [] [.ptr 1 1 0 0]), (9, .ptr aR 6 j 0), (34, .int .i64 N), (35, .int .i64 j), (60, .ref f 3 0 lh.length cf), (61, .int .i64 lh.length), (62, .int .i64 (s.1 : Nat))]) (fun s => s.2) (fun s => lh.length - s.1) (fun s => s.1 ≤ lh.length ∧ HdI p.l rsf aH p.l.length G3 s.1 s.2) (0, G3) rfl rfl ⟨Nat.zero_le _, fun _ _ _ => rfl, Nat.le_refl _, _, hH, hH0, fun i m row h => by omega, hH3⟩ ?_
  rintro ⟨c, G⟩ ⟨hc, ho, hg, rsH, e1, e2, e3, e4⟩
  dsimp only at hc ho hg e1 e2 e3 e4 ⊢
  have hHl := get_len e1
  have g1' : G.get 1 = some (.arr 1 [[nlv mrow 1 p]]) := by rw [ho 1 (get_len g1) h1]; exact g1
  have gR' : G.get aR = some (.arr 6 rs) := by rw [ho aR (get_len gR) hR]; exact gR
  have hfl := get_len hs.at'
  have hRl := get_len gR'
  have h1l := get_len g1'
  have gf' : G.get f = some (.arr 3 rsf) := by rw [ho f hfl (hF f hs.own).2]; exact hs.at'
  by_cases hlt : c < lh.length
  · obtain ⟨x, hx, _⟩ := get_of hlt
    obtain ⟨row, hrf, _⟩ := get_of (show c < rsf.length by rw [hs.len]; exact hlt)
    obtain ⟨u1, u2, gi, rfl, _⟩ := hs.row c row x hrf hx
    have hcp : c < p.l.length := by omega
    obtain ⟨m', hm, mm⟩ := get_of hcp
    have rg := turned_range ht mm
    obtain ⟨m, rfl⟩ : ∃ m : Nat, m' = m := ⟨m'.toNat, by omega⟩
    have hml : m < rsH.length := by omega
    obtain ⟨rowH, hrH, mH⟩ := get_of hml
    obtain ⟨y1, y2, y3, rfl⟩ := len3 (e4 rowH mH)
    have hmh : m < lh.length := by omega
    have w := wrap_succ (show c < 9223372036854775807 by omega)
    (repeat' (first | refine wSeq rfl ?_ | refine wBlock rfl ?_ | refine wSkip rfl ?_ | refine wExit rfl ?_ | refine wRet rfl ?_ | refine wCondT rfl rfl ?_ | refine wCondF rfl rfl ?_ | refine wOpsM [34] rfl ?_ | refine wDrawW [34] rfl rfl ?_ | refine wLd rfl ?_ | simp only [seval, push_cast, ↓reduceIte, ↓bP_some, ↓aP_true, reduceCtorEq, hlt, g1', gR', gf', e1, hrow, hrf, hm, iaQ_nlv hcp, get_more e1, get_more g1', get_more gR', set_more hHl, lt_more hHl, hml, hHl, get_at, set_at, hrH, w, Nat.lt_add_one, List.length_append, List.length_cons, List.length_nil, Nat.zero_add, hmh]))
    refine wLd (by simp [ldOk, Env.get]; omega) ?_
    (repeat' (first | refine wSeq rfl ?_ | refine wBlock rfl ?_ | refine wSkip rfl ?_ | refine wExit rfl ?_ | refine wRet rfl ?_ | refine wCondT rfl rfl ?_ | refine wCondF rfl rfl ?_ | refine wOpsM [34] rfl ?_ | refine wDrawW [34] rfl rfl ?_ | refine wLd rfl ?_ | simp only [seval, push_cast, ↓reduceIte, ↓bP_some, ↓aP_true, reduceCtorEq, w]))
    have key : ∀ b, b < G.length → b ≠ aH → Heap.get (G.set aH (some (.arr 3 (rsH.set m [.bool x.neg, u1, u2]))) ++ [some (.arr 3 [[.bool x.neg, u1, u2]])]) b = G.get b := fun b hb hne => by
      rw [get_app_l (by rw [List.length_set]; exact hb), get_set_ne hne]
    refine qW_n (c + 1, _) rfl rfl ⟨by omega, hlt, fun b hb hne => by rw [key b (by omega) hne, ho b hb hne], by rw [List.length_append, List.length_set]; omega, rsH.set m [.bool x.neg, u1, u2], ?_, by rw [List.length_set, e2], fun i m' row hi hp' hr' => ?_, fun row hr => (List.mem_or_eq_of_mem_set hr).elim (e4 row) (fun e => by rw [e]; rfl)⟩
    · rw [get_app_l (by rw [List.length_set]; exact hHl), get_set_eq hHl]
    · by_cases e : i = c
      · subst e
        rw [hm] at hp'
        rw [hrf] at hr'
        cases hr'
        obtain rfl : m = m' := by have := Option.some.inj hp'; omega
        rw [List.getElem?_set_self hml]
      · have hne : m ≠ m' := fun h => by
          subst h
          exact e (nodup_at (turned_nodup ht) hp' hm)
        rw [List.getElem?_set_ne hne]
        exact e3 i m' row (by omega) hp' hr'
  · obtain rfl : c = lh.length := by omega
    (repeat' (first | refine wSeq rfl ?_ | refine wBlock rfl ?_ | refine wSkip rfl ?_ | refine wExit rfl ?_ | refine wRet rfl ?_ | refine wCondT rfl rfl ?_ | refine wCondF rfl rfl ?_ | refine wOps rfl ?_ | refine wDraw rfl rfl ?_ | simp only [seval, push_cast, ↓reduceIte, ↓bP_some, ↓aP_true, reduceCtorEq, hlt]))
    exact hQ G ⟨ho, hg, rsH, e1, e2, by rw [← hlh]; exact e3, e4⟩
end Go.Proofs.YtkpfhnicdlgjiaaGreat
set_option maxRecDepth 100000
set_option maxHeartbeats 2000000
set_option linter.unusedVariables false
set_option linter.unusedSimpArgs false
namespace Go.Proofs.YtkpfhnicdlgjiaaGreat
theorem set_same_l {α : Type} {l : List α} {j : Nat} {x : α} (h : l[j]? = some x) : l.set j x = l := by
  obtain ⟨h1, rfl⟩ := List.getElem?_eq_some_iff.1 h
  exact List.set_getElem_self h1
variable {L : Lib} (hL : L.T = tab.get)
include hL
theorem rename_2 (hS : SortOk L) (p : Nl Int) (hp : okI p) (ht : turnedL p.l = true) (oel : Nl Int) (el : Nl Int) (rd : Nl Rd) (ti : Nl Ti) (hrd : rd.l.length * 128 ≤ 140737488351232 ∧ ∀ d ∈ rd.l, okRd d) (hti : ti.l.length * 32 ≤ 140737488351232 ∧ ∀ t ∈ ti.l, okTi t) (hfr : ∀ d ∈ rd.l, ofRd d p.l.length = true) (hf : ∀ t ∈ ti.l, ofTi t p.l.length = true) (H : Heap) (a6 : Nat) (ve vr vt : V) (FE FR FT : FP)
    (g0 : H.get 0 = some (.arr 3 [[nlv mrow 1 oel, nlv rdrow 6 rd, nlv tirow 2 ti]])) (hG : RnG p 2 a6 ve vr vt el FE FR FT H) (hR : OwnSl OwnRd 6 H.get vr rd FR) (hT : OwnSl OwnTi 2 H.get vt ti FT) :
    SWP L 0 T6.val.ntmps T6.val.body.r.r.r.r.r (FnQ T6.val 0 (fun r H' => ∃ v, r = .tup [v, .int .i64 0] ∧ OwnOc H'.get v ⟨el, rd.map (·.map (renRd p.l)), ti.map (·.map (renTi p.l))⟩ (fun b => b < H'.length))) [(2, .ptr 0 3 0 0), (3, .ptr 1 1 0 0), (4, .ptr 2 3 0 0), (6, .ptr a6 3 0 0), (7, .fn 15 [] [.ptr 1 1 0 0])] H := by
  have q6 := hG.g6
  have k3 := rename_3 hL hS p hp ht el (rd.map (·.map (renRd p.l))) ti hti hf
  generalize hcode : T6.val.body.r.r.r.r.r.r = cc at k3
  have hcode' : (T6.1).body.r.r.r.r.r.r = cc := hcode
  have zero : lenQ vr = some (.int .i64 0) → OwnSl OwnRd 6 H.get vr (rd.map (·.map (renRd p.l))) FR → SWP L 0 T6.val.ntmps T6.val.body.r.r.r.r.r (FnQ T6.val 0 (fun r H' => ∃ v, r = .tup [v, .int .i64 0] ∧ OwnOc H'.get v ⟨el, rd.map (·.map (renRd p.l)), ti.map (·.map (renTi p.l))⟩ (fun b => b < H'.length))) [(2, .ptr 0 3 0 0), (3, .ptr 1 1 0 0), (4, .ptr 2 3 0 0), (6, .ptr a6 3 0 0), (7, .fn 15 [] [.ptr 1 1 0 0])] H := by
    intro hv ho
    (repeat' (first | refine wSeq rfl ?_ | refine wBlock rfl ?_ | refine wSkip rfl ?_ | refine wExit rfl ?_ | refine wRet rfl ?_ | refine wCondT rfl rfl ?_ | refine wCondF rfl rfl ?_ | refine wOps rfl ?_ | refine wDraw rfl rfl ?_ | simp only [seval, push_cast, ↓reduceIte, ↓bP_some, ↓aP_true, reduceCtorEq, q6, hv, hcode]))
    refine wCntH rfl 35 0 (fun _ => []) (fun _ => H) (fun _ => True) rfl rfl trivial (fun j hj => absurd hj (by omega)) (fun _ => ?_)
    (repeat' (first | refine wSeq rfl ?_ | refine wBlock rfl ?_ | refine wSkip rfl ?_ | refine wExit rfl ?_ | refine wRet rfl ?_ | refine wCondT rfl rfl ?_ | refine wCondF rfl rfl ?_ | refine wOps rfl ?_ | refine wDraw rfl rfl ?_ | simp only [seval, push_cast, ↓reduceIte, ↓bP_some, ↓aP_true, reduceCtorEq, q6, hcode]))
    refine (if_pos (by rfl)).mpr ?_
    exact SWP.forget (fun t v h => env_app h) (k3 H a6 ve vr vt FE FR FT hG ho hT)
  cases rd with
  | none =>
    obtain rfl : vr = _ := hR
    exact zero rfl rfl
  | some l =>
    rcases hR with ⟨rfl, c, rfl⟩ | ⟨aR, c, rs, g, rfl, k1, k2, k4, k5⟩
    · exact zero rfl (.inl ⟨rfl, c, rfl⟩)
    replace hrd : l.length * 128 ≤ 140737488351232 ∧ ∀ d ∈ l, okRd d := hrd
    replace hfr : ∀ d ∈ l, ofRd d p.l.length = true := hfr
    have ka : SlAt OwnRd 6 H.get aR (upto (renRd p.l) l 0) rs g (fun b => FR b ∨ H.length ≤ b ∧ b < H.length) := by
      rw [upto_0]
      exact ⟨k1, .inl k2, k4, fun i row x hr hx => loc_rd _ _ _ _ _ _ (k5 i row x hr hx) (fun b hb => ⟨⟨⟨.inl hb.1.1, hb.1.2⟩, hb.2⟩, rfl⟩)⟩
    have hlen := turned_len ht
    (repeat' (first | refine wSeq rfl ?_ | refine wBlock rfl ?_ | refine wSkip rfl ?_ | refine wExit rfl ?_ | refine wRet rfl ?_ | refine wCondT rfl rfl ?_ | refine wCondF rfl rfl ?_ | refine wOps rfl ?_ | refine wDraw rfl rfl ?_ | simp only [seval, push_cast, ↓reduceIte, ↓bP_some, ↓aP_true, reduceCtorEq, q6, hcode]))
    refine wWhile (σ := Nat × Heap) rfl (fun s => [(2, .ptr 0 3 0 0), (3, .ptr 1 1 0 0), (4, .ptr 2 3 0 0), (6, .ptr a6 3 0 0), (7, .fn 15 [] [.ptr 1 1 0 0]), (34, .int .i64 l.length), (35, .int .i64 (s.1 : Nat))]) (fun s => s.2) (fun s => l.length - s.1) (fun s => s.1 ≤ l.length ∧ H.length ≤ s.2.length ∧ (∀ b, b < H.length → ¬ FR b → s.2.get b = H.get b) ∧ ∃ g, SlAt OwnRd 6 s.2.get aR (upto (renRd p.l) l s.1) rs g (fun b => FR b ∨ H.length ≤ b ∧ b < s.2.length)) (0, H) rfl rfl ⟨Nat.zero_le _, Nat.le_refl _, fun _ _ _ => rfl, _, ka⟩ ?_
    rintro ⟨j, G⟩ ⟨hj, hl, ho, g', hs⟩
    dsimp only at hj hl ho hs ⊢
    have n0 : ¬ FR 0 := fun h => by have := (hG.fr 0 h).1; omega
    have n1 : ¬ FR 1 := fun h => by have := (hG.fr 1 h).1; omega
    have n6 : ¬ FR a6 := fun h => (hG.fr a6 h).2.2.1 rfl
    have n2 : ¬ FR 2 := fun h => by have := (hG.fr 2 h).1; omega
    have m6 := get_len q6
    have m0 := get_len g0
    have m1 := get_len hG.g1
    have mR := hG.fr aR k2
    have gg0 : G.get 0 = some (.arr 3 [[nlv mrow 1 oel, nlv rdrow 6 (some l), nlv tirow 2 ti]]) := by rw [ho 0 m0 n0]; exact g0
    have gg1 : G.get 1 = some (.arr 1 [[nlv mrow 1 p]]) := by rw [ho 1 m1 n1]; exact hG.g1
    have gg6 : G.get a6 = some (.arr 3 [[ve, .ref aR 6 0 l.length c, vt]]) := by rw [ho a6 m6 n6]; exact q6
    by_cases hlt : j < l.length
    · obtain ⟨x, hx, mx⟩ := get_of hlt
      have hux := upto_at (f := renRd p.l) hx
      obtain ⟨row, hrow⟩ : ∃ row, rs[j]? = some row := ⟨_, List.getElem?_eq_getElem (by rw [hs.len, upto_len]; exact hlt)⟩
      obtain ⟨vh, v1, v2, ve', vo', gi, rfl, w0, w1, w2, w3, w4⟩ := hs.row j row x hrow hux
      have kx := hrd.2 x mx
      have fx := hfr x mx
      unfold ofRd at fx
      rw [Bool.and_eq_true, Bool.and_eq_true, decide_eq_true_eq] at fx
      obtain ⟨⟨fx1, fx2⟩, fx3⟩ := fx
      have c1 := ofL_all fx2
      have c2 := ofL_all fx3
      obtain ⟨lh, hlh⟩ : ∃ lh, x.had = some lh := by
        cases hh : x.had with
        | some lh => exact ⟨lh, rfl⟩
        | none => rw [hh] at fx1; have h0 : (0 : Int) = p.l.length := fx1; omega
      have hlhl : lh.length = p.l.length := by rw [hlh] at fx1; have h0 : (lh.length : Int) = p.l.length := fx1; omega
      have w := wrap_succ (show j < 9223372036854775807 by omega)
      have ga := hs.at'
      have kel := kx.2.2.2.1
      have kou := kx.2.2.2.2
      unfold okI at kel kou
      rw [hlh] at w0
      rcases w0 with ⟨h0, _⟩ | ⟨aH, cH, rsH0, gH0, rfl, hH, hHF, hHl, hHrow⟩
      · rw [h0] at hlhl; simp at hlhl; omega
      have tH := hHF.2
      have sH := hHF.1.2
      have neH := hHF.1.1.2
      have lFR : ∀ b, (FR b ∨ H.length ≤ b ∧ b < G.length) → 2 < b ∧ b < G.length ∧ b ≠ a6 := fun b hb => by
        rcases hb with hb | hb
        · have := hG.fr b hb; exact ⟨this.1, by omega, this.2.2.1⟩
        · omega
      have lH := lFR aH hHF.1.1.1
      (repeat' (first | refine wSeq rfl ?_ | refine wBlock rfl ?_ | refine wSkip rfl ?_ | refine wExit rfl ?_ | refine wRet rfl ?_ | refine wCondT rfl rfl ?_ | refine wCondF rfl rfl ?_ | refine wOpsP rfl ?_ | refine wDraw rfl rfl ?_ | simp only [seval, push_cast, ↓reduceIte, ↓bP_some, ↓aP_true, reduceCtorEq, hlt, gg1, gg6, ga, hrow]))
      refine opsP_any rfl (ren1_o hL gg1 (fun h => h.1.1.1.elim n1 (fun h => by omega)) w3 c1 (by omega)) ?_
      rintro r1' G1 ⟨rfl, l1, f1, w3'⟩
      have ga1 : G1.get aR = some (.arr 6 rs) := by rw [f1 aR (fun h => h.1.1.2 rfl)]; exact ga
      have w4' : OwnLf mrow 1 G1.get vo' x.out _ := w4.loc (fun b hb => ⟨hb, f1 b (fun h => by have := h.2; have := hb.2; omega)⟩)
      have gg1' : G1.get 1 = some (.arr 1 [[nlv mrow 1 p]]) := by rw [f1 1 (fun h => h.1.1.1.elim n1 (fun h => by omega))]; exact gg1
      (repeat' (first | refine wSeq rfl ?_ | refine wBlock rfl ?_ | refine wSkip rfl ?_ | refine wExit rfl ?_ | refine wRet rfl ?_ | refine wCondT rfl rfl ?_ | refine wCondF rfl rfl ?_ | refine wOpsP rfl ?_ | refine wDraw rfl rfl ?_ | simp only [seval, push_cast, ↓reduceIte, ↓bP_some, ↓aP_true, reduceCtorEq, ga1, hrow]))
      refine opsP_any rfl (ren1_o hL gg1' (fun h => h.1.1.1.elim n1 (fun h => by omega)) w4' c2 (by omega)) ?_
      rintro r2' G2 ⟨rfl, l2, f2, w4''⟩
      have gg02 : G2.get 0 = some (.arr 3 [[nlv mrow 1 oel, nlv rdrow 6 (some l), nlv tirow 2 ti]]) := by rw [f2 0 (fun h => h.1.1.1.elim n0 (fun h => by omega)), f1 0 (fun h => h.1.1.1.elim n0 (fun h => by omega))]; exact gg0
      have iaq : iaQ 6 (nlv rdrow 6 (some l)) j = some (.iptr 6 (l.map rdrow) j 0) := iaQ_nlv (o := some l) hlt
      (repeat' (first | refine wSeq rfl ?_ | refine wBlock rfl ?_ | refine wSkip rfl ?_ | refine wExit rfl ?_ | refine wRet rfl ?_ | refine wCondT rfl rfl ?_ | refine wCondF rfl rfl ?_ | refine wOpsP rfl ?_ | refine wDraw rfl rfl ?_ | simp only [seval, push_cast, ↓reduceIte, ↓bP_some, ↓aP_true, reduceCtorEq, gg02, iaq, hx]))
      refine opsP_any rfl (ratios_up hL x.had kx.1 kx.2.1 G2) ?_
      rintro r3' G3 ⟨l3, f3, w5⟩
      rw [hlh] at w5
      rcases w5 with ⟨h0, _⟩ | ⟨f, cf, rsf, gf, rfl, hf1, hf2, hf3, hf4⟩
      · rw [h0] at hlhl; simp at hlhl; omega
      (repeat' (first | refine wSeq rfl ?_ | refine wBlock rfl ?_ | refine wSkip rfl ?_ | refine wExit rfl ?_ | refine wRet rfl ?_ | refine wCondT rfl rfl ?_ | refine wCondF rfl rfl ?_ | refine wOpsP rfl ?_ | refine wDraw rfl rfl ?_ | simp only [seval, push_cast, ↓reduceIte, ↓bP_some, ↓aP_true, reduceCtorEq]))
      have gs : ∀ b, b < G.length → b ≠ aH → ¬ (((FR b ∨ H.length ≤ b ∧ b < G.length) ∧ b ≠ aR) ∧ g' b = j) → G3.get b = G.get b := fun b hb hne hn => by
        rw [f3 b (by omega), f2 b (fun h => hn h.1), f1 b (fun h => hn h.1)]
      have oH : G3.get aH = G.get aH := by
        rw [f3 aH (by omega), f2 aH (fun h => by have := h.2; omega), f1 aH (fun h => by have := h.2; omega)]
      have oR : G3.get aR = G.get aR := gs aR (by omega) (Ne.symm neH) (fun h => h.1.2 rfl)
      have o1 : G3.get 1 = G.get 1 := gs 1 (by omega) (by omega) (fun h => by have := lFR 1 h.1.1; omega)
      refine rename_h p ht lh hlhl G3 a6 aR aH f j l.length cf cH rs rsf v1 v2 ve' vo' x.lost.neg gf _ ⟨hf1, hf2, hf3, hf4⟩ (fun b hb => ⟨hb.2, by have := hb.1; omega⟩) (oH.trans hH) (by omega) ?_ (o1.trans gg1) (by omega) (oR.trans ga) (Ne.symm neH) hrow ?_
      · intro row hr
        obtain ⟨i, hi⟩ := List.mem_iff_getElem?.1 hr
        have hil := (List.getElem?_eq_some_iff.1 hi).1
        obtain ⟨y, hy, _⟩ := get_of (show i < lh.length by omega)
        obtain ⟨_, _, _, e, _⟩ := hHrow i row y hi hy
        rw [e]; rfl
      intro Ge I
      (repeat' (first | refine wSeq rfl ?_ | refine wBlock rfl ?_ | refine wSkip rfl ?_ | refine wExit rfl ?_ | refine wRet rfl ?_ | refine wCondT rfl rfl ?_ | refine wCondF rfl rfl ?_ | refine wOps rfl ?_ | refine wDraw rfl rfl ?_ | simp only [seval, push_cast, ↓reduceIte, ↓bP_some, ↓aP_true, reduceCtorEq, w]))
      have keyG : ∀ b, b < G.length → b ≠ aH → Ge.get b = G3.get b := fun b hb hne => I.old b (by omega) hne
      have e : rs.set j [.ref aH 3 0 lh.length cH, .bool x.lost.neg, v1, v2, ve', vo'] = rs := set_same_l hrow
      have eR : Ge.get aR = some (.arr 6 rs) := by rw [keyG aR (by omega) (Ne.symm neH), oR]; exact ga
      have gl := I.len
      have k := hs.up (h' := Ge.get) (i := j) (x' := renRd p.l x) (row' := [.ref aH 3 0 lh.length cH, .bool x.lost.neg, v1, v2, ve', vo']) (F' := fun b => FR b ∨ H.length ≤ b ∧ b < Ge.length) (g' := fun b => if b < G.length then g' b else j) loc_rd (by rw [e]; exact eR) (fun b hb hne hgj => ?_) (fun b hb => hb.imp id (fun h => ⟨h.1, by omega⟩)) (fun b hb hne => if_pos (lFR b hb).2.1) ⟨_, v1, v2, ve', vo', fun b => if b < G.length then gi b else 0, rfl, ?_, ?_, ?_, ?_, ?_⟩
      · rw [e, upto_set hx] at k
        refine qW_n (j + 1, Ge) rfl rfl ⟨by omega, hlt, show H.length ≤ Ge.length by omega, fun b hb hn => ?_, _, k⟩
        have hnF : ¬ (FR b ∨ H.length ≤ b ∧ b < G.length) := fun h => h.elim hn (fun h => by omega)
        have hbH : b ≠ aH := fun h => hnF (by rw [h]; exact hHF.1.1.1)
        rw [keyG b (by omega) hbH, gs b (by omega) hbH (fun h => hnF h.1.1)]
        exact ho b hb hn
      · have hb' := (lFR b hb).2.1
        have hbH : b ≠ aH := fun h => hgj (by rw [h]; exact sH)
        rw [keyG b hb' hbH, gs b hb' hbH (fun h => hgj h.2)]
      · have d := HdI.done ht hlhl I ⟨hf1, hf2, hf3, hf4⟩ (fun b hb => ⟨hb.2, by have := hb.1; omega⟩) (F' := fun b => (((FR b ∨ H.length ≤ b ∧ b < Ge.length) ∧ b ≠ aR) ∧ (if b < G.length then g' b else j) = j) ∧ (if b < G.length then gi b else 0) = 0) (fun b hb => ?_) ?_ cH
        · show OwnSl OwnRt 3 Ge.get _ (some (hadP p.l (Nl.l x.had))) _
          rw [hlh]; exact d
        · have := hb.1
          have := hb.2
          exact ⟨⟨⟨.inr ⟨by omega, by omega⟩, by omega⟩, if_neg (by omega)⟩, if_neg (by omega)⟩
        · exact ⟨⟨⟨hHF.1.1.1.imp id (fun h => ⟨h.1, by omega⟩), neH⟩, (if_pos lH.2.1).trans sH⟩, (if_pos lH.2.1).trans tH⟩
      · refine w1.loc (fun b hb => ?_)
        obtain ⟨q1, q2, q3⟩ := lFR b hb.1.1.1
        have hbH : b ≠ aH := fun h => by have := hb.2; rw [h] at this; omega
        refine ⟨⟨⟨⟨hb.1.1.1.imp id (fun h => ⟨h.1, by omega⟩), hb.1.1.2⟩, (if_pos q2).trans hb.1.2⟩, (if_pos q2).trans hb.2⟩, ?_⟩
        rw [keyG b q2 hbH, f3 b (by omega), f2 b (fun h => by have := h.2; have := hb.2; omega), f1 b (fun h => by have := h.2; have := hb.2; omega)]
      · refine w2.loc (fun b hb => ?_)
        obtain ⟨q1, q2, q3⟩ := lFR b hb.1.1.1
        have hbH : b ≠ aH := fun h => by have := hb.2; rw [h] at this; omega
        refine ⟨⟨⟨⟨hb.1.1.1.imp id (fun h => ⟨h.1, by omega⟩), hb.1.1.2⟩, (if_pos q2).trans hb.1.2⟩, (if_pos q2).trans hb.2⟩, ?_⟩
        rw [keyG b q2 hbH, f3 b (by omega), f2 b (fun h => by have := h.2; have := hb.2; omega), f1 b (fun h => by have := h.2; have := hb.2; omega)]
      · refine w3'.loc (fun b hb => ?_)
        obtain ⟨q1, q2, q3⟩ := lFR b hb.1.1.1
        have hbH : b ≠ aH := fun h => by have := hb.2; rw [h] at this; omega
        refine ⟨⟨⟨⟨hb.1.1.1.imp id (fun h => ⟨h.1, by omega⟩), hb.1.1.2⟩, (if_pos q2).trans hb.1.2⟩, (if_pos q2).trans hb.2⟩, ?_⟩
        rw [keyG b q2 hbH, f3 b (by omega), f2 b (fun h => by have := h.2; have := hb.2; omega)]
      · refine w4''.loc (fun b hb => ?_)
        obtain ⟨q1, q2, q3⟩ := lFR b hb.1.1.1
        have hbH : b ≠ aH := fun h => by have := hb.2; rw [h] at this; omega
        refine ⟨⟨⟨⟨hb.1.1.1.imp id (fun h => ⟨h.1, by omega⟩), hb.1.1.2⟩, (if_pos q2).trans hb.1.2⟩, (if_pos q2).trans hb.2⟩, ?_⟩
        rw [keyG b q2 hbH, f3 b (by omega)]
    · obtain rfl : j = l.length := by omega
      rw [upto_all] at hs
      (repeat' (first | refine wSeq rfl ?_ | refine wBlock rfl ?_ | refine wSkip rfl ?_ | refine wExit rfl ?_ | refine wRet rfl ?_ | refine wCondT rfl rfl ?_ | refine wCondF rfl rfl ?_ | refine wOps rfl ?_ | refine wDraw rfl rfl ?_ | simp only [seval, push_cast, ↓reduceIte, ↓bP_some, ↓aP_true, reduceCtorEq, hlt, hcode]))
      refine (if_pos (by rfl)).mpr ?_
      have same : ∀ b, b < H.length → ¬ FR b → G.get b = H.get b := ho
      refine SWP.forget (fun t v h => env_app h) (k3 G a6 ve (.ref aR 6 0 l.length c) vt FE (fun b => FR b ∨ H.length ≤ b ∧ b < G.length) FT ⟨gg1, by rw [ho 2 (get_len hG.g2) n2]; exact hG.g2, gg6, hG.oe.loc (fun b hb => ?_), hG.a6_2, fun b hb => ?_, fun b hb => ?_, fun b hb => ?_⟩ (by have := hs.sl c; rw [List.length_map] at this; exact this) (hT.loc loc_ti (fun b hb => ?_)))
      · have := hG.fe b hb
        exact ⟨hb, ho b this.2.1 this.2.2.2.1⟩
      · have := hG.fe b hb
        exact ⟨this.1, by omega, this.2.2.1, fun h => h.elim this.2.2.2.1 (fun h => by omega), this.2.2.2.2⟩
      · rcases hb with hb | hb
        · have := hG.fr b hb
          exact ⟨this.1, by omega, this.2.2⟩
        · exact ⟨by omega, hb.2, by omega, fun h => by have := hG.ft b h; omega⟩
      · have := hG.ft b hb
        exact ⟨this.1, by omega, this.2.2⟩
      · have := hG.ft b hb
        exact ⟨hb, ho b this.2.1 (fun h => (hG.fr b h).2.2.2 hb)⟩
end Go.Proofs.YtkpfhnicdlgjiaaGreat
set_option maxRecDepth 100000
set_option maxHeartbeats 2000000
set_option linter.unusedVariables false
set_option linter.unusedSimpArgs false
namespace Go.Proofs.YtkpfhnicdlgjiaaGreat
variable {L : Lib} (hL : L.T = tab.get)
include hL
theorem rename_o (hS : SortOk L) (o : Oc) (ho : okO o) (p : Nl Int) (hp : p.l.length * 8 ≤ 140737488351232) : AFn L (.fn 6) [ocv o, nlv mrow 1 p] [] (fun r H' => ∃ v, r = .tup [v, .int .i64 (renL o p.l).2] ∧ OwnOc H'.get v (renL o p.l).1 (fun b => b < H'.length)) := by
  have kturn : VFn L 12 [nlv mrow 1 p] (.bool (turnedL p.l)) := by
    obtain ⟨s, c, e1, e2⟩ := nlv_tl (f := mrow) (n := 1) (o := p)
    rw [e1]
    exact turns_v hL hS s p.l c e2 (by omega)
  have kfits := fits_v hL o ho p.l.length
  refine AFn.of_body (F := T6.1) (by rw [hL]; rfl) rfl ?_
  have zo : ∀ h : HG, ∀ F : FP, OwnOc h (.agg [.lst 0 [] (some 0), .lst 0 [] (some 0), .lst 0 [] (some 0)]) zeroO F := fun h F => ⟨_, _, _, fun _ => 0, rfl, rfl, rfl, rfl⟩
  cases ht : turnedL p.l with
  | false =>
    (repeat' (first | refine wSeq rfl ?_ | refine wBlock rfl ?_ | refine wSkip rfl ?_ | refine wExit rfl ?_ | refine wRet rfl ?_ | refine wCondT rfl rfl ?_ | refine wCondF rfl rfl ?_ | refine wOps rfl ?_ | refine wDraw rfl rfl ?_ | refine opsV_call rfl rfl (kturn) ?_ | refine opsV_call rfl rfl (kfits) ?_ | simp only [seval, push_cast, ↓reduceIte, ↓bP_some, ↓aP_true, reduceCtorEq, ocv, occs, ht]))
    rw [show renL o p.l = (zeroO, 2) from if_neg (by rw [ht]; simp)]
    exact FnQ.at rfl ⟨_, rfl, zo _ _⟩
  | true =>
  cases hf : fitsO o p.l.length with
  | false =>
    (repeat' (first | refine wSeq rfl ?_ | refine wBlock rfl ?_ | refine wSkip rfl ?_ | refine wExit rfl ?_ | refine wRet rfl ?_ | refine wCondT rfl rfl ?_ | refine wCondF rfl rfl ?_ | refine wOps rfl ?_ | refine wDraw rfl rfl ?_ | refine opsV_call rfl rfl (kturn) ?_ | refine opsV_call rfl rfl (kfits) ?_ | simp only [seval, push_cast, ↓reduceIte, ↓bP_some, ↓aP_true, reduceCtorEq, ocv, occs, ht, hf]))
    rw [show renL o p.l = (zeroO, 2) from if_neg (by rw [hf]; simp)]
    exact FnQ.at rfl ⟨_, rfl, zo _ _⟩
  | true =>
  rw [show renL o p.l = (renO p.l o, 0) from if_pos ⟨ht, hf⟩]
  have hlen := turned_len ht
  have hf' := hf
  unfold fitsO at hf'
  rw [Bool.and_eq_true, Bool.and_eq_true, List.all_eq_true, List.all_eq_true] at hf'
  obtain ⟨⟨f1, f2⟩, f3⟩ := hf'
  obtain ⟨b1, b2, b3⟩ := ho
  have k2 := rename_2 hL hS p (by unfold okI; omega) ht o.el (o.el.map (·.map (imL p.l))) o.rounds o.ties b2 b3 f2 f3
  generalize hcode : T6.val.body.r.r.r.r.r = cc at k2
  have hcode' : (T6.1).body.r.r.r.r.r = cc := hcode
  (repeat' (first | refine wSeq rfl ?_ | refine wBlock rfl ?_ | refine wSkip rfl ?_ | refine wExit rfl ?_ | refine wRet rfl ?_ | refine wCondT rfl rfl ?_ | refine wCondF rfl rfl ?_ | refine wOpsP rfl ?_ | refine wDraw rfl rfl ?_ | simp only [seval, push_cast, ↓reduceIte, ↓bP_some, ↓aP_true, reduceCtorEq, ocv, occs]))
  refine opsP_all rfl (kturn.at _) ?_
  rintro r h' ⟨rfl, rfl⟩
  (repeat' (first | refine wSeq rfl ?_ | refine wBlock rfl ?_ | refine wSkip rfl ?_ | refine wExit rfl ?_ | refine wRet rfl ?_ | refine wCondT rfl rfl ?_ | refine wCondF rfl rfl ?_ | refine wOpsP rfl ?_ | refine wDraw rfl rfl ?_ | simp only [seval, push_cast, ↓reduceIte, ↓bP_some, ↓aP_true, reduceCtorEq, ht]))
  refine opsP_all rfl (kfits.at _) ?_
  rintro r h' ⟨rfl, rfl⟩
  (repeat' (first | refine wSeq rfl ?_ | refine wBlock rfl ?_ | refine wSkip rfl ?_ | refine wExit rfl ?_ | refine wRet rfl ?_ | refine wCondT rfl rfl ?_ | refine wCondF rfl rfl ?_ | refine wOpsP rfl ?_ | refine wDraw rfl rfl ?_ | simp only [seval, push_cast, ↓reduceIte, ↓bP_some, ↓aP_true, reduceCtorEq, hf]))
  refine opsP_any rfl (twin_up hL o ⟨b1, b2, b3⟩ _) ?_
  rintro r G ⟨l1, fr, ve, vr, vt, g, rfl, oe, orr, ot⟩
  have m : 3 ≤ G.length := l1
  have g0 : G.get 0 = some (.arr 3 [[nlv mrow 1 o.el, nlv rdrow 6 o.rounds, nlv tirow 2 o.ties]]) := fr 0 (by simp)
  have g1 : G.get 1 = some (.arr 1 [[nlv mrow 1 p]]) := fr 1 (by simp)
  have g2 : G.get 2 = some (.arr 3 [[.lst 0 [] (some 0), .lst 0 [] (some 0), .lst 0 [] (some 0)]]) := fr 2 (by simp)
  (repeat' (first | refine wSeq rfl ?_ | refine wBlock rfl ?_ | refine wSkip rfl ?_ | refine wExit rfl ?_ | refine wRet rfl ?_ | refine wCondT rfl rfl ?_ | refine wCondF rfl rfl ?_ | refine wOpsP rfl ?_ | refine wDraw rfl rfl ?_ | simp only [seval, push_cast, ↓reduceIte, ↓bP_some, ↓aP_true, reduceCtorEq, get_at, set_at, List.length_append, List.length_cons, List.length_nil, Nat.zero_add, Nat.lt_add_one]))
  have gm : ∀ b, b < G.length → Heap.get (G ++ [some (Blk.arr 3 [[ve, vr, vt]])]) b = G.get b := fun b hb => get_app_l hb
  have l3 : ([some (Blk.arr 3 [[nlv mrow 1 o.el, nlv rdrow 6 o.rounds, nlv tirow 2 o.ties]]), some (Blk.arr 1 [[nlv mrow 1 p]]), some (Blk.arr 3 [[V.lst 0 [] (some 0), V.lst 0 [] (some 0), V.lst 0 [] (some 0)]])] : Heap).length = 3 := rfl
  rw [l3] at oe orr ot
  refine opsP_any rfl (ren1_o hL (p := p) (o := o.el) (F := fun b => (3 ≤ b ∧ b < G.length) ∧ g b = 0) (by rw [gm 1 (by omega)]; exact g1) (fun h => by omega) (oe.loc (fun b hb => ⟨hb, gm b hb.1.2⟩)) (ofL_all f1) (by unfold okI at b1; omega)) ?_
  rintro r G1 ⟨rfl, l4, f4, oe'⟩
  have l5 : G1.length = G.length + 1 := by rw [l4, List.length_append]; rfl
  show SWP L 0 T6.val.ntmps T6.val.body.r.r.r.r.r _ [(2, .ptr 0 3 0 0), (3, .ptr 1 1 0 0), (4, .ptr 2 3 0 0), (6, .ptr G.length 3 0 0), (7, .fn 15 [] [.ptr 1 1 0 0])] G1
  rw [hcode]
  refine k2 G1 G.length ve vr vt (fun b => (3 ≤ b ∧ b < G.length) ∧ g b = 0) (fun b => (3 ≤ b ∧ b < G.length) ∧ g b = 1) (fun b => (3 ≤ b ∧ b < G.length) ∧ g b = 2) ?_ ⟨?_, ?_, ?_, oe', by omega, fun b hb => ?_, fun b hb => ?_, fun b hb => ?_⟩ (orr.loc loc_rd (fun b hb => ⟨hb, ?_⟩)) (ot.loc loc_ti (fun b hb => ⟨hb, ?_⟩))
  · rw [f4 0 (fun h => by omega), gm 0 (by omega)]; exact g0
  · rw [f4 1 (fun h => by omega), gm 1 (by omega)]; exact g1
  · rw [f4 2 (fun h => by omega), gm 2 (by omega)]; exact g2
  · rw [f4 _ (fun h => by omega), get_at]
  · exact ⟨by omega, by omega, by omega, fun h => by omega, fun h => by omega⟩
  · exact ⟨by omega, by omega, by omega, fun h => by omega⟩
  · exact ⟨by omega, by omega, by omega⟩
  · rw [f4 b (fun h => by omega), gm b hb.1.2]
  · rw [f4 b (fun h => by omega), gm b hb.1.2]
theorem rename_v (hS : SortOk L) (o : Oc) (ho : okO o) (p : Nl Int) (hp : p.l.length * 8 ≤ 140737488351232) : VFn L 6 [ocv o, nlv mrow 1 p] (.tup [ocv (renL o p.l).1, .int .i64 (renL o p.l).2]) := by
  have h := AFn.whole (P := fun r => r = .tup [ocv (renL o p.l).1, .int .i64 (renL o p.l).2]) ((rename_o hL hS o ho p hp).mono (fun r H' ⟨v, e, h⟩ => ⟨6, _, by rw [e]; exact deep_tup2 h.deep (deep_leaf rfl 4), rfl⟩))
  exact ⟨by simp [V.closeds, closed_ocv, closed_nlv], by simp [V.closed, V.closeds, closed_ocv], h⟩
end Go.Proofs.YtkpfhnicdlgjiaaGreat
set_option maxRecDepth 100000
set_option linter.unusedVariables false
set_option linter.unusedSimpArgs false
namespace Go.Proofs.YtkpfhnicdlgjiaaGreat
theorem frz_src {α : Type} {f : α → List V} (hf : ∀ x, (f x).all V.closed = true) {H : Heap} {src : List (Option Nat)} {fz : List Nat} {a n : Nat} {l : List α} {c : Option Nat} (hp : posIn src a 0 = none) (hn : 0 < n) (ha : fz.contains a = true) (h : H.get a = some (.arr n (l.map f))) : V.ren (sgOf H src fz) (.ref a n 0 l.length c) = tl f n l c := by
  have e : sgOf H src fz a = .frz n (l.map f) := by
    unfold sgOf
    simp only [hp, ha, h, closeds_tl hf, cond_true]
  rw [V.ren, e]
  simp only [true_and, hn, Nat.zero_add, List.length_map, Nat.le_refl, and_self, if_true, List.drop_zero]
  rw [List.take_of_length_le (by simp)]; rfl
theorem okO_zero : okO zeroO := by simp [okO, zeroO, okI, Nl.l]
theorem had_ok {p : List Int} (hp : p.length ≤ 10) {l : List Rt} (h : ∀ r ∈ l, okRt r) : (hadP p l).length * 56 ≤ 140737488351232 ∧ ∀ r ∈ hadP p l, okRt r := by
  refine ⟨by rw [had_len]; omega, fun r hr => ?_⟩
  unfold hadP at hr
  obtain ⟨c, _, rfl⟩ := List.mem_map.1 hr
  rw [List.getD_eq_getElem?_getD]
  cases hx : l[(placeL p (c : Int)).toNat]? with
  | none => exact ⟨by simp [okU, Nl.l, default], by simp [okU, Nl.l, default]⟩
  | some x => exact h x (List.mem_of_getElem? hx)
theorem rising_len {l : List Int} (h : ∀ x ∈ l, 0 ≤ x ∧ x < 10) : (risingL l).length = l.length := (rising_perm h).1.length_eq
theorem im_10 {p l : List Int} (ht : turnedL p = true) (h : ∀ x ∈ l, 0 ≤ x ∧ x < p.length) : ∀ x ∈ l.map (imL p), 0 ≤ x ∧ x < 10 := fun x hx => by
  obtain ⟨u, hu, rfl⟩ := List.mem_map.1 hx
  have h1 := h u hu
  obtain ⟨n, rfl⟩ : ∃ n : Nat, u = n := ⟨u.toNat, by omega⟩
  obtain ⟨v, hv, mv⟩ := get_of (show n < p.length by omega)
  have h2 := turned_range ht mv
  have h3 := turned_len ht
  simp only [imL, Int.toNat_natCast, hv, Option.getD_some]
  omega
theorem fits_of {o : Oc} {n : Int} (hf : fitsO o n = true) : (∀ d ∈ o.rounds.l, ofRd d n = true) ∧ ∀ t ∈ o.ties.l, ofTi t n = true := by
  unfold fitsO at hf
  rw [Bool.and_eq_true, Bool.and_eq_true, List.all_eq_true, List.all_eq_true] at hf
  exact ⟨hf.1.2, hf.2⟩
theorem okO_ren {o : Oc} (ho : okO o) (p : List Int) : okO (renL o p).1 := by
  unfold renL
  split
  · rename_i h
    obtain ⟨ht, hf⟩ := h
    have hlen := turned_len ht
    obtain ⟨f2, f3⟩ := fits_of hf
    obtain ⟨b1, ⟨b2, b2'⟩, b3, b3'⟩ := ho
    unfold okI at b1
    refine ⟨?_, ⟨?_, ?_⟩, ?_, ?_⟩
    · simp only [okI, renO, l_map (f := List.map (imL p)) rfl, List.length_map]; exact b1
    · simp only [renO, l_map (f := List.map (renRd p)) rfl, List.length_map]; exact b2
    · simp only [renO, l_map (f := List.map (renRd p)) rfl]
      intro d hd
      obtain ⟨x, hx, rfl⟩ := List.mem_map.1 hd
      have kx := b2' x hx
      have hh := had_ok (p := p) (by omega) kx.2.1
      refine ⟨hh.1, hh.2, kx.2.2.1, ?_, ?_⟩
      · have := kx.2.2.2.1; unfold okI at *; simp only [renRd, l_map (f := List.map (imL p)) rfl, List.length_map]; exact this
      · have := kx.2.2.2.2; unfold okI at *; simp only [renRd, l_map (f := List.map (imL p)) rfl, List.length_map]; exact this
    · simp only [renO, l_map (f := List.map (renTi p)) rfl, List.length_map]; exact b3
    · simp only [renO, l_map (f := List.map (renTi p)) rfl]
      intro t hm
      obtain ⟨x, hx, rfl⟩ := List.mem_map.1 hm
      have kx := b3' x hx
      have fx := f3 x hx
      unfold ofTi at fx
      rw [Bool.and_eq_true] at fx
      unfold okTi okI at *
      simp only [renTi, l_map (f := fun l => risingL (l.map (imL p))) rfl]
      rw [rising_len (im_10 ht (ofL_iff.1 fx.1)), List.length_map]
      exact kx
  · exact okO_zero
def fillTo {α : Type} (g : Nat → α) (z : α) (p : List Int) (j : Nat) : List α := (List.range p.length).map fun (c : Nat) => if placeL p (c : Int) < (j : Int) then g (placeL p (c : Int)).toNat else z
section
variable {α : Type} {g : Nat → α} {z : α} {p : List Int} {j m c : Nat}
theorem fillTo_len : (fillTo g z p j).length = p.length := by simp [fillTo]
theorem fillTo_get (hc : c < p.length) : (fillTo g z p j)[c]? = some (if placeL p (c : Int) < (j : Int) then g (placeL p (c : Int)).toNat else z) := by simp [fillTo, hc]
theorem fillTo_zero (ht : turnedL p = true) : fillTo g z p 0 = List.replicate p.length z := by
  apply List.ext_getElem?
  intro c
  by_cases hc : c < p.length
  · have := (place_nonneg p (c : Int)).2 (turned_mem ht hc)
    rw [fillTo_get hc, List.getElem?_replicate, if_pos hc, if_neg (by omega)]
  · rw [List.getElem?_eq_none (by rw [fillTo_len]; omega), List.getElem?_eq_none (by simp; omega)]
theorem fillTo_step (ht : turnedL p = true) (hm : p[j]? = some (m : Int)) (hmp : m < p.length) : (fillTo g z p j).set m (g j) = fillTo g z p (j + 1) := by
  have hpl := place_nodup (turned_nodup ht) hm
  apply List.ext_getElem?
  intro c
  rw [List.getElem?_set, fillTo_len]
  by_cases e : m = c
  · subst e
    rw [if_pos rfl, if_pos hmp, fillTo_get hmp, hpl, if_pos (by omega)]
    rfl
  · rw [if_neg e]
    by_cases hc : c < p.length
    · rw [fillTo_get hc, fillTo_get hc]
      have hmem := turned_mem ht hc
      have h0 := (place_nonneg p (c : Int)).2 hmem
      have hg := place_get p (c : Int) hmem
      have hne : placeL p (c : Int) ≠ (j : Int) := fun h => by
        rw [h] at hg
        have hg : p[j]? = some (c : Int) := hg
        rw [hm] at hg
        have := Option.some.inj hg
        omega
      by_cases h : placeL p (c : Int) < (j : Int)
      · rw [if_pos h, if_pos (by omega)]
      · rw [if_neg h, if_neg (by omega)]
    · rw [List.getElem?_eq_none (by rw [fillTo_len]; omega), List.getElem?_eq_none (by rw [fillTo_len]; omega)]
theorem fillTo_all : fillTo g z p p.length = (List.range p.length).map fun (c : Nat) => g (placeL p (c : Int)).toNat := by
  unfold fillTo
  exact List.map_congr_left fun c hc => if_pos (place_lt p c)
end
theorem fill_back {p : List Int} (ht : turnedL p = true) : fillTo (fun i => (i : Int)) 0 p p.length = backL p := by
  rw [fillTo_all]
  refine List.map_congr_left fun c hc => ?_
  have := (place_nonneg p (c : Int)).2 (turned_mem ht (List.mem_range.1 hc))
  omega
end Go.Proofs.YtkpfhnicdlgjiaaGreat
