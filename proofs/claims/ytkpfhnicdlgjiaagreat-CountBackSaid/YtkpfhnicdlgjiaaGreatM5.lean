/- Outcomes: the program's copies, walked. · Outcomes: the program's copies of numbers, walked. · Outcomes: copies own what they point to. Nothing of the program is named here. · Outcomes: the program's copy of an outcome, walked, the ties: it owns what it points to. · Outcomes: the program's copy of an outcome, walked: it owns what it points to. · Outcomes: the program's comparisons, walked. -/
import Derived.Test.YtkpfhnicdlgjiaaGreatM4
import Derived.Test.YtkpfhnicdlgjiaaGreatM2
set_option maxRecDepth 100000
set_option maxHeartbeats 4000000
set_option linter.unusedVariables false
set_option linter.unusedSimpArgs false
namespace Go.Proofs.YtkpfhnicdlgjiaaGreat
/-- A copy: the value, the memory. -/
def clV {α : Type} (n : Nat) : Nl α → V
  | none => .lst 0 [] (some 0)
  | some l => .ref 0 n 0 l.length (if l.length = 0 then some 0 else none)
def clH {α : Type} (f : α → List V) (n : Nat) : Nl α → Heap
  | none => []
  | some l => [some (.arr n (l.map f))]
theorem nlv_some {α : Type} {f : α → List V} {n : Nat} {l : List α} (h : l ≠ []) : nlv f n (some l) = tl f n l none := by
  have : ¬ l.length = 0 := fun e => h (List.length_eq_zero_iff.1 e)
  simp only [nlv, this, if_false]; rfl
theorem nlv_empty {α : Type} {f : α → List V} {n : Nat} : nlv f n (some []) = .lst 1000003 [] none := rfl
theorem isnil_tl {α : Type} {f : α → List V} {s : Nat} {l : List α} {c : Option Nat} (h : l ≠ []) : isnilQ 0 false (tl f s l c) = some (.bool false) := by
  have : ¬ l.length = 0 := fun e => h (List.length_eq_zero_iff.1 e)
  simp [isnilQ, isnilV, tl, this, h]
theorem rowsOf_tl {α : Type} {f : α → List V} {s : Nat} {l : List α} {c : Option Nat} {g : Nat → Option Blk} : rowsOf s g (tl f s l c) = some (l.map f, []) := by
  unfold tl
  simp [rowsOf]
theorem rowsOf_empty {s : Nat} {c : Option Nat} {g : Nat → Option Blk} : rowsOf s g (.lst 1000003 [] c) = some ([], []) := by simp [rowsOf]
variable {L : Lib} (hL : L.T = tab.get)
include hL
theorem clone_i (o : Nl Int) (ho : o.l.length * 8 ≤ 140737488351232) : MFn L 34 [nlv mrow 1 o] (clV 1 o) (clH mrow 1 o) := by
  refine ⟨by simp [V.closeds, closed_nlv], ?_⟩
  refine AFn.of_body (F := T34.1) (by rw [hL]; rfl) rfl ?_
  cases o with
  | none =>
    (repeat' (first | refine wSeq rfl ?_ | refine wBlock rfl ?_ | refine wSkip rfl ?_ | refine wExit rfl ?_ | refine wRet rfl ?_ | refine wCondT rfl rfl ?_ | refine wCondF rfl rfl ?_ | refine wOps rfl ?_ | refine wDraw rfl rfl ?_ | simp only [seval, push_cast, ↓reduceIte, ↓bP_some, ↓aP_true, reduceCtorEq, nlv]))
    exact FnQ.at rfl ⟨rfl, rfl⟩
  | some l =>
    by_cases hne : l = []
    · subst hne
      (repeat' (first | refine wSeq rfl ?_ | refine wBlock rfl ?_ | refine wSkip rfl ?_ | refine wExit rfl ?_ | refine wRet rfl ?_ | refine wCondT rfl rfl ?_ | refine wCondF rfl rfl ?_ | refine wOps rfl ?_ | refine wDraw rfl rfl ?_ | simp only [seval, push_cast, ↓reduceIte, ↓bP_some, ↓aP_true, reduceCtorEq, nlv_empty, isnilQ_non, rowsOf_empty, List.length_nil, List.map_nil]))
      exact FnQ.sh [some 0] [] rfl rfl rfl rfl ⟨rfl, rfl⟩
    · have hne' : ¬ l.length ≤ 0 := fun e => hne (List.length_eq_zero_iff.1 (Nat.le_zero.1 e))
      have hne2 : ¬ l.length = 0 := fun e => hne (List.length_eq_zero_iff.1 e)
      have hroom : l.length * 8 ≤ 140737488355328 := by simp only [Nl.l] at ho; omega
      (repeat' (first | refine wSeq rfl ?_ | refine wBlock rfl ?_ | refine wSkip rfl ?_ | refine wExit rfl ?_ | refine wRet rfl ?_ | refine wCondT rfl rfl ?_ | refine wCondF rfl rfl ?_ | refine wOps rfl ?_ | refine wDraw rfl rfl ?_ | simp only [seval, push_cast, ↓reduceIte, ↓bP_some, ↓aP_true, reduceCtorEq, nlv_some hne, isnil_tl hne, rowsOf_tl, hne', hroom, Nat.zero_add, List.nil_append]))
      exact FnQ.sh [some 1] [] rfl rfl rfl (sh_c (sh_b closed_mrow rfl) sh_n) ⟨by simp only [clV, hne2, if_false]; rfl, rfl⟩
theorem clone_u (o : Nl Int) (ho : o.l.length * 4 ≤ 140737488351232) : MFn L 71 [nlv urow 1 o] (clV 1 o) (clH urow 1 o) := by
  refine ⟨by simp [V.closeds, closed_nlv], ?_⟩
  refine AFn.of_body (F := T71.1) (by rw [hL]; rfl) rfl ?_
  cases o with
  | none =>
    (repeat' (first | refine wSeq rfl ?_ | refine wBlock rfl ?_ | refine wSkip rfl ?_ | refine wExit rfl ?_ | refine wRet rfl ?_ | refine wCondT rfl rfl ?_ | refine wCondF rfl rfl ?_ | refine wOps rfl ?_ | refine wDraw rfl rfl ?_ | simp only [seval, push_cast, ↓reduceIte, ↓bP_some, ↓aP_true, reduceCtorEq, nlv]))
    exact FnQ.at rfl ⟨rfl, rfl⟩
  | some l =>
    by_cases hne : l = []
    · subst hne
      (repeat' (first | refine wSeq rfl ?_ | refine wBlock rfl ?_ | refine wSkip rfl ?_ | refine wExit rfl ?_ | refine wRet rfl ?_ | refine wCondT rfl rfl ?_ | refine wCondF rfl rfl ?_ | refine wOps rfl ?_ | refine wDraw rfl rfl ?_ | simp only [seval, push_cast, ↓reduceIte, ↓bP_some, ↓aP_true, reduceCtorEq, nlv_empty, isnilQ_non, rowsOf_empty, List.length_nil, List.map_nil]))
      exact FnQ.sh [some 0] [] rfl rfl rfl rfl ⟨rfl, rfl⟩
    · have hne' : ¬ l.length ≤ 0 := fun e => hne (List.length_eq_zero_iff.1 (Nat.le_zero.1 e))
      have hne2 : ¬ l.length = 0 := fun e => hne (List.length_eq_zero_iff.1 e)
      have hroom : l.length * 4 ≤ 140737488355328 := by simp only [Nl.l] at ho; omega
      (repeat' (first | refine wSeq rfl ?_ | refine wBlock rfl ?_ | refine wSkip rfl ?_ | refine wExit rfl ?_ | refine wRet rfl ?_ | refine wCondT rfl rfl ?_ | refine wCondF rfl rfl ?_ | refine wOps rfl ?_ | refine wDraw rfl rfl ?_ | simp only [seval, push_cast, ↓reduceIte, ↓bP_some, ↓aP_true, reduceCtorEq, nlv_some hne, isnil_tl hne, rowsOf_tl, hne', hroom, Nat.zero_add, List.nil_append]))
      exact FnQ.sh [some 1] [] rfl rfl rfl (sh_c (sh_b closed_urow rfl) sh_n) ⟨by simp only [clV, hne2, if_false]; rfl, rfl⟩
theorem clone_rt (o : Nl Rt) (ho : o.l.length * 56 ≤ 140737488351232) : MFn L 38 [nlv rtrow 3 o] (clV 3 o) (clH rtrow 3 o) := by
  refine ⟨by simp [V.closeds, closed_nlv], ?_⟩
  refine AFn.of_body (F := T38.1) (by rw [hL]; rfl) rfl ?_
  cases o with
  | none =>
    (repeat' (first | refine wSeq rfl ?_ | refine wBlock rfl ?_ | refine wSkip rfl ?_ | refine wExit rfl ?_ | refine wRet rfl ?_ | refine wCondT rfl rfl ?_ | refine wCondF rfl rfl ?_ | refine wOps rfl ?_ | refine wDraw rfl rfl ?_ | simp only [seval, push_cast, ↓reduceIte, ↓bP_some, ↓aP_true, reduceCtorEq, nlv]))
    exact FnQ.at rfl ⟨rfl, rfl⟩
  | some l =>
    by_cases hne : l = []
    · subst hne
      (repeat' (first | refine wSeq rfl ?_ | refine wBlock rfl ?_ | refine wSkip rfl ?_ | refine wExit rfl ?_ | refine wRet rfl ?_ | refine wCondT rfl rfl ?_ | refine wCondF rfl rfl ?_ | refine wOps rfl ?_ | refine wDraw rfl rfl ?_ | simp only [seval, push_cast, ↓reduceIte, ↓bP_some, ↓aP_true, reduceCtorEq, nlv_empty, isnilQ_non, rowsOf_empty, List.length_nil, List.map_nil]))
      exact FnQ.sh [some 0] [] rfl rfl rfl rfl ⟨rfl, rfl⟩
    · have hne' : ¬ l.length ≤ 0 := fun e => hne (List.length_eq_zero_iff.1 (Nat.le_zero.1 e))
      have hne2 : ¬ l.length = 0 := fun e => hne (List.length_eq_zero_iff.1 e)
      have hroom : l.length * 56 ≤ 140737488355328 := by simp only [Nl.l] at ho; omega
      (repeat' (first | refine wSeq rfl ?_ | refine wBlock rfl ?_ | refine wSkip rfl ?_ | refine wExit rfl ?_ | refine wRet rfl ?_ | refine wCondT rfl rfl ?_ | refine wCondF rfl rfl ?_ | refine wOps rfl ?_ | refine wDraw rfl rfl ?_ | simp only [seval, push_cast, ↓reduceIte, ↓bP_some, ↓aP_true, reduceCtorEq, nlv_some hne, isnil_tl hne, rowsOf_tl, hne', hroom, Nat.zero_add, List.nil_append]))
      exact FnQ.sh [some 1] [] rfl rfl rfl (sh_c (sh_b closed_rtrow rfl) sh_n) ⟨by simp only [clV, hne2, if_false]; rfl, rfl⟩
theorem clone_rd (o : Nl Rd) (ho : o.l.length * 128 ≤ 140737488351232) : MFn L 35 [nlv rdrow 6 o] (clV 6 o) (clH rdrow 6 o) := by
  refine ⟨by simp [V.closeds, closed_nlv], ?_⟩
  refine AFn.of_body (F := T35.1) (by rw [hL]; rfl) rfl ?_
  cases o with
  | none =>
    (repeat' (first | refine wSeq rfl ?_ | refine wBlock rfl ?_ | refine wSkip rfl ?_ | refine wExit rfl ?_ | refine wRet rfl ?_ | refine wCondT rfl rfl ?_ | refine wCondF rfl rfl ?_ | refine wOps rfl ?_ | refine wDraw rfl rfl ?_ | simp only [seval, push_cast, ↓reduceIte, ↓bP_some, ↓aP_true, reduceCtorEq, nlv]))
    exact FnQ.at rfl ⟨rfl, rfl⟩
  | some l =>
    by_cases hne : l = []
    · subst hne
      (repeat' (first | refine wSeq rfl ?_ | refine wBlock rfl ?_ | refine wSkip rfl ?_ | refine wExit rfl ?_ | refine wRet rfl ?_ | refine wCondT rfl rfl ?_ | refine wCondF rfl rfl ?_ | refine wOps rfl ?_ | refine wDraw rfl rfl ?_ | simp only [seval, push_cast, ↓reduceIte, ↓bP_some, ↓aP_true, reduceCtorEq, nlv_empty, isnilQ_non, rowsOf_empty, List.length_nil, List.map_nil]))
      exact FnQ.sh [some 0] [] rfl rfl rfl rfl ⟨rfl, rfl⟩
    · have hne' : ¬ l.length ≤ 0 := fun e => hne (List.length_eq_zero_iff.1 (Nat.le_zero.1 e))
      have hne2 : ¬ l.length = 0 := fun e => hne (List.length_eq_zero_iff.1 e)
      have hroom : l.length * 128 ≤ 140737488355328 := by simp only [Nl.l] at ho; omega
      (repeat' (first | refine wSeq rfl ?_ | refine wBlock rfl ?_ | refine wSkip rfl ?_ | refine wExit rfl ?_ | refine wRet rfl ?_ | refine wCondT rfl rfl ?_ | refine wCondF rfl rfl ?_ | refine wOps rfl ?_ | refine wDraw rfl rfl ?_ | simp only [seval, push_cast, ↓reduceIte, ↓bP_some, ↓aP_true, reduceCtorEq, nlv_some hne, isnil_tl hne, rowsOf_tl, hne', hroom, Nat.zero_add, List.nil_append]))
      exact FnQ.sh [some 1] [] rfl rfl rfl (sh_c (sh_b closed_rdrow rfl) sh_n) ⟨by simp only [clV, hne2, if_false]; rfl, rfl⟩
theorem clone_ti (o : Nl Ti) (ho : o.l.length * 32 ≤ 140737488351232) : MFn L 36 [nlv tirow 2 o] (clV 2 o) (clH tirow 2 o) := by
  refine ⟨by simp [V.closeds, closed_nlv], ?_⟩
  refine AFn.of_body (F := T36.1) (by rw [hL]; rfl) rfl ?_
  cases o with
  | none =>
    (repeat' (first | refine wSeq rfl ?_ | refine wBlock rfl ?_ | refine wSkip rfl ?_ | refine wExit rfl ?_ | refine wRet rfl ?_ | refine wCondT rfl rfl ?_ | refine wCondF rfl rfl ?_ | refine wOps rfl ?_ | refine wDraw rfl rfl ?_ | simp only [seval, push_cast, ↓reduceIte, ↓bP_some, ↓aP_true, reduceCtorEq, nlv]))
    exact FnQ.at rfl ⟨rfl, rfl⟩
  | some l =>
    by_cases hne : l = []
    · subst hne
      (repeat' (first | refine wSeq rfl ?_ | refine wBlock rfl ?_ | refine wSkip rfl ?_ | refine wExit rfl ?_ | refine wRet rfl ?_ | refine wCondT rfl rfl ?_ | refine wCondF rfl rfl ?_ | refine wOps rfl ?_ | refine wDraw rfl rfl ?_ | simp only [seval, push_cast, ↓reduceIte, ↓bP_some, ↓aP_true, reduceCtorEq, nlv_empty, isnilQ_non, rowsOf_empty, List.length_nil, List.map_nil]))
      exact FnQ.sh [some 0] [] rfl rfl rfl rfl ⟨rfl, rfl⟩
    · have hne' : ¬ l.length ≤ 0 := fun e => hne (List.length_eq_zero_iff.1 (Nat.le_zero.1 e))
      have hne2 : ¬ l.length = 0 := fun e => hne (List.length_eq_zero_iff.1 e)
      have hroom : l.length * 32 ≤ 140737488355328 := by simp only [Nl.l] at ho; omega
      (repeat' (first | refine wSeq rfl ?_ | refine wBlock rfl ?_ | refine wSkip rfl ?_ | refine wExit rfl ?_ | refine wRet rfl ?_ | refine wCondT rfl rfl ?_ | refine wCondF rfl rfl ?_ | refine wOps rfl ?_ | refine wDraw rfl rfl ?_ | simp only [seval, push_cast, ↓reduceIte, ↓bP_some, ↓aP_true, reduceCtorEq, nlv_some hne, isnil_tl hne, rowsOf_tl, hne', hroom, Nat.zero_add, List.nil_append]))
      exact FnQ.sh [some 1] [] rfl rfl rfl (sh_c (sh_b closed_tirow rfl) sh_n) ⟨by simp only [clV, hne2, if_false]; rfl, rfl⟩
end Go.Proofs.YtkpfhnicdlgjiaaGreat
set_option maxRecDepth 100000
set_option maxHeartbeats 1000000
set_option linter.unusedVariables false
set_option linter.unusedSimpArgs false
namespace Go.Proofs.YtkpfhnicdlgjiaaGreat
def rtC (r : Rt) : List V := [.bool r.neg, clV 1 r.num, (clV 1 r.den).ren (upσ (clH urow 1 r.num).length)]
def rtH (r : Rt) : Heap := clH urow 1 r.num ++ clH urow 1 r.den
theorem ren_clH {α : Type} {f : α → List V} (hf : ∀ x, (f x).all V.closed = true) {n : Nat} {o : Nl α} {σ : Nat → Sg} : (clH f n o).map (Option.map (Blk.ren σ)) = clH f n o := by
  cases o with
  | none => rfl
  | some l => simp only [clH, List.map_cons, List.map_nil, Option.map_some, ren_tl hf]
theorem ren_rtH {r : Rt} {σ : Nat → Sg} : (rtH r).map (Option.map (Blk.ren σ)) = rtH r := by
  unfold rtH
  rw [List.map_append, ren_clH closed_urow, ren_clH closed_urow]
theorem ren_b0 {σ : Nat → Sg} {b : Bool} : V.ren σ (.bool b) = .bool b := V.ren_closed _ rfl
theorem ren_l0 {σ : Nat → Sg} {s : Nat} {r : List (List V)} {c : Option Nat} : V.ren σ (.lst s r c) = .lst s r c := V.ren_closed _ rfl
theorem ren_agg0 {σ : Nat → Sg} {cs : List V} : V.ren σ (.agg cs) = .agg (cs.map (V.ren σ)) := by rw [V.ren, V.rens_map]
theorem rtC_len (r : Rt) : (rtC r).length = 3 := rfl
/-- How the copies of a list's numbers lie: the first j rows. -/
def rowsT (l : List Rt) (j : Nat) : List (List V) := (List.range j).map fun i => (rtC (l.getD i default)).map (V.ren (upσ (((l.take i).flatMap rtH).length + 1)))
theorem rowsT_len (l : List Rt) (j : Nat) : (rowsT l j).length = j := by simp [rowsT]
theorem rowsT_succ {l : List Rt} {j : Nat} {x : Rt} (h : l[j]? = some x) : rowsT l (j + 1) = rowsT l j ++ [(rtC x).map (V.ren (upσ (((l.take j).flatMap rtH).length + 1)))] := by
  unfold rowsT
  rw [List.range_succ, List.map_append, List.map_cons, List.map_nil, List.getD_eq_getElem?_getD, h]
  rfl
def ratH : Nl Rt → Heap
  | none => []
  | some l => some (.arr 3 (rowsT l l.length)) :: l.flatMap rtH
theorem flat_snoc {l : List Rt} {j : Nat} {x : Rt} (h : l[j]? = some x) : (l.take (j + 1)).flatMap rtH = (l.take j).flatMap rtH ++ rtH x := by rw [take_snoc h, List.flatMap_append]; simp
theorem drop_atc {α : Type} {l : List α} {j : Nat} {x : α} (h : l[j]? = some x) : l.drop j = x :: l.drop (j + 1) := by
  obtain ⟨h1, rfl⟩ := List.getElem?_eq_some_iff.1 h
  exact List.drop_eq_getElem_cons h1
theorem pos1 (n : Nat) : (0 < n + 1) = True := by simp
theorem rowsT_get {l : List Rt} {j : Nat} {x : Rt} (h : l[j]? = some x) : (rowsT l j ++ (l.drop j).map rtrow)[j]? = some (rtrow x) := by
  rw [List.getElem?_append_right (by rw [rowsT_len]; exact Nat.le_refl _), rowsT_len, Nat.sub_self, drop_atc h]; rfl
theorem rowsT_set {l : List Rt} {j : Nat} {x : Rt} (h : l[j]? = some x) : (rowsT l j ++ (l.drop j).map rtrow).set j ((rtC x).map (V.ren (upσ (((l.take j).flatMap rtH).length + 1)))) = rowsT l (j + 1) ++ (l.drop (j + 1)).map rtrow := by
  rw [rowsT_succ h, drop_atc h, List.map_cons, List.set_append_right _ _ (by rw [rowsT_len]; exact Nat.le_refl _), rowsT_len, Nat.sub_self, List.append_assoc]; rfl
variable {L : Lib} (hL : L.T = tab.get)
include hL
theorem ratTwin_m (r : Rt) (hr : okRt r) : MFn L 37 [.agg [.bool r.neg, nlv urow 1 r.num, nlv urow 1 r.den]] (.agg (rtC r)) (rtH r) := by
  refine ⟨by simp [V.closeds, V.closed, closed_nlv], ?_⟩
  obtain ⟨neg, num, den⟩ := r
  obtain ⟨h1, h2⟩ := hr
  refine AFn.of_body (F := T37.1) (by rw [hL]; rfl) rfl ?_
  have k1 := clone_u hL num h1
  have k2 := clone_u hL den h2
  cases num with
  | none =>
    cases den with
    | none =>
      (repeat' (first | refine wSeq rfl ?_ | refine wBlock rfl ?_ | refine wSkip rfl ?_ | refine wExit rfl ?_ | refine wRet rfl ?_ | refine wCondT rfl rfl ?_ | refine wCondF rfl rfl ?_ | refine wOpsM [71] rfl ?_ | refine wDrawM [71] rfl rfl ?_ | simp only [seval, push_cast, ↓reduceIte, ↓bP_some, ↓aP_true, reduceCtorEq]))
      refine wDrawD rfl ?_
      refine dops_op rfl rfl rfl rfl rfl ?_
      simp only [seval, push_cast, ↓reduceIte, ↓bP_some, ↓aP_true, reduceCtorEq, happ_eq, upds_nil, upds_cons, clV, clH, ren_l0, ren_up_ref, ren_tl closed_urow, Option.map_some]
      refine dops_op rfl rfl rfl rfl rfl ?_
      simp only [seval, push_cast, ↓reduceIte, ↓bP_some, ↓aP_true, reduceCtorEq, happ_eq, upds_nil, upds_cons, clV, clH, ren_l0, ren_up_ref, ren_tl closed_urow, Option.map_some]
      refine dops_op rfl rfl rfl rfl rfl ?_
      simp only [seval, push_cast, ↓reduceIte, ↓bP_some, ↓aP_true, reduceCtorEq, happ_eq, upds_nil, upds_cons, clV, clH, ren_l0, ren_up_ref, ren_tl closed_urow, Option.map_some]
      refine dops_op rfl rfl rfl rfl rfl ?_
      simp only [seval, push_cast, ↓reduceIte, ↓bP_some, ↓aP_true, reduceCtorEq, happ_eq, upds_nil, upds_cons, clV, clH, ren_l0, ren_up_ref, ren_tl closed_urow, Option.map_some]
      refine dops_make rfl rfl rfl k1 rfl ?_
      simp only [seval, push_cast, ↓reduceIte, ↓bP_some, ↓aP_true, reduceCtorEq, happ_eq, upds_nil, upds_cons, clV, clH, ren_l0, ren_up_ref, ren_tl closed_urow, Option.map_some]
      refine dops_op rfl rfl rfl rfl rfl ?_
      simp only [seval, push_cast, ↓reduceIte, ↓bP_some, ↓aP_true, reduceCtorEq, happ_eq, upds_nil, upds_cons, clV, clH, ren_l0, ren_up_ref, ren_tl closed_urow, Option.map_some]
      refine dops_op rfl rfl rfl rfl rfl ?_
      simp only [seval, push_cast, ↓reduceIte, ↓bP_some, ↓aP_true, reduceCtorEq, happ_eq, upds_nil, upds_cons, clV, clH, ren_l0, ren_up_ref, ren_tl closed_urow, Option.map_some]
      refine dops_make rfl rfl rfl k2 rfl ?_
      simp only [seval, push_cast, ↓reduceIte, ↓bP_some, ↓aP_true, reduceCtorEq, happ_eq, upds_nil, upds_cons, clV, clH, ren_l0, ren_up_ref, ren_tl closed_urow, Option.map_some]
      refine dops_op rfl rfl rfl rfl rfl ?_
      simp only [seval, push_cast, ↓reduceIte, ↓bP_some, ↓aP_true, reduceCtorEq, happ_eq, upds_nil, upds_cons, clV, clH, ren_l0, ren_up_ref, ren_tl closed_urow, Option.map_some]
      refine dops_op rfl rfl rfl rfl rfl ?_
      simp only [seval, push_cast, ↓reduceIte, ↓bP_some, ↓aP_true, reduceCtorEq, happ_eq, upds_nil, upds_cons, clV, clH, ren_l0, ren_up_ref, ren_tl closed_urow, Option.map_some]
      refine dops_nil ?_
      simp only [seval, push_cast, ↓reduceIte, ↓bP_some, ↓aP_true, reduceCtorEq, happ_eq, upds_nil, upds_cons, clV, clH, ren_l0, ren_up_ref, ren_tl closed_urow, Option.map_some]
      (repeat' (first | refine wSeq rfl ?_ | refine wBlock rfl ?_ | refine wSkip rfl ?_ | refine wExit rfl ?_ | refine wRet rfl ?_ | refine wCondT rfl rfl ?_ | refine wCondF rfl rfl ?_ | refine wOps rfl ?_ | refine wDraw rfl rfl ?_ | simp only [seval, push_cast, ↓reduceIte, ↓bP_some, ↓aP_true, reduceCtorEq]))
      exact FnQ.sh [] [] rfl rfl rfl (rfl) ⟨rfl, rfl⟩
    | some d =>
      (repeat' (first | refine wSeq rfl ?_ | refine wBlock rfl ?_ | refine wSkip rfl ?_ | refine wExit rfl ?_ | refine wRet rfl ?_ | refine wCondT rfl rfl ?_ | refine wCondF rfl rfl ?_ | refine wOpsM [71] rfl ?_ | refine wDrawM [71] rfl rfl ?_ | simp only [seval, push_cast, ↓reduceIte, ↓bP_some, ↓aP_true, reduceCtorEq]))
      refine wDrawD rfl ?_
      refine dops_op rfl rfl rfl rfl rfl ?_
      simp only [seval, push_cast, ↓reduceIte, ↓bP_some, ↓aP_true, reduceCtorEq, happ_eq, upds_nil, upds_cons, clV, clH, ren_l0, ren_up_ref, ren_tl closed_urow, Option.map_some]
      refine dops_op rfl rfl rfl rfl rfl ?_
      simp only [seval, push_cast, ↓reduceIte, ↓bP_some, ↓aP_true, reduceCtorEq, happ_eq, upds_nil, upds_cons, clV, clH, ren_l0, ren_up_ref, ren_tl closed_urow, Option.map_some]
      refine dops_op rfl rfl rfl rfl rfl ?_
      simp only [seval, push_cast, ↓reduceIte, ↓bP_some, ↓aP_true, reduceCtorEq, happ_eq, upds_nil, upds_cons, clV, clH, ren_l0, ren_up_ref, ren_tl closed_urow, Option.map_some]
      refine dops_op rfl rfl rfl rfl rfl ?_
      simp only [seval, push_cast, ↓reduceIte, ↓bP_some, ↓aP_true, reduceCtorEq, happ_eq, upds_nil, upds_cons, clV, clH, ren_l0, ren_up_ref, ren_tl closed_urow, Option.map_some]
      refine dops_make rfl rfl rfl k1 rfl ?_
      simp only [seval, push_cast, ↓reduceIte, ↓bP_some, ↓aP_true, reduceCtorEq, happ_eq, upds_nil, upds_cons, clV, clH, ren_l0, ren_up_ref, ren_tl closed_urow, Option.map_some]
      refine dops_op rfl rfl rfl rfl rfl ?_
      simp only [seval, push_cast, ↓reduceIte, ↓bP_some, ↓aP_true, reduceCtorEq, happ_eq, upds_nil, upds_cons, clV, clH, ren_l0, ren_up_ref, ren_tl closed_urow, Option.map_some]
      refine dops_op rfl rfl rfl rfl rfl ?_
      simp only [seval, push_cast, ↓reduceIte, ↓bP_some, ↓aP_true, reduceCtorEq, happ_eq, upds_nil, upds_cons, clV, clH, ren_l0, ren_up_ref, ren_tl closed_urow, Option.map_some]
      refine dops_make rfl rfl rfl k2 rfl ?_
      simp only [seval, push_cast, ↓reduceIte, ↓bP_some, ↓aP_true, reduceCtorEq, happ_eq, upds_nil, upds_cons, clV, clH, ren_l0, ren_up_ref, ren_tl closed_urow, Option.map_some]
      refine dops_op rfl rfl rfl rfl rfl ?_
      simp only [seval, push_cast, ↓reduceIte, ↓bP_some, ↓aP_true, reduceCtorEq, happ_eq, upds_nil, upds_cons, clV, clH, ren_l0, ren_up_ref, ren_tl closed_urow, Option.map_some]
      refine dops_op rfl rfl rfl rfl rfl ?_
      simp only [seval, push_cast, ↓reduceIte, ↓bP_some, ↓aP_true, reduceCtorEq, happ_eq, upds_nil, upds_cons, clV, clH, ren_l0, ren_up_ref, ren_tl closed_urow, Option.map_some]
      refine dops_nil ?_
      simp only [seval, push_cast, ↓reduceIte, ↓bP_some, ↓aP_true, reduceCtorEq, happ_eq, upds_nil, upds_cons, clV, clH, ren_l0, ren_up_ref, ren_tl closed_urow, Option.map_some]
      (repeat' (first | refine wSeq rfl ?_ | refine wBlock rfl ?_ | refine wSkip rfl ?_ | refine wExit rfl ?_ | refine wRet rfl ?_ | refine wCondT rfl rfl ?_ | refine wCondF rfl rfl ?_ | refine wOps rfl ?_ | refine wDraw rfl rfl ?_ | simp only [seval, push_cast, ↓reduceIte, ↓bP_some, ↓aP_true, reduceCtorEq]))
      exact FnQ.sh [some 2] [] rfl rfl rfl (sh_c (sh_b closed_urow rfl) sh_n) ⟨rfl, rfl⟩
  | some n =>
    cases den with
    | none =>
      (repeat' (first | refine wSeq rfl ?_ | refine wBlock rfl ?_ | refine wSkip rfl ?_ | refine wExit rfl ?_ | refine wRet rfl ?_ | refine wCondT rfl rfl ?_ | refine wCondF rfl rfl ?_ | refine wOpsM [71] rfl ?_ | refine wDrawM [71] rfl rfl ?_ | simp only [seval, push_cast, ↓reduceIte, ↓bP_some, ↓aP_true, reduceCtorEq]))
      refine wDrawD rfl ?_
      refine dops_op rfl rfl rfl rfl rfl ?_
      simp only [seval, push_cast, ↓reduceIte, ↓bP_some, ↓aP_true, reduceCtorEq, happ_eq, upds_nil, upds_cons, clV, clH, ren_l0, ren_up_ref, ren_tl closed_urow, Option.map_some]
      refine dops_op rfl rfl rfl rfl rfl ?_
      simp only [seval, push_cast, ↓reduceIte, ↓bP_some, ↓aP_true, reduceCtorEq, happ_eq, upds_nil, upds_cons, clV, clH, ren_l0, ren_up_ref, ren_tl closed_urow, Option.map_some]
      refine dops_op rfl rfl rfl rfl rfl ?_
      simp only [seval, push_cast, ↓reduceIte, ↓bP_some, ↓aP_true, reduceCtorEq, happ_eq, upds_nil, upds_cons, clV, clH, ren_l0, ren_up_ref, ren_tl closed_urow, Option.map_some]
      refine dops_op rfl rfl rfl rfl rfl ?_
      simp only [seval, push_cast, ↓reduceIte, ↓bP_some, ↓aP_true, reduceCtorEq, happ_eq, upds_nil, upds_cons, clV, clH, ren_l0, ren_up_ref, ren_tl closed_urow, Option.map_some]
      refine dops_make rfl rfl rfl k1 rfl ?_
      simp only [seval, push_cast, ↓reduceIte, ↓bP_some, ↓aP_true, reduceCtorEq, happ_eq, upds_nil, upds_cons, clV, clH, ren_l0, ren_up_ref, ren_tl closed_urow, Option.map_some]
      refine dops_op rfl rfl rfl rfl rfl ?_
      simp only [seval, push_cast, ↓reduceIte, ↓bP_some, ↓aP_true, reduceCtorEq, happ_eq, upds_nil, upds_cons, clV, clH, ren_l0, ren_up_ref, ren_tl closed_urow, Option.map_some]
      refine dops_op rfl rfl rfl rfl rfl ?_
      simp only [seval, push_cast, ↓reduceIte, ↓bP_some, ↓aP_true, reduceCtorEq, happ_eq, upds_nil, upds_cons, clV, clH, ren_l0, ren_up_ref, ren_tl closed_urow, Option.map_some]
      refine dops_make rfl rfl rfl k2 rfl ?_
      simp only [seval, push_cast, ↓reduceIte, ↓bP_some, ↓aP_true, reduceCtorEq, happ_eq, upds_nil, upds_cons, clV, clH, ren_l0, ren_up_ref, ren_tl closed_urow, Option.map_some]
      refine dops_op rfl rfl rfl rfl rfl ?_
      simp only [seval, push_cast, ↓reduceIte, ↓bP_some, ↓aP_true, reduceCtorEq, happ_eq, upds_nil, upds_cons, clV, clH, ren_l0, ren_up_ref, ren_tl closed_urow, Option.map_some]
      refine dops_op rfl rfl rfl rfl rfl ?_
      simp only [seval, push_cast, ↓reduceIte, ↓bP_some, ↓aP_true, reduceCtorEq, happ_eq, upds_nil, upds_cons, clV, clH, ren_l0, ren_up_ref, ren_tl closed_urow, Option.map_some]
      refine dops_nil ?_
      simp only [seval, push_cast, ↓reduceIte, ↓bP_some, ↓aP_true, reduceCtorEq, happ_eq, upds_nil, upds_cons, clV, clH, ren_l0, ren_up_ref, ren_tl closed_urow, Option.map_some]
      (repeat' (first | refine wSeq rfl ?_ | refine wBlock rfl ?_ | refine wSkip rfl ?_ | refine wExit rfl ?_ | refine wRet rfl ?_ | refine wCondT rfl rfl ?_ | refine wCondF rfl rfl ?_ | refine wOps rfl ?_ | refine wDraw rfl rfl ?_ | simp only [seval, push_cast, ↓reduceIte, ↓bP_some, ↓aP_true, reduceCtorEq]))
      exact FnQ.sh [some 2] [] rfl rfl rfl (sh_c (sh_b closed_urow rfl) sh_n) ⟨rfl, rfl⟩
    | some d =>
      (repeat' (first | refine wSeq rfl ?_ | refine wBlock rfl ?_ | refine wSkip rfl ?_ | refine wExit rfl ?_ | refine wRet rfl ?_ | refine wCondT rfl rfl ?_ | refine wCondF rfl rfl ?_ | refine wOpsM [71] rfl ?_ | refine wDrawM [71] rfl rfl ?_ | simp only [seval, push_cast, ↓reduceIte, ↓bP_some, ↓aP_true, reduceCtorEq]))
      refine wDrawD rfl ?_
      refine dops_op rfl rfl rfl rfl rfl ?_
      simp only [seval, push_cast, ↓reduceIte, ↓bP_some, ↓aP_true, reduceCtorEq, happ_eq, upds_nil, upds_cons, clV, clH, ren_l0, ren_up_ref, ren_tl closed_urow, Option.map_some]
      refine dops_op rfl rfl rfl rfl rfl ?_
      simp only [seval, push_cast, ↓reduceIte, ↓bP_some, ↓aP_true, reduceCtorEq, happ_eq, upds_nil, upds_cons, clV, clH, ren_l0, ren_up_ref, ren_tl closed_urow, Option.map_some]
      refine dops_op rfl rfl rfl rfl rfl ?_
      simp only [seval, push_cast, ↓reduceIte, ↓bP_some, ↓aP_true, reduceCtorEq, happ_eq, upds_nil, upds_cons, clV, clH, ren_l0, ren_up_ref, ren_tl closed_urow, Option.map_some]
      refine dops_op rfl rfl rfl rfl rfl ?_
      simp only [seval, push_cast, ↓reduceIte, ↓bP_some, ↓aP_true, reduceCtorEq, happ_eq, upds_nil, upds_cons, clV, clH, ren_l0, ren_up_ref, ren_tl closed_urow, Option.map_some]
      refine dops_make rfl rfl rfl k1 rfl ?_
      simp only [seval, push_cast, ↓reduceIte, ↓bP_some, ↓aP_true, reduceCtorEq, happ_eq, upds_nil, upds_cons, clV, clH, ren_l0, ren_up_ref, ren_tl closed_urow, Option.map_some]
      refine dops_op rfl rfl rfl rfl rfl ?_
      simp only [seval, push_cast, ↓reduceIte, ↓bP_some, ↓aP_true, reduceCtorEq, happ_eq, upds_nil, upds_cons, clV, clH, ren_l0, ren_up_ref, ren_tl closed_urow, Option.map_some]
      refine dops_op rfl rfl rfl rfl rfl ?_
      simp only [seval, push_cast, ↓reduceIte, ↓bP_some, ↓aP_true, reduceCtorEq, happ_eq, upds_nil, upds_cons, clV, clH, ren_l0, ren_up_ref, ren_tl closed_urow, Option.map_some]
      refine dops_make rfl rfl rfl k2 rfl ?_
      simp only [seval, push_cast, ↓reduceIte, ↓bP_some, ↓aP_true, reduceCtorEq, happ_eq, upds_nil, upds_cons, clV, clH, ren_l0, ren_up_ref, ren_tl closed_urow, Option.map_some]
      refine dops_op rfl rfl rfl rfl rfl ?_
      simp only [seval, push_cast, ↓reduceIte, ↓bP_some, ↓aP_true, reduceCtorEq, happ_eq, upds_nil, upds_cons, clV, clH, ren_l0, ren_up_ref, ren_tl closed_urow, Option.map_some]
      refine dops_op rfl rfl rfl rfl rfl ?_
      simp only [seval, push_cast, ↓reduceIte, ↓bP_some, ↓aP_true, reduceCtorEq, happ_eq, upds_nil, upds_cons, clV, clH, ren_l0, ren_up_ref, ren_tl closed_urow, Option.map_some]
      refine dops_nil ?_
      simp only [seval, push_cast, ↓reduceIte, ↓bP_some, ↓aP_true, reduceCtorEq, happ_eq, upds_nil, upds_cons, clV, clH, ren_l0, ren_up_ref, ren_tl closed_urow, Option.map_some]
      (repeat' (first | refine wSeq rfl ?_ | refine wBlock rfl ?_ | refine wSkip rfl ?_ | refine wExit rfl ?_ | refine wRet rfl ?_ | refine wCondT rfl rfl ?_ | refine wCondF rfl rfl ?_ | refine wOps rfl ?_ | refine wDraw rfl rfl ?_ | simp only [seval, push_cast, ↓reduceIte, ↓bP_some, ↓aP_true, reduceCtorEq]))
      exact FnQ.sh [some 2, some 3] [] rfl rfl rfl (sh_c (sh_b closed_urow rfl) (sh_c (sh_b closed_urow rfl) sh_n)) ⟨rfl, rfl⟩
theorem ratios_m (o : Nl Rt) (ho : o.l.length * 56 ≤ 140737488351232) (hr : ∀ r ∈ o.l, okRt r) : MFn L 16 [nlv rtrow 3 o] (clV 3 o) (ratH o) := by
  refine ⟨by simp [V.closeds, closed_nlv], ?_⟩
  refine AFn.of_body (F := T16.1) (by rw [hL]; rfl) rfl ?_
  have k1 := clone_rt hL o ho
  cases o with
  | none =>
    (repeat' (first | refine wSeq rfl ?_ | refine wBlock rfl ?_ | refine wSkip rfl ?_ | refine wExit rfl ?_ | refine wRet rfl ?_ | refine wCondT rfl rfl ?_ | refine wCondF rfl rfl ?_ | refine wOpsM [38, 37] rfl ?_ | refine wDrawM [38, 37] rfl rfl ?_ | refine opsV_make rfl rfl (k1) ?_ | simp only [seval, push_cast, ↓reduceIte, ↓bP_some, ↓aP_true, reduceCtorEq, clV, clH, ren_l0]))
    refine wCntH rfl 9 0 (fun _ => []) (fun _ => []) (fun _ => True) rfl rfl trivial (fun j hj => absurd hj (by omega)) (fun _ => ?_)
    (repeat' (first | refine wSeq rfl ?_ | refine wBlock rfl ?_ | refine wSkip rfl ?_ | refine wExit rfl ?_ | refine wRet rfl ?_ | refine wCondT rfl rfl ?_ | refine wCondF rfl rfl ?_ | refine wOps rfl ?_ | refine wDraw rfl rfl ?_ | simp only [seval, push_cast, ↓reduceIte, ↓bP_some, ↓aP_true, reduceCtorEq]))
    exact FnQ.at rfl ⟨rfl, rfl⟩
  | some l =>
    simp only [Nl.l] at ho hr
    (repeat' (first | refine wSeq rfl ?_ | refine wBlock rfl ?_ | refine wSkip rfl ?_ | refine wExit rfl ?_ | refine wRet rfl ?_ | refine wCondT rfl rfl ?_ | refine wCondF rfl rfl ?_ | refine wOpsM [38, 37] rfl ?_ | refine wDrawM [38, 37] rfl rfl ?_ | refine opsV_make rfl rfl (k1) ?_ | simp only [seval, push_cast, ↓reduceIte, ↓bP_some, ↓aP_true, reduceCtorEq, clV, clH, ren_up_ref, ren_tl closed_rtrow, Option.map_some]))
    generalize hc : (if l.length = 0 then some 0 else none : Option Nat) = c
    refine wCntH rfl 9 l.length (fun _ => []) (fun j => some (.arr 3 (rowsT l j ++ (l.drop j).map rtrow)) :: (l.take j).flatMap rtH) (fun _ => True) rfl rfl trivial ?_ ?_
    · intro j hj _
      obtain ⟨x, hx, mx⟩ := get_of hj
      have k2 := ratTwin_m hL x (hr x mx)
      have w := wrap_succ (show j < 9223372036854775807 by omega)
      have g1 := rowsT_get hx
      have g2 := rowsT_set hx
      have hlt : j < (rowsT l j ++ (l.drop j).map rtrow).length := (List.getElem?_eq_some_iff.1 g1).1
      rw [flat_snoc hx]
      (repeat' (first | refine wSeq rfl ?_ | refine wBlock rfl ?_ | refine wSkip rfl ?_ | refine wExit rfl ?_ | refine wRet rfl ?_ | refine wCondT rfl rfl ?_ | refine wCondF rfl rfl ?_ | refine wOpsM [38, 37] rfl ?_ | refine wDrawM [38, 37] rfl rfl ?_ | refine opsV_make rfl rfl (k2) ?_ | simp only [seval, push_cast, ↓reduceIte, ↓bP_some, ↓aP_true, reduceCtorEq, hj, w, g1, g2, pos1, ren_agg0, ren_rtH, rtC_len, List.length_map]))
      exact qR_n rfl rfl trivial
    · intro _
      rw [take_all, List.drop_eq_nil_of_le (Nat.le_refl _), List.map_nil, List.append_nil]
      (repeat' (first | refine wSeq rfl ?_ | refine wBlock rfl ?_ | refine wSkip rfl ?_ | refine wExit rfl ?_ | refine wRet rfl ?_ | refine wCondT rfl rfl ?_ | refine wCondF rfl rfl ?_ | refine wOps rfl ?_ | refine wDraw rfl rfl ?_ | simp only [seval, push_cast, ↓reduceIte, ↓bP_some, ↓aP_true, reduceCtorEq]))
      refine FnQ.at rfl ⟨?_, rfl⟩
      subst hc; rfl
end Go.Proofs.YtkpfhnicdlgjiaaGreat
set_option maxRecDepth 100000
set_option linter.unusedVariables false
set_option linter.unusedSimpArgs false
namespace Go.Proofs.YtkpfhnicdlgjiaaGreat
/-- Memory T lies behind m others. -/
def At (h : HG) (m : Nat) (T : Heap) : Prop := ∀ b B, T.get b = some B → h (m + b) = some (B.ren (upσ m))
theorem get_app_l {A B : Heap} {a : Nat} (h : a < A.length) : Heap.get (A ++ B) a = A.get a := by unfold Heap.get; rw [List.getElem?_append_left h]
theorem get_app_r {A B : Heap} {a : Nat} (h : A.length ≤ a) : Heap.get (A ++ B) a = B.get (a - A.length) := by unfold Heap.get; rw [List.getElem?_append_right h]
theorem get_len {A : Heap} {a : Nat} {b : Blk} (h : A.get a = some b) : a < A.length := get_lt h
theorem get_ren {T : Heap} {σ : Nat → Sg} {b : Nat} : Heap.get (T.map (Option.map (Blk.ren σ))) b = (T.get b).map (Blk.ren σ) := by
  unfold Heap.get
  rw [List.getElem?_map]
  cases T[b]? with
  | none => rfl
  | some x => cases x <;> rfl
theorem closed_get {T : Heap} {σ : Nat → Sg} (hc : T.map (Option.map (Blk.ren σ)) = T) {b : Nat} {B : Blk} (h : T.get b = some B) : B.ren σ = B := by
  have h1 := get_ren (T := T) (σ := σ) (b := b)
  rw [hc, h] at h1
  exact (Option.some.inj h1).symm
/-- Wherever it lies, as it was put there. -/
theorem at_of {h : HG} {m : Nat} {T : Heap} (hh : ∀ b, b < T.length → h (m + b) = Heap.get (T.map (Option.map (Blk.ren (upσ m)))) b) : At h m T := fun b B hb => by
  rw [hh b (get_len hb), get_ren, hb]; rfl
theorem at_ofc {h : HG} {m : Nat} {T : Heap} (hc : ∀ σ, T.map (Option.map (Blk.ren σ)) = T) (hh : ∀ b, b < T.length → h (m + b) = Heap.get T b) : At h m T := at_of (fun b hb => by rw [hc]; exact hh b hb)
section
variable {α : Type} {f : α → List V} {n m : Nat} {o : Nl α} {h : HG}
theorem own_cl0 : OwnLf f n (Heap.get (clH f n o)) (clV n o) o (fun b => b < (clH f n o).length) := by
  cases o with
  | none => rfl
  | some l => exact .inr ⟨0, _, rfl, rfl, by simp [clH]⟩
theorem own_cl (hf : ∀ x, ∀ c ∈ f x, V.leaf c = true) (ha : At h m (clH f n o)) : OwnLf f n h ((clV n o).ren (upσ m)) o (fun b => m ≤ b ∧ b < m + (clH f n o).length) :=
  (OwnLf.up hf ha own_cl0).loc (fun b hb => ⟨⟨hb.1, by have := hb.1; have := hb.2; omega⟩, rfl⟩)
end
theorem own_rt0 (r : Rt) : OwnRt (Heap.get (rtH r)) (rtC r) r (fun b => b < (rtH r).length) := by
  have hA : ∀ b B, Heap.get (clH urow 1 r.den) b = some B → Heap.get (rtH r) ((clH urow 1 r.num).length + b) = some (B.ren (upσ (clH urow 1 r.num).length)) := fun b B hb => by
    unfold rtH
    rw [get_app_r (by omega), Nat.add_sub_cancel_left, hb, closed_get (ren_clH closed_urow) hb]
  refine ⟨_, _, fun b => if b < (clH urow 1 r.num).length then 0 else 1, rfl, own_cl0.loc (fun b hb => ⟨⟨?_, if_pos hb⟩, ?_⟩), (own_cl leaf_urow hA).loc (fun b hb => ⟨⟨?_, if_neg (by omega)⟩, rfl⟩)⟩
  · unfold rtH; rw [List.length_append]; omega
  · unfold rtH; rw [get_app_l hb]
  · unfold rtH; rw [List.length_append]; exact hb.2
theorem own_rt {h : HG} {m : Nat} {r : Rt} (ha : At h m (rtH r)) : OwnRt h ((rtC r).map (V.ren (upσ m))) r (fun b => m ≤ b ∧ b < m + (rtH r).length) :=
  loc_rt _ _ _ _ _ _ (up_rt _ h m _ _ _ (own_rt0 r) ha) (fun b hb => ⟨⟨hb.1, by have := hb.1; have := hb.2; omega⟩, rfl⟩)
/-- Which number's memory a place belongs to. -/
def idxT : List Rt → Nat → Nat
  | [], _ => 0
  | x :: r, b => if b < (rtH x).length then 0 else idxT r (b - (rtH x).length) + 1
theorem idxT_at : ∀ {l : List Rt} {i : Nat} {x : Rt} {b : Nat}, l[i]? = some x → b < (rtH x).length → idxT l (((l.take i).flatMap rtH).length + b) = i ∧ Heap.get (l.flatMap rtH) (((l.take i).flatMap rtH).length + b) = (rtH x).get b ∧ ((l.take i).flatMap rtH).length + b < (l.flatMap rtH).length
  | [], i, x, b, h, _ => by simp at h
  | y :: r, 0, x, b, h, hb => by
    simp at h; subst h
    refine ⟨?_, ?_, ?_⟩
    · simp only [List.take_zero, List.flatMap_nil, List.length_nil, Nat.zero_add, idxT]
      rw [if_pos hb]
    · simp only [List.take_zero, List.flatMap_nil, List.length_nil, Nat.zero_add, List.flatMap_cons]
      exact get_app_l hb
    · simp only [List.take_zero, List.flatMap_nil, List.length_nil, Nat.zero_add, List.flatMap_cons, List.length_append]
      omega
  | y :: r, i + 1, x, b, h, hb => by
    obtain ⟨h1, h2, h3⟩ := idxT_at (l := r) (i := i) (by simpa using h) hb
    simp only [List.take_succ_cons, List.flatMap_cons, List.length_append]
    refine ⟨?_, ?_, by omega⟩
    · simp only [idxT]
      rw [if_neg (by omega), show (rtH y).length + ((r.take i).flatMap rtH).length + b - (rtH y).length = ((r.take i).flatMap rtH).length + b by omega, h1]
    · rw [get_app_r (by omega), show (rtH y).length + ((r.take i).flatMap rtH).length + b - (rtH y).length = ((r.take i).flatMap rtH).length + b by omega, h2]
theorem own_rat0 (o : Nl Rt) : OwnSl OwnRt 3 (Heap.get (ratH o)) (clV 3 o) o (fun b => b < (ratH o).length) := by
  cases o with
  | none => rfl
  | some l =>
    refine .inr ⟨0, _, rowsT l l.length, fun b => idxT l (b - 1), rfl, rfl, by simp [ratH], rowsT_len _ _, fun i row x hr hx => ?_⟩
    have hi := (List.getElem?_eq_some_iff.1 hx).1
    have hrow : row = (rtC x).map (V.ren (upσ (((l.take i).flatMap rtH).length + 1))) := by
      unfold rowsT at hr
      rw [List.getElem?_map, List.getElem?_range hi, Option.map_some, List.getD_eq_getElem?_getD, hx] at hr
      exact (Option.some.inj hr).symm
    subst hrow
    refine loc_rt _ _ _ _ _ _ (own_rt (h := Heap.get (ratH (some l))) (m := ((l.take i).flatMap rtH).length + 1) (at_ofc (fun σ => ren_rtH) (fun b hb => ?_))) (fun b hb => ?_)
    · obtain ⟨_, h2, _⟩ := idxT_at hx hb
      show Heap.get (some _ :: l.flatMap rtH) _ = _
      rw [show ((l.take i).flatMap rtH).length + 1 + b = (((l.take i).flatMap rtH).length + b) + 1 by omega]
      exact h2
    · obtain ⟨c, rfl⟩ : ∃ c, b = ((l.take i).flatMap rtH).length + 1 + c := ⟨b - (((l.take i).flatMap rtH).length + 1), by omega⟩
      obtain ⟨h1, _, h3⟩ := idxT_at hx (b := c) (by omega)
      refine ⟨⟨⟨?_, by omega⟩, ?_⟩, rfl⟩
      · show _ < (some _ :: l.flatMap rtH).length
        rw [List.length_cons]; omega
      · show idxT l (((l.take i).flatMap rtH).length + 1 + c - 1) = i
        rw [show ((l.take i).flatMap rtH).length + 1 + c - 1 = ((l.take i).flatMap rtH).length + c by omega]; exact h1
theorem own_rat {h : HG} {m : Nat} {o : Nl Rt} (ha : At h m (ratH o)) : OwnSl OwnRt 3 h ((clV 3 o).ren (upσ m)) o (fun b => m ≤ b ∧ b < m + (ratH o).length) :=
  (OwnSl.up loc_rt up_rt ha (own_rat0 o)).loc loc_rt (fun b hb => ⟨⟨hb.1, by have := hb.1; have := hb.2; omega⟩, rfl⟩)
theorem lenQ_cl {α : Type} {n : Nat} {o : Nl α} {m : Nat} : lenQ ((clV n o).ren (upσ m)) = some (.int .i64 o.l.length) := by
  cases o with
  | none => rfl
  | some l => simp only [clV, ren_up_ref, Nl.l]; rfl
theorem cells_cl {α : Type} {n : Nat} {o : Nl α} {m : Nat} : V.cells ((clV n o).ren (upσ m)) = [(clV n o).ren (upσ m)] := by
  cases o with
  | none => rfl
  | some l => simp only [clV, ren_up_ref]; rfl
theorem isVal_cl {α : Type} {n : Nat} {o : Nl α} {m : Nat} : V.isVal ((clV n o).ren (upσ m)) = true := by
  cases o with
  | none => rfl
  | some l => simp only [clV, ren_up_ref]; rfl
end Go.Proofs.YtkpfhnicdlgjiaaGreat
set_option maxRecDepth 100000
set_option maxHeartbeats 1000000
set_option linter.unusedVariables false
set_option linter.unusedSimpArgs false
namespace Go.Proofs.YtkpfhnicdlgjiaaGreat
theorem len_pos (n k : Nat) : (0 < n + (k + 1)) = True := by simp; omega
/-- Memory that is known at a place, with more behind it. -/
theorem get_more {H : Heap} {a : Nat} {b : Blk} (h : H.get a = some b) (T : Heap) : Heap.get (H ++ T) a = some b := by rw [get_app_l (get_len h)]; exact h
theorem set_more {H : Heap} {a : Nat} (h : a < H.length) (T : Heap) (x : Option Blk) : (H ++ T).set a x = H.set a x ++ T := List.set_append_left _ _ h
theorem lt_more {a n : Nat} (h : a < n) (k : Nat) : (a < n + k) = True := eq_true (by omega)
theorem get_set_ne {H : Heap} {a b : Nat} {x : Option Blk} (h : b ≠ a) : Heap.get (H.set a x) b = H.get b := by
  unfold Heap.get
  rw [List.getElem?_set_ne (Ne.symm h)]
theorem get_set_eq {H : Heap} {a : Nat} {x : Option Blk} (h : a < H.length) : Heap.get (H.set a x) a = x := by
  unfold Heap.get
  rw [List.getElem?_set_self h]; rfl
theorem mid_get {f : Ti → List V} {l : List Ti} {rs : List (List V)} {j : Nat} {x : Ti} (hl : rs.length = j) (h : l[j]? = some x) : (rs ++ (l.drop j).map f)[j]? = some (f x) := by
  rw [List.getElem?_append_right (by omega), hl, Nat.sub_self, drop_atc h]; rfl
theorem mid_set {α : Type} {f : α → List V} {l : List α} {rs : List (List V)} {j : Nat} {x : α} {row : List V} (hl : rs.length = j) (h : l[j]? = some x) : (rs ++ (l.drop j).map f).set j row = (rs ++ [row]) ++ (l.drop (j + 1)).map f := by
  rw [drop_atc h, List.map_cons, List.set_append_right _ _ (by omega), hl, Nat.sub_self, List.append_assoc]; rfl
theorem res_cell {E : Nat → Option V} {H : Heap} {t a n : Nat} {row : List V} (hE : E t = some (.ptr a n 0 0)) (hH : H.get a = some (.arr n [row])) (hl : row.length = n) : resV E H.get [.cell t n false] = some (.agg row) := by
  simp only [resV, resVs, resV1, hE, Option.bind_some, V.psz, loadV, shG, hH, Option.map_some, shape_same]
  simp [takeCells, ← hl]
/-- Ties copied up to j. -/
structure TwT (n1 mT : Nat) (l : List Ti) (H1 : Heap) (j : Nat) (H : Heap) : Prop where
  old : ∀ b, b < n1 → b ≠ mT → H.get b = H1.get b
  len : n1 ≤ H.length
  rows : ∃ (rs : List (List V)) (g : Nat → Nat), H.get mT = some (.arr 2 (rs ++ (l.drop j).map tirow)) ∧ rs.length = j ∧ ∀ (i : Nat) (row : List V) (x : Ti), rs[i]? = some row → l[i]? = some x → OwnTi H.get row x (fun b => (n1 ≤ b ∧ b < H.length) ∧ g b = i)
variable {L : Lib} (hL : L.T = tab.get)
include hL
theorem twin_2 (o : Oc) (hti : o.ties.l.length * 32 ≤ 140737488351232 ∧ ∀ t ∈ o.ties.l, okTi t) (H : Heap) (ve vr : V) (mT : Nat) (FE FR : FP) (h0 : H.get 0 = some (.arr 3 [[ve, vr, (clV 2 o.ties).ren (upσ mT)]])) (h1 : H.get 1 = some (.arr 3 [[.lst 0 [] (some 0), .lst 0 [] (some 0), .lst 0 [] (some 0)]])) (hT : At H.get mT (clH tirow 2 o.ties)) (hm : 2 ≤ mT) (hml : mT ≤ H.length)
    (hE : OwnLf mrow 1 H.get ve o.el FE) (hR : OwnSl OwnRd 6 H.get vr o.rounds FR) (gE : ∀ b, FE b → 2 ≤ b ∧ b < H.length ∧ (b ≠ mT ∨ o.ties = none)) (gR : ∀ b, FR b → (2 ≤ b ∧ b < H.length ∧ (b ≠ mT ∨ o.ties = none)) ∧ ¬ FE b) :
    SWP L 0 T14.val.ntmps T14.val.body.r.r.r (FnQ T14.val 0 (fun r H' => OwnOc H'.get r o (fun b => b < H'.length))) [(1, .ptr 0 3 0 0), (2, .ptr 1 3 0 0)] H := by
  have hlen := get_len h1
  have hlen0 := get_len h0
  have fin : ∀ (H' : Heap), (∀ b, b < H.length → (b ≠ mT ∨ o.ties = none) → H'.get b = H.get b) → H.length ≤ H'.length → OwnSl OwnTi 2 H'.get ((clV 2 o.ties).ren (upσ mT)) o.ties (fun b => (b = mT ∧ o.ties ≠ none ∨ H.length ≤ b) ∧ b < H'.length) → OwnOc (Heap.get (H'.set 1 (some (.arr 3 [[ve, vr, (clV 2 o.ties).ren (upσ mT)]])))) (.agg [ve, vr, (clV 2 o.ties).ren (upσ mT)]) o (fun b => b < (H'.set 1 (some (.arr 3 [[ve, vr, (clV 2 o.ties).ren (upσ mT)]]))).length) := by
    intro H' e2 e3 e4
    have gs : ∀ b, b ≠ 1 → Heap.get (H'.set 1 (some (.arr 3 [[ve, vr, (clV 2 o.ties).ren (upσ mT)]]))) b = H'.get b := fun b hb => get_set_ne hb
    rw [List.length_set]
    refine ⟨_, _, _, fun b => @ite _ (FE b) (Classical.propDecidable _) 0 (@ite _ (FR b) (Classical.propDecidable _) 1 2), rfl, hE.loc (fun b hb => ?_), hR.loc loc_rd (fun b hb => ?_), e4.loc loc_ti (fun b hb => ?_)⟩
    · obtain ⟨q1, q2, q3⟩ := gE b hb
      refine ⟨⟨by omega, if_pos hb⟩, ?_⟩
      rw [gs b (by omega), e2 b q2 q3]
    · obtain ⟨⟨q1, q2, q3⟩, q4⟩ := gR b hb
      refine ⟨⟨by omega, (if_neg q4).trans (if_pos hb)⟩, ?_⟩
      rw [gs b (by omega), e2 b q2 q3]
    · have hnE : ¬ FE b := fun h => by
        obtain ⟨q1, q2, q3⟩ := gE b h
        rcases hb.1 with h1 | h1
        · exact q3.elim (fun h => h h1.1) h1.2
        · omega
      have hnR : ¬ FR b := fun h => by
        obtain ⟨⟨q1, q2, q3⟩, _⟩ := gR b h
        rcases hb.1 with h1 | h1
        · exact q3.elim (fun h => h h1.1) h1.2
        · omega
      refine ⟨⟨hb.2, (if_neg hnE).trans (if_neg hnR)⟩, gs b ?_⟩
      rcases hb.1 with h1 | h1
      · omega
      · omega
  cases hties : o.ties with
  | none =>
    have h0' : H.get 0 = some (.arr 3 [[ve, vr, .lst 0 [] (some 0)]]) := by rw [h0, hties]; rfl
    (repeat' (first | refine wSeq rfl ?_ | refine wBlock rfl ?_ | refine wSkip rfl ?_ | refine wExit rfl ?_ | refine wRet rfl ?_ | refine wCondT rfl rfl ?_ | refine wCondF rfl rfl ?_ | refine wOpsM [34] rfl ?_ | refine wDrawW [34] rfl rfl ?_ | refine wLd rfl ?_ | simp only [seval, push_cast, ↓reduceIte, ↓bP_some, ↓aP_true, reduceCtorEq, h0', h1]))
    refine wCntH rfl 47 0 (fun _ => []) (fun _ => H) (fun _ => True) rfl rfl trivial (fun j hj => absurd hj (by omega)) (fun _ => ?_)
    (repeat' (first | refine wSeq rfl ?_ | refine wBlock rfl ?_ | refine wSkip rfl ?_ | refine wExit rfl ?_ | refine wRet rfl ?_ | refine wCondT rfl rfl ?_ | refine wCondF rfl rfl ?_ | refine wOpsM [34] rfl ?_ | refine wDrawW [34] rfl rfl ?_ | refine wLd rfl ?_ | simp only [seval, push_cast, ↓reduceIte, ↓bP_some, ↓aP_true, reduceCtorEq, h0', h1, hlen]))
    have := fin H (fun _ _ _ => rfl) (Nat.le_refl _) (by rw [hties]; rfl)
    rw [hties] at this
    exact FnQ.at (res_cell rfl (get_set_eq hlen) rfl) this
  | some l =>
    rw [hties] at hti hT
    have hmT : H.get mT = some (.arr 2 (l.map tirow)) := by
      have := hT 0 (.arr 2 (l.map tirow)) rfl
      rw [Nat.add_zero] at this
      rw [this, ren_tl closed_tirow]
    have hml' := get_len hmT
    generalize hc : (if l.length = 0 then some 0 else none : Option Nat) = c
    have hvt : (clV 2 o.ties).ren (upσ mT) = .ref mT 2 0 l.length c := by rw [hties, ← hc]; exact ren_up_ref
    rw [hvt] at h0 fin
    simp only [Nl.l] at hti
    (repeat' (first | refine wSeq rfl ?_ | refine wBlock rfl ?_ | refine wSkip rfl ?_ | refine wExit rfl ?_ | refine wRet rfl ?_ | refine wCondT rfl rfl ?_ | refine wCondF rfl rfl ?_ | refine wOpsM [34] rfl ?_ | refine wDrawW [34] rfl rfl ?_ | refine wLd rfl ?_ | simp only [seval, push_cast, ↓reduceIte, ↓bP_some, ↓aP_true, reduceCtorEq, h0, h1]))
    refine wWhile (σ := Nat × Heap) rfl (fun s => [(1, .ptr 0 3 0 0), (2, .ptr 1 3 0 0), (46, .int .i64 l.length), (47, .int .i64 (s.1 : Nat))]) (fun s => s.2) (fun s => l.length - s.1) (fun s => s.1 ≤ l.length ∧ TwT H.length mT l H s.1 s.2) (0, H) rfl rfl ⟨Nat.zero_le _, fun _ _ _ => rfl, Nat.le_refl _, [], fun _ => 0, hmT, rfl, fun i row x h => by simp at h⟩ ?_
    rintro ⟨j, G⟩ ⟨hj, ho, hg, rs, g, hr, hrl, hown⟩
    dsimp only at hj ho hg hr hrl hown ⊢
    have g0 : G.get 0 = some (.arr 3 [[ve, vr, .ref mT 2 0 l.length c]]) := by rw [ho 0 hlen0 (by omega)]; exact h0
    have g1 : G.get 1 = some (.arr 3 [[.lst 0 [] (some 0), .lst 0 [] (some 0), .lst 0 [] (some 0)]]) := by rw [ho 1 hlen (by omega)]; exact h1
    have gl : mT < G.length := by omega
    by_cases hlt : j < l.length
    · obtain ⟨x, hx, mx⟩ := get_of hlt
      have kc := clone_i hL x.among (hti.2 x mx)
      have w := wrap_succ (show j < 9223372036854775807 by omega)
      have hrow := mid_get (f := tirow) hrl hx
      (repeat' (first | refine wSeq rfl ?_ | refine wBlock rfl ?_ | refine wSkip rfl ?_ | refine wExit rfl ?_ | refine wRet rfl ?_ | refine wCondT rfl rfl ?_ | refine wCondF rfl rfl ?_ | refine wOpsM [34] rfl ?_ | refine wDrawW [34] rfl rfl ?_ | refine wLd rfl ?_ | refine opsV_make rfl rfl (kc) ?_ | simp only [seval, push_cast, ↓reduceIte, ↓bP_some, ↓aP_true, reduceCtorEq, hlt, g0, g1, hr, hrow, get_more hr, get_more g0, set_more gl, lt_more gl, gl, w, ren_clH closed_mrow, cells_cl, isVal_cl, List.length_append]))
      refine wLd (by simp [ldOk, Env.get]; omega) ?_
      (repeat' (first | refine wSeq rfl ?_ | refine wBlock rfl ?_ | refine wSkip rfl ?_ | refine wExit rfl ?_ | refine wRet rfl ?_ | refine wCondT rfl rfl ?_ | refine wCondF rfl rfl ?_ | refine wOpsM [34] rfl ?_ | refine wDrawW [34] rfl rfl ?_ | refine wLd rfl ?_ | simp only [seval, push_cast, ↓reduceIte, ↓bP_some, ↓aP_true, reduceCtorEq, w]))
      refine qW_n (j + 1, _) rfl rfl ⟨by omega, hlt, ?_⟩
      have key : ∀ b, b < G.length → b ≠ mT → Heap.get (G.set mT (some (.arr 2 ((rs ++ (l.drop j).map tirow).set j [(clV 1 x.among).ren (upσ G.length), .int .i64 x.chosen]))) ++ clH mrow 1 x.among) b = G.get b := fun b hb hne => by
        rw [get_app_l (by rw [List.length_set]; exact hb), get_set_ne hne]
      refine ⟨fun b hb hne => by rw [key b (by omega) hne]; exact ho b hb hne, by rw [List.length_append, List.length_set]; omega, rs ++ [[(clV 1 x.among).ren (upσ G.length), .int .i64 x.chosen]], fun b => if b < G.length then g b else j, ?_, by simp [hrl], ?_⟩
      · rw [get_app_l (by rw [List.length_set]; exact gl), get_set_eq gl, mid_set hrl hx]
      · intro i row y hi hy
        by_cases hij : i < j
        · rw [List.getElem?_append_left (by omega)] at hi
          refine loc_ti _ _ _ _ _ _ (hown i row y hi hy) (fun b hb => ⟨⟨⟨hb.1.1, ?_⟩, ?_⟩, key b hb.1.2 (by have := hb.1.1; omega)⟩)
          · rw [List.length_append, List.length_set]; have := hb.1.2; omega
          · exact (if_pos hb.1.2).trans hb.2
        · have hi' := (List.getElem?_eq_some_iff.1 hi).1
          rw [List.length_append, hrl, List.length_singleton] at hi'
          obtain rfl : i = j := by omega
          rw [List.getElem?_append_right (by omega), hrl, Nat.sub_self] at hi
          simp only [List.getElem?_cons_zero, Option.some.injEq] at hi
          subst hi
          rw [hx] at hy; cases hy
          refine ⟨_, rfl, (own_cl (m := G.length) leaf_mrow (at_ofc (fun σ => ren_clH closed_mrow) (fun b hb => ?_))).loc (fun b hb => ⟨⟨⟨by omega, ?_⟩, if_neg (by omega)⟩, rfl⟩)⟩
          · rw [get_app_r (by rw [List.length_set]; omega), List.length_set, Nat.add_sub_cancel_left]
          · rw [List.length_append, List.length_set]; exact hb.2
    · obtain rfl : j = l.length := by omega
      rw [List.drop_eq_nil_of_le (Nat.le_refl _), List.map_nil, List.append_nil] at hr
      have gl1 : 1 < G.length := by omega
      (repeat' (first | refine wSeq rfl ?_ | refine wBlock rfl ?_ | refine wSkip rfl ?_ | refine wExit rfl ?_ | refine wRet rfl ?_ | refine wCondT rfl rfl ?_ | refine wCondF rfl rfl ?_ | refine wOpsM [34] rfl ?_ | refine wDrawW [34] rfl rfl ?_ | refine wLd rfl ?_ | simp only [seval, push_cast, ↓reduceIte, ↓bP_some, ↓aP_true, reduceCtorEq, hlt, g0, g1, gl1]))
      refine FnQ.at (res_cell rfl (get_set_eq gl1) rfl) (fin G (fun b hb hne => ho b hb (hne.resolve_right (by rw [hties]; simp))) hg ?_)
      rw [hties]
      exact .inr ⟨mT, c, rs, g, rfl, hr, ⟨.inl ⟨rfl, by simp⟩, gl⟩, hrl, fun i row x hi hx => loc_ti _ _ _ _ _ _ (hown i row x hi hx) (fun b hb => ⟨⟨⟨⟨.inr hb.1.1, hb.1.2⟩, by have := hb.1.1; omega⟩, hb.2⟩, rfl⟩)⟩
end Go.Proofs.YtkpfhnicdlgjiaaGreat
set_option maxRecDepth 100000
set_option maxHeartbeats 1000000
set_option linter.unusedVariables false
set_option linter.unusedSimpArgs false
namespace Go.Proofs.YtkpfhnicdlgjiaaGreat
theorem get_at {G T : Heap} {x : Option Blk} : Heap.get (G ++ x :: T) G.length = x := by
  rw [get_app_r (Nat.le_refl _), Nat.sub_self]; rfl
theorem set_at {G T : Heap} {x y : Option Blk} : (G ++ x :: T).set G.length y = G ++ y :: T := by
  rw [List.set_append_right _ _ (Nat.le_refl _), Nat.sub_self]; rfl
theorem mid_get' {α : Type} {f : α → List V} {l : List α} {rs : List (List V)} {j : Nat} {x : α} (hl : rs.length = j) (h : l[j]? = some x) : (rs ++ (l.drop j).map f)[j]? = some (f x) := by
  rw [List.getElem?_append_right (by omega), hl, Nat.sub_self, drop_atc h]; rfl
theorem env_app : ∀ {E X : Env} {t : Nat} {v : V}, E.get t = some v → Env.get (E ++ X) t = some v
  | [], X, t, v, h => by simp [Env.get] at h
  | (k, u) :: r, X, t, v, h => by
    simp only [List.cons_append, Env.get] at h ⊢
    cases hk : k == t with
    | true => rw [hk] at h; exact h
    | false => rw [hk] at h; exact env_app (E := r) h
theorem ren_ren {α : Type} {n m k : Nat} {o : Nl α} : V.ren (upσ m) (V.ren (upσ k) (clV n o)) = V.ren (upσ (m + k)) (clV n o) := by
  cases o with
  | none => rfl
  | some l => simp only [clV, ren_up_ref, Nat.add_assoc]
/-- Rounds copied up to j, in memory. -/
structure TwI (n1 aR : Nat) (l : List Rd) (H1 : Heap) (j : Nat) (H : Heap) : Prop where
  old : ∀ b, b < n1 → b ≠ aR → H.get b = H1.get b
  len : n1 ≤ H.length
  rows : ∃ (rs : List (List V)) (g : Nat → Nat), H.get aR = some (.arr 6 (rs ++ (l.drop j).map rdrow)) ∧ rs.length = j ∧ ∀ (i : Nat) (row : List V) (x : Rd), rs[i]? = some row → l[i]? = some x → OwnRd H.get row x (fun b => (n1 ≤ b ∧ b < H.length) ∧ g b = i)
variable {L : Lib} (hL : L.T = tab.get)
include hL
theorem twin_o (o : Oc) (ho : okO o) : AFn L (.fn 14) [ocv o] [] (fun r H' => OwnOc H'.get r o (fun b => b < H'.length)) := by
  refine AFn.of_body (F := T14.1) (by rw [hL]; rfl) rfl ?_
  obtain ⟨b1, ⟨b2, b2'⟩, b3⟩ := ho
  have k1 := clone_i hL o.el b1
  have k2 := clone_rd hL o.rounds b2
  have k3 := clone_ti hL o.ties b3.1
  have t2 := fun H ve vr mT FE FR => twin_2 hL o b3 H ve vr mT FE FR
  generalize hcode : T14.val.body.r.r.r = cc at t2
  have hcode' : (T14.1).body.r.r.r = cc := hcode
  (repeat' (first | refine wSeq rfl ?_ | refine wBlock rfl ?_ | refine wSkip rfl ?_ | refine wExit rfl ?_ | refine wRet rfl ?_ | refine wCondT rfl rfl ?_ | refine wCondF rfl rfl ?_ | refine wOpsM [34, 35, 36, 16, 37] rfl ?_ | refine wDrawW [34, 35, 36, 16, 37] rfl rfl ?_ | refine wLd rfl ?_ | refine opsV_make rfl rfl (k1) ?_ | refine opsV_make rfl rfl (k2) ?_ | refine opsV_make rfl rfl (k3) ?_ | simp only [seval, push_cast, ↓reduceIte, ↓bP_some, ↓aP_true, reduceCtorEq, hcode, ocv, occs, ren_clH closed_mrow, ren_clH closed_rdrow, ren_clH closed_tirow, List.append_assoc, List.length_append, pos1, len_pos, cells_cl, isVal_cl, lenQ_cl]))
  generalize hve : (clV 1 o.el).ren (upσ 2) = ve
  generalize hvt : (clV 2 o.ties).ren (upσ ((clH mrow 1 o.el).length + (clH rdrow 6 o.rounds).length + 1 + 1)) = vt
  have A0 : ∀ vr, Heap.get (some (Blk.arr 3 [[ve, vr, vt]]) :: some (Blk.arr 3 [[.lst 0 [] (some 0), .lst 0 [] (some 0), .lst 0 [] (some 0)]]) :: (clH mrow 1 o.el ++ (clH rdrow 6 o.rounds ++ clH tirow 2 o.ties))) 0 = some (.arr 3 [[ve, vr, vt]]) := fun _ => rfl
  have Ae : ∀ vr, At (Heap.get (some (Blk.arr 3 [[ve, vr, vt]]) :: some (Blk.arr 3 [[.lst 0 [] (some 0), .lst 0 [] (some 0), .lst 0 [] (some 0)]]) :: (clH mrow 1 o.el ++ (clH rdrow 6 o.rounds ++ clH tirow 2 o.ties)))) 2 (clH mrow 1 o.el) := fun vr => at_ofc (fun σ => ren_clH closed_mrow) (fun b hb => by
    rw [Nat.add_comm]
    show Heap.get (clH mrow 1 o.el ++ _) b = _
    exact get_app_l hb)
  have At' : ∀ vr, At (Heap.get (some (Blk.arr 3 [[ve, vr, vt]]) :: some (Blk.arr 3 [[.lst 0 [] (some 0), .lst 0 [] (some 0), .lst 0 [] (some 0)]]) :: (clH mrow 1 o.el ++ (clH rdrow 6 o.rounds ++ clH tirow 2 o.ties)))) ((clH mrow 1 o.el).length + (clH rdrow 6 o.rounds).length + 1 + 1) (clH tirow 2 o.ties) := fun vr => at_ofc (fun σ => ren_clH closed_tirow) (fun b hb => by
    rw [show (clH mrow 1 o.el).length + (clH rdrow 6 o.rounds).length + 1 + 1 + b = ((clH mrow 1 o.el).length + (clH rdrow 6 o.rounds).length + b) + 1 + 1 by omega]
    show Heap.get (clH mrow 1 o.el ++ _) _ = _
    rw [get_app_r (by omega), get_app_r (by omega)]
    congr 1; omega)
  cases hrd : o.rounds with
  | none =>
    rw [hrd] at A0 Ae At' hvt
    have e1 : (clV 6 (none : Nl Rd)).ren (upσ ((clH mrow 1 o.el).length + 1 + 1)) = .lst 0 [] (some 0) := rfl
    rw [e1]
    refine wCntH rfl 21 0 (fun _ => []) (fun _ => _) (fun _ => True) rfl rfl trivial (fun j hj => absurd hj (by omega)) (fun _ => ?_)
    (repeat' (first | refine wSeq rfl ?_ | refine wBlock rfl ?_ | refine wSkip rfl ?_ | refine wExit rfl ?_ | refine wRet rfl ?_ | refine wCondT rfl rfl ?_ | refine wCondF rfl rfl ?_ | refine wOpsM [34] rfl ?_ | refine wDrawW [34] rfl rfl ?_ | refine wLd rfl ?_ | simp only [seval, push_cast, ↓reduceIte, ↓bP_some, ↓aP_true, reduceCtorEq]))
    refine (if_pos (by rfl)).mpr ?_
    subst hve hvt
    refine SWP.forget (E' := [(1, .ptr 0 3 0 0), (2, .ptr 1 3 0 0)]) (fun t v h => env_app h) (t2 _ _ _ _ (fun b => 2 ≤ b ∧ b < 2 + (clH mrow 1 o.el).length) (fun _ => False) (A0 _) rfl (At' _) (by omega) ?_ (own_cl leaf_mrow (Ae _)) (by rw [hrd]; rfl) (fun b hb => ⟨hb.1, ?_, .inl ?_⟩) (fun b hb => hb.elim))
    · simp only [List.length_cons, List.length_append]; omega
    · simp only [List.length_cons, List.length_append]; omega
    · have := hb.2; omega
  | some l =>
    rw [hrd] at A0 Ae At' hvt b2 b2'
    simp only [Nl.l] at b2 b2'
    generalize hc : (if l.length = 0 then some 0 else none : Option Nat) = c
    have e1 : (clV 6 (some l)).ren (upσ ((clH mrow 1 o.el).length + 1 + 1)) = .ref ((clH mrow 1 o.el).length + 1 + 1) 6 0 l.length c := by rw [← hc]; exact ren_up_ref
    rw [e1]
    have Ar : ∀ vr, Heap.get (some (Blk.arr 3 [[ve, vr, vt]]) :: some (Blk.arr 3 [[.lst 0 [] (some 0), .lst 0 [] (some 0), .lst 0 [] (some 0)]]) :: (clH mrow 1 o.el ++ (clH rdrow 6 (some l) ++ clH tirow 2 o.ties))) ((clH mrow 1 o.el).length + 1 + 1) = some (.arr 6 (l.map rdrow)) := fun vr => by
      show Heap.get (clH mrow 1 o.el ++ _) _ = _
      rw [get_app_r (Nat.le_refl _), Nat.sub_self]; rfl
    have hr1 : (clH rdrow 6 (some l)).length = 1 := rfl
    specialize A0 (.ref ((clH mrow 1 o.el).length + 1 + 1) 6 0 l.length c)
    specialize Ae (.ref ((clH mrow 1 o.el).length + 1 + 1) 6 0 l.length c)
    specialize At' (.ref ((clH mrow 1 o.el).length + 1 + 1) 6 0 l.length c)
    specialize Ar (.ref ((clH mrow 1 o.el).length + 1 + 1) 6 0 l.length c)
    have hlH : (some (Blk.arr 3 [[ve, .ref ((clH mrow 1 o.el).length + 1 + 1) 6 0 l.length c, vt]]) :: some (Blk.arr 3 [[.lst 0 [] (some 0), .lst 0 [] (some 0), .lst 0 [] (some 0)]]) :: (clH mrow 1 o.el ++ (clH rdrow 6 (some l) ++ clH tirow 2 o.ties)) : Heap).length = (clH mrow 1 o.el).length + (clH rdrow 6 (some l)).length + 1 + 1 + (clH tirow 2 o.ties).length := by
      simp only [List.length_cons, List.length_append]; omega
    have A1 : Heap.get (some (Blk.arr 3 [[ve, .ref ((clH mrow 1 o.el).length + 1 + 1) 6 0 l.length c, vt]]) :: some (Blk.arr 3 [[.lst 0 [] (some 0), .lst 0 [] (some 0), .lst 0 [] (some 0)]]) :: (clH mrow 1 o.el ++ (clH rdrow 6 (some l) ++ clH tirow 2 o.ties))) 1 = some (Blk.arr 3 [[.lst 0 [] (some 0), .lst 0 [] (some 0), .lst 0 [] (some 0)]]) := rfl
    generalize (some (Blk.arr 3 [[ve, .ref ((clH mrow 1 o.el).length + 1 + 1) 6 0 l.length c, vt]]) :: some (Blk.arr 3 [[.lst 0 [] (some 0), .lst 0 [] (some 0), .lst 0 [] (some 0)]]) :: (clH mrow 1 o.el ++ (clH rdrow 6 (some l) ++ clH tirow 2 o.ties)) : Heap) = H1 at *
    generalize hmT : (clH mrow 1 o.el).length + (clH rdrow 6 (some l)).length + 1 + 1 = mT at *
    generalize haR : (clH mrow 1 o.el).length + 1 + 1 = aR at *
    have hl0 := get_len A0
    have hl1 := get_len A1
    have hlR := get_len Ar
    refine wWhile (σ := Nat × Heap) rfl (fun s => [(1, .ptr 0 3 0 0), (2, .ptr 1 3 0 0), (19, .ref aR 6 0 l.length c), (20, .int .i64 l.length), (21, .int .i64 (s.1 : Nat))]) (fun s => s.2) (fun s => l.length - s.1) (fun s => s.1 ≤ l.length ∧ TwI H1.length aR l H1 s.1 s.2) (0, H1) rfl rfl ⟨Nat.zero_le _, fun _ _ _ => rfl, Nat.le_refl _, [], fun _ => 0, Ar, rfl, fun i row x h => by simp at h⟩ ?_
    rintro ⟨j, G⟩ ⟨hj, ho, hg, rs, g, hr, hrl, hown⟩
    dsimp only at hj ho hg hr hrl hown ⊢
    have g0 : G.get 0 = some (.arr 3 [[ve, .ref aR 6 0 l.length c, vt]]) := by rw [ho 0 hl0 (by omega)]; exact A0
    have gl0 : 0 < G.length := by omega
    have gl : aR < G.length := by omega
    by_cases hlt : j < l.length
    · obtain ⟨x, hx, mx⟩ := get_of hlt
      have kx := b2' x mx
      have m1 := ratios_m hL x.had kx.1 kx.2.1
      have m2 := ratTwin_m hL x.lost kx.2.2.1
      have m3 := clone_i hL x.el kx.2.2.2.1
      have m4 := clone_i hL x.out kx.2.2.2.2
      have w := wrap_succ (show j < 9223372036854775807 by omega)
      have hrow := mid_get' (f := rdrow) hrl hx
      (repeat' (first | refine wSeq rfl ?_ | refine wBlock rfl ?_ | refine wSkip rfl ?_ | refine wExit rfl ?_ | refine wRet rfl ?_ | refine wCondT rfl rfl ?_ | refine wCondF rfl rfl ?_ | refine wOpsM [34, 16, 37] rfl ?_ | refine wDrawW [34, 16, 37] rfl rfl ?_ | refine wLd rfl ?_ | refine opsV_make rfl rfl (m1) ?_ | refine opsV_make rfl rfl (m2) ?_ | refine opsV_make rfl rfl (m3) ?_ | refine opsV_make rfl rfl (m4) ?_ | simp only [seval, push_cast, ↓reduceIte, ↓bP_some, ↓aP_true, reduceCtorEq, hlt, g0, hr, hrow, get_more hr, get_more g0, set_more gl, lt_more gl, gl, get_at, set_at, w, ren_clH closed_mrow, ren_rtH, ren_agg0, rtC, cells_cl, isVal_cl, List.length_append, List.length_map, List.append_assoc, Nat.lt_add_one]))
      refine wLd (by simp [ldOk, Env.get]) ?_
      (repeat' (first | refine wSeq rfl ?_ | refine wBlock rfl ?_ | refine wSkip rfl ?_ | refine wExit rfl ?_ | refine wRet rfl ?_ | refine wCondT rfl rfl ?_ | refine wCondF rfl rfl ?_ | refine wOpsM [34] rfl ?_ | refine wDrawW [34] rfl rfl ?_ | refine wLd rfl ?_ | simp only [seval, push_cast, ↓reduceIte, ↓bP_some, ↓aP_true, reduceCtorEq, w]))
      refine qW_n (j + 1, _) rfl rfl ⟨by omega, hlt, ?_⟩
      simp only [ren_b0, ren_ren]
      generalize hnr : [(clV 3 x.had).ren (upσ (G.length + 1)), V.bool x.lost.neg, (clV 1 x.lost.num).ren (upσ (G.length + ((ratH x.had).length + 1))), (clV 1 x.lost.den).ren (upσ (G.length + ((ratH x.had).length + 1) + (clH urow 1 x.lost.num).length)), (clV 1 x.el).ren (upσ (G.length + ((ratH x.had).length + (rtH x.lost).length + 1))), (clV 1 x.out).ren (upσ (G.length + ((ratH x.had).length + ((rtH x.lost).length + (clH mrow 1 x.el).length) + 1)))] = newrow
      generalize hbx : some (Blk.arr 6 [[nlv rtrow 3 x.had, V.bool x.lost.neg, nlv urow 1 x.lost.num, nlv urow 1 x.lost.den, nlv mrow 1 x.el, nlv mrow 1 x.out]]) = box
      generalize hX : some (Blk.arr 6 ((rs ++ (l.drop j).map rdrow).set j newrow)) = X
      have hlS : (G.set aR X).length = G.length := List.length_set
      generalize hR : (ratH x.had).map (Option.map (Blk.ren (upσ (G.length + 1)))) ++ (rtH x.lost ++ (clH mrow 1 x.el ++ clH mrow 1 x.out)) = R
      have hRl : R.length = (ratH x.had).length + ((clH urow 1 x.lost.num).length + (clH urow 1 x.lost.den).length) + (clH mrow 1 x.el).length + (clH mrow 1 x.out).length := by
        rw [← hR]; simp only [List.length_append, List.length_map, rtH]; omega
      have hGl : (G.set aR X ++ box :: R).length = G.length + 1 + R.length := by rw [List.length_append, hlS, List.length_cons]; omega
      have key : ∀ b, b < G.length → b ≠ aR → Heap.get (G.set aR X ++ box :: R) b = G.get b := fun b hb hne => by
        rw [get_app_l (by rw [hlS]; exact hb), get_set_ne hne]
      have gk : ∀ k, Heap.get (G.set aR X ++ box :: R) (G.length + (k + 1)) = Heap.get R k := fun k => by
        rw [get_app_r (by rw [hlS]; omega), hlS, Nat.add_sub_cancel_left]; rfl
      have hrt : (rtH x.lost).length = (clH urow 1 x.lost.num).length + (clH urow 1 x.lost.den).length := by simp [rtH]
      have P1 : At (Heap.get (G.set aR X ++ box :: R)) (G.length + 1) (ratH x.had) := at_of (fun b hb => by
        rw [show G.length + 1 + b = G.length + (b + 1) by omega, gk, ← hR, get_app_l (by rw [List.length_map]; exact hb)])
      have P2 : At (Heap.get (G.set aR X ++ box :: R)) (G.length + ((ratH x.had).length + 1)) (clH urow 1 x.lost.num) := at_ofc (fun σ => ren_clH closed_urow) (fun b hb => by
        rw [show G.length + ((ratH x.had).length + 1) + b = G.length + (((ratH x.had).length + b) + 1) by omega, gk, ← hR, get_app_r (by rw [List.length_map]; omega), List.length_map, get_app_l (by omega), rtH, get_app_l (by omega)]
        congr 1; omega)
      have P3 : At (Heap.get (G.set aR X ++ box :: R)) (G.length + ((ratH x.had).length + 1) + (clH urow 1 x.lost.num).length) (clH urow 1 x.lost.den) := at_ofc (fun σ => ren_clH closed_urow) (fun b hb => by
        rw [show G.length + ((ratH x.had).length + 1) + (clH urow 1 x.lost.num).length + b = G.length + (((ratH x.had).length + (clH urow 1 x.lost.num).length + b) + 1) by omega, gk, ← hR, get_app_r (by rw [List.length_map]; omega), List.length_map, get_app_l (by omega), rtH, get_app_r (by omega)]
        congr 1; omega)
      have P4 : At (Heap.get (G.set aR X ++ box :: R)) (G.length + ((ratH x.had).length + (rtH x.lost).length + 1)) (clH mrow 1 x.el) := at_ofc (fun σ => ren_clH closed_mrow) (fun b hb => by
        rw [show G.length + ((ratH x.had).length + (rtH x.lost).length + 1) + b = G.length + (((ratH x.had).length + (rtH x.lost).length + b) + 1) by omega, gk, ← hR, get_app_r (by rw [List.length_map]; omega), List.length_map, get_app_r (by omega), get_app_l (by omega)]
        congr 1; omega)
      have P5 : At (Heap.get (G.set aR X ++ box :: R)) (G.length + ((ratH x.had).length + ((rtH x.lost).length + (clH mrow 1 x.el).length) + 1)) (clH mrow 1 x.out) := at_ofc (fun σ => ren_clH closed_mrow) (fun b hb => by
        rw [show G.length + ((ratH x.had).length + ((rtH x.lost).length + (clH mrow 1 x.el).length) + 1) + b = G.length + (((ratH x.had).length + ((rtH x.lost).length + (clH mrow 1 x.el).length) + b) + 1) by omega, gk, ← hR, get_app_r (by rw [List.length_map]; omega), List.length_map, get_app_r (by omega), get_app_r (by omega)]
        congr 1; omega)
      have hnew : OwnRd (Heap.get (G.set aR X ++ box :: R)) newrow x (fun b => G.length + 1 ≤ b ∧ b < G.length + 1 + R.length) := by
        subst hnr
        refine ⟨_, _, _, _, _, fun b => if b < G.length + ((ratH x.had).length + 1) then 0 else if b < G.length + ((ratH x.had).length + 1) + (clH urow 1 x.lost.num).length then 1 else if b < G.length + ((ratH x.had).length + (rtH x.lost).length + 1) then 2 else if b < G.length + ((ratH x.had).length + ((rtH x.lost).length + (clH mrow 1 x.el).length) + 1) then 3 else 4, rfl, (own_rat P1).loc loc_rt (fun b hb => ⟨⟨by omega, if_pos (by omega)⟩, rfl⟩), (own_cl leaf_urow P2).loc (fun b hb => ⟨⟨by omega, (if_neg (by omega)).trans (if_pos (by omega))⟩, rfl⟩),
          (own_cl leaf_urow P3).loc (fun b hb => ⟨⟨by omega, (if_neg (by omega)).trans ((if_neg (by omega)).trans (if_pos (by omega)))⟩, rfl⟩), (own_cl leaf_mrow P4).loc (fun b hb => ⟨⟨by omega, (if_neg (by omega)).trans ((if_neg (by omega)).trans ((if_neg (by omega)).trans (if_pos (by omega))))⟩, rfl⟩), (own_cl leaf_mrow P5).loc (fun b hb => ⟨⟨by omega, (if_neg (by omega)).trans ((if_neg (by omega)).trans ((if_neg (by omega)).trans (if_neg (by omega))))⟩, rfl⟩)⟩
      refine ⟨fun b hb hne => by rw [key b (by omega) hne]; exact ho b hb hne, by rw [hGl]; omega, rs ++ [newrow], fun b => if b < G.length then g b else j, ?_, by simp [hrl], ?_⟩
      · rw [get_app_l (by rw [hlS]; exact gl), get_set_eq gl, ← hX, mid_set hrl hx]
      · intro i row y hi hy
        by_cases hij : i < j
        · rw [List.getElem?_append_left (by omega)] at hi
          refine loc_rd _ _ _ _ _ _ (hown i row y hi hy) (fun b hb => ⟨⟨⟨hb.1.1, ?_⟩, ?_⟩, key b hb.1.2 (by have := hb.1.1; omega)⟩)
          · rw [hGl]; have := hb.1.2; omega
          · exact (if_pos hb.1.2).trans hb.2
        · have hi' := (List.getElem?_eq_some_iff.1 hi).1
          rw [List.length_append, hrl, List.length_singleton] at hi'
          obtain rfl : i = j := by omega
          rw [List.getElem?_append_right (by omega), hrl, Nat.sub_self] at hi
          simp only [List.getElem?_cons_zero, Option.some.injEq] at hi
          subst hi
          rw [hx] at hy; cases hy
          refine loc_rd _ _ _ _ _ _ hnew (fun b hb => ⟨⟨⟨by omega, ?_⟩, if_neg (by omega)⟩, rfl⟩)
          rw [hGl]; exact hb.2
    · obtain rfl : j = l.length := by omega
      rw [List.drop_eq_nil_of_le (Nat.le_refl _), List.map_nil, List.append_nil] at hr
      (repeat' (first | refine wSeq rfl ?_ | refine wBlock rfl ?_ | refine wSkip rfl ?_ | refine wExit rfl ?_ | refine wRet rfl ?_ | refine wCondT rfl rfl ?_ | refine wCondF rfl rfl ?_ | refine wOpsM [34] rfl ?_ | refine wDrawW [34] rfl rfl ?_ | refine wLd rfl ?_ | simp only [seval, push_cast, ↓reduceIte, ↓bP_some, ↓aP_true, reduceCtorEq, hlt]))
      refine (if_pos (by rfl)).mpr ?_
      subst hve
      have hTl : ∀ b, b < (clH tirow 2 o.ties).length → G.get (mT + b) = Heap.get H1 (mT + b) := fun b hb => ho _ (by omega) (by omega)
      refine SWP.forget (E' := [(1, .ptr 0 3 0 0), (2, .ptr 1 3 0 0)]) (fun t v h => env_app h) (t2 G _ (.ref aR 6 0 l.length c) mT (fun b => 2 ≤ b ∧ b < 2 + (clH mrow 1 o.el).length) (fun b => b = aR ∨ H1.length ≤ b ∧ b < G.length) (by rw [hvt]; exact g0) (by rw [ho 1 hl1 (by omega)]; exact A1) (fun b B hb => by rw [hTl b (get_len hb)]; exact At' b B hb) (by omega) (by omega) ?_ ?_ (fun b hb => ⟨hb.1, by omega, .inl (by omega)⟩) (fun b hb => ⟨⟨by omega, by omega, ?_⟩, by omega⟩))
      rotate_left 2
      · cases htt : o.ties with
        | none => exact .inr rfl
        | some q =>
          rw [htt] at hlH
          have : (clH tirow 2 (some q)).length = 1 := rfl
          exact .inl (by omega)
      · exact (own_cl leaf_mrow Ae).loc (fun b hb => ⟨hb, ho b (by omega) (by omega)⟩)
      · rw [hrd]
        exact .inr ⟨aR, c, rs, g, rfl, hr, .inl rfl, hrl, fun i row x hi hx => loc_rd _ _ _ _ _ _ (hown i row x hi hx) (fun b hb => ⟨⟨⟨.inr hb.1, by have := hb.1.1; omega⟩, hb.2⟩, rfl⟩)⟩
end Go.Proofs.YtkpfhnicdlgjiaaGreat
set_option maxRecDepth 100000
set_option maxHeartbeats 4000000
set_option linter.unusedVariables false
set_option linter.unusedSimpArgs false
namespace Go.Proofs.YtkpfhnicdlgjiaaGreat
theorem opval_f {G E : Nat → Option V} {n : Nat} : opval G E (.f n) = some (.fn n [] []) := rfl
attribute [push_cast] opval_f
variable {L : Lib} (hL : L.T = tab.get)
include hL
theorem equal_i (s t : Nat) (l m : List Int) (c d : Option Nat) (hs : s = 1 ∨ l = []) (ht : t = 1 ∨ m = []) (hl : l.length < 4611686018427387904) (hm : m.length < 4611686018427387904) : VFn L 21 [tl mrow s l c, tl mrow t m d] (.bool (decide (l = m))) := by
  refine VFn.start (F := T21.1) (by rw [hL]; rfl) rfl rfl rfl ?_
  by_cases hlen : l.length = m.length
  · (repeat' (first | refine wSeq rfl ?_ | refine wBlock rfl ?_ | refine wSkip rfl ?_ | refine wExit rfl ?_ | refine wRet rfl ?_ | refine wCondT rfl rfl ?_ | refine wCondF rfl rfl ?_ | refine wOps rfl ?_ | refine wDraw rfl rfl ?_ | simp only [seval, push_cast, ↓reduceIte, ↓bP_some, ↓aP_true, reduceCtorEq, hlen]))
    refine wCnt rfl 13 l.length (fun _ => []) (fun j => l.take j = m.take j) rfl rfl ?_ ?_
    · intro j hj hI
      obtain ⟨a, ha, _⟩ := get_of hj
      obtain ⟨b, hb, _⟩ := get_of (show j < m.length by omega)
      obtain rfl := size_of hs hj
      obtain rfl := size_of ht (show j < m.length by omega)
      by_cases e : a = b
      · subst e
        (repeat' (first | refine wSeq rfl ?_ | refine wBlock rfl ?_ | refine wSkip rfl ?_ | refine wExit rfl ?_ | refine wRet rfl ?_ | refine wCondT rfl rfl ?_ | refine wCondF rfl rfl ?_ | refine wOps rfl ?_ | refine wDraw rfl rfl ?_ | simp only [seval, push_cast, ↓reduceIte, ↓bP_some, ↓aP_true, reduceCtorEq, iaQ_tl hj, iaQ_tl (show j < m.length by omega), ha, hb, hj, hlen ▸ hj, wrap_succ (show j < 9223372036854775807 by omega)]))
        exact qR_n rfl rfl (by rw [take_snoc ha, take_snoc hb, hI])
      · (repeat' (first | refine wSeq rfl ?_ | refine wBlock rfl ?_ | refine wSkip rfl ?_ | refine wExit rfl ?_ | refine wRet rfl ?_ | refine wCondT rfl rfl ?_ | refine wCondF rfl rfl ?_ | refine wOps rfl ?_ | refine wDraw rfl rfl ?_ | simp only [seval, push_cast, ↓reduceIte, ↓bP_some, ↓aP_true, reduceCtorEq, iaQ_tl hj, iaQ_tl (show j < m.length by omega), ha, hb, hj, hlen ▸ hj, ne_both e]))
        rw [show decide (l = m) = false from decide_eq_false fun h => e (by subst h; rw [ha] at hb; cases hb; rfl)]
        exact FnQ.ret rfl rfl
    · intro hI
      (repeat' (first | refine wSeq rfl ?_ | refine wBlock rfl ?_ | refine wSkip rfl ?_ | refine wExit rfl ?_ | refine wRet rfl ?_ | refine wCondT rfl rfl ?_ | refine wCondF rfl rfl ?_ | refine wOps rfl ?_ | refine wDraw rfl rfl ?_ | simp only [seval, push_cast, ↓reduceIte, ↓bP_some, ↓aP_true, reduceCtorEq, hlen]))
      rw [show decide (l = m) = true from decide_eq_true (by rwa [take_all, hlen, take_all] at hI)]
      exact FnQ.ret rfl rfl
  · (repeat' (first | refine wSeq rfl ?_ | refine wBlock rfl ?_ | refine wSkip rfl ?_ | refine wExit rfl ?_ | refine wRet rfl ?_ | refine wCondT rfl rfl ?_ | refine wCondF rfl rfl ?_ | refine wOps rfl ?_ | refine wDraw rfl rfl ?_ | simp only [seval, push_cast, ↓reduceIte, ↓bP_some, ↓aP_true, reduceCtorEq, hlen]))
    rw [show decide (l = m) = false from decide_eq_false fun h => hlen (by rw [h])]
    exact FnQ.ret rfl rfl
theorem equal_in (a b : Nl Int) (ha : okI a) (hb : okI b) : VFn L 21 [nlv mrow 1 a, nlv mrow 1 b] (.bool (decide (a.l = b.l))) := by
  obtain ⟨s, c, h1, h2⟩ := nlv_tl (f := mrow) (n := 1) (o := a)
  obtain ⟨t, d, h3, h4⟩ := nlv_tl (f := mrow) (n := 1) (o := b)
  rw [h1, h3]
  unfold okI at ha hb
  exact equal_i hL _ _ _ _ _ _ h2 h4 (by omega) (by omega)
theorem equal_u (s t : Nat) (l m : List Int) (c d : Option Nat) (hs : s = 1 ∨ l = []) (ht : t = 1 ∨ m = []) (hl : l.length < 4611686018427387904) (hm : m.length < 4611686018427387904) : VFn L 83 [tl urow s l c, tl urow t m d] (.bool (decide (l = m))) := by
  refine VFn.start (F := T83.1) (by rw [hL]; rfl) rfl rfl rfl ?_
  by_cases hlen : l.length = m.length
  · (repeat' (first | refine wSeq rfl ?_ | refine wBlock rfl ?_ | refine wSkip rfl ?_ | refine wExit rfl ?_ | refine wRet rfl ?_ | refine wCondT rfl rfl ?_ | refine wCondF rfl rfl ?_ | refine wOps rfl ?_ | refine wDraw rfl rfl ?_ | simp only [seval, push_cast, ↓reduceIte, ↓bP_some, ↓aP_true, reduceCtorEq, hlen]))
    refine wCnt rfl 13 l.length (fun _ => []) (fun j => l.take j = m.take j) rfl rfl ?_ ?_
    · intro j hj hI
      obtain ⟨a, ha, _⟩ := get_of hj
      obtain ⟨b, hb, _⟩ := get_of (show j < m.length by omega)
      obtain rfl := size_of hs hj
      obtain rfl := size_of ht (show j < m.length by omega)
      by_cases e : a = b
      · subst e
        (repeat' (first | refine wSeq rfl ?_ | refine wBlock rfl ?_ | refine wSkip rfl ?_ | refine wExit rfl ?_ | refine wRet rfl ?_ | refine wCondT rfl rfl ?_ | refine wCondF rfl rfl ?_ | refine wOps rfl ?_ | refine wDraw rfl rfl ?_ | simp only [seval, push_cast, ↓reduceIte, ↓bP_some, ↓aP_true, reduceCtorEq, iaQ_tl hj, iaQ_tl (show j < m.length by omega), ha, hb, hj, hlen ▸ hj, wrap_succ (show j < 9223372036854775807 by omega)]))
        exact qR_n rfl rfl (by rw [take_snoc ha, take_snoc hb, hI])
      · (repeat' (first | refine wSeq rfl ?_ | refine wBlock rfl ?_ | refine wSkip rfl ?_ | refine wExit rfl ?_ | refine wRet rfl ?_ | refine wCondT rfl rfl ?_ | refine wCondF rfl rfl ?_ | refine wOps rfl ?_ | refine wDraw rfl rfl ?_ | simp only [seval, push_cast, ↓reduceIte, ↓bP_some, ↓aP_true, reduceCtorEq, iaQ_tl hj, iaQ_tl (show j < m.length by omega), ha, hb, hj, hlen ▸ hj, ne_both e]))
        rw [show decide (l = m) = false from decide_eq_false fun h => e (by subst h; rw [ha] at hb; cases hb; rfl)]
        exact FnQ.ret rfl rfl
    · intro hI
      (repeat' (first | refine wSeq rfl ?_ | refine wBlock rfl ?_ | refine wSkip rfl ?_ | refine wExit rfl ?_ | refine wRet rfl ?_ | refine wCondT rfl rfl ?_ | refine wCondF rfl rfl ?_ | refine wOps rfl ?_ | refine wDraw rfl rfl ?_ | simp only [seval, push_cast, ↓reduceIte, ↓bP_some, ↓aP_true, reduceCtorEq, hlen]))
      rw [show decide (l = m) = true from decide_eq_true (by rwa [take_all, hlen, take_all] at hI)]
      exact FnQ.ret rfl rfl
  · (repeat' (first | refine wSeq rfl ?_ | refine wBlock rfl ?_ | refine wSkip rfl ?_ | refine wExit rfl ?_ | refine wRet rfl ?_ | refine wCondT rfl rfl ?_ | refine wCondF rfl rfl ?_ | refine wOps rfl ?_ | refine wDraw rfl rfl ?_ | simp only [seval, push_cast, ↓reduceIte, ↓bP_some, ↓aP_true, reduceCtorEq, hlen]))
    rw [show decide (l = m) = false from decide_eq_false fun h => hlen (by rw [h])]
    exact FnQ.ret rfl rfl
theorem equal_un (a b : Nl Int) (ha : okU a) (hb : okU b) : VFn L 83 [nlv urow 1 a, nlv urow 1 b] (.bool (decide (a.l = b.l))) := by
  obtain ⟨s, c, h1, h2⟩ := nlv_tl (f := urow) (n := 1) (o := a)
  obtain ⟨t, d, h3, h4⟩ := nlv_tl (f := urow) (n := 1) (o := b)
  rw [h1, h3]
  unfold okU at ha hb
  exact equal_u hL _ _ _ _ _ _ h2 h4 (by omega) (by omega)
theorem natsame_n (a b : Nl Int) (ha : okU a) (hb : okU b) : VFn L 41 [nlv urow 1 a, nlv urow 1 b] (.bool (decide (a.l = b.l))) := by
  refine VFn.start (F := T41.1) (by rw [hL]; rfl) rfl (by simp [V.closeds, closed_nlv]) rfl ?_
  (repeat' (first | refine wSeq rfl ?_ | refine wBlock rfl ?_ | refine wSkip rfl ?_ | refine wExit rfl ?_ | refine wRet rfl ?_ | refine wCondT rfl rfl ?_ | refine wCondF rfl rfl ?_ | refine wOps rfl ?_ | refine wDraw rfl rfl ?_ | refine opsV_call rfl rfl (equal_un hL a b ha hb) ?_ | simp only [seval, push_cast, ↓reduceIte, ↓bP_some, ↓aP_true, reduceCtorEq]))
  exact FnQ.ret rfl rfl
theorem ratsame_v (x y : Rt) (hx : okRt x) (hy : okRt y) : VFn L 20 [.agg [.bool x.neg, nlv urow 1 x.num, nlv urow 1 x.den], .agg [.bool y.neg, nlv urow 1 y.num, nlv urow 1 y.den]] (.bool (sameRt x y)) := by
  refine VFn.start (F := T20.1) (by rw [hL]; rfl) rfl (by simp [V.closeds, V.closed, closed_nlv]) rfl ?_
  by_cases h1 : x.neg = y.neg
  · have hb : (x.neg == y.neg) = true := by simp [h1]
    by_cases h2 : x.num.l = y.num.l
    · (repeat' (first | refine wSeq rfl ?_ | refine wBlock rfl ?_ | refine wSkip rfl ?_ | refine wExit rfl ?_ | refine wRet rfl ?_ | refine wCondT rfl rfl ?_ | refine wCondF rfl rfl ?_ | refine wOps rfl ?_ | refine wDraw rfl rfl ?_ | refine opsV_call rfl rfl (natsame_n hL x.num y.num hx.1 hy.1) ?_ | refine opsV_call rfl rfl (natsame_n hL x.den y.den hx.2 hy.2) ?_ | simp only [seval, push_cast, ↓reduceIte, ↓bP_some, ↓aP_true, reduceCtorEq, hb, h2, decide_true]))
      rw [show sameRt x y = decide (x.den.l = y.den.l) by simp [sameRt, erRt, h1, h2]]
      exact FnQ.ret rfl rfl
    · (repeat' (first | refine wSeq rfl ?_ | refine wBlock rfl ?_ | refine wSkip rfl ?_ | refine wExit rfl ?_ | refine wRet rfl ?_ | refine wCondT rfl rfl ?_ | refine wCondF rfl rfl ?_ | refine wOps rfl ?_ | refine wDraw rfl rfl ?_ | refine opsV_call rfl rfl (natsame_n hL x.num y.num hx.1 hy.1) ?_ | refine opsV_call rfl rfl (natsame_n hL x.den y.den hx.2 hy.2) ?_ | simp only [seval, push_cast, ↓reduceIte, ↓bP_some, ↓aP_true, reduceCtorEq, hb, decide_ff h2]))
      rw [show sameRt x y = false by simp [sameRt, erRt, h1, h2]]
      exact FnQ.ret rfl rfl
  · have hb : (x.neg == y.neg) = false := by simp [h1]
    (repeat' (first | refine wSeq rfl ?_ | refine wBlock rfl ?_ | refine wSkip rfl ?_ | refine wExit rfl ?_ | refine wRet rfl ?_ | refine wCondT rfl rfl ?_ | refine wCondF rfl rfl ?_ | refine wOps rfl ?_ | refine wDraw rfl rfl ?_ | refine opsV_call rfl rfl (natsame_n hL x.num y.num hx.1 hy.1) ?_ | refine opsV_call rfl rfl (natsame_n hL x.den y.den hx.2 hy.2) ?_ | simp only [seval, push_cast, ↓reduceIte, ↓bP_some, ↓aP_true, reduceCtorEq, hb]))
    rw [show sameRt x y = false by simp [sameRt, erRt, h1]]
    exact FnQ.ret rfl rfl
theorem eqf_rt (s t : Nat) (l m : List Rt) (c d : Option Nat) (hs : s = 3 ∨ l = []) (ht : t = 3 ∨ m = []) (hl : l.length < 4611686018427387904) (hm : m.length < 4611686018427387904) (kl : ∀ x ∈ l, okRt x) (km : ∀ x ∈ m, okRt x) : VFn L 19 [tl rtrow s l c, tl rtrow t m d, .fn 20 [] []] (.bool (decide (l.map erRt = m.map erRt))) := by
  refine VFn.start (F := T19.1) (by rw [hL]; rfl) rfl rfl rfl ?_
  by_cases hlen : l.length = m.length
  · (repeat' (first | refine wSeq rfl ?_ | refine wBlock rfl ?_ | refine wSkip rfl ?_ | refine wExit rfl ?_ | refine wRet rfl ?_ | refine wCondT rfl rfl ?_ | refine wCondF rfl rfl ?_ | refine wOps rfl ?_ | refine wDraw rfl rfl ?_ | simp only [seval, push_cast, ↓reduceIte, ↓bP_some, ↓aP_true, reduceCtorEq, hlen]))
    refine wCnt rfl 17 l.length (fun _ => []) (fun j => (l.take j).map erRt = (m.take j).map erRt) rfl rfl ?_ ?_
    · intro j hj hI
      obtain ⟨a, ha, ka⟩ := get_of hj
      obtain ⟨b, hb, kb⟩ := get_of (show j < m.length by omega)
      obtain rfl := size_of hs hj
      obtain rfl := size_of ht (show j < m.length by omega)
      have w := wrap_succ (show j < 9223372036854775807 by omega)
      have kc := ratsame_v hL a b (kl a ka) (km b kb)
      (repeat' (first | refine wSeq rfl ?_ | refine wBlock rfl ?_ | refine wSkip rfl ?_ | refine wExit rfl ?_ | refine wRet rfl ?_ | refine wCondT rfl rfl ?_ | refine wCondF rfl rfl ?_ | refine wOpsP rfl ?_ | refine wDraw rfl rfl ?_ | simp only [seval, push_cast, ↓reduceIte, ↓bP_some, ↓aP_true, reduceCtorEq, iaQ_tl hj, iaQ_tl (show j < m.length by omega), ha, hb, hj, hlen ▸ hj]))
      refine opsP_all (k := 20) rfl (kc.at _) ?_
      rintro r h' ⟨rfl, rfl⟩
      by_cases e : erRt a = erRt b
      · have es : sameRt a b = true := decide_eq_true e
        (repeat' (first | refine wSeq rfl ?_ | refine wBlock rfl ?_ | refine wSkip rfl ?_ | refine wExit rfl ?_ | refine wRet rfl ?_ | refine wCondT rfl rfl ?_ | refine wCondF rfl rfl ?_ | refine wOps rfl ?_ | refine wDraw rfl rfl ?_ | simp only [seval, push_cast, ↓reduceIte, ↓bP_some, ↓aP_true, reduceCtorEq, es, w]))
        exact qR_s [] [] rfl rfl rfl (by rw [take_snoc ha, take_snoc hb, List.map_append, List.map_append, hI, List.map_singleton, List.map_singleton, e])
      · have es : sameRt a b = false := decide_eq_false e
        (repeat' (first | refine wSeq rfl ?_ | refine wBlock rfl ?_ | refine wSkip rfl ?_ | refine wExit rfl ?_ | refine wRet rfl ?_ | refine wCondT rfl rfl ?_ | refine wCondF rfl rfl ?_ | refine wOps rfl ?_ | refine wDraw rfl rfl ?_ | simp only [seval, push_cast, ↓reduceIte, ↓bP_some, ↓aP_true, reduceCtorEq, es]))
        rw [decide_eq_false (list_ne (e := erRt) ha hb e)]
        exact FnQ.ret rfl rfl
    · intro hI
      (repeat' (first | refine wSeq rfl ?_ | refine wBlock rfl ?_ | refine wSkip rfl ?_ | refine wExit rfl ?_ | refine wRet rfl ?_ | refine wCondT rfl rfl ?_ | refine wCondF rfl rfl ?_ | refine wOps rfl ?_ | refine wDraw rfl rfl ?_ | simp only [seval, push_cast, ↓reduceIte, ↓bP_some, ↓aP_true, reduceCtorEq, hlen]))
      rw [show decide (l.map erRt = m.map erRt) = true from decide_eq_true (by rwa [take_all, hlen, take_all] at hI)]
      exact FnQ.ret rfl rfl
  · (repeat' (first | refine wSeq rfl ?_ | refine wBlock rfl ?_ | refine wSkip rfl ?_ | refine wExit rfl ?_ | refine wRet rfl ?_ | refine wCondT rfl rfl ?_ | refine wCondF rfl rfl ?_ | refine wOps rfl ?_ | refine wDraw rfl rfl ?_ | simp only [seval, push_cast, ↓reduceIte, ↓bP_some, ↓aP_true, reduceCtorEq, hlen]))
    rw [show decide (l.map erRt = m.map erRt) = false from decide_eq_false fun h => hlen (by simpa using congrArg List.length h)]
    exact FnQ.ret rfl rfl
theorem eqf_rtn (a b : Nl Rt) (ha : a.l.length * 56 ≤ 140737488351232) (hb : b.l.length * 56 ≤ 140737488351232) (ka : ∀ x ∈ a.l, okRt x) (kb : ∀ x ∈ b.l, okRt x) : VFn L 19 [nlv rtrow 3 a, nlv rtrow 3 b, .fn 20 [] []] (.bool (decide (a.l.map erRt = b.l.map erRt))) := by
  obtain ⟨s, c, h1, h2⟩ := nlv_tl (f := rtrow) (n := 3) (o := a)
  obtain ⟨t, d, h3, h4⟩ := nlv_tl (f := rtrow) (n := 3) (o := b)
  rw [h1, h3]
  exact eqf_rt hL _ _ _ _ _ _ h2 h4 (by omega) (by omega) ka kb
theorem same1_v (x y : Rd) (hx : okRd x) (hy : okRd y) : VFn L 18 [.agg [nlv rtrow 3 x.had, .bool x.lost.neg, nlv urow 1 x.lost.num, nlv urow 1 x.lost.den, nlv mrow 1 x.el, nlv mrow 1 x.out], .agg [nlv rtrow 3 y.had, .bool y.lost.neg, nlv urow 1 y.lost.num, nlv urow 1 y.lost.den, nlv mrow 1 y.el, nlv mrow 1 y.out]] (.bool (sameRd x y)) := by
  refine VFn.start (F := T18.1) (by rw [hL]; rfl) rfl (by simp [V.closeds, V.closed, closed_nlv]) rfl ?_
  have k1 := eqf_rtn hL x.had y.had hx.1 hy.1 hx.2.1 hy.2.1
  have k2 := ratsame_v hL x.lost y.lost hx.2.2.1 hy.2.2.1
  have k3 := equal_in hL x.el y.el hx.2.2.2.1 hy.2.2.2.1
  have k4 := equal_in hL x.out y.out hx.2.2.2.2 hy.2.2.2.2
  by_cases h1 : x.had.l.map erRt = y.had.l.map erRt
  · by_cases h2 : erRt x.lost = erRt y.lost
    · have es : sameRt x.lost y.lost = true := decide_eq_true h2
      by_cases h3 : x.el.l = y.el.l
      · rw [show sameRd x y = decide (x.out.l = y.out.l) by simp [sameRd, erRd, h1, h2, h3]]
        (repeat' (first | refine wSeq rfl ?_ | refine wBlock rfl ?_ | refine wSkip rfl ?_ | refine wExit rfl ?_ | refine wRet rfl ?_ | refine wCondT rfl rfl ?_ | refine wCondF rfl rfl ?_ | refine wOps rfl ?_ | refine wDraw rfl rfl ?_ | refine opsV_call rfl rfl (k1) ?_ | refine opsV_call rfl rfl (k2) ?_ | refine opsV_call rfl rfl (k3) ?_ | refine opsV_call rfl rfl (k4) ?_ | simp only [seval, push_cast, ↓reduceIte, ↓bP_some, ↓aP_true, reduceCtorEq, h1, es, h3, decide_true]))
        exact FnQ.ret rfl rfl
      · rw [show sameRd x y = false by simp [sameRd, erRd, h3]]
        (repeat' (first | refine wSeq rfl ?_ | refine wBlock rfl ?_ | refine wSkip rfl ?_ | refine wExit rfl ?_ | refine wRet rfl ?_ | refine wCondT rfl rfl ?_ | refine wCondF rfl rfl ?_ | refine wOps rfl ?_ | refine wDraw rfl rfl ?_ | refine opsV_call rfl rfl (k1) ?_ | refine opsV_call rfl rfl (k2) ?_ | refine opsV_call rfl rfl (k3) ?_ | refine opsV_call rfl rfl (k4) ?_ | simp only [seval, push_cast, ↓reduceIte, ↓bP_some, ↓aP_true, reduceCtorEq, h1, es, decide_ff h3, decide_true]))
        exact FnQ.ret rfl rfl
    · have es : sameRt x.lost y.lost = false := decide_eq_false h2
      rw [show sameRd x y = false by simp [sameRd, erRd, h2]]
      (repeat' (first | refine wSeq rfl ?_ | refine wBlock rfl ?_ | refine wSkip rfl ?_ | refine wExit rfl ?_ | refine wRet rfl ?_ | refine wCondT rfl rfl ?_ | refine wCondF rfl rfl ?_ | refine wOps rfl ?_ | refine wDraw rfl rfl ?_ | refine opsV_call rfl rfl (k1) ?_ | refine opsV_call rfl rfl (k2) ?_ | refine opsV_call rfl rfl (k3) ?_ | refine opsV_call rfl rfl (k4) ?_ | simp only [seval, push_cast, ↓reduceIte, ↓bP_some, ↓aP_true, reduceCtorEq, h1, es, decide_true]))
      exact FnQ.ret rfl rfl
  · rw [show sameRd x y = false by simp [sameRd, erRd, h1]]
    (repeat' (first | refine wSeq rfl ?_ | refine wBlock rfl ?_ | refine wSkip rfl ?_ | refine wExit rfl ?_ | refine wRet rfl ?_ | refine wCondT rfl rfl ?_ | refine wCondF rfl rfl ?_ | refine wOps rfl ?_ | refine wDraw rfl rfl ?_ | refine opsV_call rfl rfl (k1) ?_ | refine opsV_call rfl rfl (k2) ?_ | refine opsV_call rfl rfl (k3) ?_ | refine opsV_call rfl rfl (k4) ?_ | simp only [seval, push_cast, ↓reduceIte, ↓bP_some, ↓aP_true, reduceCtorEq, decide_ff h1]))
    exact FnQ.ret rfl rfl
theorem same2_v (x y : Ti) (hx : okTi x) (hy : okTi y) : VFn L 22 [.agg [nlv mrow 1 x.among, .int .i64 x.chosen], .agg [nlv mrow 1 y.among, .int .i64 y.chosen]] (.bool (sameTi x y)) := by
  refine VFn.start (F := T22.1) (by rw [hL]; rfl) rfl (by simp [V.closeds, V.closed, closed_nlv]) rfl ?_
  have k1 := equal_in hL x.among y.among hx hy
  by_cases h1 : x.among.l = y.among.l
  · by_cases h2 : x.chosen = y.chosen
    · rw [show sameTi x y = true by simp [sameTi, erTi, h1, h2]]
      (repeat' (first | refine wSeq rfl ?_ | refine wBlock rfl ?_ | refine wSkip rfl ?_ | refine wExit rfl ?_ | refine wRet rfl ?_ | refine wCondT rfl rfl ?_ | refine wCondF rfl rfl ?_ | refine wOps rfl ?_ | refine wDraw rfl rfl ?_ | refine opsV_call rfl rfl (k1) ?_ | simp only [seval, push_cast, ↓reduceIte, ↓bP_some, ↓aP_true, reduceCtorEq, h1, h2, decide_true]))
      exact FnQ.ret rfl rfl
    · rw [show sameTi x y = false by simp [sameTi, erTi, h2]]
      (repeat' (first | refine wSeq rfl ?_ | refine wBlock rfl ?_ | refine wSkip rfl ?_ | refine wExit rfl ?_ | refine wRet rfl ?_ | refine wCondT rfl rfl ?_ | refine wCondF rfl rfl ?_ | refine wOps rfl ?_ | refine wDraw rfl rfl ?_ | refine opsV_call rfl rfl (k1) ?_ | simp only [seval, push_cast, ↓reduceIte, ↓bP_some, ↓aP_true, reduceCtorEq, h1, ne_both h2, decide_true]))
      exact FnQ.ret rfl rfl
  · rw [show sameTi x y = false by simp [sameTi, erTi, h1]]
    (repeat' (first | refine wSeq rfl ?_ | refine wBlock rfl ?_ | refine wSkip rfl ?_ | refine wExit rfl ?_ | refine wRet rfl ?_ | refine wCondT rfl rfl ?_ | refine wCondF rfl rfl ?_ | refine wOps rfl ?_ | refine wDraw rfl rfl ?_ | refine opsV_call rfl rfl (k1) ?_ | simp only [seval, push_cast, ↓reduceIte, ↓bP_some, ↓aP_true, reduceCtorEq, decide_ff h1]))
    exact FnQ.ret rfl rfl
theorem eqf_rd (s t : Nat) (l m : List Rd) (c d : Option Nat) (hs : s = 6 ∨ l = []) (ht : t = 6 ∨ m = []) (hl : l.length < 4611686018427387904) (hm : m.length < 4611686018427387904) (kl : ∀ x ∈ l, okRd x) (km : ∀ x ∈ m, okRd x) : VFn L 23 [tl rdrow s l c, tl rdrow t m d, .fn 18 [] []] (.bool (decide (l.map erRd = m.map erRd))) := by
  refine VFn.start (F := T23.1) (by rw [hL]; rfl) rfl rfl rfl ?_
  by_cases hlen : l.length = m.length
  · (repeat' (first | refine wSeq rfl ?_ | refine wBlock rfl ?_ | refine wSkip rfl ?_ | refine wExit rfl ?_ | refine wRet rfl ?_ | refine wCondT rfl rfl ?_ | refine wCondF rfl rfl ?_ | refine wOps rfl ?_ | refine wDraw rfl rfl ?_ | simp only [seval, push_cast, ↓reduceIte, ↓bP_some, ↓aP_true, reduceCtorEq, hlen]))
    refine wCnt rfl 17 l.length (fun _ => []) (fun j => (l.take j).map erRd = (m.take j).map erRd) rfl rfl ?_ ?_
    · intro j hj hI
      obtain ⟨a, ha, ka⟩ := get_of hj
      obtain ⟨b, hb, kb⟩ := get_of (show j < m.length by omega)
      obtain rfl := size_of hs hj
      obtain rfl := size_of ht (show j < m.length by omega)
      have w := wrap_succ (show j < 9223372036854775807 by omega)
      have kc := same1_v hL a b (kl a ka) (km b kb)
      (repeat' (first | refine wSeq rfl ?_ | refine wBlock rfl ?_ | refine wSkip rfl ?_ | refine wExit rfl ?_ | refine wRet rfl ?_ | refine wCondT rfl rfl ?_ | refine wCondF rfl rfl ?_ | refine wOpsP rfl ?_ | refine wDraw rfl rfl ?_ | simp only [seval, push_cast, ↓reduceIte, ↓bP_some, ↓aP_true, reduceCtorEq, iaQ_tl hj, iaQ_tl (show j < m.length by omega), ha, hb, hj, hlen ▸ hj]))
      refine opsP_all (k := 18) rfl (kc.at _) ?_
      rintro r h' ⟨rfl, rfl⟩
      by_cases e : erRd a = erRd b
      · have es : sameRd a b = true := decide_eq_true e
        (repeat' (first | refine wSeq rfl ?_ | refine wBlock rfl ?_ | refine wSkip rfl ?_ | refine wExit rfl ?_ | refine wRet rfl ?_ | refine wCondT rfl rfl ?_ | refine wCondF rfl rfl ?_ | refine wOps rfl ?_ | refine wDraw rfl rfl ?_ | simp only [seval, push_cast, ↓reduceIte, ↓bP_some, ↓aP_true, reduceCtorEq, es, w]))
        exact qR_s [] [] rfl rfl rfl (by rw [take_snoc ha, take_snoc hb, List.map_append, List.map_append, hI, List.map_singleton, List.map_singleton, e])
      · have es : sameRd a b = false := decide_eq_false e
        (repeat' (first | refine wSeq rfl ?_ | refine wBlock rfl ?_ | refine wSkip rfl ?_ | refine wExit rfl ?_ | refine wRet rfl ?_ | refine wCondT rfl rfl ?_ | refine wCondF rfl rfl ?_ | refine wOps rfl ?_ | refine wDraw rfl rfl ?_ | simp only [seval, push_cast, ↓reduceIte, ↓bP_some, ↓aP_true, reduceCtorEq, es]))
        rw [decide_eq_false (list_ne (e := erRd) ha hb e)]
        exact FnQ.ret rfl rfl
    · intro hI
      (repeat' (first | refine wSeq rfl ?_ | refine wBlock rfl ?_ | refine wSkip rfl ?_ | refine wExit rfl ?_ | refine wRet rfl ?_ | refine wCondT rfl rfl ?_ | refine wCondF rfl rfl ?_ | refine wOps rfl ?_ | refine wDraw rfl rfl ?_ | simp only [seval, push_cast, ↓reduceIte, ↓bP_some, ↓aP_true, reduceCtorEq, hlen]))
      rw [show decide (l.map erRd = m.map erRd) = true from decide_eq_true (by rwa [take_all, hlen, take_all] at hI)]
      exact FnQ.ret rfl rfl
  · (repeat' (first | refine wSeq rfl ?_ | refine wBlock rfl ?_ | refine wSkip rfl ?_ | refine wExit rfl ?_ | refine wRet rfl ?_ | refine wCondT rfl rfl ?_ | refine wCondF rfl rfl ?_ | refine wOps rfl ?_ | refine wDraw rfl rfl ?_ | simp only [seval, push_cast, ↓reduceIte, ↓bP_some, ↓aP_true, reduceCtorEq, hlen]))
    rw [show decide (l.map erRd = m.map erRd) = false from decide_eq_false fun h => hlen (by simpa using congrArg List.length h)]
    exact FnQ.ret rfl rfl
theorem eqf_rdn (a b : Nl Rd) (ha : a.l.length * 128 ≤ 140737488351232) (hb : b.l.length * 128 ≤ 140737488351232) (ka : ∀ x ∈ a.l, okRd x) (kb : ∀ x ∈ b.l, okRd x) : VFn L 23 [nlv rdrow 6 a, nlv rdrow 6 b, .fn 18 [] []] (.bool (decide (a.l.map erRd = b.l.map erRd))) := by
  obtain ⟨s, c, h1, h2⟩ := nlv_tl (f := rdrow) (n := 6) (o := a)
  obtain ⟨t, d, h3, h4⟩ := nlv_tl (f := rdrow) (n := 6) (o := b)
  rw [h1, h3]
  exact eqf_rd hL _ _ _ _ _ _ h2 h4 (by omega) (by omega) ka kb
theorem eqf_ti (s t : Nat) (l m : List Ti) (c d : Option Nat) (hs : s = 2 ∨ l = []) (ht : t = 2 ∨ m = []) (hl : l.length < 4611686018427387904) (hm : m.length < 4611686018427387904) (kl : ∀ x ∈ l, okTi x) (km : ∀ x ∈ m, okTi x) : VFn L 24 [tl tirow s l c, tl tirow t m d, .fn 22 [] []] (.bool (decide (l.map erTi = m.map erTi))) := by
  refine VFn.start (F := T24.1) (by rw [hL]; rfl) rfl rfl rfl ?_
  by_cases hlen : l.length = m.length
  · (repeat' (first | refine wSeq rfl ?_ | refine wBlock rfl ?_ | refine wSkip rfl ?_ | refine wExit rfl ?_ | refine wRet rfl ?_ | refine wCondT rfl rfl ?_ | refine wCondF rfl rfl ?_ | refine wOps rfl ?_ | refine wDraw rfl rfl ?_ | simp only [seval, push_cast, ↓reduceIte, ↓bP_some, ↓aP_true, reduceCtorEq, hlen]))
    refine wCnt rfl 17 l.length (fun _ => []) (fun j => (l.take j).map erTi = (m.take j).map erTi) rfl rfl ?_ ?_
    · intro j hj hI
      obtain ⟨a, ha, ka⟩ := get_of hj
      obtain ⟨b, hb, kb⟩ := get_of (show j < m.length by omega)
      obtain rfl := size_of hs hj
      obtain rfl := size_of ht (show j < m.length by omega)
      have w := wrap_succ (show j < 9223372036854775807 by omega)
      have kc := same2_v hL a b (kl a ka) (km b kb)
      (repeat' (first | refine wSeq rfl ?_ | refine wBlock rfl ?_ | refine wSkip rfl ?_ | refine wExit rfl ?_ | refine wRet rfl ?_ | refine wCondT rfl rfl ?_ | refine wCondF rfl rfl ?_ | refine wOpsP rfl ?_ | refine wDraw rfl rfl ?_ | simp only [seval, push_cast, ↓reduceIte, ↓bP_some, ↓aP_true, reduceCtorEq, iaQ_tl hj, iaQ_tl (show j < m.length by omega), ha, hb, hj, hlen ▸ hj]))
      refine opsP_all (k := 22) rfl (kc.at _) ?_
      rintro r h' ⟨rfl, rfl⟩
      by_cases e : erTi a = erTi b
      · have es : sameTi a b = true := decide_eq_true e
        (repeat' (first | refine wSeq rfl ?_ | refine wBlock rfl ?_ | refine wSkip rfl ?_ | refine wExit rfl ?_ | refine wRet rfl ?_ | refine wCondT rfl rfl ?_ | refine wCondF rfl rfl ?_ | refine wOps rfl ?_ | refine wDraw rfl rfl ?_ | simp only [seval, push_cast, ↓reduceIte, ↓bP_some, ↓aP_true, reduceCtorEq, es, w]))
        exact qR_s [] [] rfl rfl rfl (by rw [take_snoc ha, take_snoc hb, List.map_append, List.map_append, hI, List.map_singleton, List.map_singleton, e])
      · have es : sameTi a b = false := decide_eq_false e
        (repeat' (first | refine wSeq rfl ?_ | refine wBlock rfl ?_ | refine wSkip rfl ?_ | refine wExit rfl ?_ | refine wRet rfl ?_ | refine wCondT rfl rfl ?_ | refine wCondF rfl rfl ?_ | refine wOps rfl ?_ | refine wDraw rfl rfl ?_ | simp only [seval, push_cast, ↓reduceIte, ↓bP_some, ↓aP_true, reduceCtorEq, es]))
        rw [decide_eq_false (list_ne (e := erTi) ha hb e)]
        exact FnQ.ret rfl rfl
    · intro hI
      (repeat' (first | refine wSeq rfl ?_ | refine wBlock rfl ?_ | refine wSkip rfl ?_ | refine wExit rfl ?_ | refine wRet rfl ?_ | refine wCondT rfl rfl ?_ | refine wCondF rfl rfl ?_ | refine wOps rfl ?_ | refine wDraw rfl rfl ?_ | simp only [seval, push_cast, ↓reduceIte, ↓bP_some, ↓aP_true, reduceCtorEq, hlen]))
      rw [show decide (l.map erTi = m.map erTi) = true from decide_eq_true (by rwa [take_all, hlen, take_all] at hI)]
      exact FnQ.ret rfl rfl
  · (repeat' (first | refine wSeq rfl ?_ | refine wBlock rfl ?_ | refine wSkip rfl ?_ | refine wExit rfl ?_ | refine wRet rfl ?_ | refine wCondT rfl rfl ?_ | refine wCondF rfl rfl ?_ | refine wOps rfl ?_ | refine wDraw rfl rfl ?_ | simp only [seval, push_cast, ↓reduceIte, ↓bP_some, ↓aP_true, reduceCtorEq, hlen]))
    rw [show decide (l.map erTi = m.map erTi) = false from decide_eq_false fun h => hlen (by simpa using congrArg List.length h)]
    exact FnQ.ret rfl rfl
theorem eqf_tin (a b : Nl Ti) (ha : a.l.length * 32 ≤ 140737488351232) (hb : b.l.length * 32 ≤ 140737488351232) (ka : ∀ x ∈ a.l, okTi x) (kb : ∀ x ∈ b.l, okTi x) : VFn L 24 [nlv tirow 2 a, nlv tirow 2 b, .fn 22 [] []] (.bool (decide (a.l.map erTi = b.l.map erTi))) := by
  obtain ⟨s, c, h1, h2⟩ := nlv_tl (f := tirow) (n := 2) (o := a)
  obtain ⟨t, d, h3, h4⟩ := nlv_tl (f := tirow) (n := 2) (o := b)
  rw [h1, h3]
  exact eqf_ti hL _ _ _ _ _ _ h2 h4 (by omega) (by omega) ka kb
theorem same_v (x y : Oc) (hx : okO x) (hy : okO y) : VFn L 7 [ocv x, ocv y] (.bool (sameO x y)) := by
  refine VFn.start (F := T7.1) (by rw [hL]; rfl) rfl (by simp [V.closeds, closed_ocv]) rfl ?_
  have k1 := equal_in hL x.el y.el hx.1 hy.1
  have k2 := eqf_rdn hL x.rounds y.rounds hx.2.1.1 hy.2.1.1 hx.2.1.2 hy.2.1.2
  have k3 := eqf_tin hL x.ties y.ties hx.2.2.1 hy.2.2.1 hx.2.2.2 hy.2.2.2
  by_cases h1 : x.el.l = y.el.l
  · by_cases h2 : x.rounds.l.map erRd = y.rounds.l.map erRd
    · rw [show sameO x y = decide (x.ties.l.map erTi = y.ties.l.map erTi) by simp [sameO, h1, h2]]
      (repeat' (first | refine wSeq rfl ?_ | refine wBlock rfl ?_ | refine wSkip rfl ?_ | refine wExit rfl ?_ | refine wRet rfl ?_ | refine wCondT rfl rfl ?_ | refine wCondF rfl rfl ?_ | refine wOps rfl ?_ | refine wDraw rfl rfl ?_ | refine opsV_call rfl rfl (k1) ?_ | refine opsV_call rfl rfl (k2) ?_ | refine opsV_call rfl rfl (k3) ?_ | simp only [seval, push_cast, ↓reduceIte, ↓bP_some, ↓aP_true, reduceCtorEq, ocv, occs, h1, h2, decide_true]))
      exact FnQ.ret rfl rfl
    · rw [show sameO x y = false by simp [sameO, h2]]
      (repeat' (first | refine wSeq rfl ?_ | refine wBlock rfl ?_ | refine wSkip rfl ?_ | refine wExit rfl ?_ | refine wRet rfl ?_ | refine wCondT rfl rfl ?_ | refine wCondF rfl rfl ?_ | refine wOps rfl ?_ | refine wDraw rfl rfl ?_ | refine opsV_call rfl rfl (k1) ?_ | refine opsV_call rfl rfl (k2) ?_ | refine opsV_call rfl rfl (k3) ?_ | simp only [seval, push_cast, ↓reduceIte, ↓bP_some, ↓aP_true, reduceCtorEq, ocv, occs, h1, decide_ff h2, decide_true]))
      exact FnQ.ret rfl rfl
  · rw [show sameO x y = false by simp [sameO, h1]]
    (repeat' (first | refine wSeq rfl ?_ | refine wBlock rfl ?_ | refine wSkip rfl ?_ | refine wExit rfl ?_ | refine wRet rfl ?_ | refine wCondT rfl rfl ?_ | refine wCondF rfl rfl ?_ | refine wOps rfl ?_ | refine wDraw rfl rfl ?_ | refine opsV_call rfl rfl (k1) ?_ | refine opsV_call rfl rfl (k2) ?_ | refine opsV_call rfl rfl (k3) ?_ | simp only [seval, push_cast, ↓reduceIte, ↓bP_some, ↓aP_true, reduceCtorEq, ocv, occs, decide_ff h1, decide_true]))
    exact FnQ.ret rfl rfl
end Go.Proofs.YtkpfhnicdlgjiaaGreat
