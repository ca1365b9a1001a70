/- CountBack: the law of going back, walked. -/
import Derived.Test.YtkpfhnicdlgjiaaGreatM6
import Derived.Test.YtkpfhnicdlgjiaaGreatM4
import Derived.Test.YtkpfhnicdlgjiaaGreatM5
set_option maxRecDepth 100000
set_option maxHeartbeats 4000000
set_option linter.unusedVariables false
set_option linter.unusedSimpArgs false
namespace Go.Proofs.YtkpfhnicdlgjiaaGreat
variable {L : Lib} (hL : L.T = tab.get)
include hL
theorem back_v (hS : SortOk L) (hw : VFn L 4 [] (.bool true)) (o : Oc) (ho : okO o) (p : Nl Int) : VFn L 3 [ocv o, nlv mrow 1 p] (.bool true) := by
  have kg := great_v hL o ho
  refine VFn.start (F := T3.1) (by rw [hL]; rfl) rfl (by simp [V.closeds, closed_ocv, closed_nlv, V.closed]) rfl ?_
  by_cases g1 : greatO o = true
  · (repeat' (first | refine wSeq rfl ?_ | refine wBlock rfl ?_ | refine wSkip rfl ?_ | refine wExit rfl ?_ | refine wRet rfl ?_ | refine wCondT rfl rfl ?_ | refine wCondF rfl rfl ?_ | refine wOps rfl ?_ | refine wDraw rfl rfl ?_ | refine opsV_call rfl rfl (kg) ?_ | refine opsV_call rfl rfl (hw) ?_ | simp only [seval, push_cast, ↓reduceIte, ↓bP_some, ↓aP_true, reduceCtorEq, ocv, occs, g1]))
    exact FnQ.ret rfl rfl
  by_cases h60 : (60 : Int) < p.l.length
  · (repeat' (first | refine wSeq rfl ?_ | refine wBlock rfl ?_ | refine wSkip rfl ?_ | refine wExit rfl ?_ | refine wRet rfl ?_ | refine wCondT rfl rfl ?_ | refine wCondF rfl rfl ?_ | refine wOps rfl ?_ | refine wDraw rfl rfl ?_ | refine opsV_call rfl rfl (kg) ?_ | refine opsV_call rfl rfl (hw) ?_ | simp only [seval, push_cast, ↓reduceIte, ↓bP_some, ↓aP_true, reduceCtorEq, ocv, occs, g1, h60]))
    exact FnQ.ret rfl rfl
  have kr := rename_v hL hS o ho p (by omega)
  by_cases hc : ¬ (turnedL p.l = true ∧ fitsO o p.l.length = true)
  · rw [show renL o p.l = (zeroO, 2) from if_neg hc] at kr
    have k0 := same_v hL zeroO zeroO okO_zero okO_zero
    rw [sameO_refl] at k0
    have k0' : VFn L 7 [.agg [.lst 0 [] (some 0), .lst 0 [] (some 0), .lst 0 [] (some 0)], .agg [.lst 0 [] (some 0), .lst 0 [] (some 0), .lst 0 [] (some 0)]] (.bool true) := k0
    have kr' : VFn L 6 [.agg [nlv mrow 1 o.el, nlv rdrow 6 o.rounds, nlv tirow 2 o.ties], nlv mrow 1 p] (.tup [.agg [.lst 0 [] (some 0), .lst 0 [] (some 0), .lst 0 [] (some 0)], .int .i64 2]) := kr
    (repeat' (first | refine wSeq rfl ?_ | refine wBlock rfl ?_ | refine wSkip rfl ?_ | refine wExit rfl ?_ | refine wRet rfl ?_ | refine wCondT rfl rfl ?_ | refine wCondF rfl rfl ?_ | refine wOps rfl ?_ | refine wDraw rfl rfl ?_ | refine opsV_call rfl rfl (kg) ?_ | refine opsV_call rfl rfl (hw) ?_ | refine opsV_call rfl rfl (kr') ?_ | refine opsV_call rfl rfl (k0') ?_ | simp only [seval, push_cast, ↓reduceIte, ↓bP_some, ↓aP_true, reduceCtorEq, ocv, occs, g1, h60]))
    exact FnQ.ret rfl rfl
  obtain ⟨ht, hf⟩ := Decidable.not_not.1 hc
  have hlen := turned_len ht
  have hq := okO_ren ho p.l
  rw [show renL o p.l = (renO p.l o, 0) from if_pos ⟨ht, hf⟩] at kr hq
  have hq : okO (renO p.l o) := hq
  have hbt := back_turned ht
  have hbl := back_len p.l
  have hbf : fitsO (renO p.l o) (backL p.l).length = true := by rw [hbl]; exact fits_ren ht hf
  have kb0 := rename_v hL hS (renO p.l o) hq (some (backL p.l)) (by show (backL p.l).length * 8 ≤ _; omega)
  have hx := okO_ren hq (backL p.l)
  rw [show renL (renO p.l o) (Nl.l (some (backL p.l))) = (renO (backL p.l) (renO p.l o), 0) from if_pos ⟨hbt, hbf⟩] at kb0
  rw [show renL (renO p.l o) (backL p.l) = (renO (backL p.l) (renO p.l o), 0) from if_pos ⟨hbt, hbf⟩] at hx
  have hx : okO (renO (backL p.l) (renO p.l o)) := hx
  have hbne : backL p.l ≠ [] := fun e => by rw [e] at hbl; simp at hbl; omega
  have kb : VFn L 6 [ocv (renO p.l o), tl mrow 1 (backL p.l) (some p.l.length)] (.tup [ocv (renO (backL p.l) (renO p.l o)), .int .i64 0]) := by
    refine kb0.weak (by simp [V.closeds, closed_ocv, closed_tl]) ⟨⟨2, deep_agg3 (deep_same 0) (deep_same 0) (deep_same 0)⟩, ⟨2, ?_⟩, trivial⟩
    rw [nlv_some hbne]
    refine .inr ⟨(backL p.l).map mrow, rfl, fun i r r' hr hr' => ?_, rfl⟩
    rw [hr] at hr'; cases hr'
    refine ⟨rfl, fun j c d hc hd => ?_⟩
    rw [hc] at hd; cases hd
    obtain ⟨x, _, rfl⟩ := List.mem_map.1 (List.mem_of_getElem? hr)
    cases j with
    | zero => simp [mrow] at hc; subst hc; rfl
    | succ j => simp [mrow] at hc
  obtain ⟨b1, b2, b3, b4⟩ := ren_back ht hf
  have hin : ∀ x ∈ o.el.l, 0 ≤ x ∧ x < (p.l.length : Int) := by
    have h := hf
    unfold fitsO at h
    rw [Bool.and_eq_true, Bool.and_eq_true] at h
    exact ofL_iff.1 h.1.1
  obtain ⟨sa, sb, s1, s2, s3, s4, s5⟩ := seats_ren ht hin
  have ks1 := seats_v hL o ho p.l.length
  have ks2 := seats_v hL (renO p.l o) hq p.l.length
  have e2 : (renO p.l o).el.l = o.el.l.map (imL p.l) := by simp only [renO, l_map (f := List.map (imL p.l)) rfl]
  rw [show seatsV o.el.l (p.l.length : Int) = .tup [tl mrow 1 sa (some sa.length), .int .i64 0] by unfold seatsV; rw [s1]] at ks1
  rw [e2, show seatsV (o.el.l.map (imL p.l)) (p.l.length : Int) = .tup [tl mrow 1 sb (some sb.length), .int .i64 0] by unfold seatsV; rw [s2]] at ks2
  have lt1 : ((renO p.l o).ties.l.length : Nat) = o.ties.l.length := by simp only [renO, l_map (f := List.map (renTi p.l)) rfl, List.length_map]
  have lr1 : ((renO p.l o).rounds.l.length : Nat) = o.rounds.l.length := by simp only [renO, l_map (f := List.map (renRd p.l)) rfl, List.length_map]
  have ki := rints_n hL (renO (backL p.l) (renO p.l o)).el o.el hx.1 ho.1
  rw [show decide ((renO (backL p.l) (renO p.l o)).el.l = o.el.l) = true from decide_eq_true b1] at ki
  have lt2 : ((renO (backL p.l) (renO p.l o)).ties.l.length : Nat) = o.ties.l.length := by have := congrArg List.length b3; simpa using this
  have km := same_v hL ⟨(renO (backL p.l) (renO p.l o)).el, (renO (backL p.l) (renO p.l o)).rounds, none⟩ ⟨o.el, o.rounds, none⟩ ⟨hx.1, hx.2.1, by simp [Nl.l], by simp [Nl.l]⟩ ⟨ho.1, ho.2.1, by simp [Nl.l], by simp [Nl.l]⟩
  rw [show sameO ⟨(renO (backL p.l) (renO p.l o)).el, (renO (backL p.l) (renO p.l o)).rounds, none⟩ ⟨o.el, o.rounds, none⟩ = true from sameO_iff.2 (by unfold erOc; simp only [b1, b2])] at km
  generalize hxo : renO (backL p.l) (renO p.l o) = xo at *
  generalize hqo : renO p.l o = qo at *
  have km' : VFn L 7 [.agg [nlv mrow 1 xo.el, nlv rdrow 6 xo.rounds, .lst 0 [] (some 0)], .agg [nlv mrow 1 o.el, nlv rdrow 6 o.rounds, .lst 0 [] (some 0)]] (.bool true) := km
  have kr' : VFn L 6 [.agg [nlv mrow 1 o.el, nlv rdrow 6 o.rounds, nlv tirow 2 o.ties], nlv mrow 1 p] (.tup [.agg [nlv mrow 1 qo.el, nlv rdrow 6 qo.rounds, nlv tirow 2 qo.ties], .int .i64 0]) := kr
  have kb' : VFn L 6 [.agg [nlv mrow 1 qo.el, nlv rdrow 6 qo.rounds, nlv tirow 2 qo.ties], tl mrow 1 (backL p.l) (some p.l.length)] (.tup [.agg [nlv mrow 1 xo.el, nlv rdrow 6 xo.rounds, nlv tirow 2 xo.ties], .int .i64 0]) := kb
  have ks1' : VFn L 8 [.agg [nlv mrow 1 o.el, nlv rdrow 6 o.rounds, nlv tirow 2 o.ties], .int .i64 p.l.length] (.tup [tl mrow 1 sa (some sa.length), .int .i64 0]) := ks1
  have ks2' : VFn L 8 [.agg [nlv mrow 1 qo.el, nlv rdrow 6 qo.rounds, nlv tirow 2 qo.ties], .int .i64 p.l.length] (.tup [tl mrow 1 sb (some sb.length), .int .i64 0]) := ks2
  have q1 : p.l.length * 8 ≤ 140737488355328 := by omega
  have q2 : p.l.length < 9223372036854775808 := by omega
  have q3 : p.l.length ≤ p.l.length := Nat.le_refl _
  (repeat' (first | refine wSeq rfl ?_ | refine wBlock rfl ?_ | refine wSkip rfl ?_ | refine wExit rfl ?_ | refine wRet rfl ?_ | refine wCondT rfl rfl ?_ | refine wCondF rfl rfl ?_ | refine wOps rfl ?_ | refine wDraw rfl rfl ?_ | refine opsV_call rfl rfl (kg) ?_ | refine opsV_call rfl rfl (hw) ?_ | refine opsV_call rfl rfl (kr') ?_ | simp only [seval, push_cast, ↓reduceIte, ↓bP_some, ↓aP_true, reduceCtorEq, ocv, occs, g1, h60, q1, q2, q3, List.length_singleton]))
  refine wCntH rfl 9 p.l.length (fun _ => []) (fun j => [some (Blk.arr 3 [[nlv mrow 1 o.el, nlv rdrow 6 o.rounds, nlv tirow 2 o.ties]]), some (Blk.arr 3 [[nlv mrow 1 qo.el, nlv rdrow 6 qo.rounds, nlv tirow 2 qo.ties]]), some (Blk.arr 1 ((fillTo (fun i => (i : Int)) 0 p.l j).map mrow))]) (fun _ => True) rfl (by rw [fillTo_zero ht, List.map_replicate]; rfl) trivial ?_ ?_
  · intro j hj _
    obtain ⟨a, ha, hm⟩ := get_of hj
    have har := turned_range ht hm
    obtain ⟨m, rfl⟩ : ∃ m : Nat, a = m := ⟨a.toNat, by omega⟩
    have hmp : m < p.l.length := by omega
    have hw' := wrap_succ (show j < 9223372036854775807 by omega)
    have z1 := fillTo_get (g := fun i => (i : Int)) (z := 0) (j := j) hmp
    have s1 := fillTo_step (g := fun i => (i : Int)) (z := 0) ht ha hmp
    (repeat' (first | refine wSeq rfl ?_ | refine wBlock rfl ?_ | refine wSkip rfl ?_ | refine wExit rfl ?_ | refine wRet rfl ?_ | refine wCondT rfl rfl ?_ | refine wCondF rfl rfl ?_ | refine wOps rfl ?_ | refine wDraw rfl rfl ?_ | simp only [seval, push_cast, ↓reduceIte, ↓bP_some, ↓aP_true, reduceCtorEq, hj, ha, iaQ_nlv hj, hmp, z1, mrow_set1, s1, hw']))
    exact qR_n rfl rfl trivial
  intro _
  rw [fill_back ht]
  have f1 := fun H src fz h1 h2 h3 => frz_src (H := H) (src := src) (fz := fz) (a := 2) (l := backL p.l) (c := some p.l.length) closed_mrow h1 (show 0 < 1 by decide) h2 h3
  rw [hbl] at f1
  refine wShift [some 0, some 1] [2] (E1 := [(1, nlv mrow 1 p), (2, V.ptr 0 3 0 0), (5, V.bool true), (6, V.ptr 1 3 0 0), (8, tl mrow 1 (backL p.l) (some p.l.length)), (9, V.int IntKind.i64 p.l.length)]) (H1 := [some (Blk.arr 3 [[nlv mrow 1 o.el, nlv rdrow 6 o.rounds, nlv tirow 2 o.ties]]), some (Blk.arr 3 [[nlv mrow 1 qo.el, nlv rdrow 6 qo.rounds, nlv tirow 2 qo.ties]])]) rfl (congr (congrArg (fun w v => [(1, w), (2, V.ptr 0 3 0 0), (5, V.bool true), (6, V.ptr 1 3 0 0), (8, v), (9, V.int IntKind.i64 p.l.length)]) ren_nlv) (f1 _ _ _ rfl rfl rfl)) (by simp [Heap.sh, Heap.get, Blk.ren, ren_nlv]) ?_
  have lt1' : ((qo.ties.l.length : Nat) : Int) = o.ties.l.length := by omega
  have lr1' : ((qo.rounds.l.length : Nat) : Int) = o.rounds.l.length := by omega
  (repeat' (first | refine wSeq rfl ?_ | refine wBlock rfl ?_ | refine wSkip rfl ?_ | refine wExit rfl ?_ | refine wRet rfl ?_ | refine wCondT rfl rfl ?_ | refine wCondF rfl rfl ?_ | refine wOps rfl ?_ | refine wDraw rfl rfl ?_ | refine opsV_call rfl rfl (kb') ?_ | refine opsV_call rfl rfl (ks1') ?_ | refine opsV_call rfl rfl (ks2') ?_ | refine opsV_call rfl rfl (ki) ?_ | simp only [seval, push_cast, ↓reduceIte, ↓bP_some, ↓aP_true, reduceCtorEq, ocv, occs, lt1', lr1']))
  refine wCnt rfl 16 p.l.length (fun _ => []) (fun _ => True) rfl trivial ?_ ?_
  · intro j hj _
    obtain ⟨a, ha, hm⟩ := get_of hj
    have har := turned_range ht hm
    obtain ⟨m, rfl⟩ : ∃ m : Nat, a = m := ⟨a.toNat, by omega⟩
    have hmp : m < p.l.length := by omega
    have hw' := wrap_succ (show j < 9223372036854775807 by omega)
    have ja : j < sa.length := by omega
    have mb : m < sb.length := by omega
    obtain ⟨u, hu, _⟩ := get_of ja
    obtain ⟨v, hv, _⟩ := get_of mb
    have huv := s5 j m ha
    rw [List.getD_eq_getElem?_getD, List.getD_eq_getElem?_getD, hu, hv] at huv
    have huv : u = v := huv
    subst huv
    have hne : (u != u) = false := by simp
    (repeat' (first | refine wSeq rfl ?_ | refine wBlock rfl ?_ | refine wSkip rfl ?_ | refine wExit rfl ?_ | refine wRet rfl ?_ | refine wCondT rfl rfl ?_ | refine wCondF rfl rfl ?_ | refine wOps rfl ?_ | refine wDraw rfl rfl ?_ | simp only [seval, push_cast, ↓reduceIte, ↓bP_some, ↓aP_true, reduceCtorEq, hj, ha, iaQ_nlv hj, iaQ_tl ja, iaQ_tl mb, hu, hv, hne, hw']))
    exact qR_n rfl rfl trivial
  intro _
  (repeat' (first | refine wSeq rfl ?_ | refine wBlock rfl ?_ | refine wSkip rfl ?_ | refine wExit rfl ?_ | refine wRet rfl ?_ | refine wCondT rfl rfl ?_ | refine wCondF rfl rfl ?_ | refine wOps rfl ?_ | refine wDraw rfl rfl ?_ | simp only [seval, push_cast, ↓reduceIte, ↓bP_some, ↓aP_true, reduceCtorEq]))
  refine wCnt rfl 17 o.ties.l.length (fun _ => []) (fun _ => True) rfl trivial ?_ ?_
  · intro j hj _
    have okl := ho.2.2.1
    have hw' := wrap_succ (show j < 9223372036854775807 by omega)
    have jx : j < xo.ties.l.length := by omega
    have jq : j < qo.ties.l.length := by omega
    obtain ⟨tx, hx1, _⟩ := get_of jx
    obtain ⟨tq, hq1, _⟩ := get_of jq
    obtain ⟨t0, ho1, _⟩ := get_of hj
    have c1 := congrArg (fun l => l[j]?) b3
    simp only [List.getElem?_map, hx1, ho1, Option.map_some, Option.some.injEq] at c1
    have c2 := congrArg (fun l => l[j]?) b4
    simp only [List.getElem?_map, hq1, ho1, Option.map_some, Option.some.injEq] at c2
    have hne : (t0.chosen != t0.chosen) = false := by simp
    have hne2 : (((t0.among.l.length : Nat) : Int) != ((t0.among.l.length : Nat) : Int)) = false := by simp
    (repeat' (first | refine wSeq rfl ?_ | refine wBlock rfl ?_ | refine wSkip rfl ?_ | refine wExit rfl ?_ | refine wRet rfl ?_ | refine wCondT rfl rfl ?_ | refine wCondF rfl rfl ?_ | refine wOps rfl ?_ | refine wDraw rfl rfl ?_ | simp only [seval, push_cast, ↓reduceIte, ↓bP_some, ↓aP_true, reduceCtorEq, hj, iaQ_nlv hj, iaQ_nlv jx, iaQ_nlv jq, hx1, hq1, ho1, tirow_eq, c1, c2, hne, hne2, hw']))
    exact qR_n rfl rfl trivial
  intro _
  (repeat' (first | refine wSeq rfl ?_ | refine wBlock rfl ?_ | refine wSkip rfl ?_ | refine wExit rfl ?_ | refine wRet rfl ?_ | refine wCondT rfl rfl ?_ | refine wCondF rfl rfl ?_ | refine wOps rfl ?_ | refine wDraw rfl rfl ?_ | refine opsV_call rfl rfl (km') ?_ | simp only [seval, push_cast, ↓reduceIte, ↓bP_some, ↓aP_true, reduceCtorEq]))
  exact FnQ.ret rfl rfl
end Go.Proofs.YtkpfhnicdlgjiaaGreat
