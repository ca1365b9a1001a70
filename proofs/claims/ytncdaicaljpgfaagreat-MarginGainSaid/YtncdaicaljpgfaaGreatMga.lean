/- The law MarginGain, walked. -/
import Derived.Test.YtncdaicaljpgfaaGreatMx
import Derived.Test.YtncdaicaljpgfaaGreatM2
set_option maxRecDepth 100000
set_option maxHeartbeats 4000000
set_option linter.unusedVariables false
set_option linter.unusedSimpArgs false
namespace Go.Proofs.YtncdaicaljpgfaaGreat
def okI (o : Nl Int) : Prop := o.l.length * 8 ≤ 140737488351232
theorem checkL_fine {k c : Int} {l : List Int} (h : checkL k l c = 0) : fineL k l c = true := by
  unfold checkL at h
  split at h
  · cases h
  · split at h
    · cases h
    · rename_i h2; simpa using h2
variable {L : Lib} (hL : L.T = tab.get)
include hL
theorem rkindx_v (r : Int) : ∃ v : Int, VFn L 11 [.int .u8 r] (.int .u8 v) ∧ (1 ≤ r ∧ r ≤ 4 → v = kindM r) := by
  by_cases h : 1 ≤ r ∧ r ≤ 4
  · exact ⟨kindM r, rkind_v hL h, fun _ => rfl⟩
  by_cases h14 : r = 14
  · subst h14
    refine ⟨2, ?_, fun h' => absurd h' h⟩
    refine VFn.start (F := T11.1) (by rw [hL]; rfl) rfl rfl rfl ?_
    (repeat' (first | refine wSeq rfl ?_ | refine wBlock rfl ?_ | refine wSkip rfl ?_ | refine wExit rfl ?_ | refine wRet rfl ?_ | refine wCondT rfl rfl ?_ | refine wCondF rfl rfl ?_ | refine wOps rfl ?_ | refine wDraw rfl rfl ?_ | simp only [seval, push_cast, ↓reduceIte, ↓bP_some, ↓aP_true, reduceCtorEq]))
    exact FnQ.ret rfl rfl
  by_cases h15 : r = 15
  · subst h15
    refine ⟨2, ?_, fun h' => absurd h' h⟩
    refine VFn.start (F := T11.1) (by rw [hL]; rfl) rfl rfl rfl ?_
    (repeat' (first | refine wSeq rfl ?_ | refine wBlock rfl ?_ | refine wSkip rfl ?_ | refine wExit rfl ?_ | refine wRet rfl ?_ | refine wCondT rfl rfl ?_ | refine wCondF rfl rfl ?_ | refine wOps rfl ?_ | refine wDraw rfl rfl ?_ | simp only [seval, push_cast, ↓reduceIte, ↓bP_some, ↓aP_true, reduceCtorEq]))
    exact FnQ.ret rfl rfl
  refine ⟨0, ?_, fun h' => absurd h' h⟩
  refine VFn.start (F := T11.1) (by rw [hL]; rfl) rfl rfl rfl ?_
  have h1 : ¬ r = 1 := by omega
  have h2 : ¬ r = 2 := by omega
  have h3 : ¬ r = 3 := by omega
  have h4 : ¬ r = 4 := by omega
  (repeat' (first | refine wSeq rfl ?_ | refine wBlock rfl ?_ | refine wSkip rfl ?_ | refine wExit rfl ?_ | refine wRet rfl ?_ | refine wCondT rfl rfl ?_ | refine wCondF rfl rfl ?_ | refine wOps rfl ?_ | refine wDraw rfl rfl ?_ | simp only [seval, push_cast, ↓reduceIte, ↓bP_some, ↓aP_true, reduceCtorEq, h1, h2, h3, h4, h14, h15]))
  exact FnQ.ret rfl rfl
theorem gain_law (hw : VFn L 6 [] (.bool true)) (r cands w x : Int) (a d : Nl Int) (ha : okI a) (hd : okI d) : VFn L 4 [.int .u8 r, .int .i64 cands, nlv mrow 1 a, nlv mrow 1 d, .int .i64 w, .int .i64 x] (.bool true) := by
  unfold okI at ha hd
  obtain ⟨s1, c1, n1, z1⟩ := nlv_tl (f := mrow) (n := 1) (o := a)
  obtain ⟨s2, c2, n2, z2⟩ := nlv_tl (f := mrow) (n := 1) (o := d)
  rw [n1, n2]
  generalize a.l = a at *
  generalize d.l = d at *
  obtain ⟨kv, kk, hkv⟩ := rkindx_v hL r
  refine VFn.start (F := T4.1) (by rw [hL]; rfl) rfl rfl rfl ?_
  by_cases b1 : r < 1
  · (repeat' (first | refine wSeq rfl ?_ | refine wBlock rfl ?_ | refine wSkip rfl ?_ | refine wExit rfl ?_ | refine wRet rfl ?_ | refine wCondT rfl rfl ?_ | refine wCondF rfl rfl ?_ | refine wOpsP rfl ?_ | refine wDrawM [] rfl rfl ?_ | refine opsV_call (k := 11) rfl rfl (kk) ?_ | refine opsP_call (k := 11) rfl (kk) ?_ | refine opsV_call (k := 6) rfl rfl (hw) ?_ | refine opsP_call (k := 6) rfl (hw) ?_ | simp only [seval, push_cast, ↓reduceIte, ↓bP_some, ↓aP_true, reduceCtorEq, b1]))
    exact FnQ.ret rfl rfl
  by_cases b2 : 4 < r
  · (repeat' (first | refine wSeq rfl ?_ | refine wBlock rfl ?_ | refine wSkip rfl ?_ | refine wExit rfl ?_ | refine wRet rfl ?_ | refine wCondT rfl rfl ?_ | refine wCondF rfl rfl ?_ | refine wOpsP rfl ?_ | refine wDrawM [] rfl rfl ?_ | refine opsV_call (k := 11) rfl rfl (kk) ?_ | refine opsP_call (k := 11) rfl (kk) ?_ | refine opsV_call (k := 6) rfl rfl (hw) ?_ | refine opsP_call (k := 6) rfl (hw) ?_ | simp only [seval, push_cast, ↓reduceIte, ↓bP_some, ↓aP_true, reduceCtorEq, b1, b2]))
    exact FnQ.ret rfl rfl
  by_cases b3 : cands < 2
  · (repeat' (first | refine wSeq rfl ?_ | refine wBlock rfl ?_ | refine wSkip rfl ?_ | refine wExit rfl ?_ | refine wRet rfl ?_ | refine wCondT rfl rfl ?_ | refine wCondF rfl rfl ?_ | refine wOpsP rfl ?_ | refine wDrawM [] rfl rfl ?_ | refine opsV_call (k := 11) rfl rfl (kk) ?_ | refine opsP_call (k := 11) rfl (kk) ?_ | refine opsV_call (k := 6) rfl rfl (hw) ?_ | refine opsP_call (k := 6) rfl (hw) ?_ | simp only [seval, push_cast, ↓reduceIte, ↓bP_some, ↓aP_true, reduceCtorEq, b1, b2, b3]))
    exact FnQ.ret rfl rfl
  by_cases b4 : 10 < cands
  · (repeat' (first | refine wSeq rfl ?_ | refine wBlock rfl ?_ | refine wSkip rfl ?_ | refine wExit rfl ?_ | refine wRet rfl ?_ | refine wCondT rfl rfl ?_ | refine wCondF rfl rfl ?_ | refine wOpsP rfl ?_ | refine wDrawM [] rfl rfl ?_ | refine opsV_call (k := 11) rfl rfl (kk) ?_ | refine opsP_call (k := 11) rfl (kk) ?_ | refine opsV_call (k := 6) rfl rfl (hw) ?_ | refine opsP_call (k := 6) rfl (hw) ?_ | simp only [seval, push_cast, ↓reduceIte, ↓bP_some, ↓aP_true, reduceCtorEq, b1, b2, b3, b4]))
    exact FnQ.ret rfl rfl
  by_cases b5 : w < 0
  · (repeat' (first | refine wSeq rfl ?_ | refine wBlock rfl ?_ | refine wSkip rfl ?_ | refine wExit rfl ?_ | refine wRet rfl ?_ | refine wCondT rfl rfl ?_ | refine wCondF rfl rfl ?_ | refine wOpsP rfl ?_ | refine wDrawM [] rfl rfl ?_ | refine opsV_call (k := 11) rfl rfl (kk) ?_ | refine opsP_call (k := 11) rfl (kk) ?_ | refine opsV_call (k := 6) rfl rfl (hw) ?_ | refine opsP_call (k := 6) rfl (hw) ?_ | simp only [seval, push_cast, ↓reduceIte, ↓bP_some, ↓aP_true, reduceCtorEq, b1, b2, b3, b4, b5]))
    exact FnQ.ret rfl rfl
  by_cases b6 : cands ≤ w
  · (repeat' (first | refine wSeq rfl ?_ | refine wBlock rfl ?_ | refine wSkip rfl ?_ | refine wExit rfl ?_ | refine wRet rfl ?_ | refine wCondT rfl rfl ?_ | refine wCondF rfl rfl ?_ | refine wOpsP rfl ?_ | refine wDrawM [] rfl rfl ?_ | refine opsV_call (k := 11) rfl rfl (kk) ?_ | refine opsP_call (k := 11) rfl (kk) ?_ | refine opsV_call (k := 6) rfl rfl (hw) ?_ | refine opsP_call (k := 6) rfl (hw) ?_ | simp only [seval, push_cast, ↓reduceIte, ↓bP_some, ↓aP_true, reduceCtorEq, b1, b2, b3, b4, b5, b6]))
    exact FnQ.ret rfl rfl
  by_cases b7 : x < 0
  · (repeat' (first | refine wSeq rfl ?_ | refine wBlock rfl ?_ | refine wSkip rfl ?_ | refine wExit rfl ?_ | refine wRet rfl ?_ | refine wCondT rfl rfl ?_ | refine wCondF rfl rfl ?_ | refine wOpsP rfl ?_ | refine wDrawM [] rfl rfl ?_ | refine opsV_call (k := 11) rfl rfl (kk) ?_ | refine opsP_call (k := 11) rfl (kk) ?_ | refine opsV_call (k := 6) rfl rfl (hw) ?_ | refine opsP_call (k := 6) rfl (hw) ?_ | simp only [seval, push_cast, ↓reduceIte, ↓bP_some, ↓aP_true, reduceCtorEq, b1, b2, b3, b4, b5, b6, b7]))
    exact FnQ.ret rfl rfl
  by_cases b8 : cands ≤ x
  · (repeat' (first | refine wSeq rfl ?_ | refine wBlock rfl ?_ | refine wSkip rfl ?_ | refine wExit rfl ?_ | refine wRet rfl ?_ | refine wCondT rfl rfl ?_ | refine wCondF rfl rfl ?_ | refine wOpsP rfl ?_ | refine wDrawM [] rfl rfl ?_ | refine opsV_call (k := 11) rfl rfl (kk) ?_ | refine opsP_call (k := 11) rfl (kk) ?_ | refine opsV_call (k := 6) rfl rfl (hw) ?_ | refine opsP_call (k := 6) rfl (hw) ?_ | simp only [seval, push_cast, ↓reduceIte, ↓bP_some, ↓aP_true, reduceCtorEq, b1, b2, b3, b4, b5, b6, b7, b8]))
    exact FnQ.ret rfl rfl
  by_cases b9 : w = x
  · (repeat' (first | refine wSeq rfl ?_ | refine wBlock rfl ?_ | refine wSkip rfl ?_ | refine wExit rfl ?_ | refine wRet rfl ?_ | refine wCondT rfl rfl ?_ | refine wCondF rfl rfl ?_ | refine wOpsP rfl ?_ | refine wDrawM [] rfl rfl ?_ | refine opsV_call (k := 11) rfl rfl (kk) ?_ | refine opsP_call (k := 11) rfl (kk) ?_ | refine opsV_call (k := 6) rfl rfl (hw) ?_ | refine opsP_call (k := 6) rfl (hw) ?_ | simp only [seval, push_cast, ↓reduceIte, ↓bP_some, ↓aP_true, reduceCtorEq, b1, b2, b3, b4, b5, b6, b7, b8, b9]))
    exact FnQ.ret rfl rfl
  by_cases b10 : (60 : Int) < a.length
  · (repeat' (first | refine wSeq rfl ?_ | refine wBlock rfl ?_ | refine wSkip rfl ?_ | refine wExit rfl ?_ | refine wRet rfl ?_ | refine wCondT rfl rfl ?_ | refine wCondF rfl rfl ?_ | refine wOpsP rfl ?_ | refine wDrawM [] rfl rfl ?_ | refine opsV_call (k := 11) rfl rfl (kk) ?_ | refine opsP_call (k := 11) rfl (kk) ?_ | refine opsV_call (k := 6) rfl rfl (hw) ?_ | refine opsP_call (k := 6) rfl (hw) ?_ | simp only [seval, push_cast, ↓reduceIte, ↓bP_some, ↓aP_true, reduceCtorEq, b1, b2, b3, b4, b5, b6, b7, b8, b9, b10]))
    exact FnQ.ret rfl rfl
  by_cases b11 : (60 : Int) < d.length
  · (repeat' (first | refine wSeq rfl ?_ | refine wBlock rfl ?_ | refine wSkip rfl ?_ | refine wExit rfl ?_ | refine wRet rfl ?_ | refine wCondT rfl rfl ?_ | refine wCondF rfl rfl ?_ | refine wOpsP rfl ?_ | refine wDrawM [] rfl rfl ?_ | refine opsV_call (k := 11) rfl rfl (kk) ?_ | refine opsP_call (k := 11) rfl (kk) ?_ | refine opsV_call (k := 6) rfl rfl (hw) ?_ | refine opsP_call (k := 6) rfl (hw) ?_ | simp only [seval, push_cast, ↓reduceIte, ↓bP_some, ↓aP_true, reduceCtorEq, b1, b2, b3, b4, b5, b6, b7, b8, b9, b10, b11]))
    exact FnQ.ret rfl rfl
  obtain rfl := hkv (by omega)
  obtain ⟨n, rfl⟩ : ∃ n : Nat, cands = n := ⟨cands.toNat, by omega⟩
  obtain ⟨wn, rfl⟩ : ∃ n : Nat, w = n := ⟨w.toNat, by omega⟩
  obtain ⟨xn, rfl⟩ : ∃ n : Nat, x = n := ⟨x.toNat, by omega⟩
  have kc1 := rcheck_v hL (kindM r) n s1 a c1 z1 (by omega)
  have kc2 := rcheck_v hL (kindM r) n s2 d c2 z2 (by omega)
  by_cases e1 : checkL (kindM r) a n = 0
  · by_cases e2 : checkL (kindM r) d n = 0
    · have ba : BallOk r n a := ⟨by omega, by omega, checkL_fine e1⟩
      have bd : BallOk r n d := ⟨by omega, by omega, checkL_fine e2⟩
      have bb := best_ok (r := r) (n := n) (x := xn) (by omega) (by omega) (by omega)
      have kg := Gain_v hL r n wn xn (c := c1) z1 (by omega)
      have hbg : ¬ badG r n wn xn a := by unfold badG; omega
      rw [show gainV r n a wn xn = .tup [.int .i64 (gainL r n a wn xn), .int .i64 0] from if_neg hbg] at kg
      have l1 := lead_v hL (c := c1) (w := wn) (x := xn) z1 ba (by omega) (by omega)
      have l2 := lead_v hL (c := c2) (w := wn) (x := xn) z2 bd (by omega) (by omega)
      have l3 := fun c => lead_v hL (c := c) (s := 1) (w := wn) (x := xn) (.inl rfl) bb (by omega) (by omega)
      have pax := pts_range ba (x := (xn : Int)) (by omega)
      have paw := pts_range ba (x := (wn : Int)) (by omega)
      have pdx := pts_range bd (x := (xn : Int)) (by omega)
      have pdw := pts_range bd (x := (wn : Int)) (by omega)
      obtain ⟨pb1, pb2⟩ := best_pts (r := r) (n := n) (w := wn) (x := xn) (by omega) (by omega) (by omega) (by omega) b9
      have hm : mostL r n ≤ 10 := by unfold mostL; split <;> (try split) <;> omega
      rw [pb1, pb2] at l3
      unfold gainL at kg
      rw [e1] at kc1
      rw [e2] at kc2
      generalize pointsL r n a xn = p1 at *
      generalize pointsL r n a wn = p2 at *
      generalize pointsL r n d xn = p3 at *
      generalize pointsL r n d wn = p4 at *
      generalize mostL r n = m at *
      have q1 : IntKind.i64.wrap (p3 - p4 - (p1 - p2)) = p3 - p4 - (p1 - p2) := wrap_i64 (by omega) (by omega)
      have q2 : IntKind.i64.wrap (m - 0 - (p1 - p2)) = m - 0 - (p1 - p2) := wrap_i64 (by omega) (by omega)
      have q5 : IntKind.i64.wrap (m - p1 + p2) = m - p1 + p2 := wrap_i64 (by omega) (by omega)
      have q3 : p3 - p4 - (p1 - p2) ≤ m - p1 + p2 := by omega
      have q4 : m - 0 - (p1 - p2) = m - p1 + p2 := by omega
      by_cases h3 : r = 3
      · subst h3
        rw [kind_3] at *
        have hroom : n * 8 ≤ 140737488355328 := by omega
        have hroom2 : n < 9223372036854775808 := by omega
        have hxn : xn < n := by omega
        rw [show bestL 3 n xn = (List.replicate n 0).set xn 10 from by unfold bestL; rw [if_pos rfl, Int.toNat_natCast]] at l3
        have hbl : ((List.replicate n (0 : Int)).set xn 10).length = n := by simp
        have hget : (List.replicate n [V.int .i64 0])[xn]? = some [V.int .i64 0] := by simp [hxn]
        have hst : (List.replicate n [V.int .i64 0]).set xn [V.int .i64 10] = ((List.replicate n (0 : Int)).set xn 10).map mrow := by rw [rep_row, List.map_set]; rfl
        (repeat' (first | refine wSeq rfl ?_ | refine wBlock rfl ?_ | refine wSkip rfl ?_ | refine wExit rfl ?_ | refine wRet rfl ?_ | refine wCondT rfl rfl ?_ | refine wCondF rfl rfl ?_ | refine wOpsP rfl ?_ | refine wDrawM [] rfl rfl ?_ | refine opsV_call (k := 11) rfl rfl (kk) ?_ | refine opsP_call (k := 11) rfl (kk) ?_ | refine opsV_call (k := 12) rfl rfl (kc1) ?_ | refine opsP_call (k := 12) rfl (kc1) ?_ | refine opsV_call (k := 12) rfl rfl (kc2) ?_ | refine opsP_call (k := 12) rfl (kc2) ?_ | refine opsV_call (k := 7) rfl rfl (kg) ?_ | refine opsP_call (k := 7) rfl (kg) ?_ | refine opsV_call (k := 13) rfl rfl (l1) ?_ | refine opsP_call (k := 13) rfl (l1) ?_ | refine opsV_call (k := 13) rfl rfl (l2) ?_ | refine opsP_call (k := 13) rfl (l2) ?_ | simp only [seval, push_cast, ↓reduceIte, ↓bP_some, ↓aP_true, reduceCtorEq, b1, b2, b3, b4, b5, b6, b7, b8, b9, b10, b11, hroom, hroom2, hxn, hst, hget, List.length_replicate, List.drop_succ_cons, List.drop_nil, List.drop_zero, List.length_cons, List.length_nil]))
        generalize (List.replicate n (0 : Int)).set xn 10 = best at *
        have hf := frz_ref (l := best) (c := some n) (H := [some (Blk.arr 1 [[V.int IntKind.i64 xn]]), some (Blk.arr 1 (best.map mrow))]) (fz := [1]) (a := 1) closed_mrow Nat.one_pos rfl rfl
        rw [hbl] at hf
        refine opsP_lend [1] rfl (congrArg (fun v => [V.int .u8 3, V.int .i64 n, V.int .u8 3, v, V.int .i64 wn, V.int .i64 xn]) hf) (l3 (some n)) rfl ?_
        (repeat' (first | refine wSeq rfl ?_ | refine wBlock rfl ?_ | refine wSkip rfl ?_ | refine wExit rfl ?_ | refine wRet rfl ?_ | refine wCondT rfl rfl ?_ | refine wCondF rfl rfl ?_ | refine wOpsP rfl ?_ | refine wDrawM [] rfl rfl ?_ | refine opsV_call (k := 6) rfl rfl (hw) ?_ | refine opsP_call (k := 6) rfl (hw) ?_ | simp only [seval, push_cast, ↓reduceIte, ↓bP_some, ↓aP_true, reduceCtorEq, q1, q2, q3, q4, q5]))
        exact FnQ.ret rfl rfl
      · have hk3 : ¬ kindM r = 3 := by
          have : r = 1 ∨ r = 2 ∨ r = 4 := by omega
          rcases this with rfl | rfl | rfl <;> decide
        rw [show bestL r n xn = [(xn : Int)] from if_neg h3] at l3
        (repeat' (first | refine wSeq rfl ?_ | refine wBlock rfl ?_ | refine wSkip rfl ?_ | refine wExit rfl ?_ | refine wRet rfl ?_ | refine wCondT rfl rfl ?_ | refine wCondF rfl rfl ?_ | refine wOpsP rfl ?_ | refine wDrawM [] rfl rfl ?_ | refine opsV_call (k := 11) rfl rfl (kk) ?_ | refine opsP_call (k := 11) rfl (kk) ?_ | refine opsV_call (k := 12) rfl rfl (kc1) ?_ | refine opsP_call (k := 12) rfl (kc1) ?_ | refine opsV_call (k := 12) rfl rfl (kc2) ?_ | refine opsP_call (k := 12) rfl (kc2) ?_ | refine opsV_call (k := 7) rfl rfl (kg) ?_ | refine opsP_call (k := 7) rfl (kg) ?_ | refine opsV_call (k := 13) rfl rfl (l1) ?_ | refine opsP_call (k := 13) rfl (l1) ?_ | refine opsV_call (k := 13) rfl rfl (l2) ?_ | refine opsP_call (k := 13) rfl (l2) ?_ | simp only [seval, push_cast, ↓reduceIte, ↓bP_some, ↓aP_true, reduceCtorEq, b1, b2, b3, b4, b5, b6, b7, b8, b9, b10, b11, hk3]))
        have hf := frz_ref (l := [(xn : Int)]) (c := some 1) (H := [some (Blk.arr 1 [[V.int IntKind.i64 xn]])]) (fz := [0]) (a := 0) closed_mrow Nat.one_pos rfl rfl
        refine opsP_lend [0] rfl (congrArg (fun v => [V.int .u8 r, V.int .i64 n, V.int .u8 (kindM r), v, V.int .i64 wn, V.int .i64 xn]) hf) (l3 (some 1)) rfl ?_
        (repeat' (first | refine wSeq rfl ?_ | refine wBlock rfl ?_ | refine wSkip rfl ?_ | refine wExit rfl ?_ | refine wRet rfl ?_ | refine wCondT rfl rfl ?_ | refine wCondF rfl rfl ?_ | refine wOpsP rfl ?_ | refine wDrawM [] rfl rfl ?_ | refine opsV_call (k := 6) rfl rfl (hw) ?_ | refine opsP_call (k := 6) rfl (hw) ?_ | simp only [seval, push_cast, ↓reduceIte, ↓bP_some, ↓aP_true, reduceCtorEq, q1, q2, q3, q4, q5]))
        exact FnQ.ret rfl rfl
    · (repeat' (first | refine wSeq rfl ?_ | refine wBlock rfl ?_ | refine wSkip rfl ?_ | refine wExit rfl ?_ | refine wRet rfl ?_ | refine wCondT rfl rfl ?_ | refine wCondF rfl rfl ?_ | refine wOpsP rfl ?_ | refine wDrawM [] rfl rfl ?_ | refine opsV_call (k := 11) rfl rfl (kk) ?_ | refine opsP_call (k := 11) rfl (kk) ?_ | refine opsV_call (k := 12) rfl rfl (kc1) ?_ | refine opsP_call (k := 12) rfl (kc1) ?_ | refine opsV_call (k := 12) rfl rfl (kc2) ?_ | refine opsP_call (k := 12) rfl (kc2) ?_ | refine opsV_call (k := 6) rfl rfl (hw) ?_ | refine opsP_call (k := 6) rfl (hw) ?_ | simp only [seval, push_cast, ↓reduceIte, ↓bP_some, ↓aP_true, reduceCtorEq, b1, b2, b3, b4, b5, b6, b7, b8, b9, b10, b11, e1, e2]))
      exact FnQ.ret rfl rfl
  · (repeat' (first | refine wSeq rfl ?_ | refine wBlock rfl ?_ | refine wSkip rfl ?_ | refine wExit rfl ?_ | refine wRet rfl ?_ | refine wCondT rfl rfl ?_ | refine wCondF rfl rfl ?_ | refine wOpsP rfl ?_ | refine wDrawM [] rfl rfl ?_ | refine opsV_call (k := 11) rfl rfl (kk) ?_ | refine opsP_call (k := 11) rfl (kk) ?_ | refine opsV_call (k := 12) rfl rfl (kc1) ?_ | refine opsP_call (k := 12) rfl (kc1) ?_ | refine opsV_call (k := 6) rfl rfl (hw) ?_ | refine opsP_call (k := 6) rfl (hw) ?_ | simp only [seval, push_cast, ↓reduceIte, ↓bP_some, ↓aP_true, reduceCtorEq, b1, b2, b3, b4, b5, b6, b7, b8, b9, b10, b11, e1]))
    exact FnQ.ret rfl rfl
end Go.Proofs.YtncdaicaljpgfaaGreat
