/- Margins: the law MarginLeast, walked. -/
import Derived.Test.YtncdaicaljpgfaaGreatM5
import Derived.Test.YtncdaicaljpgfaaGreatBPn
import Derived.Test.YtncdaicaljpgfaaGreatBPo
set_option maxRecDepth 100000
set_option maxHeartbeats 4000000
set_option linter.unusedVariables false
set_option linter.unusedSimpArgs false
namespace Go.Proofs.YtncdaicaljpgfaaGreat
def allM (g d : List Int) : List Int := insAll [] (g.zip d)
theorem insAll_snoc (x : Int) (y : Int) : ∀ (r : List (Int × Int)) (l : List Int), insAll l (r ++ [(x, y)]) = insN (insAll l r) x y.toNat
  | [], l => rfl
  | (a, b) :: r, l => insAll_snoc x y r (insN l a b.toNat)
theorem insN_len (l : List Int) (x : Int) (k : Nat) : (insN l x k).length = k + l.length := by
  rw [(insN_perm l x k).length_eq]; simp
theorem sum_range {b : Int} (hb : 0 ≤ b) : ∀ {l : List Int}, (∀ z ∈ l, 0 ≤ z ∧ z ≤ b) → 0 ≤ l.sum ∧ l.sum ≤ l.length * b
  | [], _ => by simp
  | z :: l, h => by
    have h1 := sum_range hb (l := l) fun w hw => h w (List.mem_cons_of_mem _ hw)
    have h2 := h z List.mem_cons_self
    have h3 : ((z :: l).length : Int) * b = l.length * b + b := by rw [List.length_cons]; push_cast; rw [Int.add_mul, Int.one_mul]
    rw [h3, List.sum_cons]
    omega
theorem insN_in {l : List Int} {x : Int} {k : Nat} {b : Int} (hl : ∀ z ∈ l, 0 ≤ z ∧ z ≤ b) (hx : 0 ≤ x ∧ x ≤ b) : ∀ z ∈ insN l x k, 0 ≤ z ∧ z ≤ b := fun z hz => by
  have := (insN_perm l x k).mem_iff.1 hz
  rcases List.mem_append.1 this with h | h
  · rw [List.eq_of_mem_replicate h]; exact hx
  · exact hl z h
/-- The number, by what the law lays in. -/
theorem runM_U {g d : List Int} (hb : ¬ badM g d) (need : Int) : runM g d need = match cntU (allM g d) need with | some k => ((k : Int), true) | none => (0, false) := by
  unfold badM at hb
  have h1 : g.any outM = false := by simpa using fun e => hb (.inr (.inr (.inl e)))
  have h2 : d.any outM = false := by simpa using fun e => hb (.inr (.inr (.inr e)))
  have hz := zip_ok h1 h2
  obtain ⟨i1, i2⟩ := ordL_ok (g.zip d) (g.zip d).length (List.replicate (g.zip d).length false) (by rw [freeL_all]; exact Nat.le_refl _)
  rw [freeL_all] at i1
  unfold runM allM
  rw [refR_ord, runR_U _ (fun p hp => ⟨(hz p (i1.mem_iff.1 hp)).1.1, (hz p (i1.mem_iff.1 hp)).2.1⟩) i2, insAll_expand i1.symm i2]
  cases cntU (expand (ordL (g.zip d) (g.zip d).length (List.replicate (g.zip d).length false))) need with
  | none => rfl
  | some k => simp
theorem sl_hi0 : sliceV 1 (.lst 0 [] (some 0)) (some none) (some (some 0)) (some none) = some (.lst 0 [] (some 0)) := by simp [sliceV]
theorem sl_lo0 : sliceV 1 (.lst 0 [] (some 0)) (some (some 0)) (some none) (some none) = some (.lst 0 [] (some 0)) := by simp [sliceV]
variable {L : Lib} (hL : L.T = tab.get)
include hL
theorem mleast_v (hS : SortPOk L) (hw : VFn L 6 [] (.bool true)) (need other : Int) (g d : Nl Int) (hg : okI g) (hd : okI d) (hn : -9223372036854775808 ≤ need ∧ need ≤ 9223372036854775807) (ho : -9223372036854775808 ≤ other ∧ other ≤ 9223372036854775807) : VFn L 5 [nlv mrow 1 g, nlv mrow 1 d, .int .i64 need, .int .i64 other] (.bool true) := by
  unfold okI at hg hd
  obtain ⟨s, c, n2, hs⟩ := nlv_tl (f := mrow) (n := 1) (o := g)
  obtain ⟨t, e, n3, ht⟩ := nlv_tl (f := mrow) (n := 1) (o := d)
  rw [n2, n3]
  generalize g.l = g at *
  generalize d.l = d at *
  have k1 := Least_v hL hS (c := c) (e := e) hs ht (by omega) (by omega) need hn.1
  have k2 := Least_v hL hS (c := c) (e := e) hs ht (by omega) (by omega) (if other < need then other else need) (by split <;> omega)
  refine VFn.start (F := T5.1) (by rw [hL]; rfl) rfl rfl rfl ?_
  by_cases hb : badM g d
  · rw [show LeastV g d need = .tup [.int .i64 0, .bool false, .int .i64 2] from if_pos hb] at k1
    (repeat' (first | refine wSeq rfl ?_ | refine wBlock rfl ?_ | refine wSkip rfl ?_ | refine wExit rfl ?_ | refine wRet rfl ?_ | refine wCondT rfl rfl ?_ | refine wCondF rfl rfl ?_ | refine wOps rfl ?_ | refine wDraw rfl rfl ?_ | refine opsV_call rfl rfl (k1) ?_ | refine opsV_call rfl rfl (hw) ?_ | simp only [seval, push_cast, ↓reduceIte, ↓bP_some, ↓aP_true, reduceCtorEq]))
    exact FnQ.ret rfl rfl
  have hV : ∀ nd, LeastV g d nd = .tup [.int .i64 (runM g d nd).1, .bool (runM g d nd).2, .int .i64 0] := fun nd => if_neg hb
  rw [hV] at k1 k2
  have hU := runM_U hb
  by_cases h30 : (30 : Int) < g.length
  · rw [hU need] at k1
    cases hc : cntU (allM g d) need with
    | none =>
      rw [hc] at k1
      dsimp only at k1
      (repeat' (first | refine wSeq rfl ?_ | refine wBlock rfl ?_ | refine wSkip rfl ?_ | refine wExit rfl ?_ | refine wRet rfl ?_ | refine wCondT rfl rfl ?_ | refine wCondF rfl rfl ?_ | refine wOps rfl ?_ | refine wDraw rfl rfl ?_ | refine opsV_call rfl rfl (k1) ?_ | refine opsV_call rfl rfl (hw) ?_ | simp only [seval, push_cast, ↓reduceIte, ↓bP_some, ↓aP_true, reduceCtorEq, h30]))
      exact FnQ.ret rfl rfl
    | some k =>
      rw [hc] at k1
      dsimp only at k1
      by_cases hk : k = 0
      · subst hk
        (repeat' (first | refine wSeq rfl ?_ | refine wBlock rfl ?_ | refine wSkip rfl ?_ | refine wExit rfl ?_ | refine wRet rfl ?_ | refine wCondT rfl rfl ?_ | refine wCondF rfl rfl ?_ | refine wOps rfl ?_ | refine wDraw rfl rfl ?_ | refine opsV_call rfl rfl (k1) ?_ | refine opsV_call rfl rfl (hw) ?_ | simp only [seval, push_cast, ↓reduceIte, ↓bP_some, ↓aP_true, reduceCtorEq, h30]))
        exact FnQ.ret rfl rfl
      · have hk' : ¬ (k : Int) = 0 := by omega
        (repeat' (first | refine wSeq rfl ?_ | refine wBlock rfl ?_ | refine wSkip rfl ?_ | refine wExit rfl ?_ | refine wRet rfl ?_ | refine wCondT rfl rfl ?_ | refine wCondF rfl rfl ?_ | refine wOps rfl ?_ | refine wDraw rfl rfl ?_ | refine opsV_call rfl rfl (k1) ?_ | refine opsV_call rfl rfl (hw) ?_ | simp only [seval, push_cast, ↓reduceIte, ↓bP_some, ↓aP_true, reduceCtorEq, h30, hk']))
        exact FnQ.ret rfl rfl
  have hb' := hb
  unfold badM at hb'
  have e1 : g.length = d.length := Decidable.byContradiction fun h => hb' (.inl h)
  have o1 : g.any outM = false := by simpa using fun h => hb' (.inr (.inr (.inl h)))
  have o2 : d.any outM = false := by simpa using fun h => hb' (.inr (.inr (.inr h)))
  have hlz : (g.zip d).length = g.length := by rw [List.length_zip, e1, Nat.min_self]
  have hr1 := hU need
  have hr2 := hU (if other < need then other else need)
  generalize runM g d need = R1 at *
  generalize runM g d (if other < need then other else need) = R2 at *
  (repeat' (first | refine wSeq rfl ?_ | refine wBlock rfl ?_ | refine wSkip rfl ?_ | refine wExit rfl ?_ | refine wRet rfl ?_ | refine wCondT rfl rfl ?_ | refine wCondF rfl rfl ?_ | refine wOps rfl ?_ | refine wDraw rfl rfl ?_ | refine opsV_call rfl rfl (k1) ?_ | refine opsV_call rfl rfl (hw) ?_ | simp only [seval, push_cast, ↓reduceIte, ↓bP_some, ↓aP_true, reduceCtorEq, h30]))
  refine wPad [none] rfl (by simp only [Env.sh, List.map_cons, List.map_nil]; rfl) rfl ?_
  refine wCntH rfl 14 g.length (fun i => [(12, accV 0 1 (insAll [] ((g.zip d).take i))), (13, V.int IntKind.i64 (insAll [] ((g.zip d).take i)).sum)]) (fun i => [accB mrow 1 (insAll [] ((g.zip d).take i))]) (fun i => (insAll [] ((g.zip d).take i)).length ≤ 50 * i ∧ ∀ z ∈ insAll [] ((g.zip d).take i), 0 ≤ z ∧ z ≤ 1000000) rfl rfl ⟨Nat.zero_le _, fun z hz => by simp [insAll] at hz⟩ ?_ ?_
  · rintro i hi ⟨i1, i2⟩
    have hi1 : i < d.length := by omega
    obtain ⟨x, hx, mx⟩ := get_of hi
    obtain ⟨y, hy, my⟩ := get_of hi1
    obtain rfl := size_of hs hi
    obtain rfl := size_of ht hi1
    have hz : (g.zip d)[i]? = some (x, y) := List.getElem?_zip_eq_some.2 ⟨hx, hy⟩
    have bx := any_no.1 o1 _ mx
    have by' := any_no.1 o2 _ my
    have hwi := wrap_succ (show i < 9223372036854775807 by omega)
    rw [take_snoc hz, insAll_snoc]
    generalize insAll [] ((g.zip d).take i) = B at *
    by_cases h50 : 50 < y
    · (repeat' (first | refine wSeq rfl ?_ | refine wBlock rfl ?_ | refine wSkip rfl ?_ | refine wExit rfl ?_ | refine wRet rfl ?_ | refine wCondT rfl rfl ?_ | refine wCondF rfl rfl ?_ | refine wOps rfl ?_ | refine wDraw rfl rfl ?_ | refine opsV_call rfl rfl (hw) ?_ | simp only [seval, push_cast, ↓reduceIte, ↓bP_some, ↓aP_true, reduceCtorEq, hi, hi1, iaQ_tl hi, iaQ_tl hi1, hx, hy, h50]))
      exact FnQ.ret rfl rfl
    obtain ⟨Y, rfl⟩ : ∃ Y : Nat, y = Y := ⟨y.toNat, by omega⟩
    rw [Int.toNat_natCast]
    (repeat' (first | refine wSeq rfl ?_ | refine wBlock rfl ?_ | refine wSkip rfl ?_ | refine wExit rfl ?_ | refine wRet rfl ?_ | refine wCondT rfl rfl ?_ | refine wCondF rfl rfl ?_ | refine wOps rfl ?_ | refine wDraw rfl rfl ?_ | simp only [seval, push_cast, ↓reduceIte, ↓bP_some, ↓aP_true, reduceCtorEq, hi, hi1, iaQ_tl hi, iaQ_tl hi1, hx, hy, h50]))
    refine wCntH rfl 15 Y (fun k => [(12, accV 0 1 (insN B x k)), (13, V.int IntKind.i64 (insN B x k).sum)]) (fun k => [accB mrow 1 (insN B x k)]) (fun _ => True) rfl rfl trivial ?_ ?_
    · intro k hk _
      have hwk := wrap_succ (show k < 9223372036854775807 by omega)
      have hln := insN_len B x k
      have hin := insN_in (k := k) i2 bx
      have hsr := sum_range (by decide) hin
      have hD : insN B x (k + 1) = insD (insN B x k) x := rfl
      rw [hD, insD_sum]
      generalize insN B x k = C at *
      have hws := wrap_i64 (n := C.sum + x) (by omega) (by omega)
      rcases acc_case mrow 0 1 C with ⟨hV', hB', rfl⟩ | ⟨hV', hB', hC⟩
      · (repeat' (first | refine wSeq rfl ?_ | refine wBlock rfl ?_ | refine wSkip rfl ?_ | refine wExit rfl ?_ | refine wRet rfl ?_ | refine wCondT rfl rfl ?_ | refine wCondF rfl rfl ?_ | refine wOps rfl ?_ | refine wDraw rfl rfl ?_ | simp only [seval, push_cast, ↓reduceIte, ↓bP_some, ↓aP_true, reduceCtorEq, hi, hi1, iaQ_tl hi, iaQ_tl hi1, hx, hy, hk, hV', hB']))
        refine wWhile rfl (fun _ : Unit => [(0, tl mrow 1 g c), (1, tl mrow 1 d e), (2, V.int IntKind.i64 need), (3, V.int IntKind.i64 other), (9, V.int IntKind.i64 R1.fst), (10, V.bool R1.snd), (12, V.lst 0 [] (some 0)), (13, V.int IntKind.i64 ([] : List Int).sum), (14, V.int IntKind.i64 i), (15, V.int IntKind.i64 k), (16, V.int IntKind.i64 0)]) (fun _ => [none]) (fun _ => 0) (fun _ => True) () rfl rfl trivial (fun _ _ => ?_)
        (repeat' (first | refine wSeq rfl ?_ | refine wBlock rfl ?_ | refine wSkip rfl ?_ | refine wExit rfl ?_ | refine wRet rfl ?_ | refine wCondT rfl rfl ?_ | refine wCondF rfl rfl ?_ | refine wOps rfl ?_ | refine wDraw rfl rfl ?_ | simp only [seval, push_cast, ↓reduceIte, ↓bP_some, ↓aP_true, reduceCtorEq, hi, hi1, iaQ_tl hi, hx, hws, hwk, sl_hi0, sl_lo0]))
        exact qR_s [some 3] [] rfl rfl rfl trivial
      · (repeat' (first | refine wSeq rfl ?_ | refine wBlock rfl ?_ | refine wSkip rfl ?_ | refine wExit rfl ?_ | refine wRet rfl ?_ | refine wCondT rfl rfl ?_ | refine wCondF rfl rfl ?_ | refine wOps rfl ?_ | refine wDraw rfl rfl ?_ | simp only [seval, push_cast, ↓reduceIte, ↓bP_some, ↓aP_true, reduceCtorEq, hi, hi1, iaQ_tl hi, iaQ_tl hi1, hx, hy, hk, hV', hB']))
        refine wWhile rfl (fun at' : Nat => [(0, tl mrow 1 g c), (1, tl mrow 1 d e), (2, V.int IntKind.i64 need), (3, V.int IntKind.i64 other), (9, V.int IntKind.i64 R1.fst), (10, V.bool R1.snd), (12, V.ref 0 1 0 C.length none), (13, V.int IntKind.i64 C.sum), (14, V.int IntKind.i64 i), (15, V.int IntKind.i64 k), (16, V.int IntKind.i64 at')]) (fun _ => [some (Blk.arr 1 (C.map mrow))]) (fun at' => at') (fun at' => at' ≤ C.length ∧ posD C x at' = posD C x C.length) C.length rfl rfl ⟨Nat.le_refl _, rfl⟩ ?_
        rintro p ⟨p1, p2⟩
        have hD : insD C x = C.take (posD C x C.length) ++ x :: C.drop (posD C x C.length) := rfl
        cases p with
        | zero =>
          rw [show posD C x C.length = 0 from p2.symm] at hD
          have hroom : (1 + C.length) * 8 ≤ 140737488355328 := by omega
          have htl : List.take C.length (List.map mrow C) = List.map mrow C := List.take_of_length_le (by simp)
          (repeat' (first | refine wSeq rfl ?_ | refine wBlock rfl ?_ | refine wSkip rfl ?_ | refine wExit rfl ?_ | refine wRet rfl ?_ | refine wCondT rfl rfl ?_ | refine wCondF rfl rfl ?_ | refine wOps rfl ?_ | refine wDraw rfl rfl ?_ | simp only [seval, push_cast, ↓reduceIte, ↓bP_some, ↓aP_true, reduceCtorEq, hi, hi1, iaQ_tl hi, hx, hws, Nat.zero_le, hwk, Nat.sub_zero, htl, hroom]))
          have hD' : insD C x = x :: C := by rw [hD]; simp
          rw [hD', accV_cons (by simp), accB_cons (by simp), show (x :: C).length = 1 + C.length by rw [List.length_cons, Nat.add_comm]]
          exact qR_s [some 3] [] rfl rfl (sh_c (sh_b closed_mrow rfl) sh_n) trivial
        | succ p =>
          have hpc : p < C.length := by omega
          obtain ⟨z, hz', _⟩ := get_of hpc
          have hwp : IntKind.i64.wrap ((p : Int) + 1 - 1) = p := by rw [show (p : Int) + 1 - 1 = p by omega]; exact wrap_nat (by omega)
          have hp0 : (0 : Int) < (p : Int) + 1 := by omega
          have hgd : C.getD p 0 = z := by simp [hz']
          have hst : posD C x (p + 1) = if C.getD p 0 < x then posD C x p else p + 1 := rfl
          rw [hgd] at hst
          by_cases hlt : z < x
          · rw [if_pos hlt] at hst
            (repeat' (first | refine wSeq rfl ?_ | refine wBlock rfl ?_ | refine wSkip rfl ?_ | refine wExit rfl ?_ | refine wRet rfl ?_ | refine wCondT rfl rfl ?_ | refine wCondF rfl rfl ?_ | refine wOps rfl ?_ | refine wDraw rfl rfl ?_ | simp only [seval, push_cast, ↓reduceIte, ↓bP_some, ↓aP_true, reduceCtorEq, hi, hi1, iaQ_tl hi, hx, hp0, hwp, wrap_nat (show p < 9223372036854775808 by omega), hpc, hz', hlt]))
            exact qW_n p rfl rfl ⟨by omega, by omega, by rw [← hst]; exact p2⟩
          · rw [if_neg hlt] at hst
            rw [← p2, hst] at hD
            have htk : List.take (p + 1) (List.map mrow C) = (C.take (p + 1)).map mrow := List.map_take.symm
            have htl : (C.take (p + 1)).length = p + 1 := by rw [List.length_take]; omega
            have hroom : (p + 1) * 8 ≤ 140737488355328 := by omega
            have hsub : p + 1 + (C.length - (p + 1)) = C.length := by omega
            have htd : List.take (C.length - (p + 1)) (List.drop (p + 1) (List.map mrow C)) = (C.drop (p + 1)).map mrow := by rw [List.take_of_length_le (by simp), List.map_drop]
            have hdl : (C.drop (p + 1)).length = C.length - (p + 1) := by simp
            have hl2 : (C.take (p + 1) ++ [x]).length = p + 1 + 1 := by rw [List.length_append, htl]; rfl
            have hroom3 : (p + 1 + 1 + (C.length - (p + 1))) * 8 ≤ 140737488355328 := by omega
            have hD' : insD C x = (C.take (p + 1) ++ [x]) ++ C.drop (p + 1) := by rw [hD]; simp
            have hlen : ((C.take (p + 1) ++ [x]) ++ C.drop (p + 1)).length = p + 1 + 1 + (C.length - (p + 1)) := by rw [List.length_append, hl2, hdl]
            have hmp : ((C.take (p + 1) ++ [x]) ++ C.drop (p + 1)).map mrow = (C.take (p + 1) ++ [x]).map mrow ++ (C.drop (p + 1)).map mrow := List.map_append
            have hroom2 : (p + 1 + 1) * 8 ≤ 140737488355328 := by omega
            (repeat' (first | refine wSeq rfl ?_ | refine wBlock rfl ?_ | refine wSkip rfl ?_ | refine wExit rfl ?_ | refine wRet rfl ?_ | refine wCondT rfl rfl ?_ | refine wCondF rfl rfl ?_ | refine wOps rfl ?_ | refine wDraw rfl rfl ?_ | simp only [seval, push_cast, ↓reduceIte, ↓bP_some, ↓aP_true, reduceCtorEq, hi, hi1, iaQ_tl hi, hx, hp0, hwp, wrap_nat (show p < 9223372036854775808 by omega), hpc, hz', hlt, hws, show p + 1 ≤ C.length from hpc, hwk, htk, htl, hroom, hroom2, Nat.succ_ne_zero, Nat.zero_lt_succ, hsub, htd, hdl, hl2, hroom3]))
            rw [hD', accV_cons (by simp), accB_cons (by simp), hlen]
            exact qR_s [some 4] [] rfl rfl (sh_c (sh_b closed_mrow (by rw [hmp]; rfl)) sh_n) trivial
    · intro _
      (repeat' (first | refine wSeq rfl ?_ | refine wBlock rfl ?_ | refine wSkip rfl ?_ | refine wExit rfl ?_ | refine wRet rfl ?_ | refine wCondT rfl rfl ?_ | refine wCondF rfl rfl ?_ | refine wOps rfl ?_ | refine wDraw rfl rfl ?_ | simp only [seval, push_cast, ↓reduceIte, ↓bP_some, ↓aP_true, reduceCtorEq, hi, hi1, iaQ_tl hi1, hy, hwi]))
      exact qR_n rfl rfl ⟨by rw [insN_len]; omega, insN_in i2 bx⟩
  · rintro ⟨i1, i2⟩
    rw [List.take_of_length_le (Nat.le_of_eq hlz), show insAll [] (g.zip d) = allM g d from rfl]
    rw [List.take_of_length_le (Nat.le_of_eq hlz), show insAll [] (g.zip d) = allM g d from rfl] at i1 i2
    have hnn : ∀ z ∈ allM g d, 0 ≤ z := fun z hz => (i2 z hz).1
    have hso : (allM g d).Pairwise (fun x y => y ≤ x) := insAll_sorted _ .nil
    cases hc : cntU (allM g d) need with
    | none =>
      rw [hc] at hr1
      dsimp only at hr1
      rw [hr1]
      have hsum := cntU_none _ hnn hso hc
      (repeat' (first | refine wSeq rfl ?_ | refine wBlock rfl ?_ | refine wSkip rfl ?_ | refine wExit rfl ?_ | refine wRet rfl ?_ | refine wCondT rfl rfl ?_ | refine wCondF rfl rfl ?_ | refine wOps rfl ?_ | refine wDraw rfl rfl ?_ | refine opsV_call rfl rfl (hw) ?_ | simp only [seval, push_cast, ↓reduceIte, ↓bP_some, ↓aP_true, reduceCtorEq, hsum]))
      exact FnQ.ret rfl rfl
    | some n =>
      rw [hc] at hr1
      dsimp only at hr1
      rw [hr1]
      obtain ⟨c1, c2, c3, c4⟩ := cntU_some _ hnn hc
      obtain ⟨m, m1, m2⟩ := cntU_less _ (show (if other < need then other else need) ≤ need by split <;> omega) hc
      rw [m1] at hr2
      dsimp only at hr2
      rw [hr2] at k2
      have q1 : ¬ (n : Int) < 0 := by omega
      have q2 : ¬ ((allM g d).length : Int) < n := by omega
      have q3 : (m : Int) ≤ n := by omega
      have q4 : ¬ 0 < need → n = 0 := fun h => c4 (by omega)
      rcases acc_case mrow 0 1 (allM g d) with ⟨hV', hB', hC⟩ | ⟨hV', hB', hC⟩
      · have q5 : n = 0 := by rw [hC] at c1; simpa using c1
        subst q5
        have c3' : need ≤ 0 := by simpa using c3
        have q6 : ¬ 0 < need := by omega
        (repeat' (first | refine wSeq rfl ?_ | refine wBlock rfl ?_ | refine wSkip rfl ?_ | refine wExit rfl ?_ | refine wRet rfl ?_ | refine wCondT rfl rfl ?_ | refine wCondF rfl rfl ?_ | refine wOps rfl ?_ | refine wDraw rfl rfl ?_ | simp only [seval, push_cast, ↓reduceIte, ↓bP_some, ↓aP_true, reduceCtorEq, hV', hB', q1, q2]))
        refine wCnt rfl 19 0 (fun _ => []) (fun _ => True) rfl trivial (fun j hj => absurd hj (Nat.not_lt_zero j)) (fun _ => ?_)
        have q3' : (m : Int) ≤ 0 := q3
        (repeat' (first | refine wSeq rfl ?_ | refine wBlock rfl ?_ | refine wSkip rfl ?_ | refine wExit rfl ?_ | refine wRet rfl ?_ | refine wCondT rfl rfl ?_ | refine wCondF rfl rfl ?_ | refine wOps rfl ?_ | refine wDraw rfl rfl ?_ | refine opsV_call rfl rfl (k2) ?_ | refine opsV_call rfl rfl (hw) ?_ | simp only [seval, push_cast, ↓reduceIte, ↓bP_some, ↓aP_true, reduceCtorEq, c3', q3', q6]))
        exact FnQ.ret rfl rfl
      · (repeat' (first | refine wSeq rfl ?_ | refine wBlock rfl ?_ | refine wSkip rfl ?_ | refine wExit rfl ?_ | refine wRet rfl ?_ | refine wCondT rfl rfl ?_ | refine wCondF rfl rfl ?_ | refine wOps rfl ?_ | refine wDraw rfl rfl ?_ | simp only [seval, push_cast, ↓reduceIte, ↓bP_some, ↓aP_true, reduceCtorEq, hV', hB', q1, q2]))
        refine wCnt rfl 19 n (fun j => [(18, V.int IntKind.i64 ((allM g d).take j).sum)]) (fun _ => True) rfl trivial ?_ ?_
        · intro j hj _
          have hja : j < (allM g d).length := by omega
          obtain ⟨z, hz, mz⟩ := get_of hja
          have bz := i2 z mz
          have hsr := sum_range (by decide) (l := (allM g d).take j) fun w hw => i2 w (List.mem_of_mem_take hw)
          have hlj : ((allM g d).take j).length = j := by rw [List.length_take]; omega
          rw [hlj] at hsr
          have hlt := c2 j hj
          have hle : ¬ need ≤ ((allM g d).take j).sum := by omega
          have hws := wrap_i64 (n := ((allM g d).take j).sum + z) (by omega) (by omega)
          have hts : ((allM g d).take (j + 1)).sum = ((allM g d).take j).sum + z := by rw [take_snoc hz, List.sum_append]; simp
          (repeat' (first | refine wSeq rfl ?_ | refine wBlock rfl ?_ | refine wSkip rfl ?_ | refine wExit rfl ?_ | refine wRet rfl ?_ | refine wCondT rfl rfl ?_ | refine wCondF rfl rfl ?_ | refine wOps rfl ?_ | refine wDraw rfl rfl ?_ | simp only [seval, push_cast, ↓reduceIte, ↓bP_some, ↓aP_true, reduceCtorEq, hj, hle, hja, hz, hws, hts, wrap_succ (show j < 9223372036854775807 by omega)]))
          exact qR_n rfl rfl trivial
        · intro _
          by_cases hneed : 0 < need
          · (repeat' (first | refine wSeq rfl ?_ | refine wBlock rfl ?_ | refine wSkip rfl ?_ | refine wExit rfl ?_ | refine wRet rfl ?_ | refine wCondT rfl rfl ?_ | refine wCondF rfl rfl ?_ | refine wOps rfl ?_ | refine wDraw rfl rfl ?_ | refine opsV_call rfl rfl (k2) ?_ | refine opsV_call rfl rfl (hw) ?_ | simp only [seval, push_cast, ↓reduceIte, ↓bP_some, ↓aP_true, reduceCtorEq, c3, q3, hneed]))
            exact FnQ.ret rfl rfl
          · have q5 := q4 hneed
            subst q5
            have q3' : (m : Int) ≤ 0 := q3
            have c3' : need ≤ 0 := by simpa using c3
            (repeat' (first | refine wSeq rfl ?_ | refine wBlock rfl ?_ | refine wSkip rfl ?_ | refine wExit rfl ?_ | refine wRet rfl ?_ | refine wCondT rfl rfl ?_ | refine wCondF rfl rfl ?_ | refine wOps rfl ?_ | refine wDraw rfl rfl ?_ | refine opsV_call rfl rfl (k2) ?_ | refine opsV_call rfl rfl (hw) ?_ | simp only [seval, push_cast, ↓reduceIte, ↓bP_some, ↓aP_true, reduceCtorEq, c3', q3', hneed, List.take_zero, List.sum_nil]))
            exact FnQ.ret rfl rfl
end Go.Proofs.YtncdaicaljpgfaaGreat
