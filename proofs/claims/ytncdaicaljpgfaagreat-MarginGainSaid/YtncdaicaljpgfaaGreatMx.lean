/- The outcome at one seat, walked. · Counting one ballot by a rule of one round, walked. · Counting one lost ballot; the rules of one round, walked. · The lead by one ballot, walked. -/
import Derived.Test.YtncdaicaljpgfaaGreatM6
set_option maxRecDepth 100000
set_option maxHeartbeats 4000000
set_option linter.unusedVariables false
set_option linter.unusedSimpArgs false
namespace Go.Proofs.YtncdaicaljpgfaaGreat
theorem closed_whole (n : Int) : (wholeV n).all V.closed = true := rfl
theorem whole_eq (n : Int) : wholeV n = [.bool false, .lst 1 (if n = 0 then [] else [[.int .u32 n]]) (some (if n = 0 then 0 else 1)), .lst 1 [[.int .u32 1]] (some 1)] := rfl
def outR (had : List Int) (lost x : Int) : List V := [tl wholeV 3 had none, .bool false, .lst 1 (if lost = 0 then [] else [[.int .u32 lost]]) (some (if lost = 0 then 0 else 1)), .lst 1 [[.int .u32 1]] (some 1), tl mrow 1 [x] none, .lst 0 [] (some 0)]
def outO (had : List Int) (lost x : Int) (tv : V) : V := .agg [tl mrow 1 [x] none, .lst 6 [outR had lost x] (some 1), tv]
theorem acc_case' {α : Type} (f : α → List V) (a n : Nat) (r : List α) : accV a n r = .lst 0 [] (some 0) ∧ accB f n r = none ∧ r = [] ∨ accV a n r = .ref a n 0 r.length none ∧ accB f n r = some (.arr n (r.map f)) ∧ r ≠ [] := by
  by_cases hr : r = []
  · subst hr; exact .inl ⟨rfl, rfl, rfl⟩
  · exact .inr ⟨accV_cons hr, accB_cons hr, hr⟩
variable {L : Lib} (hL : L.T = tab.get)
include hL
theorem wholes_v {had : List Int} {hc : Option Nat} (hh : ∀ x ∈ had, 0 ≤ x ∧ x ≤ 10) (hn : 1 ≤ had.length ∧ had.length ≤ 10) : VFn L 136 [tl mrow 1 had hc] (tl wholeV 3 had none) := by
  refine VFn.start (F := T136.1) (by rw [hL]; rfl) rfl rfl rfl ?_
  (repeat' (first | refine wSeq rfl ?_ | refine wBlock rfl ?_ | refine wSkip rfl ?_ | refine wExit rfl ?_ | refine wRet rfl ?_ | refine wCondT rfl rfl ?_ | refine wCondF rfl rfl ?_ | refine wOps rfl ?_ | refine wDraw rfl rfl ?_ | simp only [seval, push_cast, ↓reduceIte, ↓bP_some, ↓aP_true, reduceCtorEq]))
  refine wPad [none] rfl (by simp only [Env.sh, List.map_cons, List.map_nil]; rfl) rfl ?_
  refine wCntH rfl 7 had.length (fun j => [(2, accV 0 3 (had.take j))]) (fun j => [accB wholeV 3 (had.take j)]) (fun _ => True) rfl rfl trivial ?_ ?_
  · intro j hj _
    obtain ⟨x, hx, hm⟩ := get_of hj
    have hw := wrap_succ (show j < 9223372036854775807 by omega)
    have kw := whole_v hL (hh x hm)
    have hlen : (had.take j).length ≤ 10 := by rw [List.length_take]; omega
    rw [take_snoc hx]
    generalize had.take j = r at hlen ⊢
    rw [whole_eq] at kw
    have hroom : (r.length + 1) * 56 ≤ 140737488355328 := by omega
    have hmp : r.map wholeV ++ [[V.bool false, V.lst 1 (if x = 0 then [] else [[V.int .u32 x]]) (some (if x = 0 then 0 else 1)), V.lst 1 [[V.int .u32 1]] (some 1)]] = (r ++ [x]).map wholeV := by rw [List.map_append]; rfl
    rcases acc_case' wholeV 0 3 r with ⟨hV, hB, rfl⟩ | ⟨hV, hB, hr⟩
    · (repeat' (first | refine wSeq rfl ?_ | refine wBlock rfl ?_ | refine wSkip rfl ?_ | refine wExit rfl ?_ | refine wRet rfl ?_ | refine wCondT rfl rfl ?_ | refine wCondF rfl rfl ?_ | refine wOps rfl ?_ | refine wDraw rfl rfl ?_ | refine opsV_call rfl rfl (kw) ?_ | simp only [seval, push_cast, ↓reduceIte, ↓bP_some, ↓aP_true, reduceCtorEq, hj, hx, hw, hV, hB, iaQ_tl hj]))
      exact qR_s [some 2] [] rfl rfl rfl trivial
    · (repeat' (first | refine wSeq rfl ?_ | refine wBlock rfl ?_ | refine wSkip rfl ?_ | refine wExit rfl ?_ | refine wRet rfl ?_ | refine wCondT rfl rfl ?_ | refine wCondF rfl rfl ?_ | refine wOps rfl ?_ | refine wDraw rfl rfl ?_ | refine opsV_call rfl rfl (kw) ?_ | simp only [seval, push_cast, ↓reduceIte, ↓bP_some, ↓aP_true, reduceCtorEq, hj, hx, hw, hV, hB, iaQ_tl hj, hroom, hmp]))
      exact qR_s [some 2] [] rfl (by simp only [accV_snoc]; rfl) (by rw [accB_snoc]; exact sh_c (sh_b closed_whole rfl) sh_n) trivial
  · intro _
    rw [take_all]
    have hr : had ≠ [] := fun e => by rw [e] at hn; simp at hn
    rw [accV_cons hr, accB_cons hr]
    (repeat' (first | refine wSeq rfl ?_ | refine wBlock rfl ?_ | refine wSkip rfl ?_ | refine wExit rfl ?_ | refine wRet rfl ?_ | refine wCondT rfl rfl ?_ | refine wCondF rfl rfl ?_ | refine wOps rfl ?_ | refine wDraw rfl rfl ?_ | simp only [seval, push_cast, ↓reduceIte, ↓bP_some, ↓aP_true, reduceCtorEq]))
    exact FnQ.frz [0] rfl (frz_ref closed_whole (by decide) rfl rfl)
theorem One_a {lot had : List Int} {lost : Int} {hc : Option Nat} (hl : lot.length ≤ 100) (hh : ∀ x ∈ had, 0 ≤ x ∧ x ≤ 10) (hn : 1 ≤ had.length ∧ had.length ≤ 10) (h0 : 0 ≤ lost ∧ lost ≤ 10) : AFn L (.fn 85) [.ptr 0 4 0 0, tl mrow 1 had hc, .int .i64 lost, .int .i64 1] (cH nilL nilL nilL lot) (fun r H' => (∃ (x : Int) (tv : V), TieV tv ∧ r = outO had lost x tv) ∧ ∃ B, H' = [B]) := by
  have ks := Seats_a hL (lot := lot) (had := had) (hc := hc) hl hn
  have kw := wholes_v hL (hc := hc) hh hn
  have kl := whole_v hL h0
  rw [whole_eq] at kl
  unfold cH nilL at *
  refine AFn.of_body (F := T85.1) (by rw [hL]; rfl) rfl ?_
  (repeat' (first | refine wSeq rfl ?_ | refine wBlock rfl ?_ | refine wSkip rfl ?_ | refine wExit rfl ?_ | refine wRet rfl ?_ | refine wCondT rfl rfl ?_ | refine wCondF rfl rfl ?_ | refine wOpsP rfl ?_ | refine wDraw rfl rfl ?_ | simp only [seval, push_cast, ↓reduceIte, ↓bP_some, ↓aP_true, reduceCtorEq]))
  refine opsP_frm (k := 135) (vs' := [.ptr 0 4 0 0, tl mrow 1 had hc, .int .i64 1]) (H0 := [some (Blk.arr 4 [[V.lst 0 [] (some 0), V.lst 0 [] (some 0), V.lst 0 [] (some 0), tl mrow 1 lot none]])]) [0] (by rfl) rfl rfl (by rfl) (by rfl) ks ?_
  rintro r h' ⟨⟨x, rfl⟩, tv, htv, rfl⟩
  rw [back_c4 rfl rfl htv.c rfl, ren_tl']
  simp only [seval, push_cast, ↓reduceIte, ↓bP_some, ↓aP_true, reduceCtorEq]
  have kc := clone_v hL [x] none (by simp) (by simp)
  rw [show ([x] : List Int).length = 1 from rfl] at kc
  have tv1 := htv.v
  have tv2 := htv.s
  refine wSeq rfl ?_
  refine wDrawM [134] rfl rfl ?_
  (repeat' (first | refine opsV_call rfl rfl (kw) ?_ | refine opsV_call rfl rfl (kl) ?_ | refine opsV_make rfl rfl (kc) ?_ | simp only [seval, push_cast, ↓reduceIte, ↓bP_some, ↓aP_true, reduceCtorEq, ren_up_refg]))
  refine wShift [some 0, some 1, some 3] [2] (E1 := [(0, .ptr 0 4 0 0), (8, .ptr 1 3 0 0)]) (H1 := [some (Blk.arr 4 [[tl mrow 1 [x] none, .ref 2 6 0 1 (some 1), tv, tl mrow 1 lot none]]), some (Blk.arr 3 [[V.lst 0 [] (some 0), V.lst 0 [] (some 0), V.lst 0 [] (some 0)]]), some (Blk.arr 6 [outR had lost x])]) rfl rfl ?_ ?_
  · refine sh_c ?_ (sh_c rfl (sh_c rfl sh_n))
    show some (Blk.arr 4 [[V.ren _ (tl mrow 1 [x] none), V.ren _ (.ref 3 6 0 1 (some 1)), V.ren _ tv, V.ren _ (tl mrow 1 lot none)]]) = _
    rw [V.ren_closed _ htv.c]; rfl
  refine wShift [some 0, some 1] [2] (E1 := [(0, .ptr 0 4 0 0), (8, .ptr 1 3 0 0)]) (H1 := [some (Blk.arr 4 [[tl mrow 1 [x] none, .lst 6 [outR had lost x] (some 1), tv, tl mrow 1 lot none]]), some (Blk.arr 3 [[V.lst 0 [] (some 0), V.lst 0 [] (some 0), V.lst 0 [] (some 0)]])]) rfl rfl ?_ ?_
  · refine sh_c ?_ (sh_c rfl sh_n)
    show some (Blk.arr 4 [[V.ren _ (tl mrow 1 [x] none), V.ren _ (.ref 2 6 0 1 (some 1)), V.ren _ tv, V.ren _ (tl mrow 1 lot none)]]) = _
    rw [V.ren_closed _ htv.c]; rfl
  (repeat' (first | refine wSeq rfl ?_ | refine wBlock rfl ?_ | refine wSkip rfl ?_ | refine wExit rfl ?_ | refine wRet rfl ?_ | refine wCondT rfl rfl ?_ | refine wCondF rfl rfl ?_ | refine wOps rfl ?_ | refine wDraw rfl rfl ?_ | simp only [seval, push_cast, ↓reduceIte, ↓bP_some, ↓aP_true, reduceCtorEq, tv1, tv2]))
  refine FnQ.sh [some 0] [] rfl rfl (r := outO had lost x tv) ?_ rfl ⟨⟨x, tv, htv, rfl⟩, _, rfl⟩
  show V.agg [V.ren _ (tl mrow 1 [x] none), V.ren _ (.lst 6 [outR had lost x] (some 1)), V.ren _ tv] = _
  rw [V.ren_closed _ htv.c]; rfl
end Go.Proofs.YtncdaicaljpgfaaGreat
set_option maxRecDepth 100000
set_option maxHeartbeats 4000000
set_option linter.unusedVariables false
set_option linter.unusedSimpArgs false
namespace Go.Proofs.YtncdaicaljpgfaaGreat
def ruleV (kind : Int) (gf lf : Nat) : V := .agg [.int .u8 kind, .fn gf [] [], .fn lf [] []]
theorem ren_entI {σ : Nat → Sg} {M : List (Int × Int)} {bs : List Nat} {n : Nat} : Blk.ren σ (.map (M.map entI) bs n) = .map (M.map entI) bs n := by
  unfold Blk.ren
  dsimp only
  rw [List.map_map]
  congr 1
theorem rep_row {n : Nat} : List.replicate n [V.int .i64 0] = (List.replicate n (0 : Int)).map mrow := by rw [List.map_replicate]; rfl
/-- The stamps that have come are fewer than all while one is to come. -/
theorem seen_lt {S : List Nat} {b m : Nat} (hd : S.Nodup) (hs : ∀ x ∈ S, x < m) (hb : b < m) (hn : b ∉ S) : (S ++ [b]).Nodup ∧ (∀ x ∈ S ++ [b], x < m) ∧ S.length < m := by
  have h1 : (S ++ [b]).Nodup := by
    rw [List.nodup_append]
    exact ⟨hd, by simp, fun x hx y hy e => by simp at hy; subst hy; subst e; exact hn hx⟩
  have h2 : ∀ x ∈ S ++ [b], x < m := fun x hx => by
    rcases List.mem_append.1 hx with h | h
    · exact hs x h
    · simp at h; omega
  refine ⟨h1, h2, ?_⟩
  have := List.Nodup.length_le_of_subset h1 (fun x hx => List.mem_range.2 (h2 x hx))
  simp at this; omega
/-- What is laid while a rule's points are added up. -/
structure CntI (n : Nat) (M : List (Int × Int)) (s : List Nat × List Int) : Prop where
  h : HadI n M s
  nd : s.1.Nodup
  lt : ∀ x ∈ s.1, x < M.length
theorem outO_closed {had : List Int} {lost x : Int} {tv : V} (h : TieV tv) : (outO had lost x tv).closed = true := by
  show (true && (true && (tv.closed && true))) = true
  rw [h.c]; rfl
theorem outT_closed {had : List Int} {lost x e : Int} {tv : V} (h : TieV tv) : (V.tup [outO had lost x tv, .int .i64 e]).closed = true := by
  show ((outO had lost x tv).closed && (true && true)) = true
  rw [outO_closed h]; rfl
theorem back_43 {A0 A1 A2 A3 B : Option Blk} : Heap.back [A0, A1, A2, A3] [3] [B] = [A0, A1, A2, Option.map (Blk.ren (outσ 4 [3])) B] := rfl
theorem ren_mapp5 : V.ren (upσ 5) (V.mapp 0) = .mapp 5 := by simp [V.ren, upσ]
/-- Memory while a rule counts: what it was called with, what is added up, and more. -/
def cntH (k : Int) (n gf lf s : Nat) (l : List Int) (c : Option Nat) (d : List Int) (r : Heap) : Heap := some (Blk.arr 3 [[V.int IntKind.u8 k, V.fn gf [] [], V.fn lf [] []]]) :: some (Blk.arr 3 [[V.int IntKind.i64 n, V.int IntKind.u8 k, V.lst 2 [[tl mrow s l c, V.int IntKind.i64 1]] (some 1)]]) :: some (Blk.arr 3 [[V.lst 0 [] (some 0), V.lst 0 [] (some 0), V.lst 0 [] (some 0)]]) :: some (Blk.arr 1 (d.map mrow)) :: r
def cntE (n s : Nat) (l : List Int) (c : Option Nat) (lost : Int) (j : Int) (r : Env) : Env := (2, V.int IntKind.i64 1) :: (3, tl mrow 1 (allL n) none) :: (4, V.ptr 0 3 0 0) :: (5, V.ptr 1 3 0 0) :: (8, V.ptr 2 3 0 0) :: (11, V.ref 3 1 0 n (some n)) :: (12, V.int IntKind.i64 lost) :: r ++ [(33, V.lst 2 [[tl mrow s l c, V.int IntKind.i64 1]] (some 1)), (34, V.int IntKind.i64 1), (35, V.int IntKind.i64 j)]
theorem mrange_eq {H : Heap} {n a m : Nat} {M : List (Int × Int)} {bs : List Nat} (h : H.get a = some (.map (M.map entI) bs m)) : mrangeV n (shG 0 H.get) (.mapp a) = some { v := .ptr n 0 0 0, need := [a], new := [.iter (some a) m [] m] } := by
  have h' : shG 0 H.get a = some (.map (M.map entI) bs m) := by unfold shG; rw [h]; rfl
  simp only [mrangeV, h']
variable {L : Lib} (hL : L.T = tab.get)
include hL
theorem of_m {lot : List Int} (hne : lot ≠ []) (hl : lot.length ≤ 100) : MFn L 84 [tl mrow 1 lot none] (.ptr 0 4 0 0) (cH nilL nilL nilL lot) := by
  have kc := clone_v hL lot none hne (by omega)
  unfold cH nilL
  refine ⟨rfl, AFn.of_body (F := T84.1) (by rw [hL]; rfl) rfl ?_⟩
  (repeat' (first | refine wSeq rfl ?_ | refine wBlock rfl ?_ | refine wSkip rfl ?_ | refine wExit rfl ?_ | refine wRet rfl ?_ | refine wCondT rfl rfl ?_ | refine wCondF rfl rfl ?_ | refine wOpsM [134] rfl ?_ | refine wDrawM [134] rfl rfl ?_ | refine opsV_make rfl rfl (kc) ?_ | simp only [seval, push_cast, ↓reduceIte, ↓bP_some, ↓aP_true, reduceCtorEq, ren_up_refg, ren_tl closed_mrow, List.map_cons, List.map_nil, Option.map_some, List.length_cons, List.length_nil]))
  refine FnQ.sh [some 1] [0] rfl rfl rfl ?_ ⟨rfl, rfl⟩
  refine sh_c ?_ sh_n
  show some (Blk.arr 4 [[_, _, _, V.ren _ (.ref 0 1 0 lot.length none)]]) = _
  rw [frz_refS (l := lot) closed_mrow Nat.one_pos rfl rfl rfl]; rfl
theorem count_bad {n : Nat} {k kind : Int} {gf lf s : Nat} {l : List Int} {c : Option Nat} (hs : s = 1 ∨ l = []) (hl : l.length ≤ 1000) (hn : 2 ≤ n ∧ n ≤ 10) (hk : 1 ≤ k ∧ k ≤ 3) (hb : ¬ (checkL k l n = 0 ∧ k = kind)) : VFn L 50 [ruleV kind gf lf, profV n k s l c, .int .i64 1, lotV n] (.tup [.agg [nilL, nilL, nilL], .int .i64 8]) := by
  have kc := ccheck_v hL (q := kind) (c := c) hs hl hn hk
  rw [if_neg hb] at kc
  unfold ruleV profV rowsV lotV nilL at *
  refine VFn.start (F := T50.1) (by rw [hL]; rfl) rfl rfl rfl ?_
  (repeat' (first | refine wSeq rfl ?_ | refine wBlock rfl ?_ | refine wSkip rfl ?_ | refine wExit rfl ?_ | refine wRet rfl ?_ | refine wCondT rfl rfl ?_ | refine wCondF rfl rfl ?_ | refine wOps rfl ?_ | refine wDraw rfl rfl ?_ | refine opsV_call rfl rfl (kc) ?_ | simp only [seval, push_cast, ↓reduceIte, ↓bP_some, ↓aP_true, reduceCtorEq]))
  exact FnQ.frz [] rfl rfl
theorem count_ok {n : Nat} {k : Int} {gf lf s : Nat} {l : List Int} {c : Option Nat} {M : List (Int × Int)} {had : List Int} (hs : s = 1 ∨ l = []) (hl : l.length ≤ 1000) (hn : 2 ≤ n ∧ n ≤ 10) (hk : 1 ≤ k ∧ k ≤ 3) (hb : checkL k l n = 0) (hM : KeyOk n M)
    (hlost : VFn L lf [tl mrow s l c] (.bool false)) (hgives : MFn L gf [tl mrow s l c, .int .i64 n] (.mapp 0) [some (.map (M.map entI) (List.range M.length) M.length)])
    (hfin : ∀ S d, HadI n M (S, d) → (∀ b, b < M.length → b ∈ S) → d = had) (hh : ∀ x ∈ had, 0 ≤ x ∧ x ≤ 10) (hlen : had.length = n) :
    AFn L (.fn 50) [ruleV k gf lf, profV n k s l c, .int .i64 1, lotV n] [] (fun r H' => (∃ (x : Int) (tv : V), TieV tv ∧ r = .tup [outO had 0 x tv, .int .i64 0]) ∧ H' = []) := by
  have kc := ccheck_v hL (q := k) (c := c) hs hl hn hk
  rw [if_pos ⟨hb, rfl⟩] at kc
  unfold ruleV profV rowsV lotV at *
  refine AFn.of_body (F := T50.1) (by rw [hL]; rfl) rfl ?_
  have hroom : n * 8 ≤ 140737488355328 := by omega
  have hroom2 : n < 9223372036854775808 := by omega
  (repeat' (first | refine wSeq rfl ?_ | refine wBlock rfl ?_ | refine wSkip rfl ?_ | refine wExit rfl ?_ | refine wRet rfl ?_ | refine wCondT rfl rfl ?_ | refine wCondF rfl rfl ?_ | refine wOps rfl ?_ | refine wDraw rfl rfl ?_ | refine opsV_call rfl rfl (kc) ?_ | simp only [seval, push_cast, ↓reduceIte, ↓bP_some, ↓aP_true, reduceCtorEq, hroom, hroom2]))
  rw [rep_row]
  refine wCntH rfl 35 1 (fun _ => []) (fun j => cntH k n gf lf s l c (if j = 0 then List.replicate n 0 else had) []) (fun _ => True) rfl rfl trivial ?_ ?_
  · intro j hj _
    obtain rfl : j = 0 := by omega
    unfold cntH
    (repeat' (first | refine wSeq rfl ?_ | refine wBlock rfl ?_ | refine wSkip rfl ?_ | refine wExit rfl ?_ | refine wRet rfl ?_ | refine wCondT rfl rfl ?_ | refine wCondF rfl rfl ?_ | refine wOpsP rfl ?_ | refine wDraw rfl rfl ?_ | simp only [seval, push_cast, ↓reduceIte, ↓bP_some, ↓aP_true, reduceCtorEq]))
    refine opsP_dyn rfl hlost ?_
    (repeat' (first | refine wSeq rfl ?_ | refine wBlock rfl ?_ | refine wSkip rfl ?_ | refine wExit rfl ?_ | refine wRet rfl ?_ | refine wCondT rfl rfl ?_ | refine wCondF rfl rfl ?_ | refine wOpsP rfl ?_ | refine wDraw rfl rfl ?_ | simp only [seval, push_cast, ↓reduceIte, ↓bP_some, ↓aP_true, reduceCtorEq]))
    refine opsP_any rfl (hgives.at _) ?_
    rintro r h' ⟨rfl, rfl⟩
    (repeat' (first | refine wSeq rfl ?_ | refine wBlock rfl ?_ | refine wSkip rfl ?_ | refine wExit rfl ?_ | refine wRet rfl ?_ | refine wCondT rfl rfl ?_ | refine wCondF rfl rfl ?_ | refine wOpsP rfl ?_ | refine wDraw rfl rfl ?_ | simp only [seval, push_cast, ↓reduceIte, ↓bP_some, ↓aP_true, reduceCtorEq, ren_entI, List.map_cons, List.map_nil, Option.map_some, ren_mapp5]))
    rw [mrange_eq (M := M) (bs := List.range M.length) (m := M.length) rfl, bP_some]
    (repeat' (first | refine wSeq rfl ?_ | refine wBlock rfl ?_ | refine wSkip rfl ?_ | refine wExit rfl ?_ | refine wRet rfl ?_ | refine wCondT rfl rfl ?_ | refine wCondF rfl rfl ?_ | refine wOpsP rfl ?_ | refine wDraw rfl rfl ?_ | simp only [seval, push_cast, ↓reduceIte, ↓bP_some, ↓aP_true, reduceCtorEq, happ_eq, upds_nil, upds_cons, List.map_cons, List.map_nil, List.all_nil]))
    refine wWhile rfl (fun _ : List Nat × List Int => [(2, V.int IntKind.i64 1), (3, tl mrow 1 (allL n) none), (4, V.ptr 0 3 0 0), (5, V.ptr 1 3 0 0), (8, V.ptr 2 3 0 0), (11, V.ref 3 1 0 n (some n)), (12, V.int IntKind.i64 0), (14, V.ptr 4 2 0 0), (33, V.lst 2 [[tl mrow s l c, V.int IntKind.i64 1]] (some 1)), (34, V.int IntKind.i64 1), (35, V.int IntKind.i64 0), (55, V.ptr 6 0 0 0)]) (fun q => cntH k n gf lf s l c q.2 [some (Blk.arr 2 [[tl mrow s l c, V.int IntKind.i64 1]]), some (Blk.map (List.map entI M) (List.range M.length) M.length), some (Blk.iter (some 5) M.length q.1 M.length)]) (fun q => M.length - q.1.length) (CntI n M) ([], List.replicate n 0) rfl rfl ⟨had_start, List.nodup_nil, fun x hx => by cases hx⟩ ?_
    rintro ⟨S, d⟩ hI
    unfold cntH
    refine wSeq rfl ?_
    refine wOpsP rfl ?_
    refine opsP_next (M := M) (n := M.length) (S := S) rfl rfl rfl rfl (by simp) ?_ ?_
    · intro hall
      obtain rfl := hfin S d hI.h hall
      (repeat' (first | refine wSeq rfl ?_ | refine wBlock rfl ?_ | refine wSkip rfl ?_ | refine wExit rfl ?_ | refine wRet rfl ?_ | refine wCondT rfl rfl ?_ | refine wCondF rfl rfl ?_ | refine wOpsP rfl ?_ | refine wDraw rfl rfl ?_ | simp only [seval, push_cast, ↓reduceIte, ↓bP_some, ↓aP_true, reduceCtorEq]))
      exact qR_s [some 0, some 1, some 2, some 3] [] rfl rfl (sh_c rfl (sh_c rfl (sh_c rfl (sh_c (sh_b closed_mrow rfl) sh_n)))) trivial
    · rintro b ⟨key, val⟩ hp hnb
      have hbl := (List.getElem?_eq_some_iff.1 hp).1
      obtain ⟨z1, z2⟩ := had_step hM hI.h hp hnb
      obtain ⟨y1, y2, y3⟩ := seen_lt hI.nd hI.lt hbl hnb
      have hr := hM.rg _ (List.mem_of_getElem? hp)
      simp only at z1 z2 hr
      obtain ⟨kn, rfl⟩ : ∃ kn : Nat, key = kn := ⟨key.toNat, by omega⟩
      rw [Int.toNat_natCast] at z1 z2
      (repeat' (first | refine wSeq rfl ?_ | refine wBlock rfl ?_ | refine wSkip rfl ?_ | refine wExit rfl ?_ | refine wRet rfl ?_ | refine wCondT rfl rfl ?_ | refine wCondF rfl rfl ?_ | refine wOpsP rfl ?_ | refine wDraw rfl rfl ?_ | simp only [seval, push_cast, ↓reduceIte, ↓bP_some, ↓aP_true, reduceCtorEq]))
      rw [entry_eq (M := M) (n := M.length) (S := S) (b := b) rfl rfl rfl hp, bP_some]
      have hdl : d.length = n := hI.h.len
      have hkn : kn < d.length := by omega
      (repeat' (first | refine wSeq rfl ?_ | refine wBlock rfl ?_ | refine wSkip rfl ?_ | refine wExit rfl ?_ | refine wRet rfl ?_ | refine wCondT rfl rfl ?_ | refine wCondF rfl rfl ?_ | refine wOps rfl ?_ | refine wDraw rfl rfl ?_ | simp only [seval, push_cast, ↓reduceIte, ↓bP_some, ↓aP_true, reduceCtorEq, happ_eq, upds_nil, upds_cons, List.map_cons, List.map_nil, List.all_nil, List.append_nil, hdl, hkn, z1, Int.mul_one, Int.zero_add, wrap_i64 (n := val) (by omega) (by omega), mrow_set, show kn < n by omega]))
      exact qW_n (S ++ [b], d.set kn val) rfl rfl ⟨(show M.length - (S ++ [b]).length < M.length - S.length by have y3' : S.length < M.length := y3; rw [List.length_append, List.length_singleton]; omega), z2, y1, y2⟩
  · intro _
    have ko := of_m hL (lot := allL n) (fun e => by have := congrArg List.length e; simp [allL] at this; omega) (by simp [allL]; omega)
    have k1 := One_a hL (lot := allL n) (had := had) (lost := 0) (hc := some n) (by simp [allL]; omega) hh (by omega) (by decide)
    unfold cH at ko k1
    unfold cntH
    rw [show (if (1 : Nat) = 0 then List.replicate n (0 : Int) else had) = had from rfl]
    refine wShift [some 0, some 1, some 2] [3] (E1 := [(2, V.int IntKind.i64 1), (3, tl mrow 1 (allL n) none), (4, V.ptr 0 3 0 0), (5, V.ptr 1 3 0 0), (8, V.ptr 2 3 0 0), (11, tl mrow 1 had (some n)), (12, V.int IntKind.i64 0), (33, V.lst 2 [[tl mrow s l c, V.int IntKind.i64 1]] (some 1)), (34, V.int IntKind.i64 1), (35, V.int IntKind.i64 1)]) (H1 := [some (Blk.arr 3 [[V.int IntKind.u8 k, V.fn gf [] [], V.fn lf [] []]]), some (Blk.arr 3 [[V.int IntKind.i64 n, V.int IntKind.u8 k, V.lst 2 [[tl mrow s l c, V.int IntKind.i64 1]] (some 1)]]), some (Blk.arr 3 [[V.lst 0 [] (some 0), V.lst 0 [] (some 0), V.lst 0 [] (some 0)]])]) rfl ?_ rfl ?_
    · have hf := frz_refS (l := had) (c := some n) (H := [some (Blk.arr 3 [[V.int IntKind.u8 k, V.fn gf [] [], V.fn lf [] []]]), some (Blk.arr 3 [[V.int IntKind.i64 n, V.int IntKind.u8 k, V.lst 2 [[tl mrow s l c, V.int IntKind.i64 1]] (some 1)]]), some (Blk.arr 3 [[V.lst 0 [] (some 0), V.lst 0 [] (some 0), V.lst 0 [] (some 0)]]), some (Blk.arr 1 (had.map mrow))]) (src := [some 0, some 1, some 2]) (fz := [3]) (a := 3) closed_mrow Nat.one_pos rfl rfl rfl
      rw [hlen] at hf
      exact congrArg (fun v => [(2, V.int IntKind.i64 1), (3, tl mrow 1 (allL n) none), (4, V.ptr 0 3 0 0), (5, V.ptr 1 3 0 0), (8, V.ptr 2 3 0 0), (11, v), (12, V.int IntKind.i64 0), (33, V.lst 2 [[tl mrow s l c, V.int IntKind.i64 1]] (some 1)), (34, V.int IntKind.i64 1), (35, V.int IntKind.i64 1)]) hf
    (repeat' (first | refine wSeq rfl ?_ | refine wBlock rfl ?_ | refine wSkip rfl ?_ | refine wExit rfl ?_ | refine wRet rfl ?_ | refine wCondT rfl rfl ?_ | refine wCondF rfl rfl ?_ | refine wOpsP rfl ?_ | refine wDrawM [84] rfl rfl ?_ | refine opsV_make (k := 84) rfl rfl (ko) ?_ | (refine opsP_any (k := .fn 84) rfl ((ko).at _) ?_; rintro _ _ ⟨rfl, rfl⟩) | simp only [seval, push_cast, ↓reduceIte, ↓bP_some, ↓aP_true, reduceCtorEq, List.map_cons, List.map_nil, Option.map_some]))
    refine opsP_frm (k := 85) (vs' := [.ptr 0 4 0 0, tl mrow 1 had (some n), .int .i64 0, .int .i64 1]) (H0 := [some (Blk.arr 4 [[nilL, nilL, nilL, tl mrow 1 (allL n) none]])]) [3] (by rfl) rfl rfl (by rfl) (by rfl) k1 ?_
    rintro r h' ⟨⟨x, tv, htv, rfl⟩, B, rfl⟩
    rw [back_43, V.ren_closed _ (outO_closed htv)]
    have tv1 := htv.v
    have tv2 := htv.s
    have hres := outT_closed (had := had) (lost := 0) (x := x) (e := 0) htv
    unfold outO at *
    (repeat' (first | refine wSeq rfl ?_ | refine wBlock rfl ?_ | refine wSkip rfl ?_ | refine wExit rfl ?_ | refine wRet rfl ?_ | refine wCondT rfl rfl ?_ | refine wCondF rfl rfl ?_ | refine wOps rfl ?_ | refine wDraw rfl rfl ?_ | simp only [seval, push_cast, ↓reduceIte, ↓bP_some, ↓aP_true, reduceCtorEq, tv1, tv2]))
    exact FnQ.sh [] [] rfl rfl (V.ren_closed _ hres) rfl ⟨⟨x, tv, htv, rfl⟩, rfl⟩
end Go.Proofs.YtncdaicaljpgfaaGreat
set_option maxRecDepth 100000
set_option maxHeartbeats 4000000
set_option linter.unusedVariables false
set_option linter.unusedSimpArgs false
namespace Go.Proofs.YtncdaicaljpgfaaGreat
theorem cells_fng {f : Nat} {a b : List V} : V.cells (.fn f a b) = [.fn f a b] := rfl
theorem isVal_fng {f : Nat} {a b : List V} : V.isVal (.fn f a b) = true := rfl
theorem opv_g {G : Nat → Option V} {E : Nat → Option V} {k : Nat} : opval G E (.f k) = some (.fn k [] []) := rfl
theorem BallOk.check {r : Int} {n : Nat} {l : List Int} (h : BallOk r n l) : checkL (kindM r) l n = 0 := by
  have hn := h.hn
  unfold checkL
  rw [if_neg (by omega), if_neg (by rw [h.fine]; simp)]
theorem BallOk.len {r : Int} {n : Nat} {l : List Int} (h : BallOk r n l) : l.length ≤ 1000 := by
  have hn := h.hn
  by_cases h3 : r = 3
  · subst h3
    have := h.score.1
    omega
  · have := (h.rank h3).2.2
    omega
theorem had_in {r : Int} {n : Nat} {l : List Int} (h : BallOk r n l) : ∀ x ∈ hadL r n l, 0 ≤ x ∧ x ≤ 10 := fun x hx => by
  obtain ⟨i, hi, rfl⟩ := List.mem_map.1 hx
  have := List.mem_range.1 hi
  have h1 := pts_range h (x := (i : Int)) (by omega)
  have h2 : mostL r n ≤ 10 := by have hn := h.hn; unfold mostL; split <;> (try split) <;> omega
  omega
/-- The outcome of one ballot counted by rule r. -/
def OneR (r : Int) (n : Nat) (l : List Int) (v : V) : Prop := ∃ (lost x : Int) (tv : V), TieV tv ∧ v = .tup [outO (hadL r n l) lost x tv, .int .i64 0]
variable {L : Lib} (hL : L.T = tab.get)
include hL
theorem count_lost {n : Nat} {k : Int} {gf lf s : Nat} {l : List Int} {c : Option Nat} (hs : s = 1 ∨ l = []) (hl : l.length ≤ 1000) (hn : 2 ≤ n ∧ n ≤ 10) (hk : 1 ≤ k ∧ k ≤ 3) (hb : checkL k l n = 0)
    (hlost : VFn L lf [tl mrow s l c] (.bool true))
    :
    AFn L (.fn 50) [ruleV k gf lf, profV n k s l c, .int .i64 1, lotV n] [] (fun r H' => (∃ (x : Int) (tv : V), TieV tv ∧ r = .tup [outO (List.replicate n 0) 1 x tv, .int .i64 0]) ∧ H' = []) := by
  have kc := ccheck_v hL (q := k) (c := c) hs hl hn hk
  rw [if_pos ⟨hb, rfl⟩] at kc
  unfold ruleV profV rowsV lotV at *
  refine AFn.of_body (F := T50.1) (by rw [hL]; rfl) rfl ?_
  have hroom : n * 8 ≤ 140737488355328 := by omega
  have hroom2 : n < 9223372036854775808 := by omega
  (repeat' (first | refine wSeq rfl ?_ | refine wBlock rfl ?_ | refine wSkip rfl ?_ | refine wExit rfl ?_ | refine wRet rfl ?_ | refine wCondT rfl rfl ?_ | refine wCondF rfl rfl ?_ | refine wOps rfl ?_ | refine wDraw rfl rfl ?_ | refine opsV_call rfl rfl (kc) ?_ | simp only [seval, push_cast, ↓reduceIte, ↓bP_some, ↓aP_true, reduceCtorEq, hroom, hroom2]))
  rw [rep_row]
  have hlen : (List.replicate n (0 : Int)).length = n := by simp
  have hh : ∀ x ∈ List.replicate n (0 : Int), 0 ≤ x ∧ x ≤ 10 := fun x hx => by rw [List.eq_of_mem_replicate hx]; decide
  generalize List.replicate n (0 : Int) = had at hlen hh ⊢
  refine wCntH rfl 35 1 (fun j => [(12, V.int .i64 (if j = 0 then 0 else 1))]) (fun j => cntH k n gf lf s l c had []) (fun _ => True) rfl rfl trivial ?_ ?_
  · intro j hj _
    obtain rfl : j = 0 := by omega
    unfold cntH
    (repeat' (first | refine wSeq rfl ?_ | refine wBlock rfl ?_ | refine wSkip rfl ?_ | refine wExit rfl ?_ | refine wRet rfl ?_ | refine wCondT rfl rfl ?_ | refine wCondF rfl rfl ?_ | refine wOpsP rfl ?_ | refine wDraw rfl rfl ?_ | simp only [seval, push_cast, ↓reduceIte, ↓bP_some, ↓aP_true, reduceCtorEq]))
    refine opsP_dyn rfl hlost ?_
    (repeat' (first | refine wSeq rfl ?_ | refine wBlock rfl ?_ | refine wSkip rfl ?_ | refine wExit rfl ?_ | refine wRet rfl ?_ | refine wCondT rfl rfl ?_ | refine wCondF rfl rfl ?_ | refine wOps rfl ?_ | refine wDraw rfl rfl ?_ | simp only [seval, push_cast, ↓reduceIte, ↓bP_some, ↓aP_true, reduceCtorEq]))
    exact qR_s [some 0, some 1, some 2, some 3] [] rfl rfl (sh_c rfl (sh_c rfl (sh_c rfl (sh_c (sh_b closed_mrow rfl) sh_n)))) trivial
  · intro _
    have ko := of_m hL (lot := allL n) (fun e => by have := congrArg List.length e; simp [allL] at this; omega) (by simp [allL]; omega)
    have k1 := One_a hL (lot := allL n) (had := had) (lost := 1) (hc := some n) (by simp [allL]; omega) hh (by omega) (by decide)
    unfold cH at ko k1
    unfold cntH
    refine wShift [some 0, some 1, some 2] [3] (E1 := [(2, V.int IntKind.i64 1), (3, tl mrow 1 (allL n) none), (4, V.ptr 0 3 0 0), (5, V.ptr 1 3 0 0), (8, V.ptr 2 3 0 0), (11, tl mrow 1 had (some n)), (12, V.int IntKind.i64 1), (33, V.lst 2 [[tl mrow s l c, V.int IntKind.i64 1]] (some 1)), (34, V.int IntKind.i64 1), (35, V.int IntKind.i64 1)]) (H1 := [some (Blk.arr 3 [[V.int IntKind.u8 k, V.fn gf [] [], V.fn lf [] []]]), some (Blk.arr 3 [[V.int IntKind.i64 n, V.int IntKind.u8 k, V.lst 2 [[tl mrow s l c, V.int IntKind.i64 1]] (some 1)]]), some (Blk.arr 3 [[V.lst 0 [] (some 0), V.lst 0 [] (some 0), V.lst 0 [] (some 0)]])]) rfl ?_ rfl ?_
    · have hf := frz_refS (l := had) (c := some n) (H := [some (Blk.arr 3 [[V.int IntKind.u8 k, V.fn gf [] [], V.fn lf [] []]]), some (Blk.arr 3 [[V.int IntKind.i64 n, V.int IntKind.u8 k, V.lst 2 [[tl mrow s l c, V.int IntKind.i64 1]] (some 1)]]), some (Blk.arr 3 [[V.lst 0 [] (some 0), V.lst 0 [] (some 0), V.lst 0 [] (some 0)]]), some (Blk.arr 1 (had.map mrow))]) (src := [some 0, some 1, some 2]) (fz := [3]) (a := 3) closed_mrow Nat.one_pos rfl rfl rfl
      rw [hlen] at hf
      exact congrArg (fun v => [(2, V.int IntKind.i64 1), (3, tl mrow 1 (allL n) none), (4, V.ptr 0 3 0 0), (5, V.ptr 1 3 0 0), (8, V.ptr 2 3 0 0), (11, v), (12, V.int IntKind.i64 1), (33, V.lst 2 [[tl mrow s l c, V.int IntKind.i64 1]] (some 1)), (34, V.int IntKind.i64 1), (35, V.int IntKind.i64 1)]) hf
    (repeat' (first | refine wSeq rfl ?_ | refine wBlock rfl ?_ | refine wSkip rfl ?_ | refine wExit rfl ?_ | refine wRet rfl ?_ | refine wCondT rfl rfl ?_ | refine wCondF rfl rfl ?_ | refine wOpsP rfl ?_ | refine wDrawM [84] rfl rfl ?_ | refine opsV_make (k := 84) rfl rfl (ko) ?_ | (refine opsP_any (k := .fn 84) rfl ((ko).at _) ?_; rintro _ _ ⟨rfl, rfl⟩) | simp only [seval, push_cast, ↓reduceIte, ↓bP_some, ↓aP_true, reduceCtorEq, List.map_cons, List.map_nil, Option.map_some]))
    refine opsP_frm (k := 85) (vs' := [.ptr 0 4 0 0, tl mrow 1 had (some n), .int .i64 1, .int .i64 1]) (H0 := [some (Blk.arr 4 [[nilL, nilL, nilL, tl mrow 1 (allL n) none]])]) [3] (by rfl) rfl rfl (by rfl) (by rfl) k1 ?_
    rintro r h' ⟨⟨x, tv, htv, rfl⟩, B, rfl⟩
    rw [back_43, V.ren_closed _ (outO_closed htv)]
    have tv1 := htv.v
    have tv2 := htv.s
    have hres := outT_closed (had := had) (lost := 1) (x := x) (e := 0) htv
    unfold outO at *
    (repeat' (first | refine wSeq rfl ?_ | refine wBlock rfl ?_ | refine wSkip rfl ?_ | refine wExit rfl ?_ | refine wRet rfl ?_ | refine wCondT rfl rfl ?_ | refine wCondF rfl rfl ?_ | refine wOps rfl ?_ | refine wDraw rfl rfl ?_ | simp only [seval, push_cast, ↓reduceIte, ↓bP_some, ↓aP_true, reduceCtorEq, tv1, tv2]))
    exact FnQ.sh [] [] rfl rfl (V.ren_closed _ hres) rfl ⟨⟨x, tv, htv, rfl⟩, rfl⟩
theorem plural_c {n s : Nat} {l : List Int} {c : Option Nat} (hs : s = 1 ∨ l = []) (hb : BallOk 1 n l) : AFn L (.fn 50) [ruleV (kindM 1) 51 52, profV n (kindM 1) s l c, .int .i64 1, lotV n] [] (fun v H' => OneR 1 n l v ∧ H' = []) := by
  have hk : 1 ≤ kindM 1 ∧ kindM 1 ≤ 3 := by decide
  by_cases h1 : l.length = 1
  · obtain ⟨a, rfl⟩ : ∃ a, l = [a] := by
      cases l with
      | nil => simp at h1
      | cons a t => cases t with
        | nil => exact ⟨a, rfl⟩
        | cons b t => simp at h1
    have kl := alone_r hL s [a] c
    rw [decide_eq_false (by simp)] at kl
    have kg := marked_m hL (c := c) (n := n) hs hb.len (hb.rank (by decide)).1
    rw [← markM_len] at kg
    exact (count_ok hL hs hb.len hb.hn hk hb.check (mark_ok hb (by decide)) kl kg (fun S d h hS => had_one hb h hS) (had_in hb) hadL_len).mono fun v H' h => ⟨⟨0, h.1.choose, h.1.choose_spec.choose, h.1.choose_spec.choose_spec⟩, h.2⟩
  · have kl := alone_r hL s l c
    rw [decide_eq_true h1] at kl
    exact (count_lost hL hs hb.len hb.hn hk hb.check kl).mono fun v H' h => ⟨⟨1, h.1.choose, h.1.choose_spec.choose, by rw [had_lost h1]; exact h.1.choose_spec.choose_spec⟩, h.2⟩
theorem plural_a {n s : Nat} {l : List Int} {c : Option Nat} (hs : s = 1 ∨ l = []) (hb : BallOk 1 n l) : AFn L (.fn 27) [profV n (kindM 1) s l c, .int .i64 1, lotV n] [] (fun v H' => OneR 1 n l v ∧ H' = []) := by
  have kc := plural_c hL (c := c) hs hb
  rw [kind_1] at kc ⊢
  unfold ruleV profV rowsV lotV at *
  refine AFn.of_body (F := T27.1) (by rw [hL]; rfl) rfl ?_
  (repeat' (first | refine wSeq rfl ?_ | refine wBlock rfl ?_ | refine wSkip rfl ?_ | refine wExit rfl ?_ | refine wRet rfl ?_ | refine wCondT rfl rfl ?_ | refine wCondF rfl rfl ?_ | refine wOpsP rfl ?_ | refine wDraw rfl rfl ?_ | simp only [seval, push_cast, ↓reduceIte, ↓bP_some, ↓aP_true, reduceCtorEq, opv_g, cells_fng, isVal_fng]))
  refine opsP_frm (k := 50) (H0 := []) [] (by rfl) rfl rfl (by rfl) (by rfl) kc ?_
  rintro r h' ⟨⟨lost, x, tv, htv, rfl⟩, rfl⟩
  rw [V.ren_closed _ (outT_closed htv), show Heap.back [_, _] [] [] = [_, _] from rfl]
  have tv1 := htv.v
  have tv2 := htv.s
  have hres := outT_closed (had := hadL 1 n l) (lost := lost) (x := x) (e := 0) htv
  unfold OneR outO at *
  (repeat' (first | refine wSeq rfl ?_ | refine wBlock rfl ?_ | refine wSkip rfl ?_ | refine wExit rfl ?_ | refine wRet rfl ?_ | refine wCondT rfl rfl ?_ | refine wCondF rfl rfl ?_ | refine wOps rfl ?_ | refine wDraw rfl rfl ?_ | simp only [seval, push_cast, ↓reduceIte, ↓bP_some, ↓aP_true, reduceCtorEq, tv1, tv2]))
  exact FnQ.sh [] [] rfl rfl (V.ren_closed _ hres) rfl ⟨⟨lost, x, tv, htv, rfl⟩, rfl⟩
theorem approval_c {n s : Nat} {l : List Int} {c : Option Nat} (hs : s = 1 ∨ l = []) (hb : BallOk 2 n l) : AFn L (.fn 50) [ruleV (kindM 2) 51 49, profV n (kindM 2) s l c, .int .i64 1, lotV n] [] (fun v H' => OneR 2 n l v ∧ H' = []) := by
  have hk : 1 ≤ kindM 2 ∧ kindM 2 ≤ 3 := by decide
  have kg := marked_m hL (c := c) (n := n) hs hb.len (hb.rank (by decide)).1
  rw [← markM_len] at kg
  exact (count_ok hL hs hb.len hb.hn hk hb.check (mark_ok hb (by decide)) (never_v hL s l c) kg (fun S d h hS => had_mark hb h hS) (had_in hb) hadL_len).mono fun v H' h => ⟨⟨0, h.1.choose, h.1.choose_spec.choose, h.1.choose_spec.choose_spec⟩, h.2⟩
theorem approval_a {n s : Nat} {l : List Int} {c : Option Nat} (hs : s = 1 ∨ l = []) (hb : BallOk 2 n l) : AFn L (.fn 28) [profV n (kindM 2) s l c, .int .i64 1, lotV n] [] (fun v H' => OneR 2 n l v ∧ H' = []) := by
  have kc := approval_c hL (c := c) hs hb
  rw [kind_2] at kc ⊢
  unfold ruleV profV rowsV lotV at *
  refine AFn.of_body (F := T28.1) (by rw [hL]; rfl) rfl ?_
  (repeat' (first | refine wSeq rfl ?_ | refine wBlock rfl ?_ | refine wSkip rfl ?_ | refine wExit rfl ?_ | refine wRet rfl ?_ | refine wCondT rfl rfl ?_ | refine wCondF rfl rfl ?_ | refine wOpsP rfl ?_ | refine wDraw rfl rfl ?_ | simp only [seval, push_cast, ↓reduceIte, ↓bP_some, ↓aP_true, reduceCtorEq, opv_g, cells_fng, isVal_fng]))
  refine opsP_frm (k := 50) (H0 := []) [] (by rfl) rfl rfl (by rfl) (by rfl) kc ?_
  rintro r h' ⟨⟨lost, x, tv, htv, rfl⟩, rfl⟩
  rw [V.ren_closed _ (outT_closed htv), show Heap.back [_, _] [] [] = [_, _] from rfl]
  have tv1 := htv.v
  have tv2 := htv.s
  have hres := outT_closed (had := hadL 2 n l) (lost := lost) (x := x) (e := 0) htv
  unfold OneR outO at *
  (repeat' (first | refine wSeq rfl ?_ | refine wBlock rfl ?_ | refine wSkip rfl ?_ | refine wExit rfl ?_ | refine wRet rfl ?_ | refine wCondT rfl rfl ?_ | refine wCondF rfl rfl ?_ | refine wOps rfl ?_ | refine wDraw rfl rfl ?_ | simp only [seval, push_cast, ↓reduceIte, ↓bP_some, ↓aP_true, reduceCtorEq, tv1, tv2]))
  exact FnQ.sh [] [] rfl rfl (V.ren_closed _ hres) rfl ⟨⟨lost, x, tv, htv, rfl⟩, rfl⟩
theorem score_c {n s : Nat} {l : List Int} {c : Option Nat} (hs : s = 1 ∨ l = []) (hb : BallOk 3 n l) : AFn L (.fn 50) [ruleV (kindM 3) 53 49, profV n (kindM 3) s l c, .int .i64 1, lotV n] [] (fun v H' => OneR 3 n l v ∧ H' = []) := by
  have hk : 1 ≤ kindM 3 ∧ kindM 3 ≤ 3 := by decide
  have kg := scored_m hL (c := c) (n := n) hs hb.len
  rw [← scoreM_len] at kg
  exact (count_ok hL hs hb.len hb.hn hk hb.check (score_ok hb) (never_v hL s l c) kg (fun S d h hS => had_score hb h hS) (had_in hb) hadL_len).mono fun v H' h => ⟨⟨0, h.1.choose, h.1.choose_spec.choose, h.1.choose_spec.choose_spec⟩, h.2⟩
theorem score_a {n s : Nat} {l : List Int} {c : Option Nat} (hs : s = 1 ∨ l = []) (hb : BallOk 3 n l) : AFn L (.fn 29) [profV n (kindM 3) s l c, .int .i64 1, lotV n] [] (fun v H' => OneR 3 n l v ∧ H' = []) := by
  have kc := score_c hL (c := c) hs hb
  rw [kind_3] at kc ⊢
  unfold ruleV profV rowsV lotV at *
  refine AFn.of_body (F := T29.1) (by rw [hL]; rfl) rfl ?_
  (repeat' (first | refine wSeq rfl ?_ | refine wBlock rfl ?_ | refine wSkip rfl ?_ | refine wExit rfl ?_ | refine wRet rfl ?_ | refine wCondT rfl rfl ?_ | refine wCondF rfl rfl ?_ | refine wOpsP rfl ?_ | refine wDraw rfl rfl ?_ | simp only [seval, push_cast, ↓reduceIte, ↓bP_some, ↓aP_true, reduceCtorEq, opv_g, cells_fng, isVal_fng]))
  refine opsP_frm (k := 50) (H0 := []) [] (by rfl) rfl rfl (by rfl) (by rfl) kc ?_
  rintro r h' ⟨⟨lost, x, tv, htv, rfl⟩, rfl⟩
  rw [V.ren_closed _ (outT_closed htv), show Heap.back [_, _] [] [] = [_, _] from rfl]
  have tv1 := htv.v
  have tv2 := htv.s
  have hres := outT_closed (had := hadL 3 n l) (lost := lost) (x := x) (e := 0) htv
  unfold OneR outO at *
  (repeat' (first | refine wSeq rfl ?_ | refine wBlock rfl ?_ | refine wSkip rfl ?_ | refine wExit rfl ?_ | refine wRet rfl ?_ | refine wCondT rfl rfl ?_ | refine wCondF rfl rfl ?_ | refine wOps rfl ?_ | refine wDraw rfl rfl ?_ | simp only [seval, push_cast, ↓reduceIte, ↓bP_some, ↓aP_true, reduceCtorEq, tv1, tv2]))
  exact FnQ.sh [] [] rfl rfl (V.ren_closed _ hres) rfl ⟨⟨lost, x, tv, htv, rfl⟩, rfl⟩
theorem borda_c {n s : Nat} {l : List Int} {c : Option Nat} (hs : s = 1 ∨ l = []) (hb : BallOk 4 n l) : AFn L (.fn 50) [ruleV (kindM 4) 48 49, profV n (kindM 4) s l c, .int .i64 1, lotV n] [] (fun v H' => OneR 4 n l v ∧ H' = []) := by
  have hk : 1 ≤ kindM 4 ∧ kindM 4 ≤ 3 := by decide
  have kg := ranked_m hL (c := c) (n := n) hs hb.len (by have := hb.hn; omega) (hb.rank (by decide)).1
  rw [← rankM_len (c := n)] at kg
  exact (count_ok hL hs hb.len hb.hn hk hb.check (rank_ok hb (by decide)) (never_v hL s l c) kg (fun S d h hS => had_rank hb h hS) (had_in hb) hadL_len).mono fun v H' h => ⟨⟨0, h.1.choose, h.1.choose_spec.choose, h.1.choose_spec.choose_spec⟩, h.2⟩
theorem borda_a {n s : Nat} {l : List Int} {c : Option Nat} (hs : s = 1 ∨ l = []) (hb : BallOk 4 n l) : AFn L (.fn 26) [profV n (kindM 4) s l c, .int .i64 1, lotV n] [] (fun v H' => OneR 4 n l v ∧ H' = []) := by
  have kc := borda_c hL (c := c) hs hb
  rw [kind_4] at kc ⊢
  unfold ruleV profV rowsV lotV at *
  refine AFn.of_body (F := T26.1) (by rw [hL]; rfl) rfl ?_
  (repeat' (first | refine wSeq rfl ?_ | refine wBlock rfl ?_ | refine wSkip rfl ?_ | refine wExit rfl ?_ | refine wRet rfl ?_ | refine wCondT rfl rfl ?_ | refine wCondF rfl rfl ?_ | refine wOpsP rfl ?_ | refine wDraw rfl rfl ?_ | simp only [seval, push_cast, ↓reduceIte, ↓bP_some, ↓aP_true, reduceCtorEq, opv_g, cells_fng, isVal_fng]))
  refine opsP_frm (k := 50) (H0 := []) [] (by rfl) rfl rfl (by rfl) (by rfl) kc ?_
  rintro r h' ⟨⟨lost, x, tv, htv, rfl⟩, rfl⟩
  rw [V.ren_closed _ (outT_closed htv), show Heap.back [_, _] [] [] = [_, _] from rfl]
  have tv1 := htv.v
  have tv2 := htv.s
  have hres := outT_closed (had := hadL 4 n l) (lost := lost) (x := x) (e := 0) htv
  unfold OneR outO at *
  (repeat' (first | refine wSeq rfl ?_ | refine wBlock rfl ?_ | refine wSkip rfl ?_ | refine wExit rfl ?_ | refine wRet rfl ?_ | refine wCondT rfl rfl ?_ | refine wCondF rfl rfl ?_ | refine wOps rfl ?_ | refine wDraw rfl rfl ?_ | simp only [seval, push_cast, ↓reduceIte, ↓bP_some, ↓aP_true, reduceCtorEq, tv1, tv2]))
  exact FnQ.sh [] [] rfl rfl (V.ren_closed _ hres) rfl ⟨⟨lost, x, tv, htv, rfl⟩, rfl⟩
end Go.Proofs.YtncdaicaljpgfaaGreat
set_option maxRecDepth 100000
set_option maxHeartbeats 4000000
set_option linter.unusedVariables false
set_option linter.unusedSimpArgs false
namespace Go.Proofs.YtncdaicaljpgfaaGreat
theorem whole_take (n : Int) : List.take 3 (wholeV n) = wholeV n := rfl
theorem whole_len (n : Int) : (wholeV n).length = 3 := rfl
variable {L : Lib} (hL : L.T = tab.get)
include hL
theorem rall_v {n : Nat} (hn : 1 ≤ n ∧ n ≤ 100) : VFn L 25 [.int .i64 n] (lotV n) := by
  unfold lotV
  refine VFn.start (F := T25.1) (by rw [hL]; rfl) rfl rfl rfl ?_
  (repeat' (first | refine wSeq rfl ?_ | refine wBlock rfl ?_ | refine wSkip rfl ?_ | refine wExit rfl ?_ | refine wRet rfl ?_ | refine wCondT rfl rfl ?_ | refine wCondF rfl rfl ?_ | refine wOps rfl ?_ | refine wDraw rfl rfl ?_ | simp only [seval, push_cast, ↓reduceIte, ↓bP_some, ↓aP_true, reduceCtorEq]))
  refine wPad [none] rfl (by simp only [Env.sh, List.map_cons, List.map_nil]; rfl) rfl ?_
  refine wCntH rfl 4 n (fun j => [(3, accV 0 1 (allL j))]) (fun j => [accB mrow 1 (allL j)]) (fun _ => True) rfl rfl trivial ?_ ?_
  · intro j hj _
    have hw := wrap_succ (show j < 9223372036854775807 by omega)
    have hlen : (allL j).length = j := by simp [allL]
    rw [allL_snoc]
    generalize allL j = r at hlen ⊢
    have hroom : (r.length + 1) * 8 ≤ 140737488355328 := by omega
    by_cases hr : r = []
    · subst hr
      (repeat' (first | refine wSeq rfl ?_ | refine wBlock rfl ?_ | refine wSkip rfl ?_ | refine wExit rfl ?_ | refine wRet rfl ?_ | refine wCondT rfl rfl ?_ | refine wCondF rfl rfl ?_ | refine wOps rfl ?_ | refine wDraw rfl rfl ?_ | simp only [seval, push_cast, ↓reduceIte, ↓bP_some, ↓aP_true, reduceCtorEq, hj, hw, accV_nil, accB_nil]))
      exact qR_s [some 2] [] rfl rfl rfl trivial
    · (repeat' (first | refine wSeq rfl ?_ | refine wBlock rfl ?_ | refine wSkip rfl ?_ | refine wExit rfl ?_ | refine wRet rfl ?_ | refine wCondT rfl rfl ?_ | refine wCondF rfl rfl ?_ | refine wOps rfl ?_ | refine wDraw rfl rfl ?_ | simp only [seval, push_cast, ↓reduceIte, ↓bP_some, ↓aP_true, reduceCtorEq, hj, hw, accV_cons hr, accB_cons hr, hroom]))
      exact qR_s [some 2] [] rfl (by simp only [accV_snoc]; rfl) (by rw [accB_snoc]; exact sh_c (sh_b closed_mrow rfl) sh_n) trivial
  · intro _
    have hlen : (allL n).length = n := by simp [allL]
    have hr : allL n ≠ [] := fun e => by rw [e] at hlen; simp at hlen; omega
    generalize allL n = r at hlen hr ⊢
    rw [accV_cons hr, accB_cons hr]
    (repeat' (first | refine wSeq rfl ?_ | refine wBlock rfl ?_ | refine wSkip rfl ?_ | refine wExit rfl ?_ | refine wRet rfl ?_ | refine wCondT rfl rfl ?_ | refine wCondF rfl rfl ?_ | refine wOps rfl ?_ | refine wDraw rfl rfl ?_ | simp only [seval, push_cast, ↓reduceIte, ↓bP_some, ↓aP_true, reduceCtorEq]))
    exact FnQ.frz [0] rfl (frz_ref closed_mrow (by decide) rfl rfl)
theorem borda_bad {n s : Nat} {k : Int} {l : List Int} {c : Option Nat} (hs : s = 1 ∨ l = []) (hl : l.length ≤ 1000) (hn : 2 ≤ n ∧ n ≤ 10) (hk : 2 ≤ k ∧ k ≤ 3) : VFn L 26 [profV n k s l c, .int .i64 1, lotV n] (.tup [.agg [nilL, nilL, nilL], .int .i64 8]) := by
  have kc := count_bad hL (kind := 1) (gf := 48) (lf := 49) (c := c) hs hl hn (k := k) (by omega) (by omega)
  unfold ruleV profV rowsV lotV nilL at *
  refine VFn.start (F := T26.1) (by rw [hL]; rfl) rfl rfl rfl ?_
  (repeat' (first | refine wSeq rfl ?_ | refine wBlock rfl ?_ | refine wSkip rfl ?_ | refine wExit rfl ?_ | refine wRet rfl ?_ | refine wCondT rfl rfl ?_ | refine wCondF rfl rfl ?_ | refine wOps rfl ?_ | refine wDraw rfl rfl ?_ | refine opsV_call rfl rfl (kc) ?_ | simp only [seval, push_cast, ↓reduceIte, ↓bP_some, ↓aP_true, reduceCtorEq, opv_g, cells_fng, isVal_fng]))
  exact FnQ.frz [] rfl rfl
theorem lead_v {n s : Nat} {r : Int} {w x : Nat} {l : List Int} {c : Option Nat} (hs : s = 1 ∨ l = []) (hb : BallOk r n l) (hw : w < n) (hx : x < n) : VFn L 13 [.int .u8 r, .int .i64 n, .int .u8 (kindM r), tl mrow s l c, .int .i64 w, .int .i64 x] (.tup [.int .i64 (pointsL r n l x - pointsL r n l w), .bool true]) := by
  have hn := hb.hn
  have ka := rall_v hL (n := n) (by omega)
  have gx := had_get (r := r) (l := l) hx
  have gw := had_get (r := r) (l := l) hw
  have px := pts_range hb (x := (x : Int)) (by omega)
  have pw := pts_range hb (x := (w : Int)) (by omega)
  have hm : mostL r n ≤ 10 := by unfold mostL; split <;> (try split) <;> omega
  have fx := floor_v hL (n := pointsL r n l x) (by omega)
  have fw := floor_v hL (n := pointsL r n l w) (by omega)
  have hlen := hadL_len (r := r) (n := n) (l := l)
  have hwd := wrap_i64 (n := pointsL r n l x - pointsL r n l w) (by omega) (by omega)
  have hr : r = 1 ∨ r = 2 ∨ r = 3 ∨ r = 4 := by have := hb.hr; omega
  have hxl : x < (hadL r n l).length := by omega
  have hwl : w < (hadL r n l).length := by omega
  have hbad : ∀ k, 2 ≤ k ∧ k ≤ 3 → VFn L 26 [profV n k s l c, .int .i64 1, lotV n] (.tup [.agg [nilL, nilL, nilL], .int .i64 8]) := fun k hk => borda_bad hL hs hb.len hn hk
  have iax := iaQ_tl (f := wholeV) (s := 3) (c := none) hxl
  have iaw := iaQ_tl (f := wholeV) (s := 3) (c := none) hwl
  have k1 : r = 1 → AFn L (.fn 27) [profV n 2 s l c, .int .i64 1, lotV n] [] (fun v H' => OneR r n l v ∧ H' = []) := fun e => by subst e; exact plural_a hL hs hb
  have k2 : r = 2 → AFn L (.fn 28) [profV n 2 s l c, .int .i64 1, lotV n] [] (fun v H' => OneR r n l v ∧ H' = []) := fun e => by subst e; exact approval_a hL hs hb
  have k3 : r = 3 → AFn L (.fn 29) [profV n 3 s l c, .int .i64 1, lotV n] [] (fun v H' => OneR r n l v ∧ H' = []) := fun e => by subst e; exact score_a hL hs hb
  have k4 : r = 4 → AFn L (.fn 26) [profV n 1 s l c, .int .i64 1, lotV n] [] (fun v H' => OneR r n l v ∧ H' = []) := fun e => by subst e; exact borda_a hL hs hb
  unfold OneR at k1 k2 k3 k4
  generalize hadL r n l = had at *
  generalize pointsL r n l x = a at *
  generalize pointsL r n l w = b at *
  clear px pw hm
  unfold profV rowsV lotV nilL at *
  refine VFn.start (F := T13.1) (by rw [hL]; rfl) rfl rfl rfl ?_
  refine wSeq rfl ?_
  refine wOps rfl ?_
  simp only [seval, push_cast, ↓reduceIte, ↓bP_some, ↓aP_true, reduceCtorEq]
  refine wSeq rfl ?_
  refine wOps rfl ?_
  simp only [seval, push_cast, ↓reduceIte, ↓bP_some, ↓aP_true, reduceCtorEq, List.length_cons, List.length_nil, List.map_cons, List.map_nil]
  refine wShift [some 1] [0] rfl rfl rfl ?_
  show SWP L 0 _ _ _ [(0, V.int IntKind.u8 r), (1, V.int IntKind.i64 n), (4, V.int IntKind.i64 w), (5, V.int IntKind.i64 x), (14, V.ptr 0 3 0 0)] [some (Blk.arr 3 [[V.int IntKind.i64 n, V.int IntKind.u8 (kindM r), V.lst 2 [[tl mrow s l c, V.int IntKind.i64 1]] (some 1)]])]
  rcases hr with rfl | rfl | rfl | rfl
  · rw [kind_1]
    (repeat' (first | refine wSeq rfl ?_ | refine wBlock rfl ?_ | refine wSkip rfl ?_ | refine wExit rfl ?_ | refine wRet rfl ?_ | refine wCondT rfl rfl ?_ | refine wCondF rfl rfl ?_ | refine wOpsP rfl ?_ | refine wDrawM [] rfl rfl ?_ | refine opsV_call (k := 25) rfl rfl (ka) ?_ | refine opsP_call (k := 25) rfl (ka) ?_ | refine opsV_call (k := 26) rfl rfl (hbad 2 (by decide)) ?_ | refine opsP_call (k := 26) rfl (hbad 2 (by decide)) ?_ | simp only [seval, push_cast, ↓reduceIte, ↓bP_some, ↓aP_true, reduceCtorEq]))
    refine opsP_frm (k := 27) (H0 := []) [] (by rfl) rfl rfl (by rfl) (by rfl) (k1 rfl) ?_
    rintro r h' ⟨⟨lost, q, tv, htv, rfl⟩, rfl⟩
    rw [V.ren_closed _ (outT_closed htv), show Heap.back [_, _] [] [] = [_, _] from rfl]
    have tv1 := htv.v
    have tv2 := htv.s
    unfold outO outR at *
    (repeat' (first | refine wSeq rfl ?_ | refine wBlock rfl ?_ | refine wSkip rfl ?_ | refine wExit rfl ?_ | refine wRet rfl ?_ | refine wCondT rfl rfl ?_ | refine wCondF rfl rfl ?_ | refine wOpsP rfl ?_ | refine wDrawM [] rfl rfl ?_ | refine opsV_call (k := 30) rfl rfl (fx) ?_ | refine opsP_call (k := 30) rfl (fx) ?_ | refine opsV_call (k := 30) rfl rfl (fw) ?_ | refine opsP_call (k := 30) rfl (fw) ?_ | simp only [seval, push_cast, ↓reduceIte, ↓bP_some, ↓aP_true, reduceCtorEq, tv1, tv2, hlen, iax, iaw, gx, gw, hwd, whole_take, whole_len]))
    exact FnQ.ret rfl rfl
  · rw [kind_2]
    (repeat' (first | refine wSeq rfl ?_ | refine wBlock rfl ?_ | refine wSkip rfl ?_ | refine wExit rfl ?_ | refine wRet rfl ?_ | refine wCondT rfl rfl ?_ | refine wCondF rfl rfl ?_ | refine wOpsP rfl ?_ | refine wDrawM [] rfl rfl ?_ | refine opsV_call (k := 25) rfl rfl (ka) ?_ | refine opsP_call (k := 25) rfl (ka) ?_ | refine opsV_call (k := 26) rfl rfl (hbad 2 (by decide)) ?_ | refine opsP_call (k := 26) rfl (hbad 2 (by decide)) ?_ | simp only [seval, push_cast, ↓reduceIte, ↓bP_some, ↓aP_true, reduceCtorEq]))
    refine opsP_frm (k := 28) (H0 := []) [] (by rfl) rfl rfl (by rfl) (by rfl) (k2 rfl) ?_
    rintro r h' ⟨⟨lost, q, tv, htv, rfl⟩, rfl⟩
    rw [V.ren_closed _ (outT_closed htv), show Heap.back [_, _] [] [] = [_, _] from rfl]
    have tv1 := htv.v
    have tv2 := htv.s
    unfold outO outR at *
    (repeat' (first | refine wSeq rfl ?_ | refine wBlock rfl ?_ | refine wSkip rfl ?_ | refine wExit rfl ?_ | refine wRet rfl ?_ | refine wCondT rfl rfl ?_ | refine wCondF rfl rfl ?_ | refine wOpsP rfl ?_ | refine wDrawM [] rfl rfl ?_ | refine opsV_call (k := 30) rfl rfl (fx) ?_ | refine opsP_call (k := 30) rfl (fx) ?_ | refine opsV_call (k := 30) rfl rfl (fw) ?_ | refine opsP_call (k := 30) rfl (fw) ?_ | simp only [seval, push_cast, ↓reduceIte, ↓bP_some, ↓aP_true, reduceCtorEq, tv1, tv2, hlen, iax, iaw, gx, gw, hwd, whole_take, whole_len]))
    exact FnQ.ret rfl rfl
  · rw [kind_3]
    (repeat' (first | refine wSeq rfl ?_ | refine wBlock rfl ?_ | refine wSkip rfl ?_ | refine wExit rfl ?_ | refine wRet rfl ?_ | refine wCondT rfl rfl ?_ | refine wCondF rfl rfl ?_ | refine wOpsP rfl ?_ | refine wDrawM [] rfl rfl ?_ | refine opsV_call (k := 25) rfl rfl (ka) ?_ | refine opsP_call (k := 25) rfl (ka) ?_ | refine opsV_call (k := 26) rfl rfl (hbad 3 (by decide)) ?_ | refine opsP_call (k := 26) rfl (hbad 3 (by decide)) ?_ | simp only [seval, push_cast, ↓reduceIte, ↓bP_some, ↓aP_true, reduceCtorEq]))
    refine opsP_frm (k := 29) (H0 := []) [] (by rfl) rfl rfl (by rfl) (by rfl) (k3 rfl) ?_
    rintro r h' ⟨⟨lost, q, tv, htv, rfl⟩, rfl⟩
    rw [V.ren_closed _ (outT_closed htv), show Heap.back [_, _] [] [] = [_, _] from rfl]
    have tv1 := htv.v
    have tv2 := htv.s
    unfold outO outR at *
    (repeat' (first | refine wSeq rfl ?_ | refine wBlock rfl ?_ | refine wSkip rfl ?_ | refine wExit rfl ?_ | refine wRet rfl ?_ | refine wCondT rfl rfl ?_ | refine wCondF rfl rfl ?_ | refine wOpsP rfl ?_ | refine wDrawM [] rfl rfl ?_ | refine opsV_call (k := 30) rfl rfl (fx) ?_ | refine opsP_call (k := 30) rfl (fx) ?_ | refine opsV_call (k := 30) rfl rfl (fw) ?_ | refine opsP_call (k := 30) rfl (fw) ?_ | simp only [seval, push_cast, ↓reduceIte, ↓bP_some, ↓aP_true, reduceCtorEq, tv1, tv2, hlen, iax, iaw, gx, gw, hwd, whole_take, whole_len]))
    exact FnQ.ret rfl rfl
  · rw [kind_4]
    (repeat' (first | refine wSeq rfl ?_ | refine wBlock rfl ?_ | refine wSkip rfl ?_ | refine wExit rfl ?_ | refine wRet rfl ?_ | refine wCondT rfl rfl ?_ | refine wCondF rfl rfl ?_ | refine wOpsP rfl ?_ | refine wDrawM [] rfl rfl ?_ | refine opsV_call (k := 25) rfl rfl (ka) ?_ | refine opsP_call (k := 25) rfl (ka) ?_ | simp only [seval, push_cast, ↓reduceIte, ↓bP_some, ↓aP_true, reduceCtorEq]))
    refine opsP_frm (k := 26) (H0 := []) [] (by rfl) rfl rfl (by rfl) (by rfl) (k4 rfl) ?_
    rintro r h' ⟨⟨lost, q, tv, htv, rfl⟩, rfl⟩
    rw [V.ren_closed _ (outT_closed htv), show Heap.back [_] [] [] = [_] from rfl]
    have tv1 := htv.v
    have tv2 := htv.s
    unfold outO outR at *
    (repeat' (first | refine wSeq rfl ?_ | refine wBlock rfl ?_ | refine wSkip rfl ?_ | refine wExit rfl ?_ | refine wRet rfl ?_ | refine wCondT rfl rfl ?_ | refine wCondF rfl rfl ?_ | refine wOpsP rfl ?_ | refine wDrawM [] rfl rfl ?_ | refine opsV_call (k := 30) rfl rfl (fx) ?_ | refine opsP_call (k := 30) rfl (fx) ?_ | refine opsV_call (k := 30) rfl rfl (fw) ?_ | refine opsP_call (k := 30) rfl (fw) ?_ | simp only [seval, push_cast, ↓reduceIte, ↓bP_some, ↓aP_true, reduceCtorEq, tv1, tv2, hlen, iax, iaw, gx, gw, hwd, whole_take, whole_len]))
    exact FnQ.ret rfl rfl
end Go.Proofs.YtncdaicaljpgfaaGreat
