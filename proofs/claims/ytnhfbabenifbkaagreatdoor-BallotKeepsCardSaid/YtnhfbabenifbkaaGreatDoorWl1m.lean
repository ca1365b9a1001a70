/- The examples of the chapter of ballots, run by the kernel. · Ballots: the laws BallotTells and BallotOrder, walked. -/
import Derived.Test.YtnhfbabenifbkaaGreatDoorAlXl
import Derived.Test.YtnhfbabenifbkaaGreatDoorAlSw
import Derived.Test.YtnhfbabenifbkaaGreatDoorWb2
import Derived.Test.YtnhfbabenifbkaaGreatDoorWr1
set_option maxRecDepth 100000
set_option linter.unusedVariables false
namespace Go.Proofs.YtnhfbabenifbkaaGreatDoor
/-- A function of nothing that gives a Boolean, whatever it leaves in memory. -/
theorem VFn.of_run {L : Lib} {k : Nat} {b : Bool} (h : AFn L (.fn k) [] [] (fun r' H' => r' = .bool b ∧ True)) : VFn L k [] (.bool b) := by
  refine ⟨rfl, rfl, ?_⟩
  intro C hC A w β vs hA hd hh hg ha
  refine (h C hC A w β vs hA hd hh hg ha).mono ?_
  rintro e w' ⟨v, r, H', β', rfl, ⟨rfl, _⟩, h1, h2, h3, h4, h5, h6, h7⟩
  refine ⟨v, .bool b, [], β, rfl, ⟨rfl, rfl⟩, Nat.le_refl _, hd, fun _ _ => rfl, ?_, ?_, ?_, h7⟩
  · exact ⟨fun a k hk => by simp [Heap.get] at hk, fun a a' b h => absurd (by simp [Heap.get]) h⟩
  · cases h5; exact .bool _ _
  · rintro b ⟨a, ha, _⟩
    simp [Heap.get] at ha
theorem wakes_runF : isT (funcF LL 999 (.fn 10) [] .e 0) = true := by kernel_rfl
theorem wakes_run : isT (funcR LL 999 (.fn 10) [] .e 0) = true := by rw [← funcF_eq]; exact wakes_runF
theorem wakes_v : VFn LL 10 [] (.bool true) := VFn.of_run (afn_true wakes_run)
end Go.Proofs.YtnhfbabenifbkaaGreatDoor
set_option maxRecDepth 100000
set_option maxHeartbeats 4000000
set_option linter.unusedVariables false
set_option linter.unusedSimpArgs false
namespace Go.Proofs.YtnhfbabenifbkaaGreatDoor
/-- A ballot's cells. -/
def brw (b : Int × List Int) : List V := [.int .u8 b.1, tl mrow 1 b.2 none]
theorem brw_eq (b : Int × List Int) : brw b = [.int .u8 b.1, tl mrow 1 b.2 none] := rfl
attribute [push_cast] brw_eq
/-- A call that looks at blocks of one's own, as lists. -/
theorem opsP_bor {L : Lib} {l : List AI} {K : Env → Heap → Prop} {E : Env} {H : Heap} {d : Option Nat} {anc : List Nat} (bor : List Nat) {k : Nat} {args : List AOpd} {vs vs' : List V} {r : V} (hv : evals (opval L.G E.get) args = some vs) (hvs : vs.map (V.ren (sgOf H [] bor)) = vs') (hf : VFn L k vs' r) (hr : r.noLst = true) (h : opsP L l K (E.put d r) H) : opsP L (⟨d, .call (.fn k) args, none, anc⟩ :: l) K E H := by
  show stepP L ⟨d, .call (.fn k) args, none, anc⟩ (opsP L l K) E H
  unfold stepP AI.goes
  show CallP L E.get H (.fn k) args _
  unfold CallP callee
  rw [hv]
  show AFn L (.fn k) vs H _
  refine AFn.frame (k' := .fn k) [] bor rfl rfl rfl ?_
  show AFn L (.fn k) (vs.map (V.ren (sgOf H [] bor))) [] _
  rw [hvs]
  refine AFn.mono hf.2.2 ?_
  rintro r' H' ⟨rfl, rfl⟩
  refine ⟨by simp [outOk, hr], ?_⟩
  rw [V.ren_closed _ hf.2.1]
  have e2 : H.back [] [] = H := by simp [Heap.back, Heap.upds]
  rw [e2]; exact h
variable {L : Lib} (hL : L.T = tab.get)
include hL
theorem great_v (bs : List (Int × List Int)) (c : Option Nat) (hl : bs.length < 4611686018427387904) : VFn L 9 [tl brw 2 bs c] (.bool (bs.any fun b => decide (60 < b.2.length))) := by
  refine VFn.start (F := T9.1) (by rw [hL]; rfl) rfl rfl rfl ?_
  (repeat' (first | refine wSeq rfl ?_ | refine wBlock rfl ?_ | refine wSkip rfl ?_ | refine wExit rfl ?_ | refine wRet rfl ?_ | refine wCondT rfl rfl ?_ | refine wCondF rfl rfl ?_ | refine wOps rfl ?_ | refine wDraw rfl rfl ?_ | simp only [seval, push_cast, ↓reduceIte, ↓bP_some, ↓aP_true, reduceCtorEq]))
  refine wCnt rfl 3 bs.length (fun _ => []) (fun i => ∀ j b, j < i → bs[j]? = some b → decide (60 < b.2.length) = false) rfl (fun j b h => by omega) ?_ ?_
  · intro i hi hI
    obtain ⟨b, hb, _⟩ := get_of hi
    cases hq : decide (60 < b.2.length) with
    | true =>
      (repeat' (first | refine wSeq rfl ?_ | refine wBlock rfl ?_ | refine wSkip rfl ?_ | refine wExit rfl ?_ | refine wRet rfl ?_ | refine wCondT rfl rfl ?_ | refine wCondF rfl rfl ?_ | refine wOps rfl ?_ | refine wDraw rfl rfl ?_ | refine opsV_call rfl rfl (rgreat_v hL _ _ _ _) ?_ | simp only [seval, push_cast, ↓reduceIte, ↓bP_some, ↓aP_true, reduceCtorEq, iaQ_tl hi, hb, hi, hq]))
      rw [List.any_eq_true.2 ⟨b, List.mem_of_getElem? hb, hq⟩]
      exact FnQ.ret rfl rfl
    | false =>
      (repeat' (first | refine wSeq rfl ?_ | refine wBlock rfl ?_ | refine wSkip rfl ?_ | refine wExit rfl ?_ | refine wRet rfl ?_ | refine wCondT rfl rfl ?_ | refine wCondF rfl rfl ?_ | refine wOps rfl ?_ | refine wDraw rfl rfl ?_ | refine opsV_call rfl rfl (rgreat_v hL _ _ _ _) ?_ | simp only [seval, push_cast, ↓reduceIte, ↓bP_some, ↓aP_true, reduceCtorEq, iaQ_tl hi, hb, hi, hq, wrap_succ (show i < 9223372036854775807 by omega)]))
      refine qR_n rfl rfl fun j x hj hx => ?_
      by_cases e : j = i
      · subst e; rw [hb] at hx; cases hx; exact hq
      · exact hI j x (by omega) hx
  · intro hI
    (repeat' (first | refine wSeq rfl ?_ | refine wBlock rfl ?_ | refine wSkip rfl ?_ | refine wExit rfl ?_ | refine wRet rfl ?_ | refine wCondT rfl rfl ?_ | refine wCondF rfl rfl ?_ | refine wOps rfl ?_ | refine wDraw rfl rfl ?_ | simp only [seval, push_cast, ↓reduceIte, ↓bP_some, ↓aP_true, reduceCtorEq]))
    have hno : (bs.any fun b => decide (60 < b.2.length)) = false := by
      rw [Bool.eq_false_iff]
      intro h
      obtain ⟨b, hb, hq⟩ := List.any_eq_true.1 h
      obtain ⟨i, hi⟩ := List.mem_iff_getElem?.1 hb
      rw [hI i b (List.getElem?_eq_some_iff.1 hi).1 hi] at hq
      cases hq
    rw [hno]
    exact FnQ.ret rfl rfl
theorem tells_v (hw : VFn L 10 [] (.bool true)) (k j : Int) (l m : List Int) (cands x y : Int) (hl : l.length ≤ 17592186043904) (hm : m.length ≤ 17592186043904) : VFn L 3 [(.agg [.int .u8 k, tl mrow 1 (l) none]), (.agg [.int .u8 j, tl mrow 1 (m) none]), .int .i64 cands, .int .i64 x, .int .i64 y] (.bool true) := by
  have hl2 : l.length < 4611686018427387904 := by omega
  have hm2 : m.length < 4611686018427387904 := by omega
  have s1 : (1 : Nat) = 1 ∨ l = [] := .inl rfl
  have s2 : (1 : Nat) = 1 ∨ m = [] := .inl rfl
  refine VFn.start (F := T3.1) (by rw [hL]; rfl) rfl rfl rfl ?_
  (repeat' (first | refine wSeq rfl ?_ | refine wBlock rfl ?_ | refine wSkip rfl ?_ | refine wExit rfl ?_ | refine wRet rfl ?_ | refine wCondT rfl rfl ?_ | refine wCondF rfl rfl ?_ | refine wOpsP rfl ?_ | refine wDraw rfl rfl ?_ | simp only [seval, push_cast, ↓reduceIte, ↓bP_some, ↓aP_true, reduceCtorEq]))
  refine opsP_bor [2] rfl (vs' := [tl brw 2 [(k, l), (j, m)] (some 2)]) rfl (great_v hL _ _ (show 2 < 4611686018427387904 by decide)) rfl ?_
  cases hg : ([(k, l), (j, m)].any fun b => decide (60 < b.2.length)) with
  | true =>
    (repeat' (first | refine wSeq rfl ?_ | refine wBlock rfl ?_ | refine wSkip rfl ?_ | refine wExit rfl ?_ | refine wRet rfl ?_ | refine wCondT rfl rfl ?_ | refine wCondF rfl rfl ?_ | refine wOps rfl ?_ | refine wDraw rfl rfl ?_ | refine opsV_call rfl rfl (hw) ?_ | simp only [seval, push_cast, ↓reduceIte, ↓bP_some, ↓aP_true, reduceCtorEq]))
    exact FnQ.ret rfl rfl
  | false =>
    (repeat' (first | refine wSeq rfl ?_ | refine wBlock rfl ?_ | refine wSkip rfl ?_ | refine wExit rfl ?_ | refine wRet rfl ?_ | refine wCondT rfl rfl ?_ | refine wCondF rfl rfl ?_ | refine wOps rfl ?_ | refine wDraw rfl rfl ?_ | refine opsV_call rfl rfl (hw) ?_ | refine opsV_call rfl rfl (first_v hL _ _ _ _ s1 hl2) ?_ | refine opsV_call rfl rfl (rfirst_v hL _ _ _ _ s1 hl2) ?_ | refine opsV_call rfl rfl (check_v hL _ _ _ _ _ s1 hl2) ?_ | refine opsV_call rfl rfl (rcheck_v hL _ _ _ _ _ s1 hl2) ?_ | refine opsV_call rfl rfl (prefers_v hL _ _ _ _ _ _ s1 hl2) ?_ | refine opsV_call rfl rfl (rprefers_v hL _ _ _ _ _ _ s1 hl2) ?_ | refine opsV_call rfl rfl (same_v hL _ _ _ _ _ _ _ _ s1 s2 hl2 hm2) ?_ | refine opsV_call rfl rfl (rsame_v hL _ _ _ _ _ _ _ _ s1 s2 hl2 hm2) ?_ | refine opsV_call rfl rfl (less_b_v hL _ _ _ _ _ _ _ _ s1 s2 hl2 hm2) ?_ | refine opsV_call rfl rfl (rless_v hL _ _ _ _ _ _ _ _ s1 s2 hl2 hm2) ?_ | simp only [seval, push_cast, ↓reduceIte, ↓bP_some, ↓aP_true, reduceCtorEq, beq_self_eq_true, (show firstV k l = .tup [.int .i64 (firstL k l).1, .bool (firstL k l).2] from rfl)]))
    exact FnQ.ret rfl rfl
omit hL
theorem tells_al (k : Int) (l : List Int) (hk : 0 ≤ k ∧ k ≤ 255) (hl : l.length ≤ 17592186043904) (hb : ∀ n ∈ l, -9223372036854775808 ≤ n ∧ n ≤ 9223372036854775807) (j : Int) (m : List Int) (hj : 0 ≤ j ∧ j ≤ 255) (hm : m.length ≤ 17592186043904) (hb2 : ∀ n ∈ m, -9223372036854775808 ≤ n ∧ n ≤ 9223372036854775807) (cands : Int) (hc : -9223372036854775808 ≤ cands ∧ cands ≤ 9223372036854775807) (x : Int) (hx : -9223372036854775808 ≤ x ∧ x ≤ 9223372036854775807) (y : Int) (hy : -9223372036854775808 ≤ y ∧ y ≤ 9223372036854775807) : VFn LL 3 [(.agg [.int .u8 k, tl mrow 1 (l) none]), (.agg [.int .u8 j, tl mrow 1 (m) none]), .int .i64 cands, .int .i64 x, .int .i64 y] (.bool true) :=
  tells_v rfl wakes_v k j l m cands x y hl hm
end Go.Proofs.YtnhfbabenifbkaaGreatDoor
