/- Margins: the least number of ballots, by the reference, walked. -/
import Derived.Test.YtncdaicaljpgfaaGreatM5
set_option maxRecDepth 100000
set_option maxHeartbeats 4000000
set_option linter.unusedVariables false
set_option linter.unusedSimpArgs false
namespace Go.Proofs.YtncdaicaljpgfaaGreat
theorem brow_set1 {l : List Bool} {i : Nat} {x : Bool} : (l.map brow).set i [.bool x] = (l.set i x).map brow := (List.map_set (f := brow)).symm
/-- Where the reference's loop stands: what is used, what is needed still, how many. -/
structure RfI (l : List (Int × Int)) (need : Int) (s : List Bool × Int × Int) : Prop where
  len : s.1.length = l.length
  run : refR l (freeL l s.1).length s.1 s.2.1 s.2.2 = refR l l.length (List.replicate l.length false) need 0
  f : (freeL l s.1).length ≤ l.length
  n : 0 ≤ s.2.2 ∧ s.2.2 + (freeL l s.1).length * 1000000 ≤ l.length * 1000000
  le : s.2.1 ≤ need
theorem refR_end {l : List (Int × Int)} {f : Nat} {us : List Bool} {nd n : Int} (h : ¬ 0 < nd) : refR l f us nd n = (n, true) := by
  cases f with
  | zero => unfold refR; rw [if_neg h]
  | succ f => unfold refR; rw [if_neg h]
theorem refR_none {l : List (Int × Int)} {f : Nat} {us : List Bool} {nd n : Int} (h : 0 < nd) (hb : bscan l us l.length < 0) : refR l f us nd n = (0, false) := by
  cases f with
  | zero => unfold refR; rw [if_pos h]
  | succ f => unfold refR; rw [if_pos h, if_pos hb]
variable {L : Lib} (hL : L.T = tab.get)
include hL
theorem rleast_v {s t : Nat} {g d : List Int} {c e : Option Nat} (hs : s = 1 ∨ g = []) (ht : t = 1 ∨ d = []) (e1 : g.length = d.length) (hg64 : g.length ≤ 64) (e3 : g.any outM = false) (e4 : d.any outM = false) (need : Int) (hn : need < 9223372036854775808) : VFn L 23 [tl mrow s g c, tl mrow t d e, .int .i64 need] (leV (runM g d need)) := by
  refine VFn.start (F := T23.1) (by rw [hL]; rfl) rfl rfl rfl ?_
  unfold runM
  have hlz : (g.zip d).length = d.length := by rw [List.length_zip, e1, Nat.min_self]
  have hok := zip_ok e3 e4
  have hget : ∀ {i : Nat} {x y : Int}, g[i]? = some x → d[i]? = some y → (g.zip d).getD i (0, 0) = (x, y) := fun hx hy => by
    have hz : (g.zip d)[_]? = some (_, _) := List.getElem?_zip_eq_some.2 ⟨hx, hy⟩
    rw [List.getD_eq_getElem?_getD, hz]; rfl
  generalize hl : g.zip d = l at *
  have q1 : d.length * 1 ≤ 140737488355328 := by omega
  have q2 : d.length < 9223372036854775808 := by omega
  have q3 : d.length ≤ d.length := Nat.le_refl _
  (repeat' (first | refine wSeq rfl ?_ | refine wBlock rfl ?_ | refine wSkip rfl ?_ | refine wExit rfl ?_ | refine wRet rfl ?_ | refine wCondT rfl rfl ?_ | refine wCondF rfl rfl ?_ | refine wOps rfl ?_ | refine wDraw rfl rfl ?_ | simp only [seval, push_cast, ↓reduceIte, ↓bP_some, ↓aP_true, reduceCtorEq, e1, q1, q2, q3, List.length_singleton]))
  refine wWhile rfl (fun s' : List Bool × Int × Int => [(0, tl mrow s g c), (1, tl mrow t d e), (2, V.int IntKind.i64 s'.2.1), (8, V.ref 0 1 0 d.length (some d.length)), (9, V.int IntKind.i64 s'.2.2)]) (fun s' => [some (Blk.arr 1 (s'.1.map brow))]) (fun s' => (freeL l s'.1).length) (RfI l need) (List.replicate l.length false, need, 0) rfl ?_ ⟨?_, ?_, ?_, ?_, Int.le_refl _⟩ ?_
  · rw [hlz, List.map_replicate]; rfl
  · simp
  · simp only [freeL_all]
  · rw [freeL_all]; exact Nat.le_refl _
  · simp only [freeL_all]; omega
  rintro ⟨us, nd, n⟩ hI
  have i0 := hI.len
  have i1 := hI.n
  have i2 := hI.run
  have i3 := hI.le
  have i4 := hI.f
  simp only at i0 i1 i2 i3 i4
  rw [← i2]
  by_cases h1 : ¬ 0 < nd
  · (repeat' (first | refine wSeq rfl ?_ | refine wBlock rfl ?_ | refine wSkip rfl ?_ | refine wExit rfl ?_ | refine wRet rfl ?_ | refine wCondT rfl rfl ?_ | refine wCondF rfl rfl ?_ | refine wOps rfl ?_ | refine wDraw rfl rfl ?_ | simp only [seval, push_cast, ↓reduceIte, ↓bP_some, ↓aP_true, reduceCtorEq, h1]))
    rw [refR_end h1]
    exact FnQ.ret rfl rfl
  have h1 : 0 < nd := Decidable.not_not.1 h1
  (repeat' (first | refine wSeq rfl ?_ | refine wBlock rfl ?_ | refine wSkip rfl ?_ | refine wExit rfl ?_ | refine wRet rfl ?_ | refine wCondT rfl rfl ?_ | refine wCondF rfl rfl ?_ | refine wOps rfl ?_ | refine wDraw rfl rfl ?_ | simp only [seval, push_cast, ↓reduceIte, ↓bP_some, ↓aP_true, reduceCtorEq, h1]))
  refine wCnt rfl 11 d.length (fun j => [(10, V.int IntKind.i64 (bscan l us j))]) (fun _ => True) rfl trivial ?_ ?_
  · intro j hj _
    have hj1 : j < g.length := by omega
    have hj2 : j < us.length := by omega
    obtain ⟨x, hx, _⟩ := get_of hj1
    obtain ⟨y, hy, _⟩ := get_of hj
    obtain ⟨u, hu, _⟩ := get_of hj2
    obtain rfl := size_of hs hj1
    obtain rfl := size_of ht hj
    have hw := wrap_succ (show j < 9223372036854775807 by omega)
    have hud : us.getD j true = u := by rw [List.getD_eq_getElem?_getD, hu]; rfl
    have hst : bscan l us (j + 1) = bstep l us (bscan l us j) j := rfl
    have hsp := bscan_spec l us j
    unfold bstep at hst
    rw [hud, hget hx hy] at hst
    generalize hb : bscan l us j = b at *
    cases u with
    | true =>
      rw [if_neg (fun h => by cases h.1)] at hst
      (repeat' (first | refine wSeq rfl ?_ | refine wBlock rfl ?_ | refine wSkip rfl ?_ | refine wExit rfl ?_ | refine wRet rfl ?_ | refine wCondT rfl rfl ?_ | refine wCondF rfl rfl ?_ | refine wOps rfl ?_ | refine wDraw rfl rfl ?_ | simp only [seval, push_cast, ↓reduceIte, ↓bP_some, ↓aP_true, reduceCtorEq, e1, hj, hj2, hu, brow_eq, hx, hy, hw, hst]))
      exact qR_n rfl rfl trivial
    | false =>
      by_cases hb0 : b < 0
      · rw [if_pos ⟨rfl, .inl hb0⟩] at hst
        (repeat' (first | refine wSeq rfl ?_ | refine wBlock rfl ?_ | refine wSkip rfl ?_ | refine wExit rfl ?_ | refine wRet rfl ?_ | refine wCondT rfl rfl ?_ | refine wCondF rfl rfl ?_ | refine wOps rfl ?_ | refine wDraw rfl rfl ?_ | simp only [seval, push_cast, ↓reduceIte, ↓bP_some, ↓aP_true, reduceCtorEq, e1, hj, hj2, hu, brow_eq, hx, hy, hw, hst, hb0]))
        exact qR_n rfl rfl trivial
      · rcases hsp with ⟨h, _⟩ | ⟨k, hk, hkj, _, _⟩
        · omega
        subst hk
        have hkg : k < g.length := by omega
        have hkd : k < d.length := by omega
        obtain ⟨gk, hgk, _⟩ := get_of hkg
        obtain ⟨dk, hdk, _⟩ := get_of hkd
        rw [Int.toNat_natCast, hget hgk hdk] at hst
        by_cases hlt : gk < x
        · rw [if_pos ⟨rfl, .inr hlt⟩] at hst
          (repeat' (first | refine wSeq rfl ?_ | refine wBlock rfl ?_ | refine wSkip rfl ?_ | refine wExit rfl ?_ | refine wRet rfl ?_ | refine wCondT rfl rfl ?_ | refine wCondF rfl rfl ?_ | refine wOps rfl ?_ | refine wDraw rfl rfl ?_ | simp only [seval, push_cast, ↓reduceIte, ↓bP_some, ↓aP_true, reduceCtorEq, e1, hj, hj2, hu, brow_eq, hx, hy, hw, hst, hb0, iaQ_tl hj1, iaQ_tl hkg, hgk, hlt]))
          exact qR_n rfl rfl trivial
        · rw [if_neg (fun h => h.2.elim hb0 hlt)] at hst
          (repeat' (first | refine wSeq rfl ?_ | refine wBlock rfl ?_ | refine wSkip rfl ?_ | refine wExit rfl ?_ | refine wRet rfl ?_ | refine wCondT rfl rfl ?_ | refine wCondF rfl rfl ?_ | refine wOps rfl ?_ | refine wDraw rfl rfl ?_ | simp only [seval, push_cast, ↓reduceIte, ↓bP_some, ↓aP_true, reduceCtorEq, e1, hj, hj2, hu, brow_eq, hx, hy, hw, hst, hb0, iaQ_tl hj1, iaQ_tl hkg, hgk, hlt]))
          exact qR_n rfl rfl trivial
  · intro _
    have hsp := bscan_spec l us d.length
    by_cases hb0 : bscan l us d.length < 0
    · (repeat' (first | refine wSeq rfl ?_ | refine wBlock rfl ?_ | refine wSkip rfl ?_ | refine wExit rfl ?_ | refine wRet rfl ?_ | refine wCondT rfl rfl ?_ | refine wCondF rfl rfl ?_ | refine wOps rfl ?_ | refine wDraw rfl rfl ?_ | simp only [seval, push_cast, ↓reduceIte, ↓bP_some, ↓aP_true, reduceCtorEq, e1, hb0]))

      rw [refR_none h1 (by rw [hlz]; exact hb0)]
      exact FnQ.ret rfl rfl
    rcases hsp with ⟨h, _⟩ | ⟨k, hk, hkj, hku, _⟩
    · omega
    rw [hk] at hb0 ⊢
    have hkg : k < g.length := by omega
    have hkl : k < us.length := by omega
    obtain ⟨gk, hgk, mg⟩ := get_of hkg
    obtain ⟨dk, hdk, md⟩ := get_of hkj
    obtain ⟨u, hu, _⟩ := get_of hkl
    obtain rfl := size_of hs hkg
    obtain rfl := size_of ht hkj
    have bg := any_no.1 e3 _ mg
    have bd := any_no.1 e4 _ md
    have hfr := freeL_set (l := l) (us := us) (k := k) (by omega) hku
    have hfl := hfr.length_eq
    rw [List.length_cons] at hfl
    have hrun : refR l (freeL l us).length us nd n = if gk = 0 then (0, false) else if nd ≤ gk * dk then (n + ceilD nd gk, true) else refR l (freeL l (us.set k true)).length (us.set k true) (nd - gk * dk) (n + dk) := by
      rw [hfl]
      show (if 0 < nd then if bscan l us l.length < 0 then _ else _ else _) = _
      rw [hlz, hk, if_pos h1, if_neg hb0, Int.toNat_natCast, hget hgk hdk]
    by_cases hg0 : gk = 0
    · rw [hrun, if_pos hg0]
      (repeat' (first | refine wSeq rfl ?_ | refine wBlock rfl ?_ | refine wSkip rfl ?_ | refine wExit rfl ?_ | refine wRet rfl ?_ | refine wCondT rfl rfl ?_ | refine wCondF rfl rfl ?_ | refine wOps rfl ?_ | refine wDraw rfl rfl ?_ | simp only [seval, push_cast, ↓reduceIte, ↓bP_some, ↓aP_true, reduceCtorEq, e1, hb0, iaQ_tl hkg, hgk, hg0]))
      exact FnQ.ret rfl rfl
    have hp1 : 0 ≤ gk * dk := Int.mul_nonneg bg.1 bd.1
    have hp2 : gk * dk ≤ 1000000 * 1000000 := Int.mul_le_mul bg.2 bd.2 bd.1 (by decide)
    have wgd := wrap_i64 (n := gk * dk) (by omega) (by omega)
    by_cases hge : nd ≤ gk * dk
    · have hcd : ceilD nd gk = if nd.tdiv gk * gk < nd then nd.tdiv gk + 1 else nd.tdiv gk := rfl
      have t1 : 0 ≤ nd.tdiv gk := Int.tdiv_nonneg (by omega) (by omega)
      have t2 : nd.tdiv gk ≤ nd := Int.tdiv_le_self _ (by omega)
      have t3 : nd.tdiv gk * gk ≤ nd := by rw [Int.mul_comm]; exact Int.mul_tdiv_self_le (by omega)
      have t4 : 0 ≤ nd.tdiv gk * gk := Int.mul_nonneg t1 bg.1
      rw [hrun, if_neg hg0, if_pos hge, hcd]
      generalize hqq : nd.tdiv gk = q at *
      generalize hqg : q * gk = qg at *
      by_cases hlt : qg < nd
      · rw [if_pos hlt]
        (repeat' (first | refine wSeq rfl ?_ | refine wBlock rfl ?_ | refine wSkip rfl ?_ | refine wExit rfl ?_ | refine wRet rfl ?_ | refine wCondT rfl rfl ?_ | refine wCondF rfl rfl ?_ | refine wOps rfl ?_ | refine wDraw rfl rfl ?_ | simp only [seval, push_cast, ↓reduceIte, ↓bP_some, ↓aP_true, reduceCtorEq, e1, hb0, iaQ_tl hkg, iaQ_tl hkj, hkj, hkl, hu, brow_eq, brow_set1, hgk, hdk, hg0, wgd, hge, quo_i hg0, hqq, hqg, hlt, wrap_i64 (n := q) (by omega) (by omega), wrap_i64 (n := qg) (by omega) (by omega), wrap_i64 (n := q + 1) (by omega) (by omega), wrap_i64 (n := n + (q + 1)) (by omega) (by omega)]))
        exact FnQ.ret rfl rfl
      · rw [if_neg hlt]
        (repeat' (first | refine wSeq rfl ?_ | refine wBlock rfl ?_ | refine wSkip rfl ?_ | refine wExit rfl ?_ | refine wRet rfl ?_ | refine wCondT rfl rfl ?_ | refine wCondF rfl rfl ?_ | refine wOps rfl ?_ | refine wDraw rfl rfl ?_ | simp only [seval, push_cast, ↓reduceIte, ↓bP_some, ↓aP_true, reduceCtorEq, e1, hb0, iaQ_tl hkg, iaQ_tl hkj, hkj, hkl, hu, brow_eq, brow_set1, hgk, hdk, hg0, wgd, hge, quo_i hg0, hqq, hqg, hlt, wrap_i64 (n := q) (by omega) (by omega), wrap_i64 (n := qg) (by omega) (by omega), wrap_i64 (n := n + q) (by omega) (by omega)]))
        exact FnQ.ret rfl rfl
    · rw [if_neg hg0, if_neg hge] at hrun
      rw [hrun] at i2
      (repeat' (first | refine wSeq rfl ?_ | refine wBlock rfl ?_ | refine wSkip rfl ?_ | refine wExit rfl ?_ | refine wRet rfl ?_ | refine wCondT rfl rfl ?_ | refine wCondF rfl rfl ?_ | refine wOps rfl ?_ | refine wDraw rfl rfl ?_ | simp only [seval, push_cast, ↓reduceIte, ↓bP_some, ↓aP_true, reduceCtorEq, e1, hb0, iaQ_tl hkg, iaQ_tl hkj, hkj, hkl, hu, brow_eq, brow_set1, hgk, hdk, hg0, wgd, hge, wrap_i64 (n := nd - gk * dk) (by omega) (by omega), wrap_i64 (n := n + dk) (by omega) (by omega)]))
      refine qW_n (us.set k true, nd - gk * dk, n + dk) rfl rfl ⟨?_, ?_, i2, ?_, ?_, ?_⟩
      · show (freeL l (us.set k true)).length < (freeL l us).length
        omega
      · show (us.set k true).length = l.length
        rw [List.length_set]; exact i0
      · show (freeL l (us.set k true)).length ≤ l.length
        omega
      · show 0 ≤ n + dk ∧ n + dk + ((freeL l (us.set k true)).length : Int) * 1000000 ≤ (l.length : Int) * 1000000
        omega
      · show nd - gk * dk ≤ need
        omega
end Go.Proofs.YtncdaicaljpgfaaGreat
