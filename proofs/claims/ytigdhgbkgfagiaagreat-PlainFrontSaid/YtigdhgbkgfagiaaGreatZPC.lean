/- The chapter's example, run by the kernel. · What is accepted of the first deeds is accepted of all: the law, walked. -/
import Derived.Test.YtigdhgbkgfagiaaGreatZM1
import Derived.Test.YtigdhgbkgfagiaaGreatZP1
import Derived.Test.YtigdhgbkgfagiaaGreatZPB
set_option maxRecDepth 100000
set_option maxHeartbeats 4000000
namespace Go.Proofs.YtigdhgbkgfagiaaGreat
theorem alive44_v {L : Lib} (hL : L.T = tab.get) : VFn L 21 [] (.bool true) := VFn.more hL (vfn_frz (m := 100000) [] rfl rfl (by simp) (by kernel_rfl))
end Go.Proofs.YtigdhgbkgfagiaaGreat
set_option linter.unusedVariables false
set_option linter.unusedSimpArgs false
namespace Go.Proofs.YtigdhgbkgfagiaaGreat
theorem rkL_len {M : List Bool} {n w : Nat} {skips : Int} : ∀ (k j sk : Nat) (ms : List Int), (rkL M n w skips k j sk ms).1.length ≤ ms.length + k
 | 0, _, _, ms => Nat.le_refl _
 | k + 1, j, sk, ms => by
  unfold rkL
  split
  ·split
   ·exact Nat.le_add_right _ _
   ·have := rkL_len (M := M) (n := n) (w := w) (skips := skips) k (j + 1) (sk + 1) ms; omega
  ·rename_i x _
   have := rkL_len (M := M) (n := n) (w := w) (skips := skips) k (j + 1) 0 (if x ∈ ms then ms else ms ++ [x])
   have h2 : (if x ∈ ms then ms else ms ++ [x]).length ≤ ms.length + 1 := by split <;> simp
   omega
  ·exact Nat.le_add_right _ _
theorem read_len {c : Ct} {lo hi skips : Int} {B : List Int} {ds : List (Int × Bool)} (h : (readF c lo hi skips B ds).2 = 0) : (readF c lo hi skips B ds).1.ms.length ≤ 100 := by
 unfold readF at h ⊢
 by_cases h1 : shCheck c B ≠ 0
 ·rw [if_pos h1] at h
  exact absurd h h1
 ·rw [if_neg h1] at h ⊢
  have hc : checkC c = 0 := by
   have h1' : shCheck c B = 0 := Decidable.not_not.1 h1
   unfold shCheck at h1'
   by_cases h : checkC c = 0
   ·exact h
   ·rw [if_neg h] at h1'; exact h1'
  obtain ⟨hc1, hc2, -⟩ := check_len hc
  have hw := wide_le (k := kindR c.rule) hc2
  split
  ·exact Nat.zero_le _
  ·split
   ·exact Nat.zero_le _
   ·split
    ·exact Nat.zero_le _
    ·rename_i M D _
     show (markR _ M _ _ _ _).1.length ≤ 100
     unfold markR
     split
     ·have := rkL_len (M := M) (n := c.cands.length) (w := wideF (kindR c.rule) c.cands.length) (skips := skips) (wideF (kindR c.rule) c.cands.length) 0 0 []
      simp only [List.length_nil] at this
      show (rkL _ _ _ _ _ _ _ _).1.length ≤ 100
      omega
     ·split
      ·have := scL_len (M := M) (n := c.cands.length) (w := wideF (kindR c.rule) c.cands.length) c.cands.length
       omega
      ·split
       ·exact Nat.zero_le _
       ·have := colL_len (M := M) (w := wideF (kindR c.rule) c.cands.length) (col := 0) c.cands.length
        show (colL _ _ _ _).length ≤ 100
        omega
theorem accept_short {t : Tm} {s : Ms} (h : ∀ v ∈ s.vs, v.2.length ≤ 100) (d : Dd) : ∀ v ∈ (acceptS t s d).1.vs, v.2.length ≤ 100 := by
 unfold acceptS enrolS turnS issueS returnS castS
 split
 ·split <;> exact h
 split
 ·split <;> exact h
 split
 ·split <;> exact h
 split
 ·split <;> exact h
 split
 ·split
  ·exact h
  split
  ·exact h
  ·rename_i h2
   split
   ·exact h
   ·intro v hv
    rcases List.mem_append.1 hv with hv | hv
    ·exact h v hv
    ·have : v = ((readD t d).1.kind, (readD t d).1.ms) := by simpa using hv
     subst this
     exact read_len (by
      by_cases h0 : (readD t d).2 = 0
      ·exact h0
      ·exact absurd (.inl h0) h2)
 split
 ·split <;> exact h
 ·exact h
theorem fold_short {t : Tm} : ∀ (l : List Dd) (p : Ms × List Bool), (∀ v ∈ p.1.vs, v.2.length ≤ 100) → ∀ v ∈ (l.foldl (stepS t) p).1.vs, v.2.length ≤ 100
 | [], _, h => h
 | d :: l, p, h => by
  rw [List.foldl_cons]
  exact fold_short l _ (accept_short h d)
theorem foldS_front {t : Tm} {l : List Dd} (n : Nat) : (foldS t (l.take n)).1.vs <+: (foldS t l).1.vs ∧ (foldS t (l.take n)).2 <+: (foldS t l).2 := by
 have h : foldS t l = (l.drop n).foldl (stepS t) (foldS t (l.take n)) := by
  conv => lhs; rw [← List.take_append_drop n l]
  unfold foldS
  rw [List.foldl_append]
 rw [h]
 exact fold_front _ _
theorem prefix_take {α : Type} {a b : List α} (h : a <+: b) : b.take a.length = a ∧ a.length ≤ b.length := by
 obtain ⟨c, rfl⟩ := h
 exact ⟨List.take_left' rfl, by simp⟩
theorem lsV_tl {α : Type} (f : α → List V) (n : Nat) (l : List α) : ∃ s c, lsV f n l = tl f s l c ∧ (s = n ∨ l = []) := by
 unfold lsV
 by_cases h : l = []
 ·subst h; exact ⟨0, some 0, rfl, .inr rfl⟩
 ·exact ⟨n, none, if_neg h, .inl rfl⟩
theorem sliceV_tl {α : Type} {f : α → List V} {s n k : Nat} {l : List α} {c : Option Nat} (hs : s = n ∨ l = []) (hn : n ≠ 0 ∧ n ≠ 1000003) (hk : k ≤ l.length) : sliceV n (tl f s l c) (some none) (some (some k)) (some none) = some (tl f s (l.take k) (c.map (· - 0))) := by
 rcases hs with rfl | rfl
 ·exact sliceV_hi hn hk
 ·have : k = 0 := by simpa using hk
  subst this
  simp [sliceV, tl, hn]
variable {L : Lib} (hL : L.T = tab.get)
include hL
theorem front_v {t : Tm} {l : List Dd} {s : Nat} {c : Option Nat} {front : Int} (ht : okTm t) (hd : ∀ d ∈ l, okDd d) (hs : s = 8 ∨ l = []) (hl : l.length < 4611686018427387904) : VFn L 5 [.agg (tmC t), tl ddrow s l c, .int .i64 front] (.bool true) := by
 have ka := alive44_v hL
 have kb := bounded_v hL (c := c) (n := 200) ht hs hl
 have kp := play_v hL (c := c) ht hd hs
 refine VFn.start (F := T5.1) (by rw [hL]; rfl) rfl (by have h0 := kb.1; simp [V.closeds, V.closed, tl] at h0 ⊢; exact h0) rfl ?_
 cases hb : boundF t l 200 with
 | false =>
  rw [hb] at kb
  unfold tmC at *
  (repeat' (first | refine Z0 ?_ | refine Z1 ?_ | refine Z2 ?_ | refine opsV_call rfl rfl (ka) ?_ | refine opsP_call rfl (ka) ?_ | refine opsV_call rfl rfl (kb) ?_ | refine opsP_call rfl (kb) ?_ | simp only [seval, push_cast, ↓reduceIte, ↓bP_some, ↓aP_true, reduceCtorEq]))
  exact FnQ.ret rfl rfl
 | true =>
  rw [hb] at kb
  have hle : l.length ≤ 200 := by
   unfold boundF at hb
   simp at hb
   omega
  by_cases h1 : front < 0
  ·unfold tmC at *
   (repeat' (first | refine Z0 ?_ | refine Z1 ?_ | refine Z2 ?_ | refine opsV_call rfl rfl (ka) ?_ | refine opsP_call rfl (ka) ?_ | refine opsV_call rfl rfl (kb) ?_ | refine opsP_call rfl (kb) ?_ | simp only [seval, push_cast, ↓reduceIte, ↓bP_some, ↓aP_true, reduceCtorEq, h1]))
   exact FnQ.ret rfl rfl
  ·obtain ⟨n, rfl⟩ : ∃ n : Nat, front = n := ⟨front.toNat, by omega⟩
   by_cases h2 : l.length < n
   ·unfold tmC at *
    (repeat' (first | refine Z0 ?_ | refine Z1 ?_ | refine Z2 ?_ | refine opsV_call rfl rfl (ka) ?_ | refine opsP_call rfl (ka) ?_ | refine opsV_call rfl rfl (kb) ?_ | refine opsP_call rfl (kb) ?_ | simp only [seval, push_cast, ↓reduceIte, ↓bP_some, ↓aP_true, reduceCtorEq, h1, show (l.length : Int) < n by omega]))
    exact FnQ.ret rfl rfl
   ·have h2' : ¬ (l.length : Int) < n := by omega
    have hsl := sliceV_tl (f := ddrow) (s := s) (n := 8) (k := n) (l := l) (c := c) hs (by decide) (by omega)
    have kq := play_v hL (l := l.take n) (s := s) (c := c.map (· - 0)) ht (fun d h => hd d (List.mem_of_mem_take h)) (hs.imp id (fun h => by rw [h]; simp))
    have hln : (l.take n).length ≤ 200 := by rw [List.length_take]; omega
    unfold playV playF at kp kq
    cases hok : okTerms t with
    | false =>
     rw [hok, if_pos rfl] at kp kq
     have kB : VFn L 19 [.lst 0 [] (some 0), .lst 0 [] (some 0)] (.bool true) := boolsSame_v hL (s := 0) (s' := 0) (l := []) (c := some 0) (c' := some 0) (.inr rfl) (.inr rfl) (by simp)
     have kV : VFn L 20 [.lst 0 [] (some 0), .lst 0 [] (some 0)] (.bool true) := balsSame_v hL (s := 0) (s' := 0) (l := []) (c := some 0) (c' := some 0) (.inr rfl) (.inr rfl) (by simp) (by simp)
     have s1 : sliceV 1 (.lst 0 [] (some 0)) (some none) (some (some 0)) (some none) = some (.lst 0 [] (some 0)) := by simp [sliceV]
     have s2 : sliceV 2 (.lst 0 [] (some 0)) (some none) (some (some 0)) (some none) = some (.lst 0 [] (some 0)) := by simp [sliceV]
     rw [show lsV brow 1 [] = .lst 0 [] (some 0) from rfl, show lsV vrow 2 [] = .lst 0 [] (some 0) from rfl] at kp kq
     dsimp only at kp kq
     unfold tmC at *
     (repeat' (first | refine Z0 ?_ | refine Z1 ?_ | refine Z2 ?_ | refine opsV_call rfl rfl (ka) ?_ | refine opsP_call rfl (ka) ?_ | refine opsV_call rfl rfl (kb) ?_ | refine opsP_call rfl (kb) ?_ | refine opsV_call rfl rfl (kp) ?_ | refine opsP_call rfl (kp) ?_ | refine opsV_call rfl rfl (kq) ?_ | refine opsP_call rfl (kq) ?_ | refine opsV_call rfl rfl (kB) ?_ | refine opsP_call rfl (kB) ?_ | refine opsV_call rfl rfl (kV) ?_ | refine opsP_call rfl (kV) ?_ | simp only [seval, push_cast, ↓reduceIte, ↓bP_some, ↓aP_true, reduceCtorEq, h1, h2', hsl, s1, s2]))
     exact FnQ.ret rfl rfl
    | true =>
     rw [hok, if_neg (by simp), if_neg (by omega)] at kp kq
     obtain ⟨hf1, hf2⟩ := foldS_front (t := t) (l := l) n
     obtain ⟨t1, t2⟩ := prefix_take hf1
     obtain ⟨t3, t4⟩ := prefix_take hf2
     have hsh := fold_short (t := t) (l.take n) (ms0, []) (fun _ h => by cases h)
     have hA := fold_acc (t := t) (l.take n)
     have hV := (fold_keeps (t := t) (l.take n)).vs
     rw [show (l.take n).foldl (stepS t) (ms0, []) = foldS t (l.take n) from rfl] at hsh
     dsimp only at kp kq
     generalize (foldS t (l.take n)).1.vs = Q at *
     generalize (foldS t (l.take n)).2 = B at *
     generalize (foldS t l).1.vs = P at *
     generalize (foldS t l).2 = A at *
     obtain ⟨sA, cA, eA, fA⟩ := lsV_tl brow 1 A
     obtain ⟨sB, cB, eB, fB⟩ := lsV_tl brow 1 B
     obtain ⟨sP, cP, eP, fP⟩ := lsV_tl vrow 2 P
     obtain ⟨sQ, cQ, eQ, fQ⟩ := lsV_tl vrow 2 Q
     rw [eA, eP] at kp
     rw [eB, eQ] at kq
     have s1 := sliceV_tl (f := brow) (s := sA) (n := 1) (k := B.length) (l := A) (c := cA) fA (by decide) t4
     have s2 := sliceV_tl (f := vrow) (s := sP) (n := 2) (k := Q.length) (l := P) (c := cP) fP (by decide) t2
     rw [t3] at s1
     rw [t1] at s2
     have kB := boolsSame_v hL (s := sA) (s' := sB) (l := B) (c := cA.map (· - 0)) (c' := cB) (fA.imp id (fun h => by rw [← t3, h]; simp)) fB (by omega)
     have kV := balsSame_v hL (s := sP) (s' := sQ) (l := Q) (c := cP.map (· - 0)) (c' := cQ) (fP.imp id (fun h => by rw [← t1, h]; simp)) fQ (by omega) (fun v hv => by have := hsh v hv; omega)
     unfold tmC at *
     (repeat' (first | refine Z0 ?_ | refine Z1 ?_ | refine Z2 ?_ | refine opsV_call rfl rfl (ka) ?_ | refine opsP_call rfl (ka) ?_ | refine opsV_call rfl rfl (kb) ?_ | refine opsP_call rfl (kb) ?_ | refine opsV_call rfl rfl (kp) ?_ | refine opsP_call rfl (kp) ?_ | refine opsV_call rfl rfl (kq) ?_ | refine opsP_call rfl (kq) ?_ | refine opsV_call rfl rfl (kB) ?_ | refine opsP_call rfl (kB) ?_ | refine opsV_call rfl rfl (kV) ?_ | refine opsP_call rfl (kV) ?_ | simp only [seval, push_cast, ↓reduceIte, ↓bP_some, ↓aP_true, reduceCtorEq, h1, h2', hsl, s1, s2, show ¬ (P.length : Int) < Q.length by omega, show ¬ (A.length : Int) < B.length by omega]))
     exact FnQ.ret rfl rfl
end Go.Proofs.YtigdhgbkgfagiaaGreat
