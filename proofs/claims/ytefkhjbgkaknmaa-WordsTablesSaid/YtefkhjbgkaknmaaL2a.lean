/- The laws WordsTexts and WordsTells, walked out of their callees' contracts. -/
import Derived.Test.YtefkhjbgkaknmaaW2c
import Derived.Test.YtefkhjbgkaknmaaW2d
import Derived.Laws.AppendOwnNone
set_option linter.unusedVariables false
namespace Go.Proofs.Ytefkhjbgkaknmaa
open Go.RowKit

attribute [local go_sem ↓ 10000] builtin_append_v

theorem rsame_eq (ao bo : Option Addr) (l : List (List UInt8)) (n : Nat) (hn : n = l.length) (cap cap' : Nat) (w : World) (ha : CellsAt w ao (l.map sv)) (hb : CellsAt w bo (l.map sv)) (hl : l.length ≤ 140737488351232) :
    Calls Try.prog 9 #[.slice ao n cap, .slice bo n cap'] w fun e w' => e = .returned (.bool true) ∧ ∃ n, w' = w.drewN n := by
  subst hn
  refine (rsame_walk ao bo l l cap cap' w ha hb hl hl).mono ?_
  rintro e w' ⟨he, hw⟩
  exact ⟨by rw [he]; simp, hw⟩

/-- 'append([]string{}, l...)': a copy of its own. -/
theorem copy_strs (w : World) (ao : Option Addr) (l : List (List UInt8)) (cap : Nat) (h : CellsAt w ao (l.map sv)) (hn : ao = none → cap = 0) (hl : l.length ≤ 1000000) :
    ∃ bo cap' w1, (appendV #[24, 24] 24 #[.slice (some ⟨w.heap.size, 0, none⟩) 0 0, .slice ao l.length cap]).run Try.prog (w.alloc (.cells #[] 9)) = .ok (.slice bo l.length cap') w1 ∧
      CellsAt w1 bo (l.map sv) ∧ l.length ≤ cap' ∧ Below w.heap.size w w1 := by
  obtain ⟨i0, hi, hz0, hz1, hz2⟩ := info_parts infoStr
  have hown : (w.alloc (.cells #[] 9)).ownsRow w.heap.size 9 1 (.slice (some ⟨w.heap.size, 0, none⟩) 0 0) 0 [] :=
    ⟨by simp, .inr ⟨w.heap.size, 0, #[], rfl, Nat.le_refl _, alloc_new w _, Nat.le_refl _, by unfold maxLen; omega, by simp, by simp⟩⟩
  have hb0 : Below w.heap.size w (w.alloc (.cells #[] 9)) := (Below.refl _ w).alloc (Nat.le_refl _) _
  have h1 := h.below hb0
  cases ao with
  | none =>
    obtain ⟨b, off, ha, hc⟩ := h
    have hl0 : l = [] := by
      cases l with
      | nil => rfl
      | cons a r => have := ha (by simp); cases this
    subst hl0
    rw [hn rfl]
    have := run_append_owned_none (P := Try.prog) (w.alloc (.cells #[] 9)) w.heap.size 24 24 9 i0 1 Try.underlying24 hi _ 0 [] hown
    exact ⟨some ⟨w.heap.size, 0, none⟩, 0, _, this, CellsAt.nil, Nat.le_refl _, hb0⟩
  | some ad =>
    obtain ⟨v', w1, hrun, hown', hgrow, _⟩ := run_append_own (P := Try.prog) (w.alloc (.cells #[] 9)) w.heap.size 24 24 9 i0 (.string ⟨#[]⟩) 1 16 Try.underlying24 hi hz0 hz1 hz2 rfl (by decide) _ 0 [] hown ad l.length cap (l.map sv) (by simp) (fun j u hu => by
      obtain ⟨b, off, ha, hc⟩ := h1
      have hj : 0 < (l.map sv).length := by have := (List.getElem?_eq_some_iff.1 hu).1; omega
      obtain rfl : ad = ⟨b, off, none⟩ := by have := ha hj; cases this; rfl
      rw [add_plain]; exact hc j u hu) (by intro u hu; obtain ⟨x, _, rfl⟩ := List.mem_map.1 hu; rfl) (by unfold maxLen; omega) (by omega) (by simp)
    obtain ⟨bo, cap', rfl, hcells, _⟩ := CellsAt.of_owns hown'
    refine ⟨bo, cap', w1, ?_, ?_, ?_, hb0.grown hgrow (by simp) (fun k e => by cases e; exact Nat.le_refl _)⟩
    · rw [Nat.zero_add] at hrun; exact hrun
    · simpa using hcells
    · rcases hown'.2 with ⟨e1, e2⟩ | ⟨g, cap2, cur, e1, _, _, e2, _⟩
      · simp at e1; omega
      · simp at e1 e2; omega

theorem long_count : ∀ (l : List (List UInt8)) (n : Int), 0 ≤ n → longGo l n ≤ 60000 → n + (l.length : Int) ≤ 60000 ∧ ∀ s ∈ l, (s.length : Int) ≤ 60000
  | [], n, _, h => ⟨by simpa [longGo] using h, by simp⟩
  | s :: r, n, h0, h => by
    rw [longGo] at h
    by_cases hc : n < 1000000
    · rw [if_pos hc] at h
      obtain ⟨h1, h2⟩ := long_count r _ (by omega) h
      refine ⟨by simp; omega, ?_⟩
      intro x hx
      rcases List.mem_cons.1 hx with rfl | hx
      · omega
      · exact h2 x hx
    · rw [if_neg hc] at h; omega

theorem lines_len (l : List UInt8) : (linesL l).1.length ≤ l.length := by
  unfold linesL
  by_cases h1 : 16384 < l.length ∨ 512 < feedsL l
  · rw [if_pos h1]; simp
  · rw [if_neg h1]
    by_cases h2 : 0 < l.length ∧ (l.getLast?.map UInt8.toNat) ≠ some 10
    · rw [if_pos h2]; simp
    · rw [if_neg h2]; show (lnGo l []).length ≤ _; rw [ln_len]; exact feeds_le l

set_option maxRecDepth 100000 in
set_option maxHeartbeats 4000000 in
theorem texts_law (s : ByteArray) (ao : Option Addr) (l : List (List UInt8)) (cap : Nat) (w : World) (hs : s.size ≤ 140737488351232) (h : CellsAt w ao (l.map sv)) (hls : ∀ s ∈ l, s.length ≤ 140737488351232) (hl : l.length ≤ 140737488351232) (hn : ao = none → cap = 0) :
    Calls Try.prog 4 #[.string s, .slice ao l.length cap] w fun e w' => e = .returned (.bool true) ∧ Below w.heap.size w w' := by
  by_cases h1 : 20000 < s.size
  · go_enter Try.func4, Try.ntmps4
    go_wp2
    go_ret
    exact ⟨rfl, Below.refl _ _⟩
  by_cases h2 : 600 < l.length
  · go_enter Try.func4, Try.ntmps4
    go_wp2
    go_ret
    exact ⟨rfl, Below.refl _ _⟩
  by_cases h3 : 60000 < longGo l 0
  · go_enter Try.func4, Try.ntmps4
    go_wp2_with (go_at_call 10; refine (long_walk _ _ _ _ h hls hl).mono ?_; rintro e w' ⟨rfl, rfl⟩)
    go_ret
    exact ⟨rfl, Below.refl _ _⟩
  obtain ⟨bo, cap', w1, hrun, hc1, hcap', hb1⟩ := copy_strs w ao l cap h hn (by omega)
  have hl1 := h.below hb1
  have HL := Lib.hid (And.intro h (And.intro hls hn))
  go_enter Try.func4, Try.ntmps4
  go_wp2_with (first | (go_at_call 10; refine (long_walk _ _ _ _ h hls hl).mono ?_; rintro e w' ⟨rfl, rfl⟩) | (go_at_call 11; refine (lines_walk s _ hs).mono ?_; rintro e w2 ⟨v2, rfl, ho2, hb2⟩; obtain ⟨ao2, cap2, rfl, hc2, _⟩ := CellsAt.of_owns ho2))
  refine (rlines_walk s _ hs).mono ?_
  rintro e w3 ⟨v3, rfl, ho3, hb3⟩
  obtain ⟨ao3, cap3, rfl, hc3, _⟩ := CellsAt.of_owns ho3
  have B3 := hb2.trans (hb3.mono hb2.size)
  have hx3 := hc1.below B3
  go_wp2_with fail
  refine (text_walk bo l cap' _ hx3 hls hl).mono ?_
  rintro e w4 ⟨rfl, hb4⟩
  have hl4 := hl1.below (B3.trans (hb4.mono B3.size))
  go_wp2_with fail
  refine (rtext_walk ao l cap _ hl4 hls hl).mono ?_
  rintro e w5 ⟨rfl, rfl⟩
  have hk2 := hc2.below (hb3.trans (hb4.mono hb3.size))
  have hk3 := hc3.below hb4
  go_wp2_with fail
  refine (rsame_eq _ _ _ _ rfl _ _ _ hk2 hk3 (by have := lines_len (bl s); rw [bl_length] at this; omega)).mono ?_
  rintro e w6 ⟨rfl, n6, rfl⟩
  have hz1 : CellsAt (w4.drewN n6) bo (l.map sv) := hx3.below (below_dn hb4 n6)
  have hz2 : CellsAt (w4.drewN n6) ao (l.map sv) := hl4
  go_wp2_with fail
  refine (rsame_eq _ _ _ _ rfl _ _ _ hz1 hz2 hl).mono ?_
  rintro e w7 ⟨rfl, n7, rfl⟩
  go_wp2_with fail
  go_ret
  exact ⟨rfl, below_dn (hb1.trans ((B3.trans (hb4.mono B3.size)).mono hb1.size)) _⟩

theorem words_len (l : List UInt8) : (wordsL l).1.length ≤ l.length + 1 := by
  unfold wordsL
  by_cases h1 : 16384 < l.length
  · rw [if_pos h1]; simp
  · rw [if_neg h1]
    by_cases h2 : l.length = 0
    · rw [if_pos h2]; simp
    · rw [if_neg h2]
      by_cases h3 : (ptGo l []).all wordL = true
      · rw [if_pos h3]; exact pt_len l []
      · rw [if_neg h3]; simp

set_option maxRecDepth 100000 in
set_option maxHeartbeats 4000000 in
theorem tells_law (s : ByteArray) (ao : Option Addr) (l : List (List UInt8)) (cap : Nat) (w : World) (hs : s.size ≤ 140737488351232) (h : CellsAt w ao (l.map sv)) (hls : ∀ s ∈ l, s.length ≤ 140737488351232) (hl : l.length ≤ 140737488351232) (hn : ao = none → cap = 0) :
    Calls Try.prog 5 #[.string s, .slice ao l.length cap] w fun e w' => e = .returned (.bool true) ∧ Below w.heap.size w w' := by
  by_cases h1 : 20000 < s.size
  · go_enter Try.func5, Try.ntmps5
    go_wp2
    go_ret
    exact ⟨rfl, Below.refl _ _⟩
  by_cases h3 : 60000 < longGo l 0
  · go_enter Try.func5, Try.ntmps5
    go_wp2_with (go_at_call 10; refine (long_walk _ _ _ _ h hls hl).mono ?_; rintro e w' ⟨rfl, rfl⟩)
    go_ret
    exact ⟨rfl, Below.refl _ _⟩
  have hcount := (long_count l 0 (by omega) (by omega)).1
  obtain ⟨bo, cap', w1, hrun, hc1, hcap', hb1⟩ := copy_strs w ao l cap h hn (by omega)
  have hl1 := h.below hb1
  have HL := Lib.hid (And.intro h (And.intro hls hn))
  go_enter Try.func5, Try.ntmps5
  go_wp2_with (first | (go_at_call 10; refine (long_walk _ _ _ _ h hls hl).mono ?_; rintro e w' ⟨rfl, rfl⟩) | (go_at_call 15; refine (words_walk s _ hs).mono ?_; rintro e w2 ⟨v2, rfl, ho2, hb2⟩; obtain ⟨ao2, cap2, rfl, hc2, _⟩ := CellsAt.of_owns ho2))
  refine (rwords_walk s _ hs).mono ?_
  rintro e w3 ⟨v3, rfl, ho3, hb3⟩
  obtain ⟨ao3, cap3, rfl, hc3, _⟩ := CellsAt.of_owns ho3
  have B3 := hb2.trans (hb3.mono hb2.size)
  have hx3 := hc1.below B3
  go_wp2_with fail
  refine (line_walk bo l cap' _ hx3 hls hl hcap').mono ?_
  rintro e w4 ⟨rfl, hb4⟩
  have hl4 := hl1.below (B3.trans (hb4.mono B3.size))
  go_wp2_with fail
  refine (rline_walk ao l cap _ hl4 hls hl).mono ?_
  rintro e w5 ⟨rfl, rfl⟩
  have hk2 := hc2.below (hb3.trans (hb4.mono hb3.size))
  have hk3 := hc3.below hb4
  go_wp2_with fail
  refine (rsame_eq _ _ _ _ rfl _ _ _ hk2 hk3 (by have := words_len (bl s); rw [bl_length] at this; omega)).mono ?_
  rintro e w6 ⟨rfl, n6, rfl⟩
  have hz1 : CellsAt (w4.drewN n6) bo (l.map sv) := hx3.below (below_dn hb4 n6)
  have hz2 : CellsAt (w4.drewN n6) ao (l.map sv) := hl4
  go_wp2_with fail
  refine (rsame_eq _ _ _ _ rfl _ _ _ hz1 hz2 hl).mono ?_
  rintro e w7 ⟨rfl, n7, rfl⟩
  go_wp2_with fail
  go_ret
  exact ⟨rfl, below_dn (hb1.trans ((B3.trans (hb4.mono B3.size)).mono hb1.size)) _⟩
end Go.Proofs.Ytefkhjbgkaknmaa
