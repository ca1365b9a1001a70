/- The law WordsBack, walked out of its callees' contracts. -/
import Derived.Test.YtefkhjbgkaknmaaDoorAlive
import Derived.Test.YtefkhjbgkaknmaaDoorPlB
set_option linter.unusedVariables false
namespace Go.Proofs.YtefkhjbgkaknmaaDoor
open Go.RowKit Go.Shelf

theorem jf_mem : ∀ (l : List (List UInt8)) (x : List UInt8), x ∈ l → x.length ≤ (joinFeed l).length
  | s :: r, x, h => by
    rw [joinFeed, List.length_append, List.length_cons]
    rcases List.mem_cons.1 h with rfl | h
    · omega
    · have := jf_mem r x h; omega
theorem text_len (l : List (List UInt8)) : (textL l).1.length ≤ 16384 := by
  unfold textL
  by_cases h1 : 512 < l.length
  · rw [if_pos h1]; simp
  · rw [if_neg h1]
    by_cases h2 : sizeGo l 0 = false
    · rw [if_pos h2]; simp
    · rw [if_neg h2]
      by_cases h3 : l.any hasFeed = true
      · rw [if_pos h3]; simp
      · rw [if_neg h3]
        have := (sizeGo_iff l 0 (by omega)).1 (by simpa using h2)
        simp only; omega
theorem text_in (l : List (List UInt8)) (s : List UInt8) (h : textL l = (s, 0)) : ∀ x ∈ l, x.length ≤ s.length := by
  intro x hx
  have h0 := h
  unfold textL at h
  by_cases h1 : 512 < l.length
  · rw [if_pos h1] at h; cases h
  · rw [if_neg h1] at h
    by_cases h2 : sizeGo l 0 = false
    · rw [if_pos h2] at h; cases h
    · rw [if_neg h2] at h
      by_cases h3 : l.any hasFeed = true
      · rw [if_pos h3] at h; cases h
      · rw [if_neg h3] at h
        have := jf_mem l x hx
        injection h with h _
        rw [h] at this; exact this
/-- What the lines of a text are, and what their text is. -/
theorem back_one (s : List UInt8) : ∃ (a : List (List UInt8)) (c : Int) (t : List UInt8), linesL s = (a, c) ∧ textL a = (t, 0) ∧ ((c = 0 ∧ t = s) ∨ ((c == 0) = false ∧ (c != 0) = true ∧ a = [])) := by
  rcases lines_codes s with h | ⟨h1, h2⟩
  · exact ⟨(linesL s).1, (linesL s).2, s, rfl, text_lines s h, .inl ⟨h, rfl⟩⟩
  · refine ⟨(linesL s).1, (linesL s).2, [], rfl, by rw [h1]; rfl, .inr ⟨?_, ?_, h1⟩⟩
    · rcases h2 with h2 | h2 <;> rw [h2] <;> rfl
    · rcases h2 with h2 | h2 <;> rw [h2] <;> rfl
theorem back_two (l : List (List UInt8)) : ∃ (u : List UInt8) (g : Int) (b : List (List UInt8)), textL l = (u, g) ∧ linesL u = (b, 0) ∧ u.length ≤ 16384 ∧ ((g = 0 ∧ b = l) ∨ ((g == 0) = false ∧ (g != 0) = true ∧ u = [] ∧ b = [])) := by
  rcases text_codes l with h | ⟨h1, h2⟩
  · exact ⟨(textL l).1, (textL l).2, l, rfl, lines_text l h, text_len l, .inl ⟨h, rfl⟩⟩
  · refine ⟨(textL l).1, (textL l).2, [], rfl, by rw [h1]; rfl, text_len l, .inr ⟨?_, ?_, h1, rfl⟩⟩
    · rcases h2 with h2 | h2 <;> rw [h2] <;> rfl
    · rcases h2 with h2 | h2 <;> rw [h2] <;> rfl

set_option maxRecDepth 100000 in
set_option maxHeartbeats 4000000 in
theorem back_law (s : ByteArray) (ao : Option Addr) (l : List (List UInt8)) (cap : Nat) (w : World) (h : Std w) (hs : s.size ≤ 140737488351232) (hc : CellsAt w ao (l.map sv)) (hls : ∀ s ∈ l, s.length ≤ 140737488351232) (hl : l.length ≤ 140737488351232) :
    Calls Tryd.prog 6 #[.string s, .slice ao l.length cap] w fun e w' => e = .returned (.bool true) ∧ Below w.heap.size w w' := by
  have H := Lib.hid h
  have HC := Lib.hid hc
  have HLS := Lib.hid hls
  clear h hc hls
  by_cases h1 : 20000 < s.size
  · go_enter Tryd.func6, Tryd.ntmps6
    go_wp2_with fail
    refine (alive_walk w H.out).mono ?_
    rintro e w1 ⟨rfl, hb1⟩
    go_wp2_with fail
    go_ret
    exact ⟨rfl, hb1⟩
  by_cases h2 : 600 < l.length
  · go_enter Tryd.func6, Tryd.ntmps6
    go_wp2_with fail
    refine (alive_walk w H.out).mono ?_
    rintro e w1 ⟨rfl, hb1⟩
    go_wp2_with fail
    go_ret
    exact ⟨rfl, hb1⟩
  by_cases h3 : 60000 < longGo l 0
  · go_enter Tryd.func6, Tryd.ntmps6
    go_wp2_with fail
    refine (alive_walk w H.out).mono ?_
    rintro e w1 ⟨rfl, hb1⟩
    go_wp2_with fail
    refine (long_walk _ _ _ _ (HC.out.below hb1) HLS.out hl).mono ?_
    rintro e w2 ⟨rfl, rfl⟩
    go_wp2_with fail
    go_ret
    exact ⟨rfl, hb1⟩
  obtain ⟨a, c, t, e1, e2, hcase⟩ := back_one (bl s)
  obtain ⟨u, g, b, e3, e4, hu, hcase2⟩ := back_two l
  have L1 := Lib.hid (fun w => lines_walk s w hs)
  have L2 := Lib.hid (fun w => lines_walk (ba u) w (by rw [ba_size]; omega))
  have hain : ∀ x ∈ a, x.length ≤ 140737488351232 := fun x hx => by
    have := text_in a t e2 x hx
    have ht : t.length ≤ (bl s).length := by
      rcases hcase with ⟨_, rfl⟩ | ⟨_, _, rfl⟩
      · exact Nat.le_refl _
      · cases hx
    rw [bl_length] at ht; omega
  have hal : a.length ≤ 140737488351232 := by have := lines_len (bl s); rw [e1, bl_length] at this; simp at this; omega
  have hbl : b.length ≤ 140737488351232 := by have := lines_len u; rw [e4] at this; simp at this; omega
  have T1 := Lib.hid (fun w ao cap (hc : CellsAt w ao (a.map sv)) => text_walk ao a cap w hc hain hal)
  have T2 := Lib.hid (fun w (hc : CellsAt w ao (l.map sv)) => text_walk ao l cap w hc HLS.out hl)
  unfold LinesRes at L1 L2
  unfold TextRes' at T1 T2
  rw [e1] at L1
  rw [bl_ba, e4] at L2
  rw [e2] at T1
  rw [e3] at T2
  have G := Lib.hid (And.intro hain (And.intro hal hbl))
  clear e1 e2 e3 e4 hain hal hbl
  have hemp : (ba ([] : List UInt8)).toList.isEmpty = true := by rw [Lib.toList_data]; rfl
  rcases hcase with ⟨rfl, rfl⟩ | ⟨hc0, hc1, rfl⟩
  all_goals rcases hcase2 with ⟨rfl, rfl⟩ | ⟨hg0, hg1, rfl, rfl⟩
  all_goals (
    try simp only [ba_bl] at T1
    go_enter Tryd.func6, Tryd.ntmps6
    go_wp2_with fail
    refine (alive_walk w H.out).mono ?_
    rintro e w1 ⟨rfl, hb1⟩
    go_wp2_with fail
    refine (long_walk _ _ _ _ (HC.out.below hb1) HLS.out hl).mono ?_
    rintro e w2 ⟨rfl, rfl⟩
    go_wp2_with fail
    refine (L1.out _).mono ?_
    rintro e w3 ⟨v3, rfl, ho3, hb3⟩
    obtain ⟨a3, c3, rfl, hc3, _⟩ := CellsAt.of_owns ho3
    have B3 := hb1.trans (hb3.mono hb1.size)
    go_wp2_with fail
    refine (T1.out _ _ _ hc3).mono ?_
    rintro e w4 ⟨rfl, hb4⟩
    have B4 := B3.trans (hb4.mono B3.size)
    go_wp2_with fail
    refine (T2.out _ (HC.out.below B4)).mono ?_
    rintro e w5 ⟨rfl, hb5⟩
    have B5 := B4.trans (hb5.mono B4.size)
    go_wp2_with fail
    refine (L2.out _).mono ?_
    rintro e w6 ⟨v6, rfl, ho6, hb6⟩
    obtain ⟨a6, c6, rfl, hc6, _⟩ := CellsAt.of_owns ho6
    have B6 := B5.trans (hb6.mono B5.size)
    go_wp2_with fail )
  all_goals first
    | (go_ret
       exact ⟨rfl, B6⟩)
    | (refine (rsame_eq a6 ao b b.length rfl c6 cap _ hc6 (HC.out.below B6) G.out.2.2).mono ?_
       rintro e w7 ⟨rfl, n7, rfl⟩
       go_wp2_with fail
       go_ret
       exact ⟨rfl, below_dn B6 _⟩)
end Go.Proofs.YtefkhjbgkaknmaaDoor
