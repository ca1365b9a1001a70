/- The law WordsWhole, walked out of its callees' contracts. -/
import Derived.Test.YtefkhjbgkaknmaaDoorAlive
import Derived.Test.YtefkhjbgkaknmaaDoorPlB
set_option linter.unusedVariables false
namespace Go.Proofs.YtefkhjbgkaknmaaDoor
open Go.RowKit Go.Shelf

theorem line_len (l : List (List UInt8)) : (lineL l).1.length ≤ 16384 := by
  unfold lineL
  by_cases h1 : l.all wordL = false
  · rw [if_pos h1]; simp
  · rw [if_neg h1]
    by_cases h2 : 16384 < (joinBlank l).length
    · rw [if_pos h2]; simp
    · rw [if_neg h2]; simp only; omega
theorem own_cap {w : World} {B n cap : Nat} {e : TypeId} {ao : Option Addr} {xs : List Value} (h : w.ownsRow B e 1 (.slice ao n cap) n xs) : n ≤ cap := by
  rcases h.2 with ⟨e1, e2⟩ | ⟨g, c3, cur, e1, _, _, e2, _⟩
  · simp at e1; omega
  · cases e1; exact e2
theorem jb_mem : ∀ (l : List (List UInt8)) (x : List UInt8), x ∈ l → x.length ≤ (joinBlank l).length
  | [s], x, h => by simp at h; subst h; rw [joinBlank]; exact Nat.le_refl _
  | s :: t :: r, x, h => by
    rw [jb_cons s (t :: r) (by simp), List.length_append, List.length_cons]
    rcases List.mem_cons.1 h with rfl | h
    · omega
    · have := jb_mem (t :: r) x h; omega
theorem line_in (l : List (List UInt8)) (s : List UInt8) (h : lineL l = (s, 0)) : ∀ x ∈ l, x.length ≤ s.length := by
  intro x hx
  unfold lineL at h
  by_cases h1 : l.all wordL = false
  · rw [if_pos h1] at h; cases h
  · rw [if_neg h1] at h
    by_cases h2 : 16384 < (joinBlank l).length
    · rw [if_pos h2] at h; cases h
    · rw [if_neg h2] at h
      have := jb_mem l x hx
      injection h with h _
      rw [h] at this; exact this
/-- What the words of a line are, and what their line is. -/
theorem whole_one (s : List UInt8) : ∃ (a : List (List UInt8)) (c : Int) (t : List UInt8), wordsL s = (a, c) ∧ lineL a = (t, 0) ∧ (∀ x ∈ a, wordsL x = ([x], 0)) ∧ ((c = 0 ∧ t = s) ∨ ((c == 0) = false ∧ (c != 0) = true ∧ a = [])) := by
  rcases words_codes s with h | ⟨h1, h2⟩
  · exact ⟨(wordsL s).1, (wordsL s).2, s, rfl, (line_words s h).1, (line_words s h).2, .inl ⟨h, rfl⟩⟩
  · refine ⟨(wordsL s).1, (wordsL s).2, [], rfl, by rw [h1]; rfl, (fun x hx => by rw [h1] at hx; cases hx), .inr ⟨?_, ?_, h1⟩⟩
    · rcases h2 with h2 | h2 <;> rw [h2] <;> rfl
    · rcases h2 with h2 | h2 <;> rw [h2] <;> rfl
theorem whole_two (l : List (List UInt8)) : ∃ (u : List UInt8) (g : Int) (b : List (List UInt8)), lineL l = (u, g) ∧ wordsL u = (b, 0) ∧ u.length ≤ 16384 ∧ ((g = 0 ∧ b = l) ∨ ((g == 0) = false ∧ (g != 0) = true ∧ u = [] ∧ b = [])) := by
  rcases line_codes l with h | ⟨h1, h2⟩
  · exact ⟨(lineL l).1, (lineL l).2, l, rfl, words_line l h, line_len l, .inl ⟨h, rfl⟩⟩
  · refine ⟨(lineL l).1, (lineL l).2, [], rfl, by rw [h1]; rfl, line_len l, .inr ⟨?_, ?_, h1, rfl⟩⟩
    · rcases h2 with h2 | h2 <;> rw [h2] <;> rfl
    · rcases h2 with h2 | h2 <;> rw [h2] <;> rfl


set_option maxRecDepth 100000 in
set_option maxHeartbeats 40000000 in
theorem whole_law (s : ByteArray) (ao : Option Addr) (l : List (List UInt8)) (cap : Nat) (w : World) (h : Std w) (hs : s.size ≤ 140737488351232) (hc : CellsAt w ao (l.map sv)) (hls : ∀ s ∈ l, s.length ≤ 140737488351232) (hl : l.length ≤ 140737488351232) (hcap : l.length ≤ cap) :
    Calls Tryd.prog 7 #[.string s, .slice ao l.length cap] w fun e w' => e = .returned (.bool true) ∧ Below w.heap.size w w' := by
  have H := Lib.hid h
  have HC := Lib.hid hc
  have HLS := Lib.hid hls
  clear h hc hls
  by_cases h1 : 20000 < s.size
  · go_enter Tryd.func7, Tryd.ntmps7
    go_wp2_with fail
    refine (alive_walk w H.out).mono ?_
    rintro e w1 ⟨rfl, hb1⟩
    go_wp2_with fail
    go_ret
    exact ⟨rfl, hb1⟩
  by_cases h3 : 60000 < longGo l 0
  · go_enter Tryd.func7, Tryd.ntmps7
    go_wp2_with fail
    refine (alive_walk w H.out).mono ?_
    rintro e w1 ⟨rfl, hb1⟩
    go_wp2_with fail
    refine (long_walk _ _ _ _ (HC.out.below hb1) HLS.out hl).mono ?_
    rintro e w2 ⟨rfl, rfl⟩
    go_wp2_with fail
    go_ret
    exact ⟨rfl, hb1⟩
  obtain ⟨a, c, t, e1, e2, hall, hcase⟩ := whole_one (bl s)
  obtain ⟨u, g, b, e3, e4, hu, hcase2⟩ := whole_two l
  have L1 := Lib.hid (fun w => words_walk s w hs)
  have L2 := Lib.hid (fun w => words_walk (ba u) w (by rw [ba_size]; omega))
  have hain : ∀ x ∈ a, x.length ≤ 140737488351232 := fun x hx => by
    have := line_in a t e2 x hx
    have ht : t.length ≤ (bl s).length := by
      rcases hcase with ⟨_, rfl⟩ | ⟨_, _, rfl⟩
      · exact Nat.le_refl _
      · cases hx
    rw [bl_length] at ht; omega
  have hal : a.length ≤ 140737488351232 := by have := words_len (bl s); rw [e1, bl_length] at this; simp at this; omega
  have hbl : b.length ≤ 140737488351232 := by have := words_len u; rw [e4] at this; simp at this; omega
  have T1 := Lib.hid (fun w ao cap (hc : CellsAt w ao (a.map sv)) (hcap : a.length ≤ cap) => line_walk ao a cap w hc hain hal hcap)
  have T2 := Lib.hid (fun w (hc : CellsAt w ao (l.map sv)) => line_walk ao l cap w hc HLS.out hl hcap)
  have W1 := Lib.hid (fun w x (hx : x ∈ a) => words_walk (ba x) w (by rw [ba_size]; exact hain x hx))
  have G := Lib.hid (And.intro hall (And.intro hal (And.intro hbl hain)))
  unfold WordsRes at L1 L2 W1
  unfold LineRes' at T1 T2
  rw [e1] at L1
  rw [bl_ba, e4] at L2
  rw [e2] at T1
  rw [e3] at T2
  clear e1 e2 e3 e4 hain hbl hall
  have hemp : (ba ([] : List UInt8)).toList.isEmpty = true := by rw [Lib.toList_data]; rfl
  rcases hcase with ⟨rfl, rfl⟩ | ⟨hc0, hc1, rfl⟩
  · rcases hcase2 with ⟨rfl, rfl⟩ | ⟨hg0, hg1, rfl, rfl⟩
    all_goals (
      simp only [ba_bl] at T1
      go_enter Tryd.func7, Tryd.ntmps7
      go_wp2_with fail
      refine (alive_walk w H.out).mono ?_
      rintro e w1 ⟨rfl, hb1⟩
      go_wp2_with fail
      refine (long_walk _ _ _ _ (HC.out.below hb1) HLS.out hl).mono ?_
      rintro e w2 ⟨rfl, rfl⟩
      go_wp2_with fail
      refine (L1.out _).mono ?_
      rintro e w3 ⟨v3, rfl, ho3, hb3⟩
      obtain ⟨a3, c3, rfl, hc3, _⟩ := CellsAt.of_owns ho3
      have hcap3 := own_cap ho3
      have B3 := hb1.trans (hb3.mono hb1.size)
      go_wp2_with fail
      refine (T1.out _ _ _ hc3 hcap3).mono ?_
      rintro e w4 ⟨rfl, hb4⟩
      have B4 := B3.trans (hb4.mono B3.size)
      have hc4 := hc3.below hb4
      have HB4 := Lib.hid B4
      have HC4 := Lib.hid hc4
      clear hc3 hc4 B3 B4 hb4 hb3 hb1 ho3
      go_wp2_with fail )
    all_goals (
      obtain ⟨b3, off3, ha3, hcc3⟩ := HC4.out
      go_loopw [10] (fun i wr => ∃ k : Nat, k ≤ a.length ∧ i = .int .i64 k ∧ Below w4.heap.size w4 wr) (fun i _ => a.length - (intOf i).toNat)
      case atStart => exact ⟨0, Nat.zero_le _, rfl, Below.refl _ _⟩
      case round =>
        obtain ⟨k, hk, rfl, hbel⟩ := hrel
        by_cases hlt : k < a.length
        · (
            obtain rfl := ha3 (by simp; omega)
            obtain ⟨x, r', hd2, hg2, hr2, hmem2⟩ := drop_parts a k hlt
            have hcx0 := hcc3 k (sv x) (by simp [hg2])
            have hcx := cell_below hbel hcx0
            have HW := Lib.hid (W1.out wr x hmem2)
            have HX := Lib.hid (G.out.1 x hmem2)
            rw [bl_ba, HX.out] at HW
            clear hcc3 hd2 hg2 hr2 hmem2 ha3
            go_wp2_with fail
            refine HW.out.mono ?_
            rintro e w5 ⟨v5, rfl, ho5, hb5⟩
            obtain ⟨a5, c5, rfl, ⟨b5, off5, ha5, hcc5⟩, _⟩ := CellsAt.of_owns ho5
            obtain rfl := ha5 (by simp)
            have hc50 := hcc5 0 (sv x) rfl
            simp only [Nat.add_zero] at hc50
            have hcx5 := cell_below (hbel.trans (hb5.mono hbel.size)) hcx0
            have hbel5 := hbel.trans (hb5.mono hbel.size)
            have hi1 : (k : Int) < (a.length : Int) := by omega
            have hi0 : (0 : Int) ≤ (k : Int) := by omega
            clear hcc5 ha5 ho5 hcx hcx0 HW HX
            simp only [List.length_cons, List.length_nil, Nat.zero_add]
            go_wp2_with fail
            go_quiet (fail)
            go_wp2_with fail
            go_roundw
            case rel => exact ⟨k + 1, by omega, by go_num, below_dn hbel5 _⟩
            case measure => simp [intOf]; omega )
        · have B5 := HB4.out.trans (hbel.mono HB4.out.size)
          clear hcc3 ha3
          go_wp2_with fail
          refine (T2.out _ (HC.out.below B5)).mono ?_
          rintro e w5 ⟨rfl, hb5⟩
          have B6 := B5.trans (hb5.mono B5.size)
          go_wp2_with fail
          refine (L2.out _).mono ?_
          rintro e w6 ⟨v6, rfl, ho6, hb6⟩
          obtain ⟨a6, c6, rfl, hc6, _⟩ := CellsAt.of_owns ho6
          have B7 := B6.trans (hb6.mono B6.size)
          go_wp2_with fail
          first
            | (go_ret
               exact ⟨rfl, B7⟩)
            | (refine (rsame_eq a6 ao b b.length rfl c6 cap _ hc6 (HC.out.below B7) G.out.2.2.1).mono ?_
               rintro e w7 ⟨rfl, n7, rfl⟩
               go_wp2_with fail
               go_ret
               exact ⟨rfl, below_dn B7 _⟩) )
  · rcases hcase2 with ⟨rfl, rfl⟩ | ⟨hg0, hg1, rfl, rfl⟩
    all_goals (
      go_enter Tryd.func7, Tryd.ntmps7
      go_wp2_with fail
      refine (alive_walk w H.out).mono ?_
      rintro e w1 ⟨rfl, hb1⟩
      go_wp2_with fail
      refine (long_walk _ _ _ _ (HC.out.below hb1) HLS.out hl).mono ?_
      rintro e w2 ⟨rfl, rfl⟩
      go_wp2_with fail
      refine (L1.out _).mono ?_
      rintro e w3 ⟨v3, rfl, ho3, hb3⟩
      obtain ⟨a3, c3, rfl, hc3, _⟩ := CellsAt.of_owns ho3
      have hcap3 := own_cap ho3
      have B3 := hb1.trans (hb3.mono hb1.size)
      go_wp2_with fail
      refine (T1.out _ _ _ hc3 hcap3).mono ?_
      rintro e w4 ⟨rfl, hb4⟩
      have B4 := B3.trans (hb4.mono B3.size)
      have hc4 := hc3.below hb4
      have HB4 := Lib.hid B4
      have HC4 := Lib.hid hc4
      clear hc3 hc4 B3 B4 hb4 hb3 hb1 ho3
      go_wp2_with fail )
    all_goals (
      obtain ⟨b3, off3, ha3, hcc3⟩ := HC4.out
      go_loopw [10] (fun i wr => ∃ k : Nat, k ≤ 0 ∧ i = .int .i64 k ∧ Below w4.heap.size w4 wr) (fun i _ => 0 - (intOf i).toNat)
      case atStart => exact ⟨0, Nat.zero_le _, rfl, Below.refl _ _⟩
      case round =>
        obtain ⟨k, hk, rfl, hbel⟩ := hrel
        by_cases hlt : k < 0
        · omega
        · have B5 := HB4.out.trans (hbel.mono HB4.out.size)
          clear hcc3 ha3
          go_wp2_with fail
          refine (T2.out _ (HC.out.below B5)).mono ?_
          rintro e w5 ⟨rfl, hb5⟩
          have B6 := B5.trans (hb5.mono B5.size)
          go_wp2_with fail
          refine (L2.out _).mono ?_
          rintro e w6 ⟨v6, rfl, ho6, hb6⟩
          obtain ⟨a6, c6, rfl, hc6, _⟩ := CellsAt.of_owns ho6
          have B7 := B6.trans (hb6.mono B6.size)
          go_wp2_with fail
          first
            | (go_ret
               exact ⟨rfl, B7⟩)
            | (refine (rsame_eq a6 ao b b.length rfl c6 cap _ hc6 (HC.out.below B7) G.out.2.2.1).mono ?_
               rintro e w7 ⟨rfl, n7, rfl⟩
               go_wp2_with fail
               go_ret
               exact ⟨rfl, below_dn B7 _⟩) )
end Go.Proofs.YtefkhjbgkaknmaaDoor
