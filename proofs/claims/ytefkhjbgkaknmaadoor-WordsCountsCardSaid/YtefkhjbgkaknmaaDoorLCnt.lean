/- The law WordsCounts, walked out of its callees' contracts. -/
import Derived.Test.YtefkhjbgkaknmaaDoorAlive
import Derived.Test.YtefkhjbgkaknmaaDoorPlC
set_option linter.unusedVariables false
namespace Go.Proofs.YtefkhjbgkaknmaaDoor
open Go.RowKit Go.Shelf

theorem num_codes (l : List UInt8) : ((numL l).1 = 0 ∧ ((numL l).2 = 11 ∨ (numL l).2 = 30)) ∨ (numL l).2 = 0 := by
  unfold numL
  by_cases h1 : formL l = false
  · rw [if_pos h1]; simp
  · rw [if_neg h1]
    by_cases h2 : 4611686018427387904 < decVal 0 (magL l)
    · rw [if_pos h2]; simp
    · rw [if_neg h2]; simp
theorem itoa_size (n : Int) (h0 : -9223372036854775808 ≤ n) (h1 : n ≤ 9223372036854775807) : (ba (Lib.itoa n)).size ≤ 140737488351232 := by
  have hp : (10 : Nat) ^ 20 = 100000000000000000000 := by decide
  have := dec_len 19 n.natAbs (by rw [hp]; omega)
  rw [ba_size, Lib.itoa]
  by_cases hn : n < 0
  · rw [if_pos hn]; simp; omega
  · rw [if_neg hn, show n.toNat = n.natAbs by omega]; omega

set_option maxRecDepth 100000 in
set_option maxHeartbeats 4000000 in
theorem counts_law (n : Int) (s : ByteArray) (w : World) (h : Std w) (hs : s.size ≤ 140737488351232) (h0 : -9223372036854775808 ≤ n) (h1 : n ≤ 9223372036854775807) :
    Calls Tryd.prog 4 #[.int .i64 n, .string s] w fun e w' => e = .returned (.bool true) ∧ Below w.heap.size w w' := by
  have H := Lib.hid h
  by_cases hb : 20000 < s.size
  · clear h
    go_enter Tryd.func4, Tryd.ntmps4
    go_wp2_with fail
    refine (alive_walk w H.out).mono ?_
    rintro e w1 ⟨rfl, hb1⟩
    go_wp2_with fail
    go_ret
    exact ⟨rfl, hb1⟩
  have HS := Lib.hid (fun w (h : Std w) => show_walk n h0 h1 w h.pow)
  have HN := Lib.hid (fun w (h : Std w) => h.number (ba (Lib.itoa n)) (itoa_size n h0 h1))
  have HM := Lib.hid (fun w (h : Std w) => h.number s hs)
  unfold NumRes at HN HM
  rw [bl_ba] at HN
  generalize ba (Lib.itoa n) = t at HS HN
  clear h
  have hfin : ∃ (k f : Int), numL (bl s) = (k, f) ∧ ((k = 0 ∧ (f == 0) = false ∧ (f = 11 ∨ f = 30)) ∨ (f = 0 ∧ ∀ w, Std w → Calls Tryd.prog 11 #[.int .i64 k] w fun e w' => e = .returned (.string s) ∧ Below w.heap.size w w')) := by
    rcases num_codes (bl s) with ⟨hk, hf⟩ | hf
    · exact ⟨(numL (bl s)).1, (numL (bl s)).2, rfl, .inl ⟨hk, by rcases hf with hf | hf <;> rw [hf] <;> rfl, hf⟩⟩
    · obtain ⟨hb1, hb2, hb3⟩ := num_back (bl s) hf
      refine ⟨(numL (bl s)).1, (numL (bl s)).2, rfl, .inr ⟨hf, fun w h => ?_⟩⟩
      have := show_walk (numL (bl s)).1 (by omega) (by omega) w h.pow
      rwa [hb1, ba_bl] at this
  obtain ⟨k, f, hkf, hend⟩ := hfin
  rw [hkf] at HM
  clear hkf
  by_cases hsm : -4611686018427387904 ≤ n ∧ n ≤ 4611686018427387904
  · obtain ⟨s1, s2⟩ := hsm
    rw [num_itoa_small n s1 s2] at HN
    rcases hend with ⟨rfl, hf0, rfl | rfl⟩ | ⟨rfl, hsh⟩
    all_goals (
      go_enter Tryd.func4, Tryd.ntmps4
      go_wp2_with fail
      refine (alive_walk w H.out).mono ?_
      rintro e w1 ⟨rfl, hb1⟩
      go_wp2_with fail
      refine (HS.out _ (H.out.below hb1)).mono ?_
      rintro e w2 ⟨rfl, hb2⟩
      have B2 := hb1.trans (hb2.mono hb1.size)
      go_wp2_with fail
      refine (HN.out _ (H.out.below B2)).mono ?_
      rintro e w3 ⟨rfl, hb3⟩
      have B3 := B2.trans (hb3.mono B2.size)
      go_wp2_with fail
      refine (HM.out _ (H.out.below B3)).mono ?_
      rintro e w4 ⟨rfl, hb4⟩
      have B4 := B3.trans (hb4.mono B3.size)
      go_wp2_with fail )
    · go_ret
      exact ⟨rfl, B4⟩
    · go_ret
      exact ⟨rfl, B4⟩
    · refine (hsh _ (H.out.below B4)).mono ?_
      rintro e w5 ⟨rfl, hb5⟩
      go_wp2_with fail
      go_ret
      exact ⟨rfl, B4.trans (hb5.mono B4.size)⟩
  · rw [num_itoa_great n hsm] at HN
    have hgr : n < -4611686018427387904 ∨ 4611686018427387904 < n := by omega
    rcases hgr with hgr | hgr
    all_goals rcases hend with ⟨rfl, hf0, rfl | rfl⟩ | ⟨rfl, hsh⟩
    all_goals (
      go_enter Tryd.func4, Tryd.ntmps4
      go_wp2_with fail
      refine (alive_walk w H.out).mono ?_
      rintro e w1 ⟨rfl, hb1⟩
      go_wp2_with fail
      refine (HS.out _ (H.out.below hb1)).mono ?_
      rintro e w2 ⟨rfl, hb2⟩
      have B2 := hb1.trans (hb2.mono hb1.size)
      go_wp2_with fail
      refine (HN.out _ (H.out.below B2)).mono ?_
      rintro e w3 ⟨rfl, hb3⟩
      have B3 := B2.trans (hb3.mono B2.size)
      go_wp2_with fail
      refine (HM.out _ (H.out.below B3)).mono ?_
      rintro e w4 ⟨rfl, hb4⟩
      have B4 := B3.trans (hb4.mono B3.size)
      go_wp2_with fail )
    all_goals first
      | (go_ret
         exact ⟨rfl, B4⟩)
      | (refine (hsh _ (H.out.below B4)).mono ?_
         rintro e w5 ⟨rfl, hb5⟩
         go_wp2_with fail
         go_ret
         exact ⟨rfl, B4.trans (hb5.mono B4.size)⟩)
end Go.Proofs.YtefkhjbgkaknmaaDoor
