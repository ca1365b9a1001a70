/- Walks for the law WordsNames: repeated texts, the closures, the plain values. -/
import Derived.Test.YtefkhjbgkaknmaaDoorAlive
import Derived.Test.YtefkhjbgkaknmaaDoorPlC
import Derived.Test.YtefkhjbgkaknmaaDoorPlR
set_option linter.unusedVariables false
namespace Go.Proofs.YtefkhjbgkaknmaaDoor
open Go.RowKit Go.Shelf

theorem rep_snoc (c : UInt8) (k : Nat) : ba (List.replicate k c) ++ ⟨#[c]⟩ = ba (List.replicate (k + 1) c) := by
  apply bl_inj
  rw [bl_append, bl_ba, bl_ba, List.replicate_succ']; rfl
set_option maxHeartbeats 400000 in
theorem repeated_walk (c : UInt8) (n : Nat) (w : World) (hn : n ≤ 1000000) :
    Calls Tryd.prog 24 #[.string ⟨#[c]⟩, .int .i64 n] w fun e w' => e = .returned (.string (ba (List.replicate n c))) ∧ w = w' := by
  go_enter Tryd.func24, Tryd.ntmps24
  go_wp2
  go_loop [5, 6] (fun o i => ∃ k : Nat, k ≤ n ∧ i = .int .i64 k ∧ o = .string (ba (List.replicate k c))) (fun _ i => n - (intOf i).toNat)
  case atStart => exact ⟨0, Nat.zero_le _, rfl, rfl⟩
  case round =>
    obtain ⟨k, hk, rfl, rfl⟩ := hrel
    have hsz : (ba (List.replicate k c)).size = k := by rw [ba_size]; simp
    by_cases hlt : k < n
    · have HS := Lib.hid (rep_snoc c k)
      go_wp2
      go_round
      case rel => exact ⟨k + 1, by omega, by go_num, by rw [← HS.out]⟩
      case measure => simp [intOf]; omega
    · obtain rfl : k = n := by omega
      go_wp2
      go_ret
      exact ⟨rfl, rfl⟩

theorem line_true (s : ByteArray) (want : Int) (hs : s.size ≤ 140737488351232) (h : (wordsL (bl s)).2 = want) (w : World) :
    Calls Tryd.prog 22 #[.string s, .int .i64 want] w fun e w' => e = .returned (.bool true) ∧ Below w.heap.size w w' := by
  have L := Lib.hid (words_walk s w hs)
  unfold WordsRes at L
  rw [h] at L
  clear h
  go_enter Tryd.func22, Tryd.ntmps22
  go_wp2_with fail
  refine L.out.mono ?_
  rintro e w1 ⟨v, rfl, _, hb⟩
  go_wp2_with fail
  go_ret
  exact ⟨by simp, hb⟩
theorem number_true (s : ByteArray) (want : Int) (hs : s.size ≤ 140737488351232) (h : (numL (bl s)).2 = want) (w : World) (hstd : Std w) :
    Calls Tryd.prog 23 #[.string s, .int .i64 want] w fun e w' => e = .returned (.bool true) ∧ Below w.heap.size w w' := by
  have L := Lib.hid (hstd.number s hs)
  unfold NumRes at L
  rw [h] at L
  clear h hstd
  go_enter Tryd.func23, Tryd.ntmps23
  go_wp2_with fail
  refine L.out.mono ?_
  rintro e w1 ⟨rfl, hb⟩
  go_wp2_with fail
  go_ret
  exact ⟨by simp, hb⟩

theorem nam_w1 : (wordsL []).2 = 0 := by decide +kernel
theorem nam_w2 : (wordsL [32]).2 = 11 := by decide +kernel
theorem nam_w3 : (wordsL [97, 32]).2 = 11 := by decide +kernel
theorem nam_w4 : (wordsL [32, 97]).2 = 11 := by decide +kernel
theorem nam_w5 : (wordsL [97, 9, 98]).2 = 11 := by decide +kernel
theorem nam_w6 : (wordsL [126, 32, 33]).2 = 0 := by decide +kernel
theorem nam_w7 : (wordsL (bl (ba (List.replicate 16385 97)))).2 = 4 := by
  rw [bl_ba]; unfold wordsL; rw [if_pos (by rw [List.length_replicate]; decide)]
theorem nam_w8 : (wordsL (bl (ba (List.replicate 16384 97)))).2 = 0 := by
  have hnb : noBlank (List.replicate 16384 (97 : UInt8)) := fun c hc => by rw [(List.mem_replicate.1 hc).2]; decide
  have hw : wordL (List.replicate 16384 (97 : UInt8)) = true := by
    rw [wordL, Bool.and_eq_true, List.length_replicate]
    exact ⟨List.all_eq_true.2 fun c hc => by rw [(List.mem_replicate.1 hc).2]; decide, by decide⟩
  rw [bl_ba]; unfold wordsL
  rw [if_neg (by rw [List.length_replicate]; decide), if_neg (by rw [List.length_replicate]; decide), pt_word _ _ hnb, List.nil_append, if_pos (by rw [List.all_cons, hw]; rfl)]
theorem nam_n1 : (numL []).2 = 11 := by decide +kernel
theorem nam_n2 : (numL [45]).2 = 11 := by decide +kernel
theorem nam_n3 : (numL [45, 48]).2 = 11 := by decide +kernel
theorem nam_n4 : (numL [43, 49]).2 = 11 := by decide +kernel
theorem nam_n5 : (numL [48]).2 = 0 := by decide +kernel
theorem nam_n6 : (numL (bl ⟨#[52, 54, 49, 49, 54, 56, 54, 48, 49, 56, 52, 50, 55, 51, 56, 55, 57, 48, 52]⟩)).2 = 0 := by decide +kernel
theorem nam_n7 : (numL (bl ⟨#[52, 54, 49, 49, 54, 56, 54, 48, 49, 56, 52, 50, 55, 51, 56, 55, 57, 48, 53]⟩)).2 = 30 := by decide +kernel
theorem nam_n8 : (numL (bl ⟨#[45, 52, 54, 49, 49, 54, 56, 54, 48, 49, 56, 52, 50, 55, 51, 56, 55, 57, 48, 52]⟩)).2 = 0 := by decide +kernel
theorem nam_n9 : (numL (bl ⟨#[57, 57, 57, 57, 57, 57, 57, 57, 57, 57, 57, 57, 57, 57, 57, 57, 57, 57, 57, 57]⟩)).2 = 30 := by decide +kernel
theorem nam_n10 : (numL [49, 32]).2 = 11 := by decide +kernel
theorem nam_l1 : (linesL [97]).2 = 11 := by decide +kernel
theorem feeds_rep (n : Nat) : feedsL (List.replicate n 10) = n := by
  unfold feedsL
  rw [List.filter_replicate, if_pos (by decide), List.length_replicate]
theorem ln_rep : ∀ n : Nat, lnGo (List.replicate n 10) [] = List.replicate n []
  | 0 => rfl
  | n + 1 => by rw [List.replicate_succ, lnGo, if_pos (by decide), ln_rep n]; rfl
theorem nam_l2 : (linesL (List.replicate 513 10)).2 = 4 := by
  unfold linesL; rw [if_pos (Or.inr (by rw [feeds_rep]; decide))]
theorem nam_l3 : linesL (List.replicate 512 10) = (List.replicate 512 [], 0) := by
  unfold linesL
  rw [if_neg (by rw [feeds_rep, List.length_replicate]; decide), if_neg (by rw [List.getLast?_replicate, if_neg (by decide)]; rintro ⟨_, h⟩; exact h rfl), ln_rep]
theorem nam_t1 : (textL [[97, 10, 98]]).2 = 11 := by decide +kernel
theorem nam_t2 : (textL (List.replicate 513 [])).2 = 4 := by
  unfold textL; rw [if_pos (by rw [List.length_replicate]; decide)]
theorem nam_b1 : tableL [[], [[120]]] = ([10, 120, 10], 0) := by decide +kernel
theorem nam_b2 : (tableL [[[97, 32, 98]]]).2 = 11 := by decide +kernel
theorem nam_m : lineL [] = ([], 0) := by decide +kernel
set_option maxRecDepth 10000 in
theorem nam_s : Lib.itoa (-9223372036854775808) = [45, 57, 50, 50, 51, 51, 55, 50, 48, 51, 54, 56, 53, 52, 55, 55, 53, 56, 48, 56] := by
  rw [Lib.itoa, if_pos (by decide)]
  show 45 :: Lib.decDigits 9223372036854775808 = _
  simp [Lib.decDigits]
end Go.Proofs.YtefkhjbgkaknmaaDoor
