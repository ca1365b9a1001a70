/- Walks of the package words: is, Text, Line. -/
import Derived.Test.YtefkhjbgkaknmaaDoorR2e
import Derived.Test.YtefkhjbgkaknmaaDoorSh
import Derived.Handy
set_option linter.unusedVariables false
namespace Go.Proofs.YtefkhjbgkaknmaaDoor
open Go.RowKit

theorem not_empty (s : ByteArray) : (!s.toList.isEmpty) = decide (0 < s.size) := by
  rw [Lib.toList_data, ← bl_length]
  show (!(bl s).isEmpty) = _
  cases bl s <;> simp
set_option maxHeartbeats 400000 in
theorem is_walk (s : ByteArray) (w : World) (hs : s.size ≤ 140737488351232) :
    Calls Tryd.prog 32 #[.string s] w fun e w' => e = .returned (.bool (wordL (bl s))) ∧ w = w' := by
  go_enter Tryd.func32, Tryd.ntmps32
  go_wp2
  go_loop [6] (fun i => ∃ (k : Nat), k ≤ s.size ∧ i = .int .i64 k ∧ Hid (wordL (bl s) = (((bl s).drop k).all okB && decide (0 < s.size)))) (fun i => s.size - (intOf i).toNat)
  case atStart => exact ⟨0, Nat.zero_le _, rfl, Lib.hid (wf_start s)⟩
  case round =>
    obtain ⟨k, hk, rfl, hw⟩ := hrel
    by_cases hlt : k < s.size
    · by_cases h1 : s[k].toNat < 33
      · have HW := Lib.hid (wf_bad s k hlt (by omega) hw.out)
        go_wp2
        go_ret
        exact ⟨ret_bool HW.out.symm, rfl⟩
      · by_cases h2 : 126 < s[k].toNat
        · have HW := Lib.hid (wf_bad s k hlt (by omega) hw.out)
          go_wp2
          go_ret
          exact ⟨ret_bool HW.out.symm, rfl⟩
        · have HW := Lib.hid (wf_good s k hlt (by omega) (by omega) hw.out)
          go_wp2
          go_round
          case rel => exact ⟨k + 1, by omega, by go_num, HW⟩
          case measure => simp [intOf]; omega
    · have HW := Lib.hid (wf_end s k hlt hw.out)
      go_wp2
      go_ret
      exact ⟨ret_bool (by rw [HW.out]; exact not_empty s), rfl⟩

/-! ### Text -/
def sumLen : List (List UInt8) → Nat
  | [] => 0
  | s :: r => s.length + sumLen r
theorem jf_len : ∀ l : List (List UInt8), (joinFeed l).length = l.length + sumLen l
  | [] => rfl
  | s :: r => by simp only [joinFeed, sumLen, List.length_append, List.length_cons, jf_len r]; omega
theorem sizeGo_iff : ∀ (l : List (List UInt8)) (n : Nat), n ≤ 16384 → (sizeGo l n = true ↔ n + (joinFeed l).length ≤ 16384)
  | [], n, hn => by simp [sizeGo, joinFeed]; exact hn
  | s :: r, n, hn => by
    rw [sizeGo]
    by_cases hc : 16384 < n + s.length + 1
    · rw [if_pos hc]; simp [joinFeed]; omega
    · rw [if_neg hc, sizeGo_iff r _ (by omega)]; simp [joinFeed]; omega
theorem sum_snoc (l : List (List UInt8)) (k : Nat) (s : List UInt8) (h : l[k]? = some s) : sumLen (l.take (k + 1)) = sumLen (l.take k) + s.length := by
  rw [List.take_add_one, h]
  show sumLen (l.take k ++ [s]) = _
  generalize l.take k = m
  induction m with
  | nil => simp [sumLen]
  | cons a r ih => simp only [List.cons_append, sumLen, ih]; omega
theorem sum_take (l : List (List UInt8)) (k : Nat) : sumLen (l.take k) ≤ sumLen l := by
  have h : ∀ a b : List (List UInt8), sumLen a ≤ sumLen (a ++ b) := by
    intro a b
    induction a with
    | nil => simp [sumLen]
    | cons x r ih => simp only [List.cons_append, sumLen]; omega
  have := h (l.take k) (l.drop k)
  rwa [List.take_append_drop] at this
theorem text_many' (l : List (List UInt8)) (w : World) (h : 16384 < l.length + sumLen l) : TextRes l w (.returned (.tuple #[.string ⟨#[]⟩, .int .i64 4])) w := by
  refine text_many l w (.inr ?_)
  by_cases hs : sizeGo l 0 = true
  · rw [sizeGo_iff l 0 (by omega), jf_len] at hs; omega
  · simpa using hs
theorem size_ok (l : List (List UInt8)) (h : l.length + sumLen l ≤ 16384) : sizeGo l 0 = true := by
  rw [sizeGo_iff l 0 (by omega), jf_len]; omega
def TextRes' (l : List (List UInt8)) (w : World) (e : Ending) (w' : World) : Prop :=
  e = .returned (.tuple #[.string (ba (textL l).1), .int .i64 (textL l).2]) ∧ Below w.heap.size w w'
theorem textRes_below {l : List (List UInt8)} {w w' : World} {e : Ending} (h : TextRes l w e w) (hb : Below w.heap.size w w') : TextRes' l w e w' := ⟨h.1, hb⟩
theorem jf_snoc (l : List (List UInt8)) (k : Nat) (s : List UInt8) (h : l[k]? = some s) : joinFeed (l.take (k + 1)) = joinFeed (l.take k) ++ (s ++ [10]) := by
  rw [List.take_add_one, h]
  show joinFeed (l.take k ++ [s]) = _
  generalize l.take k = m
  induction m with
  | nil => simp [joinFeed]
  | cons a r ih => simp [joinFeed, ih]
theorem jf_take_len (l : List (List UInt8)) (k : Nat) (h : l.length + sumLen l ≤ 16384) : (joinFeed (l.take k)).length ≤ 16384 := by
  rw [jf_len, List.length_take]; have := sum_take l k; omega

set_option maxRecDepth 100000 in
set_option maxHeartbeats 1000000 in
theorem text_walk (ao : Option Addr) (l : List (List UInt8)) (cap : Nat) (w : World) (h : CellsAt w ao (l.map sv)) (hs : ∀ s ∈ l, s.length ≤ 140737488351232) (hl : l.length ≤ 140737488351232) :
    Calls Tryd.prog 18 #[.slice ao l.length cap] w (TextRes' l w) := by
  obtain ⟨b, off, ha, hc⟩ := h
  by_cases hm : 512 < l.length
  · have HR := textRes_below (text_many l w (.inl hm)) (Below.refl _ _)
    clear hc ha
    go_enter Tryd.func18, Tryd.ntmps18
    go_wp2
    go_ret2
    exact HR
  go_enter Tryd.func18, Tryd.ntmps18
  go_wp2
  go_loop [4, 17] (fun n i => ∃ (k m : Nat), k ≤ l.length ∧ i = .int .i64 k ∧ n = .int .i64 m ∧ m ≤ 16384 ∧ Hid (m = l.length + sumLen (l.take k))) (fun _ i => l.length - (intOf i).toNat)
  case atStart => exact ⟨0, l.length, Nat.zero_le _, rfl, rfl, by omega, Lib.hid rfl⟩
  case round =>
    obtain ⟨k, m, hk, rfl, rfl, hm1, hgo⟩ := hrel
    by_cases hlt : k < l.length
    · obtain rfl := ha (by simp; omega)
      obtain ⟨s, r, hd, hg, hr, hmem⟩ := drop_parts l k hlt
      have hck := hc k (sv s) (by simp [hg])
      have hsz : (ba s).size ≤ 140737488351232 := by rw [ba_size]; exact hs s hmem
      have HG := Lib.hid (show m + (ba s).size = l.length + sumLen (l.take (k + 1)) by rw [sum_snoc l k s hg, hgo.out, ba_size]; omega)
      by_cases hbig : 16384 < m + (ba s).size
      · have HR := Lib.hid (textRes_below (text_many' l w (by have := sum_take l (k + 1); have := HG.out; omega)) (Below.refl _ _))
        clear hc hs ha hd hg hr hmem
        go_wp2
        go_ret2
        exact HR.out
      · clear hc hs ha hd hg hr hmem
        go_wp2
        go_round
        case rel => exact ⟨k + 1, m + (ba s).size, by omega, by go_num, by go_num, by omega, HG⟩
        case measure => simp [intOf]; omega
    · have htot : l.length + sumLen l ≤ 16384 := by have := hgo.out; rw [List.take_of_length_le (by omega)] at this; omega
      have hsz := size_ok l htot
      have HF := Lib.hid (text_form l w hm hsz)
      have HO := Lib.hid (fun o => text_ok l w o hm hsz)
      have HT := Lib.hid htot
      clear hsz hgo htot
      go_wp2
      go_loopw [30] (fun i wr => ∃ (j : Nat), j ≤ l.length ∧ i = .int .i64 j ∧ Bld wr w.heap.size w.heap.size (joinFeed (l.take j)) ∧ Below w.heap.size w wr ∧ Hid (l.any hasFeed = (l.drop j).any hasFeed)) (fun i _ => l.length - (intOf i).toNat)
      case atStart => exact ⟨0, Nat.zero_le _, rfl, bld_new w _ (Nat.le_refl _), (Below.refl _ w).alloc (Nat.le_refl _) _, Lib.hid rfl⟩
      case round =>
        obtain ⟨j, hj, rfl, hbld, hbel, hany⟩ := hrel
        by_cases hlt2 : j < l.length
        · obtain rfl := ha (by simp; omega)
          obtain ⟨s, r, hd, hg, hr, hmem⟩ := drop_parts l j hlt2
          have hck := cell_below hbel (hc j (sv s) (by simp [hg]))
          have hsz : (ba s).size ≤ 140737488351232 := by rw [ba_size]; exact hs s hmem
          have HS := Lib.hid (show joinFeed (l.take (j + 1)) = joinFeed (l.take j) ++ bl (ba s ++ ⟨#[10]⟩) by
            rw [jf_snoc l j s hg, bl_append, bl_ba]; rfl)
          have hln : (joinFeed (l.take j)).length + (ba s ++ ⟨#[10]⟩).size ≤ 140737488355328 := by
            have h1 := jf_take_len l (j + 1) HT.out
            rw [HS.out, List.length_append, bl_length] at h1; omega
          by_cases hf : hasFeed s = true
          · have HR := Lib.hid (fun w' => textRes_below (w' := w') (HF.out (any_hit l j s r hd hf hany.out)))
            have HC := Lib.hid (show hasFeed (bl (ba s)) = true by rw [bl_ba]; exact hf)
            clear hc hs ha hd hg hr hmem hany hf hln
            go_wp2_with (go_at_call 47; refine (contains_yes _ _ HC.out).mono ?_; rintro e w' ⟨rfl, rfl⟩)
            go_ret2
            exact HR.out _ hbel
          · have hf' : hasFeed s = false := by simpa using hf
            have HA := Lib.hid (any_step l j s r hd hr hf' hany.out)
            have HC := Lib.hid (show hasFeed (bl (ba s)) = false by rw [bl_ba]; exact hf')
            clear hc hs ha hd hg hr hmem hany hf hf'
            go_wp2_with (first | (go_at_call 47; refine (contains_no _ _ HC.out).mono ?_; rintro e w' ⟨rfl, rfl⟩) | (go_at_call 40; refine (wstr_walk _ _ _ _ _ hbld hln hbel.size).mono ?_; rintro e w' ⟨rfl, hbld', hb'⟩))
            go_roundw
            case rel => exact ⟨j + 1, by omega, by go_num, by rw [HS.out]; exact hbld', hbel.trans hb', HA⟩
            case measure => simp [intOf]; omega
        · have HR := Lib.hid (HO.out (ba (joinFeed l)) (any_end l j hlt2 hany.out) (by rw [bl_ba]))
          rw [List.take_of_length_le (by omega)] at hbld
          go_wp2_with (go_at_call 42; refine (bstring_walk _ _ _ _ hbld hbel.size).mono ?_; rintro e w' ⟨rfl, hb'⟩)
          go_ret2
          exact textRes_below HR.out (hbel.trans hb')
end Go.Proofs.YtefkhjbgkaknmaaDoor
