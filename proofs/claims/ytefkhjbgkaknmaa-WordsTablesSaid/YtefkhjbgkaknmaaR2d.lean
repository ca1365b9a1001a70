/- Walks of the reference of layer 2: Words, Line. -/
import Derived.Test.YtefkhjbgkaknmaaR2c
set_option linter.unusedVariables false
namespace Go.Proofs.Ytefkhjbgkaknmaa
open Go.RowKit

def PtInv (s : ByteArray) (k f0 : Nat) (acc : List (List UInt8)) : Prop :=
  acc.all wordL = true ∧ acc.length ≤ k ∧ (k ≤ s.size → f0 ≤ k ∧ ptGo (bl s) [] = acc ++ ptGo ((bl s).drop k) (bl (s.extract f0 k))) ∧ (s.size < k → ptGo (bl s) [] = acc)
theorem pt_start (s : ByteArray) : PtInv s 0 0 [] := by
  refine ⟨rfl, Nat.le_refl _, fun _ => ⟨Nat.le_refl _, ?_⟩, fun h => by omega⟩
  rw [bl_extract]; simp
theorem extract_snoc (s : ByteArray) (f k : Nat) (hk : k < s.size) (hf : f ≤ k) : bl (s.extract f (k + 1)) = bl (s.extract f k) ++ [s[k]] := by
  rw [bl_extract, bl_extract, show k + 1 - f = k - f + 1 by omega, List.take_add_one, List.getElem?_drop, show f + (k - f) = k by omega, bl_get s k hk]; rfl
theorem pt_no (s : ByteArray) (k f0 : Nat) (acc : List (List UInt8)) (hk : k < s.size) (hb : s[k].toNat ≠ 32) (h : PtInv s k f0 acc) : PtInv s (k + 1) f0 acc := by
  obtain ⟨h1, h2, h3, h4⟩ := h
  obtain ⟨h5, h6⟩ := h3 (by omega)
  refine ⟨h1, by omega, fun _ => ⟨by omega, ?_⟩, fun h => by omega⟩
  rw [h6, bl_drop_cons s k hk, ptGo, if_neg hb, extract_snoc s f0 k hk h5]
theorem pt_yes (s : ByteArray) (k f0 : Nat) (acc : List (List UInt8)) (hk : k < s.size) (hb : s[k].toNat = 32) (hw : wordL (bl (s.extract f0 k)) = true) (h : PtInv s k f0 acc) : PtInv s (k + 1) (k + 1) (acc ++ [bl (s.extract f0 k)]) := by
  obtain ⟨h1, h2, h3, h4⟩ := h
  obtain ⟨h5, h6⟩ := h3 (by omega)
  refine ⟨by rw [List.all_append, h1]; simp [hw], by rw [List.length_append]; simp; omega, fun _ => ⟨by omega, ?_⟩, fun h => by omega⟩
  rw [h6, bl_drop_cons s k hk, ptGo, if_pos hb, bl_extract s (k + 1) (k + 1)]; simp
theorem pt_last (s : ByteArray) (k f0 : Nat) (acc : List (List UInt8)) (hk : k = s.size) (hw : wordL (bl (s.extract f0 k)) = true) (h : PtInv s k f0 acc) : PtInv s (k + 1) (k + 1) (acc ++ [bl (s.extract f0 k)]) := by
  obtain ⟨h1, h2, h3, h4⟩ := h
  obtain ⟨h5, h6⟩ := h3 (by omega)
  refine ⟨by rw [List.all_append, h1]; simp [hw], by rw [List.length_append]; simp; omega, fun h => by omega, fun _ => ?_⟩
  rw [h6, bl_drop_end s k (by omega), ptGo]
theorem pt_bad (s : ByteArray) (k f0 : Nat) (acc : List (List UInt8)) (hk : k ≤ s.size) (hb : ∀ h : k < s.size, s[k].toNat = 32) (hw : wordL (bl (s.extract f0 k)) = false) (h : PtInv s k f0 acc) : (ptGo (bl s) []).all wordL = false := by
  obtain ⟨h1, h2, h3, h4⟩ := h
  obtain ⟨h5, h6⟩ := h3 hk
  rw [h6, List.all_append]
  by_cases hlt : k < s.size
  · rw [bl_drop_cons s k hlt, ptGo, if_pos (hb hlt), List.all_cons, hw]; simp
  · rw [bl_drop_end s k hlt, ptGo, List.all_cons, hw]; simp
def WordsRes (base : Nat) (s : List UInt8) (w : World) (e : Ending) (w' : World) : Prop :=
  ∃ v, e = .returned (.tuple #[v, .int .i64 (wordsL s).2]) ∧ OwnStrs w' base v (wordsL s).1 ∧ Below base w w'
theorem words_many' (s : ByteArray) (w w' : World) (h : 16384 < s.size) (hb : Below w.heap.size w w') : WordsRes w.heap.size (bl s) w (.returned (.tuple #[.slice none 0 0, .int .i64 4])) w' := by
  have e : wordsL (bl s) = ([], 4) := by unfold wordsL; rw [if_pos (by rw [bl_length]; exact h)]
  exact ⟨_, by rw [e], by rw [e]; exact World.ownsRow_nil _ _ _ _, hb⟩
theorem words_many (s : ByteArray) (w : World) (h : 16384 < s.size) : WordsRes w.heap.size (bl s) w (.returned (.tuple #[.slice none 0 0, .int .i64 4])) w := by
  have e : wordsL (bl s) = ([], 4) := by unfold wordsL; rw [if_pos (by rw [bl_length]; exact h)]
  exact ⟨_, by rw [e], by rw [e]; exact World.ownsRow_nil _ _ _ _, Below.refl _ _⟩
theorem words_none (s : ByteArray) (w : World) (h : s.size = 0) : WordsRes w.heap.size (bl s) w (.returned (.tuple #[.slice none 0 0, .int .i64 0])) w := by
  have e : wordsL (bl s) = ([], 0) := by unfold wordsL; rw [if_neg (by rw [bl_length]; omega), if_pos (by rw [bl_length]; exact h)]
  exact ⟨_, by rw [e], by rw [e]; exact World.ownsRow_nil _ _ _ _, Below.refl _ _⟩
theorem words_form (s : ByteArray) (w w' : World) (h0 : ¬ 16384 < s.size) (h1 : 0 < s.size) (h : (ptGo (bl s) []).all wordL = false) (hb : Below w.heap.size w w') : WordsRes w.heap.size (bl s) w (.returned (.tuple #[.slice none 0 0, .int .i64 11])) w' := by
  have e : wordsL (bl s) = ([], 11) := by unfold wordsL; rw [if_neg (by rw [bl_length]; omega), if_neg (by rw [bl_length]; omega), if_neg (by rw [h]; simp)]
  exact ⟨_, by rw [e], by rw [e]; exact World.ownsRow_nil _ _ _ _, hb⟩
theorem words_ok (s : ByteArray) (w w' : World) (v : Value) (k f0 : Nat) (acc : List (List UInt8)) (h0 : ¬ 16384 < s.size) (h1 : 0 < s.size) (hk : s.size < k) (h : PtInv s k f0 acc) (ho : OwnStrs w' w.heap.size v acc) (hb : Below w.heap.size w w') : WordsRes w.heap.size (bl s) w (.returned (.tuple #[v, .int .i64 0])) w' := by
  have hp := h.2.2.2 hk
  have e : wordsL (bl s) = (acc, 0) := by unfold wordsL; rw [if_neg (by rw [bl_length]; omega), if_neg (by rw [bl_length]; omega), hp, if_pos h.1]
  exact ⟨_, by rw [e], by rw [e]; exact ho, hb⟩
theorem rword_yes (s : ByteArray) (w : World) (hs : s.size ≤ 140737488351232) (h : wordL (bl s) = true) :
    Calls Try.prog 31 #[.string s] w fun e w' => e = .returned (.bool true) ∧ w = w' := by rw [← h]; exact rword_walk s w hs
theorem rword_no (s : ByteArray) (w : World) (hs : s.size ≤ 140737488351232) (h : wordL (bl s) = false) :
    Calls Try.prog 31 #[.string s] w fun e w' => e = .returned (.bool false) ∧ w = w' := by rw [← h]; exact rword_walk s w hs
theorem ext_size (s : ByteArray) (a b : Nat) : (s.extract a b).size ≤ s.size := by
  rw [← bl_length, ← bl_length, bl_extract, List.length_take, List.length_drop]; omega

set_option maxRecDepth 100000 in
set_option maxHeartbeats 1000000 in
theorem rwords_walk (s : ByteArray) (w : World) (hs : s.size ≤ 140737488351232) :
    Calls Try.prog 16 #[.string s] w (WordsRes w.heap.size (bl s) w) := by
  obtain ⟨i0, hi, hz0, hz1, hz2⟩ := info_parts infoStr
  by_cases hm : 16384 < s.size
  · have HR := words_many s w hm
    go_enter Try.func16, Try.ntmps16
    go_wp2
    go_ret2
    exact HR
  by_cases h0 : s.size = 0
  · have HR := words_none s w h0
    have hz : ((s.size : Int) == 0) = true := by rw [h0]; rfl
    clear h0
    go_enter Try.func16, Try.ntmps16
    go_wp2
    go_ret2
    exact HR
  have hz : ((s.size : Int) == 0) = false := beq_eq_false_iff_ne.2 (by omega)
  go_enter Try.func16, Try.ntmps16
  go_wp2
  clear hz
  go_loopw [4, 5, 6] (fun v f i wr => ∃ (k f0 : Nat) (acc : List (List UInt8)), k ≤ s.size + 1 ∧ i = .int .i64 k ∧ f = .int .i64 f0 ∧ OwnStrs wr w.heap.size v acc ∧ Below w.heap.size w wr ∧ Hid (PtInv s k f0 acc)) (fun _ _ i _ => s.size + 1 - (intOf i).toNat)
  case atStart => exact ⟨0, 0, [], Nat.zero_le _, rfl, rfl, World.ownsRow_nil _ _ _ _, Below.refl _ _, pt_start s⟩
  case round =>
    obtain ⟨j, f0, acc, hj, rfl, rfl, hown, hbel, hpt⟩ := hrel
    by_cases hgt : s.size < j
    · have HE := Lib.hid fun v => words_ok s w wr v j f0 acc hm (by omega) hgt hpt.out
      go_wp2
      go_ret2
      exact HE.out _ hown hbel
    have hfj := (hpt.out.2.2.1 (by omega)).1
    have hlen := hpt.out.2.1
    have hxs : (s.extract f0 j).size ≤ 140737488351232 := Nat.le_trans (ext_size s f0 j) hs
    by_cases hlt : j < s.size
    · have hne : ((j : Int) == (s.size : Int)) = false := by simp; omega
      by_cases hb : s[j].toNat = 32
      · have hbb := byte_t (m := 32) 32 rfl hlt hb
        by_cases hw : wordL (bl (s.extract f0 j)) = true
        · have HN := Lib.hid (pt_yes s j f0 acc hlt hb hw hpt.out)
          have HW := Lib.hid hw
          clear hb hw
          go_wp2_with (first | (go_at_call 31; refine (rword_yes _ _ hxs HW.out).mono ?_; rintro e w' ⟨rfl, rfl⟩) | (at_builtin; go_must (refine wpList_append_own _ rfl _ _ 24 rfl w.heap.size 9 i0 (.string ⟨#[]⟩) 1 16 Try.underlying24 hi hz0 hz1 hz2 rfl (by decide) _ _ _ rfl (hown.alloc _) ⟨wr.heap.size, 0, none⟩ 1 1 [.string (s.extract f0 j)] rfl rfl (cell_one_new _ _ _) (by simp [Value.oneCell']) (by unfold maxLen; omega) (by omega) (by have := hbel.size; simp; omega) ?_); intro v' w1 hown' hgrow _))
          have hb1 := below_append hown hbel hgrow
          have ho1 := own_snoc hown'
          clear hown hown' hgrow hbel
          go_wp2
          go_roundw
          case rel => exact ⟨j + 1, j + 1, _, by omega, by go_num, by go_num, ho1, hb1, HN⟩
          case measure => simp [intOf]; omega
        · have hw' : wordL (bl (s.extract f0 j)) = false := by simpa using hw
          have HE := Lib.hid (words_form s w wr hm (by omega) (pt_bad s j f0 acc (by omega) (fun _ => hb) hw' hpt.out) hbel)
          have HW := Lib.hid hw'
          clear hb hw hw'
          go_wp2_with (go_at_call 31; refine (rword_no _ _ hxs HW.out).mono ?_; rintro e w' ⟨rfl, rfl⟩)
          go_ret2
          exact HE.out
      · have HN := Lib.hid (pt_no s j f0 acc hlt hb hpt.out)
        have hbb := byte_f (m := 32) 32 rfl hlt hb
        clear hb
        go_wp2
        go_roundw
        case rel => exact ⟨j + 1, f0, acc, by omega, by go_num, rfl, hown, hbel, HN⟩
        case measure => simp [intOf]; omega
    · have hne : ((j : Int) == (s.size : Int)) = true := by simp; omega
      by_cases hw : wordL (bl (s.extract f0 j)) = true
      · have HN := Lib.hid (pt_last s j f0 acc (by omega) hw hpt.out)
        have HW := Lib.hid hw
        clear hw
        go_wp2_with (first | (go_at_call 31; refine (rword_yes _ _ hxs HW.out).mono ?_; rintro e w' ⟨rfl, rfl⟩) | (at_builtin; go_must (refine wpList_append_own _ rfl _ _ 24 rfl w.heap.size 9 i0 (.string ⟨#[]⟩) 1 16 Try.underlying24 hi hz0 hz1 hz2 rfl (by decide) _ _ _ rfl (hown.alloc _) ⟨wr.heap.size, 0, none⟩ 1 1 [.string (s.extract f0 j)] rfl rfl (cell_one_new _ _ _) (by simp [Value.oneCell']) (by unfold maxLen; omega) (by omega) (by have := hbel.size; simp; omega) ?_); intro v' w1 hown' hgrow _))
        have hb1 := below_append hown hbel hgrow
        have ho1 := own_snoc hown'
        clear hown hown' hgrow hbel
        go_wp2
        go_roundw
        case rel => exact ⟨j + 1, j + 1, _, by omega, by go_num, by go_num, ho1, hb1, HN⟩
        case measure => simp [intOf]; omega
      · have hw' : wordL (bl (s.extract f0 j)) = false := by simpa using hw
        have HE := Lib.hid (words_form s w wr hm (by omega) (pt_bad s j f0 acc (by omega) (fun h => absurd h hlt) hw' hpt.out) hbel)
        have HW := Lib.hid hw'
        clear hw hw'
        go_wp2_with (go_at_call 31; refine (rword_no _ _ hxs HW.out).mono ?_; rintro e w' ⟨rfl, rfl⟩)
        go_ret2
        exact HE.out
end Go.Proofs.Ytefkhjbgkaknmaa
