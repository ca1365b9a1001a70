/- Walks of the reference of layer 2: Words, Line. -/
import Derived.Test.YtefkhjbgkaknmaaDoorR2c
set_option linter.unusedVariables false
namespace Go.Proofs.YtefkhjbgkaknmaaDoor
open Go.RowKit

def PtInv (s : ByteArray) (k f0 : Nat) (acc : List (List UInt8)) : Prop :=
  acc.all wordL = true ∧ acc.length ≤ k ∧ (k ≤ s.size → f0 ≤ k ∧ ptGo (bl s) [] = acc ++ ptGo ((bl s).drop k) (bl (s.extract f0 k))) ∧ (s.size < k → ptGo (bl s) [] = acc)
theorem pt_start (s : ByteArray) : PtInv s 0 0 [] := by
  refine ⟨rfl, Nat.le_refl _, fun _ => ⟨Nat.le_refl _, ?_⟩, fun h => by omega⟩
  rw [bl_extract]; simp
theorem extract_snoc (s : ByteArray) (f k : Nat) (hk : k < s.size) (hf : f ≤ k) : bl (s.extract f (k + 1)) = bl (s.extract f k) ++ [s[k]] := by
  rw [bl_extract, bl_extract, show k + 1 - f = k - f + 1 by omega, List.take_add_one, List.getElem?_drop, show f + (k - f) = k by omega, bl_get s k hk]; rfl
theorem pt_no (s : ByteArray) (k f0 : Nat) (acc : List (List UInt8)) (hk : k < s.size) (hb : s[k].toNat ≠ 32) (h : PtInv s k f0 acc) : PtInv s (k + 1) f0 acc := by
  obtain ⟨h1, h2, h3, h4⟩ := h
  obtain ⟨h5, h6⟩ := h3 (by omega)
  refine ⟨h1, by omega, fun _ => ⟨by omega, ?_⟩, fun h => by omega⟩
  rw [h6, bl_drop_cons s k hk, ptGo, if_neg hb, extract_snoc s f0 k hk h5]
theorem pt_yes (s : ByteArray) (k f0 : Nat) (acc : List (List UInt8)) (hk : k < s.size) (hb : s[k].toNat = 32) (hw : wordL (bl (s.extract f0 k)) = true) (h : PtInv s k f0 acc) : PtInv s (k + 1) (k + 1) (acc ++ [bl (s.extract f0 k)]) := by
  obtain ⟨h1, h2, h3, h4⟩ := h
  obtain ⟨h5, h6⟩ := h3 (by omega)
  refine ⟨by rw [List.all_append, h1]; simp [hw], by rw [List.length_append]; simp; omega, fun _ => ⟨by omega, ?_⟩, fun h => by omega⟩
  rw [h6, bl_drop_cons s k hk, ptGo, if_pos hb, bl_extract s (k + 1) (k + 1)]; simp
theorem pt_last (s : ByteArray) (k f0 : Nat) (acc : List (List UInt8)) (hk : k = s.size) (hw : wordL (bl (s.extract f0 k)) = true) (h : PtInv s k f0 acc) : PtInv s (k + 1) (k + 1) (acc ++ [bl (s.extract f0 k)]) := by
  obtain ⟨h1, h2, h3, h4⟩ := h
  obtain ⟨h5, h6⟩ := h3 (by omega)
  refine ⟨by rw [List.all_append, h1]; simp [hw], by rw [List.length_append]; simp; omega, fun h => by omega, fun _ => ?_⟩
  rw [h6, bl_drop_end s k (by omega), ptGo]
theorem pt_bad (s : ByteArray) (k f0 : Nat) (acc : List (List UInt8)) (hk : k ≤ s.size) (hb : ∀ h : k < s.size, s[k].toNat = 32) (hw : wordL (bl (s.extract f0 k)) = false) (h : PtInv s k f0 acc) : (ptGo (bl s) []).all wordL = false := by
  obtain ⟨h1, h2, h3, h4⟩ := h
  obtain ⟨h5, h6⟩ := h3 hk
  rw [h6, List.all_append]
  by_cases hlt : k < s.size
  · rw [bl_drop_cons s k hlt, ptGo, if_pos (hb hlt), List.all_cons, hw]; simp
  · rw [bl_drop_end s k hlt, ptGo, List.all_cons, hw]; simp
def WordsRes (base : Nat) (s : List UInt8) (w : World) (e : Ending) (w' : World) : Prop :=
  ∃ v, e = .returned (.tuple #[v, .int .i64 (wordsL s).2]) ∧ OwnStrs w' base v (wordsL s).1 ∧ Below base w w'
theorem words_many' (s : ByteArray) (w w' : World) (h : 16384 < s.size) (hb : Below w.heap.size w w') : WordsRes w.heap.size (bl s) w (.returned (.tuple #[.slice none 0 0, .int .i64 4])) w' := by
  have e : wordsL (bl s) = ([], 4) := by unfold wordsL; rw [if_pos (by rw [bl_length]; exact h)]
  exact ⟨_, by rw [e], by rw [e]; exact World.ownsRow_nil _ _ _ _, hb⟩
theorem words_many (s : ByteArray) (w : World) (h : 16384 < s.size) : WordsRes w.heap.size (bl s) w (.returned (.tuple #[.slice none 0 0, .int .i64 4])) w := by
  have e : wordsL (bl s) = ([], 4) := by unfold wordsL; rw [if_pos (by rw [bl_length]; exact h)]
  exact ⟨_, by rw [e], by rw [e]; exact World.ownsRow_nil _ _ _ _, Below.refl _ _⟩
theorem words_none (s : ByteArray) (w : World) (h : s.size = 0) : WordsRes w.heap.size (bl s) w (.returned (.tuple #[.slice none 0 0, .int .i64 0])) w := by
  have e : wordsL (bl s) = ([], 0) := by unfold wordsL; rw [if_neg (by rw [bl_length]; omega), if_pos (by rw [bl_length]; exact h)]
  exact ⟨_, by rw [e], by rw [e]; exact World.ownsRow_nil _ _ _ _, Below.refl _ _⟩
theorem words_form (s : ByteArray) (w w' : World) (h0 : ¬ 16384 < s.size) (h1 : 0 < s.size) (h : (ptGo (bl s) []).all wordL = false) (hb : Below w.heap.size w w') : WordsRes w.heap.size (bl s) w (.returned (.tuple #[.slice none 0 0, .int .i64 11])) w' := by
  have e : wordsL (bl s) = ([], 11) := by unfold wordsL; rw [if_neg (by rw [bl_length]; omega), if_neg (by rw [bl_length]; omega), if_neg (by rw [h]; simp)]
  exact ⟨_, by rw [e], by rw [e]; exact World.ownsRow_nil _ _ _ _, hb⟩
theorem words_ok (s : ByteArray) (w w' : World) (v : Value) (k f0 : Nat) (acc : List (List UInt8)) (h0 : ¬ 16384 < s.size) (h1 : 0 < s.size) (hk : s.size < k) (h : PtInv s k f0 acc) (ho : OwnStrs w' w.heap.size v acc) (hb : Below w.heap.size w w') : WordsRes w.heap.size (bl s) w (.returned (.tuple #[v, .int .i64 0])) w' := by
  have hp := h.2.2.2 hk
  have e : wordsL (bl s) = (acc, 0) := by unfold wordsL; rw [if_neg (by rw [bl_length]; omega), if_neg (by rw [bl_length]; omega), hp, if_pos h.1]
  exact ⟨_, by rw [e], by rw [e]; exact ho, hb⟩
theorem ext_size (s : ByteArray) (a b : Nat) : (s.extract a b).size ≤ s.size := by
  rw [← bl_length, ← bl_length, bl_extract, List.length_take, List.length_drop]; omega

end Go.Proofs.YtefkhjbgkaknmaaDoor
