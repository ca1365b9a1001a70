/- Walks of the reference of layer 2: Text. -/
import Derived.Test.YtefkhjbgkaknmaaDoorR2b
set_option linter.unusedVariables false
namespace Go.Proofs.YtefkhjbgkaknmaaDoor
open Go.RowKit

theorem ba_size (s : List UInt8) : (ba s).size = s.length := by rw [← bl_length, bl_ba]
theorem size_of_go : ∀ (l : List (List UInt8)) (n : Nat), sizeGo l n = true → n ≤ 16384 → n + (joinFeed l).length ≤ 16384
  | [], n, _, hn => by simp [joinFeed]; exact hn
  | s :: r, n, h, _ => by
    rw [sizeGo] at h
    by_cases hc : 16384 < n + s.length + 1
    · rw [if_pos hc] at h; cases h
    · rw [if_neg hc] at h
      have := size_of_go r (n + s.length + 1) h (by omega)
      simp [joinFeed]; omega
theorem join_step (o : ByteArray) (l : List (List UInt8)) (k : Nat) (s : List UInt8) (r : List (List UInt8)) (h : l.drop k = s :: r) (hr : l.drop (k + 1) = r) (hj : joinFeed l = bl o ++ joinFeed (l.drop k)) :
    joinFeed l = bl (o ++ ba s ++ ⟨#[10]⟩) ++ joinFeed (l.drop (k + 1)) := by
  rw [hj, h, hr, joinFeed, bl_append, bl_append, bl_ba]
  have : bl ⟨#[10]⟩ = [10] := rfl
  rw [this]; simp
theorem join_end (o : ByteArray) (l : List (List UInt8)) (k : Nat) (h : ¬ k < l.length) (hj : joinFeed l = bl o ++ joinFeed (l.drop k)) : joinFeed l = bl o := by
  rw [hj, List.drop_of_length_le (by omega), joinFeed, List.append_nil]
theorem join_size (o : ByteArray) (l r : List (List UInt8)) (hj : joinFeed l = bl o ++ joinFeed r) (h : (joinFeed l).length ≤ 16384) : o.size ≤ 16384 := by
  rw [hj, List.length_append, bl_length] at h; omega
theorem feed_yes (s : ByteArray) (k : Nat) (h : k < s.size) (hb : s[k].toNat = 10) (hf : hasFeed (bl s) = hasFeed ((bl s).drop k)) : hasFeed (bl s) = true := by
  rw [hf, bl_drop_cons s k h, hasFeed, List.any_cons, decide_eq_true hb]; rfl
theorem feed_no (s : ByteArray) (k : Nat) (h : k < s.size) (hb : s[k].toNat ≠ 10) (hf : hasFeed (bl s) = hasFeed ((bl s).drop k)) : hasFeed (bl s) = hasFeed ((bl s).drop (k + 1)) := by
  rw [hf, bl_drop_cons s k h, hasFeed, List.any_cons, decide_eq_false hb, Bool.false_or]; rfl
theorem feed_end (s : ByteArray) (k : Nat) (h : ¬ k < s.size) (hf : hasFeed (bl s) = hasFeed ((bl s).drop k)) : hasFeed (bl s) = false := by
  rw [hf, bl_drop_end s k h]; rfl
theorem any_step (l : List (List UInt8)) (k : Nat) (s : List UInt8) (r : List (List UInt8)) (h : l.drop k = s :: r) (hr : l.drop (k + 1) = r) (hs : hasFeed s = false) (ha : l.any hasFeed = (l.drop k).any hasFeed) : l.any hasFeed = (l.drop (k + 1)).any hasFeed := by
  rw [ha, h, hr, List.any_cons, hs, Bool.false_or]
theorem any_hit (l : List (List UInt8)) (k : Nat) (s : List UInt8) (r : List (List UInt8)) (h : l.drop k = s :: r) (hs : hasFeed s = true) (ha : l.any hasFeed = (l.drop k).any hasFeed) : l.any hasFeed = true := by
  rw [ha, h, List.any_cons, hs, Bool.true_or]
theorem any_end (l : List (List UInt8)) (k : Nat) (h : ¬ k < l.length) (ha : l.any hasFeed = (l.drop k).any hasFeed) : l.any hasFeed = false := by
  rw [ha, List.drop_of_length_le (by omega)]; rfl

def TextRes (l : List (List UInt8)) (w : World) (e : Ending) (w' : World) : Prop :=
  e = .returned (.tuple #[.string (ba (textL l).1), .int .i64 (textL l).2]) ∧ w = w'
theorem text_many (l : List (List UInt8)) (w : World) (h : 512 < l.length ∨ sizeGo l 0 = false) : TextRes l w (.returned (.tuple #[.string ⟨#[]⟩, .int .i64 4])) w := by
  have e : textL l = ([], 4) := by
    unfold textL
    by_cases h1 : 512 < l.length
    · rw [if_pos h1]
    · rw [if_neg h1, if_pos (h.resolve_left h1)]
  exact ⟨by rw [e]; rfl, rfl⟩
theorem text_form (l : List (List UInt8)) (w : World) (h0 : ¬ 512 < l.length) (h1 : sizeGo l 0 = true) (h : l.any hasFeed = true) : TextRes l w (.returned (.tuple #[.string ⟨#[]⟩, .int .i64 11])) w := by
  have e : textL l = ([], 11) := by unfold textL; rw [if_neg h0, if_neg (by rw [h1]; simp), if_pos h]
  exact ⟨by rw [e]; rfl, rfl⟩
theorem text_ok (l : List (List UInt8)) (w : World) (o : ByteArray) (h0 : ¬ 512 < l.length) (h1 : sizeGo l 0 = true) (h : l.any hasFeed = false) (hj : joinFeed l = bl o) : TextRes l w (.returned (.tuple #[.string o, .int .i64 0])) w := by
  have e : textL l = (joinFeed l, 0) := by unfold textL; rw [if_neg h0, if_neg (by rw [h1]; simp), if_neg (by rw [h]; simp)]
  exact ⟨by rw [e, hj, ba_bl], rfl⟩

theorem drop_parts {α : Type} (l : List α) (k : Nat) (h : k < l.length) : ∃ s r, l.drop k = s :: r ∧ l[k]? = some s ∧ l.drop (k + 1) = r ∧ s ∈ l := by
  refine ⟨l[k], l.drop (k + 1), List.drop_eq_getElem_cons h, List.getElem?_eq_getElem h, rfl, List.getElem_mem h⟩

end Go.Proofs.YtefkhjbgkaknmaaDoor
