/- Walks of the reference of layer 2: Line. -/
import Derived.Test.YtefkhjbgkaknmaaDoorR2d
set_option linter.unusedVariables false
namespace Go.Proofs.YtefkhjbgkaknmaaDoor
open Go.RowKit

theorem jb_snoc : ∀ (l : List (List UInt8)) (s : List UInt8), joinBlank (l ++ [s]) = if l = [] then s else joinBlank l ++ 32 :: s
  | [], s => rfl
  | [a], s => by simp [joinBlank]
  | a :: b :: r, s => by
    have := jb_snoc (b :: r) s
    simp only [List.cons_append] at this ⊢
    rw [joinBlank, this]
    simp [joinBlank]
    intro h; simp at h
theorem jb_pre : ∀ (l m : List (List UInt8)), (joinBlank l).length ≤ (joinBlank (l ++ m)).length
  | [], m => by simp [joinBlank]
  | [a], [] => by simp
  | [a], b :: m => by simp [joinBlank]
  | a :: b :: r, m => by
    have := jb_pre (b :: r) m
    simp only [List.cons_append] at this ⊢
    simp only [joinBlank, List.length_append, List.length_cons]
    omega
theorem jb_take (l : List (List UInt8)) (k : Nat) : (joinBlank (l.take k)).length ≤ (joinBlank l).length := by
  have := jb_pre (l.take k) (l.drop k)
  rwa [List.take_append_drop] at this
theorem jb_zero (l : List (List UInt8)) (s : List UInt8) (h : l[0]? = some s) : joinBlank (l.take 1) = s := by
  rw [List.take_add_one, h]; rfl
theorem jb_succ (l : List (List UInt8)) (k : Nat) (s : List UInt8) (hk : 0 < k) (h : l[k]? = some s) : joinBlank (l.take (k + 1)) = joinBlank (l.take k) ++ 32 :: s := by
  rw [List.take_add_one, h]
  show joinBlank (l.take k ++ [s]) = _
  rw [jb_snoc, if_neg]
  intro hn
  have := (List.getElem?_eq_some_iff.1 h).1
  have h2 : (l.take k).length = 0 := by rw [hn]; rfl
  rw [List.length_take] at h2; omega

def LineRes (l : List (List UInt8)) (w : World) (e : Ending) (w' : World) : Prop :=
  e = .returned (.tuple #[.string (ba (lineL l).1), .int .i64 (lineL l).2]) ∧ w = w'
theorem line_form (l : List (List UInt8)) (w : World) (h : l.all wordL = false) : LineRes l w (.returned (.tuple #[.string ⟨#[]⟩, .int .i64 11])) w := by
  have e : lineL l = ([], 11) := by unfold lineL; rw [if_pos h]
  exact ⟨by rw [e]; rfl, rfl⟩
theorem line_many (l : List (List UInt8)) (w : World) (h : l.all wordL = true) (k : Nat) (h2 : 16384 < (joinBlank (l.take k)).length) : LineRes l w (.returned (.tuple #[.string ⟨#[]⟩, .int .i64 4])) w := by
  have e : lineL l = ([], 4) := by unfold lineL; rw [if_neg (by rw [h]; simp), if_pos (Nat.lt_of_lt_of_le h2 (jb_take l k))]
  exact ⟨by rw [e]; rfl, rfl⟩
theorem line_ok (l : List (List UInt8)) (w : World) (h : l.all wordL = true) (k : Nat) (hk : ¬ k < l.length) (o : ByteArray) (h2 : bl o = joinBlank (l.take k)) (h3 : o.size ≤ 16384) : LineRes l w (.returned (.tuple #[.string o, .int .i64 0])) w := by
  rw [List.take_of_length_le (by omega)] at h2
  have e : lineL l = (joinBlank l, 0) := by unfold lineL; rw [if_neg (by rw [h]; simp), if_neg (by rw [← h2, bl_length]; omega)]
  exact ⟨by rw [e, ← h2, ba_bl], rfl⟩

end Go.Proofs.YtefkhjbgkaknmaaDoor
