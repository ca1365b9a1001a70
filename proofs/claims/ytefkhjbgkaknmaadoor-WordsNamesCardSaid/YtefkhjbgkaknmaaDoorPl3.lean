/- What a table is, as a plain function on lists of lists of bytes. Nothing of the program is named here. -/
import Derived.Test.YtefkhjbgkaknmaaDoorPl2
set_option linter.unusedVariables false
namespace Go.Proofs.YtefkhjbgkaknmaaDoor
/-- How long the longest word of a place is. -/
def wideL : List (List (List UInt8)) → Nat → Nat
  | [], _ => 0
  | r :: rs, k => max ((r[k]?.map List.length).getD 0) (wideL rs k)
/-- The cells of a row from a place on. -/
def cellsL (W : Nat → Nat) : Nat → List (List UInt8) → List UInt8
  | _, [] => []
  | _, [s] => s
  | k, s :: t :: r => s ++ (List.replicate (W k + 2 - s.length) 32 ++ cellsL W (k + 1) (t :: r))
def tabL (W : Nat → Nat) : List (List (List UInt8)) → List UInt8
  | [] => []
  | r :: rs => cellsL W 0 r ++ 10 :: tabL W rs
def oddRow (r : List (List UInt8)) : Bool := r.any fun s => !wordL s
def tableL (rows : List (List (List UInt8))) : List UInt8 × Int :=
  if rows.any oddRow = true then ([], 11)
  else if 512 < rows.length then ([], 4)
  else if 16384 < (tabL (wideL rows) rows).length then ([], 4)
  else (tabL (wideL rows) rows, 0)
/-- Sizes of rows as the reference adds them up, to a bound. -/
def greatGo : List (List (List UInt8)) → Int → Int
  | [], n => n
  | r :: rs, n => if n < 30000 then greatGo rs (n + 1 + min (longGo r 0) 30000) else n

theorem wide_le {rows : List (List (List UInt8))} {k m : Nat} (h : ∀ r ∈ rows, ∀ s ∈ r, s.length ≤ m) : wideL rows k ≤ m := by
  induction rows with
  | nil => exact Nat.zero_le _
  | cons r rs ih =>
    rw [wideL]
    refine Nat.max_le.2 ⟨?_, ih fun r' hr => h r' (List.mem_cons_of_mem _ hr)⟩
    cases hk : r[k]? with
    | none => exact Nat.zero_le _
    | some s => exact h r (List.mem_cons_self ..) s (List.mem_of_getElem? hk)
theorem le_wide {rows : List (List (List UInt8))} {k i : Nat} {r : List (List UInt8)} {s : List UInt8} (hr : rows[i]? = some r) (hs : r[k]? = some s) : s.length ≤ wideL rows k := by
  induction rows generalizing i with
  | nil => simp at hr
  | cons a rs ih =>
    rw [wideL]
    cases i with
    | zero =>
      simp at hr; subst hr
      rw [hs]; exact Nat.le_max_left _ _
    | succ i => exact Nat.le_trans (ih (by simpa using hr)) (Nat.le_max_right _ _)
theorem cells_last (W : Nat → Nat) (k : Nat) (row : List (List UInt8)) (s : List UInt8) (hs : row[k]? = some s) (hl : ¬ k + 1 < row.length) : cellsL W k (row.drop k) = s := by
  obtain ⟨h, rfl⟩ := List.getElem?_eq_some_iff.1 hs
  rw [List.drop_eq_getElem_cons h, List.drop_of_length_le (by omega)]; rfl
theorem cells_more (W : Nat → Nat) (k : Nat) (row : List (List UInt8)) (s : List UInt8) (hs : row[k]? = some s) (hl : k + 1 < row.length) : cellsL W k (row.drop k) = s ++ (List.replicate (W k + 2 - s.length) 32 ++ cellsL W (k + 1) (row.drop (k + 1))) := by
  obtain ⟨h, rfl⟩ := List.getElem?_eq_some_iff.1 hs
  rw [List.drop_eq_getElem_cons h, List.drop_eq_getElem_cons hl]; rfl
theorem cells_end (W : Nat → Nat) (k : Nat) (row : List (List UInt8)) (hl : ¬ k < row.length) : cellsL W k (row.drop k) = [] := by
  rw [List.drop_of_length_le (by omega)]; cases k <;> rfl
theorem tab_row (W : Nat → Nat) (i : Nat) (rows : List (List (List UInt8))) (row : List (List UInt8)) (h : rows[i]? = some row) : tabL W (rows.drop i) = cellsL W 0 (row.drop 0) ++ 10 :: tabL W (rows.drop (i + 1)) := by
  obtain ⟨h1, rfl⟩ := List.getElem?_eq_some_iff.1 h
  rw [List.drop_eq_getElem_cons h1, List.drop_zero]; rfl
theorem table_form {rows : List (List (List UInt8))} (h : rows.any oddRow = true) : tableL rows = ([], 11) := by unfold tableL; rw [if_pos h]
theorem table_rows {rows : List (List (List UInt8))} (h : rows.any oddRow = false) (h2 : 512 < rows.length) : tableL rows = ([], 4) := by unfold tableL; rw [if_neg (by rw [h]; simp), if_pos h2]
theorem table_many {rows : List (List (List UInt8))} (h : rows.any oddRow = false) (h3 : 16384 < (tabL (wideL rows) rows).length) : tableL rows = ([], 4) := by
  unfold tableL; rw [if_neg (by rw [h]; simp)]
  by_cases h2 : 512 < rows.length
  · rw [if_pos h2]
  · rw [if_neg h2, if_pos h3]
theorem table_ok {rows : List (List (List UInt8))} (h : rows.any oddRow = false) (h2 : ¬ 512 < rows.length) (h3 : ¬ 16384 < (tabL (wideL rows) rows).length) : tableL rows = (tabL (wideL rows) rows, 0) := by
  unfold tableL; rw [if_neg (by rw [h]; simp), if_neg h2, if_neg h3]
theorem wide_step {rows : List (List (List UInt8))} {i k : Nat} {r : List (List UInt8)} (h : rows[i]? = some r) : wideL (rows.drop i) k = max ((r[k]?.map List.length).getD 0) (wideL (rows.drop (i + 1)) k) := by
  obtain ⟨h1, rfl⟩ := List.getElem?_eq_some_iff.1 h
  rw [List.drop_eq_getElem_cons h1, wideL]
end Go.Proofs.YtefkhjbgkaknmaaDoor
