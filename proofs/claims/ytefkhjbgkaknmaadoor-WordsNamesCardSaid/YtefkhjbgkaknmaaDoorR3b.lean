/- Walks of the reference of layer 2 on tables: Table. -/
import Derived.Test.YtefkhjbgkaknmaaDoorR3a
set_option linter.unusedVariables false
namespace Go.Proofs.YtefkhjbgkaknmaaDoor
open Go.RowKit

def TableRes (rows : List (List (List UInt8))) (w : World) (e : Ending) (w' : World) : Prop :=
  e = .returned (.tuple #[.string (ba (tableL rows).1), .int .i64 (tableL rows).2]) ∧ w = w'
theorem tres_form {rows : List (List (List UInt8))} (w : World) (h : rows.any oddRow = true) : TableRes rows w (.returned (.tuple #[.string ⟨#[]⟩, .int .i64 11])) w := ⟨by rw [table_form h]; rfl, rfl⟩
theorem tres_rows {rows : List (List (List UInt8))} (w : World) (h : rows.any oddRow = false) (h2 : 512 < rows.length) : TableRes rows w (.returned (.tuple #[.string ⟨#[]⟩, .int .i64 4])) w := ⟨by rw [table_rows h h2]; rfl, rfl⟩
theorem tres_many {rows : List (List (List UInt8))} (w : World) (h : rows.any oddRow = false) (a : List UInt8) (x : List UInt8) (ht : tabL (wideL rows) rows = a ++ x) (h3 : 16384 < a.length) : TableRes rows w (.returned (.tuple #[.string ⟨#[]⟩, .int .i64 4])) w := ⟨by rw [table_many h (by rw [ht, List.length_append]; omega)]; rfl, rfl⟩
theorem tres_ok {rows : List (List (List UInt8))} (w : World) (h : rows.any oddRow = false) (h2 : ¬ 512 < rows.length) (o : ByteArray) (ht : tabL (wideL rows) rows = bl o) (h3 : o.size ≤ 16384) : TableRes rows w (.returned (.tuple #[.string o, .int .i64 0])) w := ⟨by rw [table_ok h h2 (by rw [ht, bl_length]; omega), ht, ba_bl], rfl⟩

theorem drop_row {rows : List (List (List UInt8))} {k : Nat} (h : k < rows.length) : ∃ r, rows[k]? = some r ∧ rows.drop k = r :: rows.drop (k + 1) ∧ r ∈ rows :=
  ⟨rows[k], List.getElem?_eq_getElem h, List.drop_eq_getElem_cons h, List.getElem_mem h⟩

end Go.Proofs.YtefkhjbgkaknmaaDoor
