/- What the listed variables give: the table of powers, the error of the range; the witness's world. -/
import Derived.Test.YtefkhjbgkaknmaaDoorRows
import Derived.Test.YtefkhjbgkaknmaaDoorKit
import Derived.Lay
import Derived.LaidOnce
import Derived.SevenTiedAt
import Derived.Lib.LaidTab
import Derived.Lib.LaidU8
import Derived.Lib.ItoaNum
import Derived.Stop.LaidErr
import Derived.MakeChecks
import Derived.WalkSmall
import Derived.Stop.Joined
set_option linter.unusedVariables false
namespace Go.Proofs.YtefkhjbgkaknmaaDoor
open Go.RowKit
open Go.Extern.Stop Go.Stop Go.Extern

def laid5 : List (String × DataW Unit) := [("math/bits.deBruijn32tab", Rows.laid_math_bits_deBruijn32tab), ("math/bits.deBruijn64tab", Rows.laid_math_bits_deBruijn64tab), ("internal/strconv.uint64pow10", Rows.laid_internal_strconv_uint64pow10), ("strconv.ErrRange", Rows.laid_strconv_ErrRange), ("strconv.ErrSyntax", Rows.laid_strconv_ErrSyntax)]
theorem gRange : Tryd.prog.globalNamed "strconv.ErrRange" = some 2 := by kernel_rfl
theorem gRangeType : (Tryd.prog.globals[2]?).map (·.type) = some 49 := by kernel_rfl
theorem gPow : Tryd.prog.globalNamed "internal/strconv.uint64pow10" = some 3 := by kernel_rfl
theorem gPowType : (Tryd.prog.globals[3]?).map (·.type) = some 119 := by kernel_rfl
theorem cellsErr : Tryd.prog.cellsOf 117 = 1 := by kernel_rfl
theorem cellsStr9 : Tryd.prog.cellsOf 9 = 1 := by kernel_rfl
theorem cellsU64 : Tryd.prog.cellsOf 53 = 1 := by kernel_rfl
theorem cellsPow : Tryd.prog.cellsOf 119 = 20 := by kernel_rfl
theorem star : "*" ++ "errors.errorString" = "*errors.errorString" := by decide
theorem rowErr (u : TypeId) (h : Tryd.prog.typeName? 3 u = some "*errors.errorString") : u = 115 :=
  typeName_ptr_named (nm := "errors.errorString") (by rw [star]; kernel_rfl) (by kernel_rfl) (by decide) u (by rw [star]; exact h)
theorem pow_eq : (Rows.laid_internal_strconv_uint64pow10 : DataW Unit) = Lib.tabData .u64 Lib.pow10Tab := by rfl

theorem pow_of {W : World} (h : laidMet Tryd.prog laid5 W) : Lib.TabIs Tryd.prog W "internal/strconv.uint64pow10" .u64 Lib.pow10Tab := by
  have h2 := h.tail.tail
  rw [pow_eq] at h2
  exact Lib.tabIs_of_head gPow gPowType Tryd.underlying119 Tryd.underlying53 cellsU64 cellsPow h2
theorem range_of {W : World} (h : laidMet Tryd.prog laid5 W) : ∃ p, W.var? Tryd.prog "strconv.ErrRange" = some #[.iface 115 p] := by
  obtain ⟨a1, s1, hv1, _⟩ := laid_sentinel h.tail.tail.tail gRange gRangeType Tryd.underlying49 rowErr Tryd.underlying115 Tryd.underlying117 rfl rfl Tryd.underlying9 cellsErr cellsStr9
  exact ⟨_, hv1⟩
theorem pow_later {W W' : World} (h : Lib.TabIs Tryd.prog W "internal/strconv.uint64pow10" .u64 Lib.pow10Tab) (hb : Below W.heap.size W W') : Lib.TabIs Tryd.prog W' "internal/strconv.uint64pow10" .u64 Lib.pow10Tab := by
  have h0 := World.var?_cell gPow h 0
  have hlt : 3 < W.heap.size := lt_of_cell (b := 3) (o := 0) (x := .int .u64 1) (by rw [h0]; rfl)
  exact var?_below hb gPow hlt h
end Go.Proofs.YtefkhjbgkaknmaaDoor
