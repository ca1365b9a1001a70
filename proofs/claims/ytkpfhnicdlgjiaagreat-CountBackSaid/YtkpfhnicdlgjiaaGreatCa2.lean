/- Outcomes: what the law of copies is given, as values of AL. -/
import Derived.Test.YtkpfhnicdlgjiaaGreatRows
import Derived.Test.YtkpfhnicdlgjiaaGreatM7
import Derived.Test.YtkpfhnicdlgjiaaGreatM4
import Derived.ShutString
set_option maxRecDepth 100000
set_option linter.unusedVariables false
namespace Go.Proofs.YtkpfhnicdlgjiaaGreat
open Go.ChangeShapes Go.WideShapes Go.ChangeAt Go.RowKit
theorem own : ownKnob Tryz.prog.godebug = none := by kernel_rfl
theorem laidOut : laidOutB Tryz.prog = true := by kernel_rfl
/-- What a reading weighs is within the form's own reach. -/
theorem reach_each {H : Type} {ts : List TypeId} {ds : List (DataW H)} (h : (DataW.weightsEach Tryz.prog ts ds).all (· ≤ reachBytes) = true) {j : Nat} {t : TypeId} {d : DataW H} (ht : ts[j]? = some t) (hd : ds[j]? = some d) : ∀ n ∈ d.weights Tryz.prog t, n ≤ reachBytes := by
  intro n hn
  have := List.all_eq_true.1 h _ (DataW.weights_mem_each ht hd n hn)
  exact of_decide_eq_true this
theorem b_int : Tryz.prog.bytesOf 3 = 8 := by kernel_rfl
theorem b_u32 : Tryz.prog.bytesOf 110 = 4 := by kernel_rfl
theorem b_ratio : Tryz.prog.bytesOf 51 = 56 := by kernel_rfl
theorem b_round : Tryz.prog.bytesOf 53 = 128 := by kernel_rfl
theorem b_tie : Tryz.prog.bytesOf 37 = 32 := by kernel_rfl
theorem reach_is : reachBytes = 140737488351232 := by kernel_rfl
theorem o_int : OpenT Tryz.prog CC.N 3 mrow (fun n => -9223372036854775808 ≤ n ∧ n ≤ 9223372036854775807) := (OpenT.int Tryz.underlying3).map id (fun _ => rfl) (fun n h => h)
theorem o_u32 : OpenT Tryz.prog CC.N 110 urow (fun _ => True) := (OpenT.int Tryz.underlying110).map id (fun _ => rfl) (fun n h => trivial)
theorem o_ints : OpenT Tryz.prog CC.N 22 (fun o : Nl Int => [nlv mrow 1 o]) okI := (OpenT.slice (n := 1) Tryz.underlying22 (by kernel_rfl) (by decide) (fun _ => rfl) o_int).map id (fun _ => rfl) (fun o h => by have := h.1; rw [b_int, reach_is] at this; exact this)
theorem o_u32s : OpenT Tryz.prog CC.N 49 (fun o : Nl Int => [nlv urow 1 o]) okU := (OpenT.slice (n := 1) Tryz.underlying49 (by kernel_rfl) (by decide) (fun _ => rfl) o_u32).map id (fun _ => rfl) (fun o h => by have := h.1; rw [b_u32, reach_is] at this; exact this)
theorem o_ratio : OpenT Tryz.prog CC.N 51 rtrow okRt :=
  OpenT.map (OpenT.struct Tryz.underlying51 (fun _ => by kernel_rfl) (OpenFs.cons (n := 1) rfl (by kernel_rfl) (fun _ => rfl) (OpenT.bool Tryz.underlying4) (OpenFs.cons (n := 1) rfl (by kernel_rfl) (fun _ => rfl) o_u32s (OpenFs.cons (n := 1) rfl (by kernel_rfl) (fun _ => rfl) o_u32s OpenFs.nil))))
    (fun p => ⟨p.1, p.2.1, p.2.2.1⟩) (fun _ => rfl) (fun p h => ⟨h.2.1, h.2.2.1⟩)
theorem o_ratios : OpenT Tryz.prog CC.N 48 (fun o : Nl Rt => [nlv rtrow 3 o]) (fun o => o.l.length * 56 ≤ 140737488351232 ∧ ∀ r ∈ o.l, okRt r) := (OpenT.slice (n := 3) Tryz.underlying48 (by kernel_rfl) (by decide) (fun _ => rfl) o_ratio).map id (fun _ => rfl) (fun o h => ⟨by have := h.1; rw [b_ratio, reach_is] at this; exact this, h.2⟩)
theorem o_round : OpenT Tryz.prog CC.N 53 rdrow okRd :=
  OpenT.map (OpenT.struct Tryz.underlying53 (fun _ => by kernel_rfl) (OpenFs.cons (n := 1) rfl (by kernel_rfl) (fun _ => rfl) o_ratios (OpenFs.cons (n := 3) rfl (by kernel_rfl) (fun _ => rfl) o_ratio (OpenFs.cons (n := 1) rfl (by kernel_rfl) (fun _ => rfl) o_ints (OpenFs.cons (n := 1) rfl (by kernel_rfl) (fun _ => rfl) o_ints OpenFs.nil)))))
    (fun p => ⟨p.1, p.2.1, p.2.2.1, p.2.2.2.1⟩) (fun _ => rfl) (fun p h => ⟨h.1.1, h.1.2, h.2.1, h.2.2.1, h.2.2.2.1⟩)
theorem o_rounds : OpenT Tryz.prog CC.N 23 (fun o : Nl Rd => [nlv rdrow 6 o]) (fun o => o.l.length * 128 ≤ 140737488351232 ∧ ∀ r ∈ o.l, okRd r) := (OpenT.slice (n := 6) Tryz.underlying23 (by kernel_rfl) (by decide) (fun _ => rfl) o_round).map id (fun _ => rfl) (fun o h => ⟨by have := h.1; rw [b_round, reach_is] at this; exact this, h.2⟩)
theorem o_tie : OpenT Tryz.prog CC.N 37 tirow okTi :=
  OpenT.map (OpenT.struct Tryz.underlying37 (fun _ => by kernel_rfl) (OpenFs.cons (n := 1) rfl (by kernel_rfl) (fun _ => rfl) o_ints (OpenFs.cons (n := 1) rfl (by kernel_rfl) (fun _ => rfl) o_int OpenFs.nil)))
    (fun p => ⟨p.1, p.2.1⟩) (fun _ => rfl) (fun p h => h.1)
theorem o_ties : OpenT Tryz.prog CC.N 24 (fun o : Nl Ti => [nlv tirow 2 o]) (fun o => o.l.length * 32 ≤ 140737488351232 ∧ ∀ r ∈ o.l, okTi r) := (OpenT.slice (n := 2) Tryz.underlying24 (by kernel_rfl) (by decide) (fun _ => rfl) o_tie).map id (fun _ => rfl) (fun o h => ⟨by have := h.1; rw [b_tie, reach_is] at this; exact this, h.2⟩)
theorem o_outcome : OpenT Tryz.prog CC.N 26 occs okO :=
  OpenT.map (OpenT.struct Tryz.underlying26 (fun _ => by kernel_rfl) (OpenFs.cons (n := 1) rfl (by kernel_rfl) (fun _ => rfl) o_ints (OpenFs.cons (n := 1) rfl (by kernel_rfl) (fun _ => rfl) o_rounds (OpenFs.cons (n := 1) rfl (by kernel_rfl) (fun _ => rfl) o_ties OpenFs.nil))))
    (fun p => ⟨p.1, p.2.1, p.2.2.1⟩) (fun _ => rfl) (fun p h => ⟨h.1, h.2.1, h.2.2.1.1, h.2.2.1.2⟩)
end Go.Proofs.YtkpfhnicdlgjiaaGreat
