/- The examples of the chapter: round by round. -/
import Derived.Test.YtkpfhnicdlgjiaaGreatAlXl
import Derived.Test.YtkpfhnicdlgjiaaGreatM1
set_option maxRecDepth 100000
set_option linter.unusedVariables false
namespace Go.Proofs.YtkpfhnicdlgjiaaGreat
noncomputable def alB : AC := T4.1.body.r.l.r.l.l
noncomputable def roundOk (r : Int) : Bool := match codeF LL (funcF LL 999) 1000000 50 alB [(1, .int .u8 r)] .e 0 with | some (.normal, [(1, .int .u8 q)], _, _) => decide (q = r + 1) | _ => false
theorem runF {L : Lib} {f fuel N : Nat} {c : AC} {E : Env} {T : Tri Blk} {n : Nat} {r : Option StX} (h : codeF L (funcF L f) fuel N c E T n = r) : codeR L (funcR L f) fuel N c E T n = r := by
  rw [codeF_eq, funcF_eq] at h; exact h
theorem roundOk_spec {r : Int} (h : roundOk r = true) : ∃ T n, codeR LL (funcR LL 999) 1000000 50 alB [(1, .int .u8 r)] .e 0 = some (.normal, [(1, .int .u8 (r + 1))], T, n) := by
  unfold roundOk at h
  split at h
  · rename_i q T n hc
    have := of_decide_eq_true h
    subst this
    exact ⟨T, n, runF hc⟩
  · cases h
end Go.Proofs.YtkpfhnicdlgjiaaGreat
