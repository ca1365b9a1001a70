/- The examples of the chapter hold; the law's run. -/
import Derived.Test.YtgajemhdpjomnaaGreatAlW1
set_option maxRecDepth 100000
set_option linter.unusedVariables false
namespace Go.Proofs.YtgajemhdpjomnaaGreat
theorem alive_r0 : codeR LL (funcR LL 999) 1000000 50 R_suffragelaw22_alive_0 [] .e 0 = some (.normal, [], .e, 0) := by kernel_rfl
theorem alive_r1 : codeR LL (funcR LL 999) 1000000 50 R_suffragelaw22_alive_1 [] .e 0 = some (.normal, [(1, .int .u8 5)], .e, 0) := by kernel_rfl
theorem alive_r9 : codeR LL (funcR LL 999) 1000000 50 R_suffragelaw22_alive_9 [(1, .int .u8 11), (9, .bool false)] .e 0 = some (.normal, [(0, .bool true)], .e, 0) := by kernel_rfl
theorem alive_tab : LL.T k_suffragelaw22_alive = some F_suffragelaw22_alive := by kernel_rfl
theorem rounds {r : Int} (h5 : 5 ≤ r) (h : r ≤ 10) : roundOk r = true := by
  have : r = 5 ∨ r = 6 ∨ r = 7 ∨ r = 8 ∨ r = 9 ∨ r = 10 := by omega
  rcases this with rfl | rfl | rfl | rfl | rfl | rfl
  · exact round5
  · exact round6
  · exact round7
  · exact round8
  · exact round9
  · exact round10
theorem alive_afn : AFn LL (.fn k_suffragelaw22_alive) [] [] (fun r' H' => r' = .bool true ∧ True) := by
  have hcall : CallOk LL (funcR LL 999) := funcR_sound LL 999
  refine AFn.of_body (F := F_suffragelaw22_alive) alive_tab rfl ?_
  show SWP LL 0 50 (.seq R_suffragelaw22_alive_0 (.seq (.seq R_suffragelaw22_alive_1 (.block 0 (.loop L_suffragelaw22_alive_1))) (.seq R_suffragelaw22_alive_9 .ret))) (FnQ F_suffragelaw22_alive 0 (fun r' H' => r' = .bool true ∧ True)) [] []
  refine SWP.seq (codeR_sound hcall _ alive_r0 hr0 (fun H1 hr1 => ?_))
  obtain rfl := hr1.unique hr0
  refine SWP.seq (SWP.seq (codeR_sound hcall _ alive_r1 hr0 (fun H1 hr1 => ?_)))
  obtain rfl := hr1.unique hr0
  refine SWP.block (SWP.loop (fun m E H => ∃ r : Int, E = [(1, .int .u8 r)] ∧ H = [] ∧ (m : Int) = 11 - r ∧ 5 ≤ r) (m0 := 6) ⟨5, rfl, rfl, by omega, by omega⟩ (fun m E H hI => ?_))
  obtain ⟨r, rfl, rfl, hm, h5⟩ := hI
  by_cases h11 : r = 11
  · subst h11
    refine codeR_sound hcall _ round11 hr0 (fun H1 hr1 => ?_)
    obtain rfl := hr1.unique hr0
    show SWP LL 0 50 (.seq R_suffragelaw22_alive_9 .ret) _ _ _
    refine SWP.seq (codeR_sound hcall _ alive_r9 hr0 (fun H1 hr1 => ?_))
    obtain rfl := hr1.unique hr0
    refine SWP.ret ?_
    show ResP F_suffragelaw22_alive.results 0 (fun r' H' => r' = .bool true ∧ True) [(0, .bool true)] []
    unfold ResP
    have : resV (Env.get [(0, .bool true)]) (Heap.get []) F_suffragelaw22_alive.results = some (.bool true) := rfl
    rw [this]
    exact .inl ⟨rfl, trivial⟩
  · obtain ⟨T, n, hc⟩ := roundOk_spec (rounds h5 (by omega))
    refine codeR_sound hcall _ hc hr0 (fun H1 hr1 => ?_)
    exact ⟨m - 1, by omega, .inr ⟨[], [], rfl, r + 1, rfl, rfl, by omega, by omega⟩⟩
theorem count_runF : isT (funcF (LX k_suffragelaw22_alive) 1000 (.fn k_suffragelaw22_CountNames) [] .e 0) = true := by kernel_rfl
theorem count_run : isT (funcR (LX k_suffragelaw22_alive) 1000 (.fn k_suffragelaw22_CountNames) [] .e 0) = true := by rw [← funcF_eq]; exact count_runF
theorem CT_k : CT.fns k_suffragelaw22_CountNames = some k_suffragelaw22_CountNames := by
  kernel_rfl
theorem count_law (W : World) : Calls Tryz.prog k_suffragelaw22_CountNames #[] W fun e w' => e = .returned (.bool true) ∧ RowKit.Below W.heap.size W w' :=
  law_of (okX allC alive_afn) (afn_true count_run) CT_k W
end Go.Proofs.YtgajemhdpjomnaaGreat
