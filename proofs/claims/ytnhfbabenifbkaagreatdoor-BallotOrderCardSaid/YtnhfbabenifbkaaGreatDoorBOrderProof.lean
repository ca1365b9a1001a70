/- BallotOrder: the law returns true at every input, and its arguments read afterwards as before. The row's list of variables is tied to the program's text (the given tie). The law is walked in an abstract language into which the given functions are translated (checked by Lean, function by function). -/
import Derived.Test.YtnhfbabenifbkaaGreatDoorCards
import Derived.Test.YtnhfbabenifbkaaGreatDoorTie
import Derived.Test.YtnhfbabenifbkaaGreatDoorAlOq
import Derived.Lay
import Derived.LaidOnce
import Derived.SevenTiedAt
import Derived.MakeChecks
import Derived.Test.YtnhfbabenifbkaaGreatDoorWl2
set_option linter.unusedVariables false
namespace Go.Proofs.YtnhfbabenifbkaaGreatDoor
open Go.ChangeShapes Go.WideShapes Go.ChangeAt Go.RowKit

set_option maxRecDepth 100000 in
theorem ballotOrder_lifted (os : Os) (started : os.Started) (H : Type) (enc : TypeId × Value → H) :
    ReturnsInHanded {} Tryz.checked os 7 .any (fun w args => (Rows.ballotOrderSpec.pre enc Tryz.prog Tryz.f7 Rows.ballotOrderRow.domain false w args ∧ laidMetH Tryz.prog Rows.ballotOrderRow.laid w) ∧ sizedMet enc Tryz.prog Tryz.f7 (OpenSpec.ofChange Rows.ballotOrderSpec) false w args) (Rows.ballotOrderSpec.post enc Tryz.prog Tryz.f7 false true false false) := by
  refine returnsInHanded_of_change_and (C := Tryz.checked) (X := fun w _ => laidMetH Tryz.prog Rows.ballotOrderRow.laid w) (fun _ _ _ hh h => h.of_heap hh) own started (by kernel_rfl) Tryz.func7
    (ChangeSpec.witness_shaped (enc := enc) (C := Tryz.checked) (os := os) (X := fun w _ => laidMetH Tryz.prog Rows.ballotOrderRow.laid w) false (World.laidAll Tryz.prog os Rows.ballotOrderRow.laid) #[.agg #[.int .u8 0, .slice none 0 0], .agg #[.int .u8 0, .slice none 0 0], .agg #[.int .u8 0, .slice none 0 0]] 8 (World.laidAll_os _ _ _)
      (World.shaped_of_ZipB (by kernel_rfl) (by kernel_rfl)) (by kernel_rfl) (by kernel_rfl) (by kernel_rfl)
      (by rw [MakeChecks.laidMetH_plain _ _ _ (by kernel_rfl)]; exact laidMet_laidAll _ (by kernel_rfl) (by kernel_rfl))) ?_
  intro W base args ds gs before hval0 hW _ hsz0 hL _
  have hval : ∀ (j : Nat) t v, Tryz.f7.params[j]? = some t → args[j]? = some v → Value.okWide Tryz.prog W .any base t v := hval0
  have hW' := hW
  obtain ⟨p, q, hA0, hV, rfl, hfz, hnd⟩ := hW
  have hA : DataW.TrodAll enc Tryz.prog W 0 (fun _ => true) true Tryz.f7.params.toList args.toList ds p := hA0
  have hsz : (DataW.weightsEach Tryz.prog (Tryz.f7.params.toList ++ Rows.ballotOrderSpec.plain.varTypes Tryz.prog) (ds ++ gs)).all (· ≤ reachBytes) = true := hsz0
  rw [Tryz.params7] at hA hval hsz
  obtain ⟨v0, vs0, d0, ds0, p0, q0, hargs, rfl, rfl, h0, hA0⟩ := trodAll_cons hA
  obtain ⟨v1, vs1, d1, ds1, p1, q1, rfl, rfl, rfl, h1, hA1⟩ := trodAll_cons hA0
  obtain ⟨v2, vs2, d2, ds2, p2, q2, rfl, rfl, rfl, h2, hA2⟩ := trodAll_cons hA1
  obtain ⟨rfl, rfl, rfl⟩ := trodAll_nil hA2
  obtain rfl : args = #[v0, v1, v2] := by cases args; simp_all
  obtain ⟨rfl, rfl⟩ := trodVars_none hV
  have k0 := h0
  have lt0 : ∀ x ∈ p0, x.block < W.heap.size := by obtain ⟨m, hm⟩ := k0; exact DataW.trod_lt m _ _ _ hm
  have k1 := h1
  have lt1 : ∀ x ∈ p1, x.block < W.heap.size := by obtain ⟨m, hm⟩ := k1; exact DataW.trod_lt m _ _ _ hm
  have k2 := h2
  have lt2 : ∀ x ∈ p2, x.block < W.heap.size := by obtain ⟨m, hm⟩ := k2; exact DataW.trod_lt m _ _ _ hm
  obtain ⟨k0b, ao0, l0, cap0, rfl, hk0, hc0, hlc0, hcap0, hn0, hb0⟩ := open_ballot (hval 0 24 v0 rfl rfl) h0 (reach_each hsz (j := 0) rfl rfl)
  obtain ⟨k1b, ao1, l1, cap1, rfl, hk1, hc1, hlc1, hcap1, hn1, hb1⟩ := open_ballot (hval 1 24 v1 rfl rfl) h1 (reach_each hsz (j := 1) rfl rfl)
  obtain ⟨k2b, ao2, l2, cap2, rfl, hk2, hc2, hlc2, hcap2, hn2, hb2⟩ := open_ballot (hval 2 24 v2 rfl rfl) h2 (reach_each hsz (j := 2) rfl rfl)
  clear hA0 hval0 hL
  refine (law_args okC (order_al k0b l0 hk0 (by omega) hb0 k1b l1 hk1 (by omega) hb1 k2b l2 hk2 (by omega) hb2).2.2 (by kernel_rfl) W (xs := [_, _, _]) ⟨rel_bal hc0 hlc0 hn0, rel_bal hc1 hlc1 hn1, rel_bal hc2 hlc2 hn2, trivial⟩).mono fun e W' ⟨he, bel⟩ => ?_
  subst he
  exact ⟨_, rfl, _, _, _, [], _, [], hW', trodAll_mk1 (shut_bool Tryz.underlying4 _), (trodAll_cons_mk (Below.trod laidOut (by kernel_rfl) (of_decide_eq_true (by kernel_rfl)) k0 bel lt0) (trodAll_cons_mk (Below.trod laidOut (by kernel_rfl) (of_decide_eq_true (by kernel_rfl)) k1 bel lt1) (trodAll_cons_mk (Below.trod laidOut (by kernel_rfl) (of_decide_eq_true (by kernel_rfl)) k2 bel lt2) trodAll_mk0))), rfl, bel.frame _, fun h => by cases h⟩

theorem ballotOrder_said : Rows.BallotOrderSaid :=
  OpenClaim.holds_of_wide 7 Tryz.f7 rfl rfl rfl rfl rfl rfl rfl ⟨rfl, rfl, rfl, rfl, rfl⟩ rfl rfl rfl rfl rfl (by kernel_rfl) Tryz.func7 (by kernel_rfl)
    (of_decide_eq_true (by kernel_rfl)) (by unfold Func.isWrapper; first | (rw [if_pos (by decide +kernel)]; kernel_rfl) | (rw [if_neg (by decide +kernel)]; exact ⟨rfl, rfl⟩))
    (fun os started H enc _ => ballotOrder_lifted os started H enc)

theorem ballotOrder_plain (f : FuncId) (fn : Func) (hf : Tryz.pinned.checked.prog.funcNamed "suffrage/suffragelaw08.BallotOrder" = some f) (hfn : Tryz.pinned.checked.prog.funcs[f]? = some fn) :
    true = Tryz.pinned.checked.prog.looks [] ∧ ∀ (j : Nat) t, fn.params[j]? = some t → Tryz.pinned.checked.prog.wantsStandIn t = false := by
  obtain rfl : f = 7 := Option.some.inj ((show Tryz.prog.funcNamed "suffrage/suffragelaw08.BallotOrder" = some 7 by kernel_rfl).symm.trans hf) |>.symm
  obtain rfl : fn = Tryz.f7 := (Option.some.inj (Tryz.func7.symm.trans hfn)).symm
  refine ⟨by kernel_rfl, fun j t ht => ?_⟩
  rw [Tryz.params7] at ht
  have hm : t ∈ ([24, 24, 24] : List TypeId) := by simpa using Array.mem_of_getElem? ht
  have hall : (([24, 24, 24] : List TypeId).all fun u => !Tryz.prog.wantsStandIn u) = true := by kernel_rfl
  exact (show Tryz.prog.wantsStandIn t = false by simpa using List.all_eq_true.1 hall t hm)

theorem ballotOrder_card : Rows.BallotOrderCardSaid :=
  Claim7.holds_tied_plain_at .later [] _ _ _ _ ballotOrder_said (fun _ h => by cases h) (by kernel_rfl) (fun _ h => by cases h) ballotOrder_row_tie rfl ⟨rfl, rfl⟩ (by kernel_rfl) rfl ballotOrder_plain (by kernel_rfl)
end Go.Proofs.YtnhfbabenifbkaaGreatDoor
