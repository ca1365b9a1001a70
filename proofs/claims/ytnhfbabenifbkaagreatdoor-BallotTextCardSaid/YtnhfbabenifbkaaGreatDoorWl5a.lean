/- Ballots: the law BallotText, with Atoi as it stands. -/
import Derived.Test.YtnhfbabenifbkaaGreatDoorAlAt
import Derived.Test.YtnhfbabenifbkaaGreatDoorWl5m
set_option maxRecDepth 100000
set_option linter.unusedVariables false
namespace Go.Proofs.YtnhfbabenifbkaaGreatDoor
theorem atoi_dig : ∀ n, n < 11 → atoiN (dig n) = (n : Int) := by
  intro n hn
  have : ((List.range 11).all fun n => decide (atoiN (dig n) = (n : Int))) = true := by decide +kernel
  exact of_decide_eq_true (List.all_eq_true.1 this n (List.mem_range.2 hn))
theorem texts_al (k : Int) (l : List Int) (hk : 0 ≤ k ∧ k ≤ 255) (hl : l.length ≤ 17592186043904) (hb : ∀ n ∈ l, -9223372036854775808 ≤ n ∧ n ≤ 9223372036854775807) (s : List UInt8) (hs : s.length ≤ 140737488351232) : VFn LA 8 [.agg [.int .u8 k, tl mrow 1 l none], .str s] (.bool true) :=
  btexts_v (L := LA) rfl (vfn_lift wakes_v) (fun s hs => read_v rfl (fun w hw => atoi_v w hw) atoi_dig s hs) k l hl s
end Go.Proofs.YtnhfbabenifbkaaGreatDoor
