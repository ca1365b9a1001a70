/- Margins: the library's sort of pairs, by the program's own comparison, as AL takes it. -/
import Derived.Test.YtncdaicaljpgfaaGreatM5
import Derived.Test.YtncdaicaljpgfaaGreatShelf4
import Derived.ProofKit
set_option maxRecDepth 100000
set_option maxHeartbeats 1000000
set_option linter.unusedVariables false
namespace Go.Proofs.YtncdaicaljpgfaaGreat
open Go.Shelf Go.RowKit Go.Lib Go.Sort
theorem ltM (x y : Int × Int) : ltOf cfM x y = decide (y.1 < x.1) := by
  unfold ltOf cfM Lib.compareInt
  by_cases h1 : y.1 < x.1
  · simp [h1]
  · by_cases h2 : x.1 < y.1 <;> simp [h1, h2]
theorem swoM : SWO (ltOf cfM) where
  irrefl x := by rw [ltM]; simp
  trans x y z h1 h2 := by rw [ltM] at *; simp at *; omega
  ntrans x y z h1 h2 := by rw [ltM] at *; simp at *; omega
theorem closureM (x y : Int × Int) (W : World) : Calls Tryz.prog 45 #[.agg #[.int .i64 x.1, .int .i64 x.2], .agg #[.int .i64 y.1, .int .i64 y.2]] W fun e w' => e = .returned (.int .i64 (cfM x y)) ∧ ∃ q os', w' = grow (W.drewN q) os' := by
  unfold cfM
  have hcon := fun W' => AnyG.cmp_Compare_int Tryz.cmpInt y.1 x.1 W'
  change ∀ W', Calls Tryz.prog 46 _ _ _ at hcon
  generalize Lib.compareInt y.1 x.1 = r at hcon ⊢
  go_enter Tryz.func45, Tryz.ntmps45
  go_wp2_with (go_at_call 46; refine (hcon _).mono ?_; rintro e w' ⟨rfl, rfl⟩)
  go_ret
  exact ⟨rfl, 0, _, by rw [alloc_eq_grow, alloc_eq_grow, grow_grow]; rfl⟩
theorem cmpLaysM (blk off size : Nat) (w : World) : CmpLays Tryz.prog 45 #[] penc 2 cfM blk off size w :=
  fun _ _ _ _ x y => closureM x y _
noncomputable def LM (k : Nat) : Lib := { T := tab.get, G := fun _ => none, X := xTab k, Y := fun q args H Post => q = 44 ∧ ∃ (l : List (Int × Int)) (c : Option Nat), 0 < l.length ∧ l.length < 4611686018427387904 ∧ args = [.ref 0 2 0 l.length c, .fn 45 [] []] ∧ H = [some (.arr 2 (l.map prow))] ∧ Post = sortP cfM l }
theorem okLM {k : Nat} (hk : AFn LL (.fn k) [] [] (fun r' H' => r' = .bool true ∧ True)) : Ok (LM k) CC := by
  have h0 := okX hk
  refine ⟨h0.fn, h0.gl, h0.body, h0.ext, h0.extr, fun k fid args H Post hk hY A w β vs hA hd hh hg ha => ?_⟩
  obtain ⟨rfl, l, c, h1, h2, rfl, rfl, rfl⟩ := hY
  obtain ⟨rfl, _⟩ := CT_fns (f := 44) (k := fid) hk
  exact sort_runs (C := CC) (ρ := Tryz.sortSh_ren) Tryz.sortSh Tryz.isAgg53 Tryz.sizeOf53 swoM (fc := 45) (kc := 45) (by kernel_rfl) (enters_of Tryz.func45 (by kernel_rfl) rfl) (fun blk off size w => cmpLaysM blk off size w) h1 h2 hd hh ha
theorem sortPOk (k : Nat) : SortPOk (LM k) := fun l c h1 h2 => AFn.of_exty (L := LM k) (Post := sortP cfM l) ⟨rfl, l, c, h1, h2, rfl, rfl, rfl⟩
end Go.Proofs.YtncdaicaljpgfaaGreat
