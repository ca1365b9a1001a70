/- AL: the program at hand, with its table. -/
import Derived.Test.YtigdhgbkgfagiaaGreatZAlTab
set_option maxRecDepth 100000
set_option linter.unusedVariables false
namespace Go.Proofs.YtigdhgbkgfagiaaGreat
noncomputable def LL : Lib := { T := tab.get, G := fun _ => none, X := fun _ _ => none }
theorem okC : Ok LL CC := by
 have h := allC
 refine ⟨fun k fid F hk hF => ?_, rfl, fun k fid hk => ?_, fun k fid args r _ h => (by cases h), fun _ _ _ _ _ _ h => (by cases h), fun _ _ _ _ _ _ h => h.elim⟩
 ·obtain ⟨rfl, _⟩ := CT_fns hk
  exact Tri.all_get h hF
 ·obtain ⟨rfl, h1, h2⟩ := CT_fns hk
  have := List.all_eq_true.1 bodies _ (List.mem_range.2 h1)
  rw [h2, Bool.false_or] at this
  split at this
  ·rename_i f hf
   simp only [Bool.and_eq_true] at this
   exact ⟨f, hf, by simpa using this.1, by simpa using this.2⟩
  ·cases this
theorem AFn.more {L : Lib} (hT : L.T = tab.get) {k : Tgt} {args : List V} {H : Heap} {Post : V → Heap → Prop} (h : AFn LL k args H Post) (hk : ∀ a, k ≠ .yl a) : AFn L k args H Post := by
 intro C hC A w β xs hA hd hh hg ha
 cases k with
 | yl a => exact absurd rfl (hk a)
 | fn k => exact h { C with G := fun _ => none } ⟨fun k fid F h1 h2 => hC.fn k fid F h1 (by rw [hT]; exact h2), rfl, hC.body, fun _ _ _ _ _ hX => (by cases hX), fun _ _ _ _ _ _ h => (by cases h), fun _ _ _ _ _ _ h => h.elim⟩ A w β xs hA hd hh (fun g k v _ h => by cases h) ha
end Go.Proofs.YtigdhgbkgfagiaaGreat
