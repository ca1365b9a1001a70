/- strings.Cut at one blank, and the parts between blanks. -/
import Derived.Test.YtefkhjbgkaknmaaDoorSh
import Derived.IntWalk
import Derived.Lib.IndexBytes
set_option linter.unusedVariables false
namespace Go.Proofs.YtefkhjbgkaknmaaDoor
open Go.RowKit

theorem pt_none : ∀ (l cur : List UInt8), (∀ c ∈ l, c.toNat ≠ 32) → ptGo l cur = [cur ++ l]
  | [], cur, _ => by simp [ptGo]
  | c :: r, cur, h => by
    rw [ptGo, if_neg (h c (by simp)), pt_none r _ (fun x hx => h x (by simp [hx]))]; simp
theorem pt_some : ∀ (l : List UInt8) (r cur : List UInt8), (∀ c ∈ l, c.toNat ≠ 32) → ptGo (l ++ 32 :: r) cur = (cur ++ l) :: ptGo r []
  | [], r, cur, _ => by simp [ptGo]
  | c :: l, r, cur, h => by
    rw [List.cons_append, ptGo, if_neg (h c (by simp)), pt_some l r _ (fun x hx => h x (by simp [hx]))]; simp
theorem idx_some {l : List UInt8} {b : UInt8} {i : Nat} (h : Lib.indexByte l b = i) : i < l.length ∧ l = l.take i ++ b :: l.drop (i + 1) ∧ ∀ c ∈ l.take i, c ≠ b := by
  obtain ⟨h1, h2⟩ := Lib.indexByte_some h
  obtain ⟨h3, h4⟩ := List.getElem?_eq_some_iff.1 h1
  refine ⟨h3, ?_, ?_⟩
  · conv => lhs; rw [← List.take_append_drop i l, List.drop_eq_getElem_cons h3, h4]
  · intro c hc e
    obtain ⟨k, hk, he⟩ := List.mem_take_iff_getElem.1 hc
    exact h2 k (by omega) (by rw [List.getElem?_eq_getElem (by omega), he, e])
theorem idx_none {l : List UInt8} {b : UInt8} (h : Lib.indexByte l b = -1) : ∀ c ∈ l, c ≠ b := by
  intro c hc e
  obtain ⟨k, hk⟩ := List.getElem?_of_mem hc
  exact Lib.indexByte_none h k (by rw [hk, e])
theorem ne32 {c : UInt8} (h : c ≠ 32) : c.toNat ≠ 32 := fun e => h (UInt8.toNat_inj.1 (by rw [e]; rfl))
theorem cut_pt_some (s : ByteArray) (i : Nat) (h : Lib.indexByte (bl s) 32 = i) : i < s.size ∧ ptGo (bl s) [] = bl (s.extract 0 i) :: ptGo (bl (s.extract (i + 1) s.size)) [] := by
  obtain ⟨h1, h2, h3⟩ := idx_some h
  rw [bl_length] at h1
  refine ⟨h1, ?_⟩
  conv => lhs; rw [h2]
  rw [pt_some _ _ _ (fun c hc => ne32 (h3 c hc)), bl_extract, bl_extract]
  simp
  rw [List.take_of_length_le (by rw [List.length_drop, bl_length]; omega)]
theorem cut_pt_none (s : ByteArray) (h : Lib.indexByte (bl s) 32 = -1) : ptGo (bl s) [] = [bl s] := by
  rw [pt_none _ _ (fun c hc => ne32 (idx_none h c hc))]; simp

set_option maxHeartbeats 400000 in
theorem lcut_some (s : ByteArray) (i : Nat) (w : World) (hs : s.size ≤ 140737488351232) (h : Lib.indexByte (bl s) 32 = i) (hi : i < s.size) :
    Calls Tryd.prog 84 #[.string s, .string ⟨#[32]⟩] w fun e w' => e = .returned (.tuple #[.string (s.extract 0 i), .string (s.extract (i + 1) s.size), .bool true]) ∧ ∃ n, w' = w.drewN n := by
  have h0 : (0 : Int) ≤ (i : Int) := by omega
  have h1 : (i : Int) ≤ (s.size : Int) := by omega
  have h2 : (i : Int) + 1 ≤ (s.size : Int) := by omega
  have h3 : (0 : Int) ≤ (i : Int) + 1 := by omega
  have hw : IntKind.i64.wrap ((i : Int) + 1) = (i : Int) + 1 := IntWalk.i64_in _ (by omega)
  have ht : ((i : Int) + 1).toNat = i + 1 := by omega
  have hI := Lib.hid h
  clear h
  go_enter Tryd.func84, Tryd.ntmps84
  go_wp2_with (go_at_call 82; refine (Tryd.stringslite_Index_one s 32 _).mono ?_; rintro e w' ⟨rfl, rfl⟩; rw [show Lib.indexByte s.data.toList 32 = (i : Int) from hI.out])
  go_quiet (fail)
  go_wp2
  go_ret3
  exact ⟨rfl, _, rfl⟩
set_option maxHeartbeats 400000 in
theorem lcut_none (s : ByteArray) (w : World) (hs : s.size ≤ 140737488351232) (h : Lib.indexByte (bl s) 32 = -1) :
    Calls Tryd.prog 84 #[.string s, .string ⟨#[32]⟩] w fun e w' => e = .returned (.tuple #[.string s, .string ⟨#[]⟩, .bool false]) ∧ w = w' := by
  have hI := Lib.hid h
  clear h
  go_enter Tryd.func84, Tryd.ntmps84
  go_wp2_with (go_at_call 82; refine (Tryd.stringslite_Index_one s 32 _).mono ?_; rintro e w' ⟨rfl, rfl⟩; rw [show Lib.indexByte s.data.toList 32 = (-1 : Int) from hI.out])
  go_ret3
  exact ⟨rfl, rfl⟩
theorem cut_some (s : ByteArray) (i : Nat) (w : World) (hs : s.size ≤ 140737488351232) (h : Lib.indexByte (bl s) 32 = i) (hi : i < s.size) :
    Calls Tryd.prog 69 #[.string s, .string ⟨#[32]⟩] w fun e w' => e = .returned (.tuple #[.string (s.extract 0 i), .string (s.extract (i + 1) s.size), .bool true]) ∧ ∃ n, w' = w.drewN n := by
  have hI := Lib.hid h
  clear h
  go_enter Tryd.func69, Tryd.ntmps69
  go_wp2_with (go_at_call 84; refine (lcut_some s i _ hs hI.out hi).mono ?_; rintro e w' ⟨rfl, n, rfl⟩)
  go_ret3
  exact ⟨rfl, _, rfl⟩
theorem cut_none (s : ByteArray) (w : World) (hs : s.size ≤ 140737488351232) (h : Lib.indexByte (bl s) 32 = -1) :
    Calls Tryd.prog 69 #[.string s, .string ⟨#[32]⟩] w fun e w' => e = .returned (.tuple #[.string s, .string ⟨#[]⟩, .bool false]) ∧ w = w' := by
  have hI := Lib.hid h
  clear h
  go_enter Tryd.func69, Tryd.ntmps69
  go_wp2_with (go_at_call 84; refine (lcut_none s _ hs hI.out).mono ?_; rintro e w' ⟨rfl, rfl⟩)
  go_ret3
  exact ⟨rfl, rfl⟩
end Go.Proofs.YtefkhjbgkaknmaaDoor
