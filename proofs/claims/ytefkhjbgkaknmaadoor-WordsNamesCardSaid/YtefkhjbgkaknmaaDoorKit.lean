/- Helpers for the walks: how a slice's cells lie in memory, and what a call keeps of them. Nothing of the program is named here. -/
import Derived.WalkKit
import Derived.BigQuiet
import Derived.Deep.QuietTactic
import Derived.Deep.LoopGhost
import Derived.Lib.Hide
import Derived.WalkLawsBesides
import Derived.WalkSpells
import Derived.Lib.Strings
set_option linter.unusedVariables false
namespace Go.Proofs.YtefkhjbgkaknmaaDoor
open Go.RowKit

theorem ret_int {k : IntKind} {a b : Int} (h : a = b) : Ending.returned (.int k a) = .returned (.int k b) := by rw [h]
theorem ret_bool {a b : Bool} (h : a = b) : Ending.returned (.bool a) = .returned (.bool b) := by rw [h]
theorem ret_str {a b : ByteArray} (h : a = b) : Ending.returned (.string a) = .returned (.string b) := by rw [h]
theorem ret_str_int {a b : ByteArray} {k : IntKind} {m n : Int} (h : a = b) (h2 : m = n) : Ending.returned (.tuple #[.string a, .int k m]) = .returned (.tuple #[.string b, .int k n]) := by rw [h, h2]

/-- The cells xs lie in w behind the address ao (of an empty list nothing is said). -/
def CellsAt (w : World) (ao : Option Addr) (xs : List Value) : Prop :=
  ∃ b off, (0 < xs.length → ao = some ⟨b, off, none⟩) ∧ ∀ i x, xs[i]? = some x → w.cell? ⟨b, off + i, none⟩ = some x

theorem lt_of_cell {w : World} {b o : Nat} {x : Value} (h : w.cell? ⟨b, o, none⟩ = some x) : b < w.heap.size := by
  rcases Nat.lt_or_ge b w.heap.size with h1 | h1
  · exact h1
  · rw [World.cell?, Array.getElem?_eq_none h1] at h; simp at h

theorem cell_below {w w' : World} (hb : Below w.heap.size w w') {b o : Nat} {x : Value} (h : w.cell? ⟨b, o, none⟩ = some x) : w'.cell? ⟨b, o, none⟩ = some x :=
  (hb.cell (p := ⟨b, o, none⟩) (lt_of_cell h)).trans h

theorem CellsAt.below {w w' : World} {ao : Option Addr} {xs : List Value} (h : CellsAt w ao xs) (hb : Below w.heap.size w w') : CellsAt w' ao xs := by
  obtain ⟨b, off, ha, hc⟩ := h
  exact ⟨b, off, ha, fun i x hx => cell_below hb (hc i x hx)⟩

theorem CellsAt.nil {w : World} {ao : Option Addr} : CellsAt w ao [] := ⟨0, 0, fun h => by simp at h, fun i x h => by simp at h⟩

theorem CellsAt.of_owns {w : World} {base : Nat} {e : TypeId} {size : Nat} {v : Value} {n : Nat} {xs : List Value} (h : w.ownsRow base e size v n xs) :
    ∃ ao cap, v = .slice ao n cap ∧ CellsAt w ao xs ∧ (ao = none → n = 0 ∧ cap = 0) := by
  obtain ⟨h1, h2⟩ := h
  rcases h2 with ⟨hv, hn⟩ | ⟨g, cap, cur, hv, hg, hh, hn, hc, hs, ht⟩
  · subst hn
    have : xs = [] := by simpa using h1
    subst this
    exact ⟨none, 0, hv, CellsAt.nil, fun _ => ⟨rfl, rfl⟩⟩
  · refine ⟨some ⟨g, 0, none⟩, cap, hv, ⟨g, 0, fun _ => rfl, fun i x hx => ?_⟩, fun h => by cases h⟩
    subst hv
    have hi : i < n * size := by rw [← h1]; exact (List.getElem?_eq_some_iff.1 hx).1
    rw [Nat.zero_add, World.ownsRow.cellAt (base := base) (e := e) (size := size) ⟨h1, .inr ⟨g, cap, cur, rfl, hg, hh, hn, hc, hs, ht⟩⟩ i hi, hx]

theorem ownsRow_below {w w' : World} {base : Nat} {e : TypeId} {size : Nat} {v : Value} {n : Nat} {xs : List Value} (h : w.ownsRow base e size v n xs) (hb : Below w.heap.size w w') : w'.ownsRow base e size v n xs := by
  obtain ⟨h1, h2⟩ := h
  refine ⟨h1, ?_⟩
  rcases h2 with h2 | ⟨g, cap, cur, hv, hg, hh, r⟩
  · exact Or.inl h2
  · exact Or.inr ⟨g, cap, cur, hv, hg, by rw [hb.block g (Array.getElem?_eq_some_iff.1 hh).1]; exact hh, r⟩

theorem ownsRow_mono {w : World} {base base' : Nat} {e : TypeId} {size : Nat} {v : Value} {n : Nat} {xs : List Value} (h : w.ownsRow base e size v n xs) (hb : base' ≤ base) : w.ownsRow base' e size v n xs := by
  obtain ⟨h1, h2⟩ := h
  refine ⟨h1, ?_⟩
  rcases h2 with h2 | ⟨g, cap, cur, hv, hg, r⟩
  · exact Or.inl h2
  · exact Or.inr ⟨g, cap, cur, hv, Nat.le_trans hb hg, r⟩
theorem add_plain (b off j : Nat) : (⟨b, off, none⟩ : Addr).add j = ⟨b, off + j, none⟩ := by
  unfold Addr.add
  by_cases h : j = 0
  · subst h; rfl
  · rw [if_neg h]
theorem below_dn {B : Nat} {a w : World} (h : Below B a w) (n : Nat) : Below B a (w.drewN n) := ⟨h.os, h.tape, h.output, h.size, h.block⟩
theorem alloc_new (w : World) (o : Obj) : (w.alloc o).heap[w.heap.size]? = some o := by
  show (w.heap.push o)[w.heap.size]? = some o
  simp
/-- Bytes of a string, and back. -/
def bl (s : ByteArray) : List UInt8 := s.data.toList
def ba (l : List UInt8) : ByteArray := ⟨l.toArray⟩
theorem ba_bl (s : ByteArray) : ba (bl s) = s := by cases s; simp [ba, bl]
theorem bl_ba (l : List UInt8) : bl (ba l) = l := by simp [ba, bl]
theorem bl_length (s : ByteArray) : (bl s).length = s.size := by simp [bl]
theorem bl_inj {s t : ByteArray} (h : bl s = bl t) : s = t := by rw [← ba_bl s, h, ba_bl]
theorem ba_inj {l m : List UInt8} (h : ba l = ba m) : l = m := by rw [← bl_ba l, h, bl_ba]
theorem bl_extract (s : ByteArray) (a b : Nat) : bl (s.extract a b) = ((bl s).drop a).take (b - a) := by
  unfold bl; rw [Lib.extract_data]
theorem bl_append (s t : ByteArray) : bl (s ++ t) = bl s ++ bl t := by simp [bl]
theorem bl_get (s : ByteArray) (k : Nat) (h : k < s.size) : (bl s)[k]? = some s[k] := by
  have : k < (bl s).length := by rw [bl_length]; exact h
  rw [List.getElem?_eq_getElem this]; rfl
theorem bl_drop_cons (s : ByteArray) (k : Nat) (h : k < s.size) : (bl s).drop k = s[k] :: (bl s).drop (k + 1) := by
  have : k < (bl s).length := by rw [bl_length]; exact h
  rw [List.drop_eq_getElem_cons this]; rfl
theorem bl_drop_end (s : ByteArray) (k : Nat) (h : ¬ k < s.size) : (bl s).drop k = [] := List.drop_of_length_le (by rw [bl_length]; omega)
theorem ba_ne {l m : List UInt8} (h : l ≠ m) : ((ba l).toList == (ba m).toList) = false := by
  rw [Lib.toList_data, Lib.toList_data]
  show ((bl (ba l)) == (bl (ba m))) = false
  rw [bl_ba, bl_ba]; simp [h]
/-- A string's value. -/
abbrev sv (l : List UInt8) : Value := .string (ba l)
end Go.Proofs.YtefkhjbgkaknmaaDoor
