/- Contracts of the library in this seat's own words: strings.Builder, Join, Contains. -/
import Derived.Test.YtefkhjbgkaknmaaDoorShelf
import Derived.Test.YtefkhjbgkaknmaaDoorKit
import Derived.Test.YtefkhjbgkaknmaaDoorPl2
import Derived.Lib.IndexLaws
set_option linter.unusedVariables false
namespace Go.Proofs.YtefkhjbgkaknmaaDoor
open Go.RowKit Go.Shelf

theorem idx_feed (l : List UInt8) : decide (0 ≤ Lib.indexByte l 10) = hasFeed l := by
  rcases Int.lt_or_le (Lib.indexByte l 10) 0 with h | h
  · have h1 : Lib.indexByte l 10 = -1 := by have := Lib.indexByte_ge l 10; omega
    have := Lib.indexByte_none h1
    rw [decide_eq_false (by omega)]
    symm
    rw [hasFeed, List.any_eq_false]
    intro c hc
    obtain ⟨k, hk⟩ := List.getElem?_of_mem hc
    have := this k
    rw [hk] at this
    simp only [decide_eq_true_eq]
    intro h10
    exact this (by rw [show c = 10 from UInt8.toNat_inj.1 (by rw [h10]; rfl)])
  · obtain ⟨o, ho⟩ := Int.eq_ofNat_of_zero_le h
    have := (Lib.indexByte_some ho).1
    rw [decide_eq_true h]
    symm
    rw [hasFeed, List.any_eq_true]
    exact ⟨10, List.mem_of_getElem? this, by decide⟩

/-- A Builder in block b, one of the call's own from B on, that holds the bytes l. -/
abbrev Bld (w : World) (B b : Nat) (l : List UInt8) : Prop := Lib.IsBuilder 62 5 B b (Lib.byteCells l) w

theorem bld_new (w : World) (B : Nat) (hB : B ≤ w.heap.size) : Bld (w.alloc (.cells #[.pointer none, .slice none 0 0] 62)) B w.heap.size [] := by
  refine Or.inl ⟨hB, .slice none 0 0, ?_, World.ownsRow_nil _ _ _ _, by simp [Value.ownBlock]⟩
  exact alloc_new w _

theorem bld_below {w w' : World} {B b : Nat} {l : List UInt8} (h : Bld w B b l) (hb : Below w.heap.size w w') : Bld w' B b l := by
  rcases h with ⟨hB, v, hh, ho, hn⟩ | ⟨hB, v, hh, ho, hn⟩
  · exact Or.inl ⟨hB, v, by rw [hb.block b (Array.getElem?_eq_some_iff.1 hh).1]; exact hh, ownsRow_below ho hb, hn⟩
  · exact Or.inr ⟨hB, v, by rw [hb.block b (Array.getElem?_eq_some_iff.1 hh).1]; exact hh, ownsRow_below ho hb, hn⟩

theorem wstr_walk (B b : Nat) (l : List UInt8) (s : ByteArray) (w : World) (h : Bld w B b l) (hlen : l.length + s.size ≤ 140737488355328) (hBw : B ≤ w.heap.size) :
    Calls Tryd.prog 40 #[.pointer (some ⟨b, 0, none⟩), .string s] w fun e w' => e = .returned (.tuple #[.int .i64 s.size, .nilIface]) ∧ Bld w' B b (l ++ bl s) ∧ Below B w w' := by
  refine (Any.Builder_WriteString (ρ := Tryd.lays156_ren) { Tryd.lays156 with } Tryd.Builder_Extra_156 B b (Lib.byteCells l) s w h (by rw [Lib.byteCells_length]; exact hlen) hBw).mono ?_
  rintro e w' ⟨he, h1, h2⟩
  refine ⟨he, Or.inr ?_, h2⟩
  have : Lib.byteCells (l ++ bl s) = Lib.byteCells l ++ Lib.strCells s := by
    rw [Lib.strCells_eq]; simp [Lib.byteCells, bl]
  rw [this]; exact h1

theorem bstring_walk (B b : Nat) (l : List UInt8) (w : World) (h : Bld w B b l) (hBw : B ≤ w.heap.size) :
    Calls Tryd.prog 42 #[.pointer (some ⟨b, 0, none⟩)] w fun e w' => e = .returned (.string (ba l)) ∧ Below B w w' :=
  Tryd.Builder_String_any B b l w h hBw

theorem contains_yes (s : ByteArray) (w : World) (h : hasFeed (bl s) = true) :
    Calls Tryd.prog 47 #[.string s, .string ⟨#[10]⟩] w fun e w' => e = .returned (.bool true) ∧ w = w' :=
  (Tryd.strings_Contains_one s 10 w).mono fun e w' ⟨he, hw⟩ => ⟨by rw [he]; exact congrArg (fun b => Ending.returned (.bool b)) ((idx_feed (bl s)).trans h), hw.symm⟩
theorem contains_no (s : ByteArray) (w : World) (h : hasFeed (bl s) = false) :
    Calls Tryd.prog 47 #[.string s, .string ⟨#[10]⟩] w fun e w' => e = .returned (.bool false) ∧ w = w' :=
  (Tryd.strings_Contains_one s 10 w).mono fun e w' ⟨he, hw⟩ => ⟨by rw [he]; exact congrArg (fun b => Ending.returned (.bool b)) ((idx_feed (bl s)).trans h), hw.symm⟩
end Go.Proofs.YtefkhjbgkaknmaaDoor
