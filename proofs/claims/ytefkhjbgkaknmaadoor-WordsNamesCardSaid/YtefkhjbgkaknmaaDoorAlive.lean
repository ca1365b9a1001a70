/- The chapter's examples: alive. -/
import Derived.Test.YtefkhjbgkaknmaaDoorCp
import Derived.Test.YtefkhjbgkaknmaaDoorNum2
import Derived.Test.YtefkhjbgkaknmaaDoorLaid
set_option linter.unusedVariables false
namespace Go.Proofs.YtefkhjbgkaknmaaDoor
open Go.RowKit Go.Shelf

/-- What the walks ask of a world: the table of powers and the error of the range lie below its end. -/
structure Std (w : World) : Prop where
  pow : Lib.TabIs Tryd.prog w "internal/strconv.uint64pow10" .u64 Lib.pow10Tab
  var : ∃ p, w.var? Tryd.prog "strconv.ErrRange" = some #[.iface 115 p]
theorem Std.of {W : World} (h : laidMet Tryd.prog laid5 W) : Std W := ⟨pow_of h, range_of h⟩
theorem Std.lt {w : World} (h : Std w) : 2 < w.heap.size := by
  obtain ⟨p, hp⟩ := h.var
  exact lt_of_cell (b := 2) (o := 0) (by rw [World.var?_cell gRange hp 0]; rfl)
theorem Std.below {w w' : World} (h : Std w) (hb : Below w.heap.size w w') : Std w' := by
  obtain ⟨p, hp⟩ := h.var
  exact ⟨pow_later h.pow hb, p, var?_below hb gRange h.lt hp⟩
theorem Std.number {w : World} (h : Std w) (s : ByteArray) (hs : s.size ≤ 140737488351232) : Calls Tryd.prog 9 #[.string s] w (NumRes s w) := by
  obtain ⟨p, hp⟩ := h.var
  exact number_walk s w hs _ p hp 2 gRange h.lt

theorem ex_lines : linesL [97, 32, 98, 10, 10] = ([[97, 32, 98], []], 0) := by decide +kernel
theorem ex_words : wordsL [97, 32, 32, 98] = ([], 11) := by decide +kernel
theorem ex_num1 : numL [45, 49, 50] = (-12, 0) := by decide +kernel
theorem ex_num2 : (numL [48, 55]).2 = 11 := by decide +kernel
theorem ex_table : tableL [[[97], [98, 98, 98], [99]], [[100, 100], [101]]] = ([97, 32, 32, 32, 98, 98, 98, 32, 32, 99, 10, 100, 100, 32, 32, 101, 10], 0) := by decide +kernel
theorem ex_show : Lib.itoa (-3) = [45, 51] := by
  rw [Lib.itoa, if_pos (by decide)]
  show 45 :: Lib.decDigits 3 = _
  rw [Lib.decDigits, dif_pos (by decide)]; rfl

theorem ex_rows (w : World) : RowsAt (((w.alloc (.cells #[.string ⟨#[97]⟩, .string ⟨#[98, 98, 98]⟩, .string ⟨#[99]⟩] 9)).alloc (.cells #[.string ⟨#[100, 100]⟩, .string ⟨#[101]⟩] 9)).alloc (.cells #[.slice (some ⟨w.heap.size, 0, none⟩) 3 3, .slice (some ⟨w.heap.size + 1, 0, none⟩) 2 2] 35)) (some ⟨w.heap.size + 1 + 1, 0, none⟩) [[[97], [98, 98, 98], [99]], [[100, 100], [101]]] := by
  have e1 : (((w.alloc (.cells #[.string ⟨#[97]⟩, .string ⟨#[98, 98, 98]⟩, .string ⟨#[99]⟩] 9)).alloc (.cells #[.string ⟨#[100, 100]⟩, .string ⟨#[101]⟩] 9)).alloc (.cells #[.slice (some ⟨w.heap.size, 0, none⟩) 3 3, .slice (some ⟨w.heap.size + 1, 0, none⟩) 2 2] 35)).heap[w.heap.size]? = some (.cells #[.string ⟨#[97]⟩, .string ⟨#[98, 98, 98]⟩, .string ⟨#[99]⟩] 9 (0, 0)) :=
    (Below.heap_alloc _ _ _ (by simp; omega)).trans ((Below.heap_alloc _ _ _ (by simp)).trans (alloc_new w _))
  have e2 : (((w.alloc (.cells #[.string ⟨#[97]⟩, .string ⟨#[98, 98, 98]⟩, .string ⟨#[99]⟩] 9)).alloc (.cells #[.string ⟨#[100, 100]⟩, .string ⟨#[101]⟩] 9)).alloc (.cells #[.slice (some ⟨w.heap.size, 0, none⟩) 3 3, .slice (some ⟨w.heap.size + 1, 0, none⟩) 2 2] 35)).heap[w.heap.size + 1]? = some (.cells #[.string ⟨#[100, 100]⟩, .string ⟨#[101]⟩] 9 (0, 0)) := by
    have := alloc_new (w.alloc (.cells #[.string ⟨#[97]⟩, .string ⟨#[98, 98, 98]⟩, .string ⟨#[99]⟩] 9)) (.cells #[.string ⟨#[100, 100]⟩, .string ⟨#[101]⟩] 9)
    rw [World.size_alloc] at this
    exact (Below.heap_alloc _ _ _ (by simp)).trans this
  have e3 : (((w.alloc (.cells #[.string ⟨#[97]⟩, .string ⟨#[98, 98, 98]⟩, .string ⟨#[99]⟩] 9)).alloc (.cells #[.string ⟨#[100, 100]⟩, .string ⟨#[101]⟩] 9)).alloc (.cells #[.slice (some ⟨w.heap.size, 0, none⟩) 3 3, .slice (some ⟨w.heap.size + 1, 0, none⟩) 2 2] 35)).heap[w.heap.size + 1 + 1]? = some (.cells #[.slice (some ⟨w.heap.size, 0, none⟩) 3 3, .slice (some ⟨w.heap.size + 1, 0, none⟩) 2 2] 35 (0, 0)) := by
    have := alloc_new ((w.alloc (.cells #[.string ⟨#[97]⟩, .string ⟨#[98, 98, 98]⟩, .string ⟨#[99]⟩] 9)).alloc (.cells #[.string ⟨#[100, 100]⟩, .string ⟨#[101]⟩] 9)) (.cells #[.slice (some ⟨w.heap.size, 0, none⟩) 3 3, .slice (some ⟨w.heap.size + 1, 0, none⟩) 2 2] 35)
    rw [World.size_alloc, World.size_alloc] at this
    exact this
  refine ⟨w.heap.size + 1 + 1, 0, fun _ => rfl, fun i l hl => ?_⟩
  match i, hl with
  | 0, hl =>
    cases hl
    refine ⟨some ⟨w.heap.size, 0, none⟩, 3, by rw [Lib.cell_of_heap e3]; rfl, ⟨w.heap.size, 0, fun _ => rfl, fun j x hx => ?_⟩, Nat.le_refl _, fun h => by cases h⟩
    match j, hx with
    | 0, hx => cases hx; rw [Lib.cell_of_heap e1]; rfl
    | 1, hx => cases hx; rw [Lib.cell_of_heap e1]; rfl
    | 2, hx => cases hx; rw [Lib.cell_of_heap e1]; rfl
    | j + 3, hx => cases hx
  | 1, hl =>
    cases hl
    refine ⟨some ⟨w.heap.size + 1, 0, none⟩, 2, by rw [Lib.cell_of_heap e3]; rfl, ⟨w.heap.size + 1, 0, fun _ => rfl, fun j x hx => ?_⟩, Nat.le_refl _, fun h => by cases h⟩
    match j, hx with
    | 0, hx => cases hx; rw [Lib.cell_of_heap e2]; rfl
    | 1, hx => cases hx; rw [Lib.cell_of_heap e2]; rfl
    | j + 2, hx => cases hx
  | i + 2, hl => cases hl

theorem ex_two (w : World) : CellsAt (w.alloc (.cells #[.string ⟨#[97, 32, 98]⟩, .string ⟨#[]⟩] 9)) (some ⟨w.heap.size, 0, none⟩) ([[97, 32, 98], []].map sv) := by
  refine ⟨w.heap.size, 0, fun _ => rfl, fun j x hx => ?_⟩
  have e1 := alloc_new w (.cells #[.string ⟨#[97, 32, 98]⟩, .string ⟨#[]⟩] 9)
  match j, hx with
  | 0, hx => cases hx; rw [Lib.cell_of_heap e1]; rfl
  | 1, hx => cases hx; rw [Lib.cell_of_heap e1]; rfl
  | j + 2, hx => cases hx

theorem small_ex : Small [[[97], [98, 98, 98], [99]], [[100, 100], [101]]] := by
  refine ⟨by decide, fun r hr => ?_⟩
  simp at hr
  rcases hr with rfl | rfl
  · exact ⟨by decide, fun s hs => by simp at hs; rcases hs with rfl | rfl | rfl <;> decide⟩
  · exact ⟨by decide, fun s hs => by simp at hs; rcases hs with rfl | rfl <;> decide⟩

set_option maxRecDepth 100000 in
set_option maxHeartbeats 4000000 in
theorem alive_walk (w : World) (h : Std w) :
    Calls Tryd.prog 13 #[] w fun e w' => e = .returned (.bool true) ∧ Below w.heap.size w w' := by
  have H := Lib.hid h
  have L1 := Lib.hid (lines_walk ⟨#[97, 32, 98, 10, 10]⟩ w (by decide))
  have L2 := Lib.hid (fun w => words_walk ⟨#[97, 32, 32, 98]⟩ w (by decide))
  have L3 := Lib.hid (fun w (h : Std w) => h.number ⟨#[45, 49, 50]⟩ (by decide))
  have L4 := Lib.hid (fun w (h : Std w) => h.number ⟨#[48, 55]⟩ (by decide))
  have L5 := Lib.hid (fun w ao cap (hr : RowsAt w ao _) => table_walk ao _ cap w hr small_ex (by decide))
  have L6 := Lib.hid (fun w (h : Std w) => show_walk (-3) (by decide) (by decide) w h.pow)
  unfold LinesRes at L1
  unfold WordsRes at L2
  unfold NumRes at L3 L4
  unfold TableRes' at L5
  rw [show bl ⟨#[97, 32, 98, 10, 10]⟩ = [97, 32, 98, 10, 10] from rfl, ex_lines] at L1
  rw [show bl ⟨#[97, 32, 32, 98]⟩ = [97, 32, 32, 98] from rfl, ex_words] at L2
  rw [show bl ⟨#[45, 49, 50]⟩ = [45, 49, 50] from rfl, ex_num1] at L3
  rw [show bl ⟨#[48, 55]⟩ = [48, 55] from rfl, ex_num2] at L4
  rw [ex_table] at L5
  rw [ex_show, show ba [45, 51] = ⟨#[45, 51]⟩ from rfl] at L6
  simp only [show ba [97, 32, 32, 32, 98, 98, 98, 32, 32, 99, 10, 100, 100, 32, 32, 101, 10] = ⟨#[97, 32, 32, 32, 98, 98, 98, 32, 32, 99, 10, 100, 100, 32, 32, 101, 10]⟩ from rfl] at L5
  obtain ⟨n2, hn2⟩ : ∃ n2, (numL [48, 55]).1 = n2 := ⟨_, rfl⟩
  rw [hn2] at L4
  clear h hn2
  go_enter Tryd.func13, Tryd.ntmps13
  go_wp2_with fail
  refine L1.out.mono ?_
  rintro e w1 ⟨v1, rfl, ho1, hb1⟩
  obtain ⟨a1, c1, rfl, hc1, _⟩ := CellsAt.of_owns ho1
  go_wp2_with fail
  refine (L2.out _).mono ?_
  rintro e w2 ⟨v2, rfl, _, hb2⟩
  have B2 := hb1.trans (hb2.mono hb1.size)
  go_wp2_with fail
  refine (L3.out _ (H.out.below B2)).mono ?_
  rintro e w3 ⟨rfl, hb3⟩
  have B3 := B2.trans (hb3.mono B2.size)
  go_wp2_with fail
  refine (L4.out _ (H.out.below B3)).mono ?_
  rintro e w4 ⟨rfl, hb4⟩
  have B4 := B3.trans (hb4.mono B3.size)
  go_wp2_with fail
  refine (L5.out _ _ _ (ex_rows w4)).mono ?_
  rintro e w5 ⟨rfl, hb5⟩
  have hb5' : Below w4.heap.size w4 w5 := ((((Below.refl _ w4).alloc (Nat.le_refl _) _).alloc (by simp) _).alloc (by simp; omega) _).trans (hb5.mono (by simp; omega))
  have B5 := B4.trans (hb5'.mono B4.size)
  go_wp2_with fail
  have hb6 : Below w1.heap.size w1 (w5.alloc (.cells #[.string ⟨#[97, 32, 98]⟩, .string ⟨#[]⟩] 9)) :=
    (hb2.trans ((hb3.mono hb2.size).trans ((hb4.mono (Nat.le_trans hb2.size hb3.size)).trans (hb5'.mono (Nat.le_trans hb2.size (Nat.le_trans hb3.size hb4.size)))))).alloc (by have := hb2.size; have := hb3.size; have := hb4.size; have := hb5'.size; omega) _
  refine (rsame_eq a1 (some ⟨w5.heap.size, 0, none⟩) [[97, 32, 98], []] 2 rfl c1 2 _ (hc1.below hb6) (ex_two w5) (by decide)).mono ?_
  rintro e w6 ⟨rfl, n6, rfl⟩
  have B6 : Below w.heap.size w ((w5.alloc (.cells #[.string ⟨#[97, 32, 98]⟩, .string ⟨#[]⟩] 9)).drewN n6) := below_dn (B5.alloc B5.size _) n6
  go_wp2_with fail
  refine (L6.out _ (H.out.below B6)).mono ?_
  rintro e w7 ⟨rfl, hb7⟩
  go_wp2_with fail
  go_ret
  exact ⟨rfl, B6.trans (hb7.mono B6.size)⟩
end Go.Proofs.YtefkhjbgkaknmaaDoor
