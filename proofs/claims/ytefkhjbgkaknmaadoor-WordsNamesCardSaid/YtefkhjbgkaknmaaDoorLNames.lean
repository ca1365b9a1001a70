/- The law WordsNames, walked out of its callees' contracts. -/
import Derived.Test.YtefkhjbgkaknmaaDoorLNa
import Derived.Laws.MakeOwn
import Derived.Laws.OwnMore
set_option linter.unusedVariables false
namespace Go.Proofs.YtefkhjbgkaknmaaDoor
open Go.RowKit Go.Shelf

theorem cells_lit (w : World) (t : TypeId) (xs : List (List UInt8)) (a : Array Value) (ha : a.toList = xs.map sv) : CellsAt (w.alloc (.cells a t)) (some ⟨w.heap.size, 0, none⟩) (xs.map sv) := by
  refine ⟨w.heap.size, 0, fun _ => rfl, fun j x hx => ?_⟩
  have e1 := alloc_new w (.cells a t)
  rw [Lib.cell_of_heap e1, Nat.zero_add]
  rw [← ha] at hx
  simpa using hx
theorem below_lit {w w0 : World} (h : Below w0.heap.size w0 w) (o : Obj) : Below w0.heap.size w0 (w.alloc o) := h.alloc h.size o
theorem made_run (w : World) : (Instr.makeSlice 35 (.int .i64 513) (.int .i64 513)).run Tryd.prog w = .ok (.slice (some ⟨w.heap.size, 0, none⟩) 513 513) (w.alloc (.cells (madeCells #[.string ⟨#[]⟩] 513) 9)) := by
  obtain ⟨i0, hi, hz0, hz1, hz2⟩ := info_parts infoStr
  have := run_makeSlice (P := Tryd.prog) w 35 9 i0 (.string ⟨#[]⟩) Tryd.underlying35 hi hz0 .i64 .i64 513 513 (by decide) (by decide) (by rw [hz1]; decide) (by rw [hz2]; decide) (by decide)
  rw [hz1] at this
  exact this
theorem made_cells (w : World) : CellsAt (w.alloc (.cells (madeCells #[.string ⟨#[]⟩] 513) 9)) (some ⟨w.heap.size, 0, none⟩) ((List.replicate 513 []).map sv) :=
  cells_lit w _ _ _ (by rw [toList_madeCells_one, List.map_replicate]; rfl)
theorem one_row (w : World) : RowsAt ((w.alloc (.cells #[.string ⟨#[97, 32, 98]⟩] 9)).alloc (.cells #[.slice (some ⟨w.heap.size, 0, none⟩) 1 1] 35)) (some ⟨w.heap.size + 1, 0, none⟩) [[[97, 32, 98]]] := by
  have e1 : ((w.alloc (.cells #[.string ⟨#[97, 32, 98]⟩] 9)).alloc (.cells #[.slice (some ⟨w.heap.size, 0, none⟩) 1 1] 35)).heap[w.heap.size]? = some (.cells #[.string ⟨#[97, 32, 98]⟩] 9 (0, 0)) :=
    (Below.heap_alloc _ _ _ (by simp)).trans (alloc_new w _)
  have e2 := alloc_new (w.alloc (.cells #[.string ⟨#[97, 32, 98]⟩] 9)) (.cells #[.slice (some ⟨w.heap.size, 0, none⟩) 1 1] 35)
  rw [World.size_alloc] at e2
  refine ⟨w.heap.size + 1, 0, fun _ => rfl, fun i l hl => ?_⟩
  match i, hl with
  | 0, hl =>
    cases hl
    refine ⟨some ⟨w.heap.size, 0, none⟩, 1, by rw [Lib.cell_of_heap e2]; rfl, ⟨w.heap.size, 0, fun _ => rfl, fun j x hx => ?_⟩, Nat.le_refl _, fun h => by cases h⟩
    match j, hx with
    | 0, hx => cases hx; rw [Lib.cell_of_heap e1]; rfl
    | j + 1, hx => cases hx
  | i + 1, hl => cases hl
theorem two_rows (w : World) : RowsAt (((w.alloc (.cells #[] 9)).alloc (.cells #[.string ⟨#[120]⟩] 9)).alloc (.cells #[.slice (some ⟨w.heap.size, 0, none⟩) 0 0, .slice (some ⟨w.heap.size + 1, 0, none⟩) 1 1] 35)) (some ⟨w.heap.size + 1 + 1, 0, none⟩) [[], [[120]]] := by
  have e2 : (((w.alloc (.cells #[] 9)).alloc (.cells #[.string ⟨#[120]⟩] 9)).alloc (.cells #[.slice (some ⟨w.heap.size, 0, none⟩) 0 0, .slice (some ⟨w.heap.size + 1, 0, none⟩) 1 1] 35)).heap[w.heap.size + 1]? = some (.cells #[.string ⟨#[120]⟩] 9 (0, 0)) := by
    have := alloc_new (w.alloc (.cells #[] 9)) (.cells #[.string ⟨#[120]⟩] 9)
    rw [World.size_alloc] at this
    exact (Below.heap_alloc _ _ _ (by simp)).trans this
  have e3 := alloc_new ((w.alloc (.cells #[] 9)).alloc (.cells #[.string ⟨#[120]⟩] 9)) (.cells #[.slice (some ⟨w.heap.size, 0, none⟩) 0 0, .slice (some ⟨w.heap.size + 1, 0, none⟩) 1 1] 35)
  rw [World.size_alloc, World.size_alloc] at e3
  refine ⟨w.heap.size + 1 + 1, 0, fun _ => rfl, fun i l hl => ?_⟩
  match i, hl with
  | 0, hl =>
    cases hl
    refine ⟨some ⟨w.heap.size, 0, none⟩, 0, by rw [Lib.cell_of_heap e3]; rfl, CellsAt.nil, Nat.le_refl _, fun h => by cases h⟩
  | 1, hl =>
    cases hl
    refine ⟨some ⟨w.heap.size + 1, 0, none⟩, 1, by rw [Lib.cell_of_heap e3]; rfl, ⟨w.heap.size + 1, 0, fun _ => rfl, fun j x hx => ?_⟩, Nat.le_refl _, fun h => by cases h⟩
    match j, hx with
    | 0, hx => cases hx; rw [Lib.cell_of_heap e2]; rfl
    | j + 1, hx => cases hx
  | i + 2, hl => cases hl

set_option maxRecDepth 100000 in
set_option maxHeartbeats 16000000 in
theorem names_law (w : World) (h : Std w) :
    Calls Tryd.prog 8 #[] w fun e w' => e = .returned (.bool true) ∧ Below w.heap.size w w' := by
  have H := Lib.hid h
  have R1 := Lib.hid (fun w => repeated_walk 97 16385 w (by decide))
  have R2 := Lib.hid (fun w => repeated_walk 97 16384 w (by decide))
  have R3 := Lib.hid (fun w => repeated_walk 10 513 w (by decide))
  have R4 := Lib.hid (fun w => repeated_walk 10 512 w (by decide))
  have W7 := Lib.hid (fun w => line_true (ba (List.replicate 16385 97)) 4 (by rw [ba_size, List.length_replicate]; decide) nam_w7 w)
  have W8 := Lib.hid (fun w => line_true (ba (List.replicate 16384 97)) 0 (by rw [ba_size, List.length_replicate]; decide) nam_w8 w)
  have L1 := Lib.hid (fun w => lines_walk ⟨#[97]⟩ w (by decide))
  have L2 := Lib.hid (fun w => lines_walk (ba (List.replicate 513 10)) w (by rw [ba_size, List.length_replicate]; decide))
  have L3 := Lib.hid (fun w => lines_walk (ba (List.replicate 512 10)) w (by rw [ba_size, List.length_replicate]; decide))
  have T1 := Lib.hid (fun w ao cap (hc : CellsAt w ao ([[97, 10, 98]].map sv)) => text_walk ao [[97, 10, 98]] cap w hc (by decide) (by decide))
  have T2 := Lib.hid (fun w ao cap (hc : CellsAt w ao ((List.replicate 513 []).map sv)) => text_walk ao (List.replicate 513 []) cap w hc (fun s hs => by rw [(List.mem_replicate.1 hs).2]; decide) (by rw [List.length_replicate]; decide))
  have B1 := Lib.hid (fun w ao cap (hr : RowsAt w ao [[], [[120]]]) => table_walk ao _ cap w hr (by unfold Small; decide) (by decide))
  have B2 := Lib.hid (fun w ao cap (hr : RowsAt w ao [[[97, 32, 98]]]) => table_walk ao _ cap w hr (by unfold Small; decide) (by decide))
  have M := Lib.hid (fun w => line_walk none [] 0 w CellsAt.nil (by simp) (by simp) (by simp))
  have S := Lib.hid (fun w (h : Std w) => show_walk (-9223372036854775808) (by decide) (by decide) w h.pow)
  unfold LinesRes at L1 L2 L3
  unfold TextRes' at T1 T2
  unfold TableRes' at B1 B2
  unfold LineRes' at M
  rw [show bl ⟨#[97]⟩ = [97] from rfl, nam_l1] at L1
  rw [bl_ba, nam_l2] at L2
  rw [bl_ba, nam_l3] at L3
  rw [nam_t1] at T1
  rw [nam_t2] at T2
  rw [nam_b1] at B1
  simp only [show ba [10, 120, 10] = ⟨#[10, 120, 10]⟩ from rfl] at B1
  rw [nam_b2] at B2
  rw [nam_m] at M
  simp only [show ba [] = ⟨#[]⟩ from rfl] at M
  rw [nam_s, show ba [45, 57, 50, 50, 51, 51, 55, 50, 48, 51, 54, 56, 53, 52, 55, 55, 53, 56, 48, 56] = ⟨#[45, 57, 50, 50, 51, 51, 55, 50, 48, 51, 54, 56, 53, 52, 55, 55, 53, 56, 48, 56]⟩ from rfl] at S
  simp only [List.length_replicate] at L3 T2
  generalize ba (List.replicate 16385 97) = r1 at R1 W7
  generalize ba (List.replicate 16384 97) = r2 at R2 W8
  generalize ba (List.replicate 513 10) = r3 at R3 L2
  generalize ba (List.replicate 512 10) = r4 at R4 L3
  clear h
  go_enter Tryd.func8, Tryd.ntmps8
  go_wp2_with fail
  refine (line_true ⟨#[]⟩ 0 (by decide) nam_w1 _).mono ?_
  rintro e w1 ⟨rfl, hb1⟩
  have A1 := hb1
  clear hb1
  go_wp2_with fail
  refine (line_true ⟨#[32]⟩ 11 (by decide) nam_w2 _).mono ?_
  rintro e w2 ⟨rfl, hb⟩
  have A2 := A1.trans (hb.mono A1.size)
  clear A1 hb
  go_wp2_with fail
  refine (line_true ⟨#[97, 32]⟩ 11 (by decide) nam_w3 _).mono ?_
  rintro e w3 ⟨rfl, hb⟩
  have A3 := A2.trans (hb.mono A2.size)
  clear A2 hb
  go_wp2_with fail
  refine (line_true ⟨#[32, 97]⟩ 11 (by decide) nam_w4 _).mono ?_
  rintro e w4 ⟨rfl, hb⟩
  have A4 := A3.trans (hb.mono A3.size)
  clear A3 hb
  go_wp2_with fail
  refine (line_true ⟨#[97, 9, 98]⟩ 11 (by decide) nam_w5 _).mono ?_
  rintro e w5 ⟨rfl, hb⟩
  have A5 := A4.trans (hb.mono A4.size)
  clear A4 hb
  go_wp2_with fail
  refine (line_true ⟨#[126, 32, 33]⟩ 0 (by decide) nam_w6 _).mono ?_
  rintro e w6 ⟨rfl, hb⟩
  have A6 := A5.trans (hb.mono A5.size)
  clear A5 hb
  go_wp2_with fail
  refine (R1.out _).mono ?_
  rintro e w' ⟨rfl, rfl⟩
  go_wp2_with fail
  refine (W7.out _).mono ?_
  rintro e w7 ⟨rfl, hb⟩
  have A7 := A6.trans (hb.mono A6.size)
  clear A6 hb
  go_wp2_with fail
  refine (R2.out _).mono ?_
  rintro e w' ⟨rfl, rfl⟩
  go_wp2_with fail
  refine (W8.out _).mono ?_
  rintro e w8 ⟨rfl, hb⟩
  have A8 := A7.trans (hb.mono A7.size)
  clear A7 hb
  go_wp2_with fail
  refine (number_true ⟨#[]⟩ 11 (by decide) nam_n1 _ (H.out.below A8)).mono ?_
  rintro e w9 ⟨rfl, hb⟩
  have A9 := A8.trans (hb.mono A8.size)
  clear A8 hb
  go_wp2_with fail
  refine (number_true ⟨#[45]⟩ 11 (by decide) nam_n2 _ (H.out.below A9)).mono ?_
  rintro e w10 ⟨rfl, hb⟩
  have A10 := A9.trans (hb.mono A9.size)
  clear A9 hb
  go_wp2_with fail
  refine (number_true ⟨#[45, 48]⟩ 11 (by decide) nam_n3 _ (H.out.below A10)).mono ?_
  rintro e w11 ⟨rfl, hb⟩
  have A11 := A10.trans (hb.mono A10.size)
  clear A10 hb
  go_wp2_with fail
  refine (number_true ⟨#[43, 49]⟩ 11 (by decide) nam_n4 _ (H.out.below A11)).mono ?_
  rintro e w12 ⟨rfl, hb⟩
  have A12 := A11.trans (hb.mono A11.size)
  clear A11 hb
  go_wp2_with fail
  refine (number_true ⟨#[48]⟩ 0 (by decide) nam_n5 _ (H.out.below A12)).mono ?_
  rintro e w13 ⟨rfl, hb⟩
  have A13 := A12.trans (hb.mono A12.size)
  clear A12 hb
  go_wp2_with fail
  refine (number_true ⟨#[52, 54, 49, 49, 54, 56, 54, 48, 49, 56, 52, 50, 55, 51, 56, 55, 57, 48, 52]⟩ 0 (by decide) nam_n6 _ (H.out.below A13)).mono ?_
  rintro e w14 ⟨rfl, hb⟩
  have A14 := A13.trans (hb.mono A13.size)
  clear A13 hb
  go_wp2_with fail
  refine (number_true ⟨#[52, 54, 49, 49, 54, 56, 54, 48, 49, 56, 52, 50, 55, 51, 56, 55, 57, 48, 53]⟩ 30 (by decide) nam_n7 _ (H.out.below A14)).mono ?_
  rintro e w15 ⟨rfl, hb⟩
  have A15 := A14.trans (hb.mono A14.size)
  clear A14 hb
  go_wp2_with fail
  refine (number_true ⟨#[45, 52, 54, 49, 49, 54, 56, 54, 48, 49, 56, 52, 50, 55, 51, 56, 55, 57, 48, 52]⟩ 0 (by decide) nam_n8 _ (H.out.below A15)).mono ?_
  rintro e w16 ⟨rfl, hb⟩
  have A16 := A15.trans (hb.mono A15.size)
  clear A15 hb
  go_wp2_with fail
  refine (number_true ⟨#[57, 57, 57, 57, 57, 57, 57, 57, 57, 57, 57, 57, 57, 57, 57, 57, 57, 57, 57, 57]⟩ 30 (by decide) nam_n9 _ (H.out.below A16)).mono ?_
  rintro e w17 ⟨rfl, hb⟩
  have A17 := A16.trans (hb.mono A16.size)
  clear A16 hb
  go_wp2_with fail
  refine (number_true ⟨#[49, 32]⟩ 11 (by decide) nam_n10 _ (H.out.below A17)).mono ?_
  rintro e w18 ⟨rfl, hb⟩
  have A18 := A17.trans (hb.mono A17.size)
  clear A17 hb
  go_wp2_with fail
  refine (L1.out _).mono ?_
  rintro e w19 ⟨v19, rfl, _, hb⟩
  have A19 := A18.trans (hb.mono A18.size)
  clear A18 hb
  go_wp2_with fail
  refine (R3.out _).mono ?_
  rintro e w' ⟨rfl, rfl⟩
  go_wp2_with fail
  refine (L2.out _).mono ?_
  rintro e w20 ⟨v20, rfl, _, hb⟩
  have A20 := A19.trans (hb.mono A19.size)
  clear A19 hb
  go_wp2_with fail
  refine (R4.out _).mono ?_
  rintro e w' ⟨rfl, rfl⟩
  go_wp2_with fail
  refine (L3.out _).mono ?_
  rintro e w21 ⟨v21, rfl, ho, hb⟩
  have A21 := A20.trans (hb.mono A20.size)
  obtain ⟨al, cl, rfl, _, _⟩ := CellsAt.of_owns ho
  clear A20 hb ho
  go_wp2_with fail
  refine (T1.out _ _ _ (cells_lit w21 9 [[97, 10, 98]] _ rfl)).mono ?_
  rintro e w22 ⟨rfl, hb⟩
  have A22 := (below_lit A21 _).trans (hb.mono (below_lit A21 _).size)
  clear A21 hb
  have hmk := made_run w22
  go_wp2_with fail
  clear hmk
  refine ((T2.out _ _ 513 (made_cells w22)).mono ?_)
  rintro e w23 ⟨rfl, hb⟩
  have A23 := (below_lit A22 _).trans (hb.mono (below_lit A22 _).size)
  clear A22 hb
  go_wp2_with fail
  refine ((B1.out _ _ 2 (two_rows w23)).mono ?_)
  rintro e w24 ⟨rfl, hb⟩
  have A24 := (below_lit (below_lit (below_lit A23 _) _) _).trans (hb.mono (below_lit (below_lit (below_lit A23 _) _) _).size)
  clear A23 hb
  go_wp2_with fail
  refine ((B2.out _ _ 1 (one_row w24)).mono ?_)
  rintro e w25 ⟨rfl, hb⟩
  have A25 := (below_lit (below_lit A24 _) _).trans (hb.mono (below_lit (below_lit A24 _) _).size)
  clear A24 hb
  go_wp2_with fail
  refine (M.out _).mono ?_
  rintro e w26 ⟨rfl, hb⟩
  have A26 := A25.trans (hb.mono A25.size)
  clear A25 hb
  go_wp2_with fail
  refine (alive_walk _ (H.out.below A26)).mono ?_
  rintro e w27 ⟨rfl, hb⟩
  have A27 := A26.trans (hb.mono A26.size)
  clear A26 hb
  go_wp2_with fail
  refine (S.out _ (H.out.below A27)).mono ?_
  rintro e w28 ⟨rfl, hb⟩
  have A28 := A27.trans (hb.mono A27.size)
  clear A27 hb
  go_wp2_with fail
  go_ret
  exact ⟨rfl, A28⟩
end Go.Proofs.YtefkhjbgkaknmaaDoor
