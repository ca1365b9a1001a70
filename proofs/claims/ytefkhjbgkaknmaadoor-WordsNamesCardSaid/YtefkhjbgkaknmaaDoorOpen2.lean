/- Opening a list of lists of strings. -/
import Derived.Test.YtefkhjbgkaknmaaDoorOpen
import Derived.Test.YtefkhjbgkaknmaaDoorR3a
import Derived.Deep.Slices
set_option linter.unusedVariables false
namespace Go.Proofs.YtefkhjbgkaknmaaDoor
open Go.ChangeShapes Go.WideShapes Go.ChangeAt Go.RowKit Go.Deep
theorem cellsStrs : Tryd.prog.cellsOf 35 = 1 := by kernel_rfl
theorem bytesStrs : Tryd.prog.bytesOf 35 = 24 := by kernel_rfl

theorem mem_weightsAll {H : Type} {e : TypeId} {ds : List (DataW H)} {d : DataW H} {n : Nat} (hd : d ∈ ds) (hn : n ∈ d.weights Tryd.prog e) : n ∈ DataW.weightsAll Tryd.prog e ds := by
  induction ds with
  | nil => cases hd
  | cons x r ih =>
    simp only [DataW.weightsAll]
    rcases List.mem_cons.1 hd with rfl | h
    · exact List.mem_append_left _ hn
    · exact List.mem_append_right _ (ih h)

theorem open_strlist0 {H : Type} {enc : TypeId × Value → H} {W : World} {v : Value} {d : DataW H} {p : List MemPlace} {fuel : Nat} (hf : DataW.trod enc Tryd.prog W 0 (fun _ => true) true fuel 35 [v] = some (d, p)) (hr : Reach 35 d) :
    ∃ (ao : Option Addr) (l : List (List UInt8)) (cap : Nat), v = .slice ao l.length cap ∧ CellsAt W ao (l.map sv) ∧ (∀ s ∈ l, s.length ≤ 140737488351232) ∧ l.length ≤ cap ∧ cap * 16 ≤ 140737488351232 ∧ (ao = none → cap = 0) := by
  rcases open_strings Tryd.underlying35 Tryd.underlying9 cellsStr hf with ⟨hcs, hx⟩ | ⟨a, len, cap, ss, hcs, _, hl, hm, hz, hx, hcell, hws⟩
  · simp at hcs
    exact ⟨none, [], 0, hcs, CellsAt.nil, (fun s hs => by cases hs), Nat.le_refl _, by omega, fun _ => rfl⟩
  · simp at hcs
    simp only [if_true] at hz
    obtain ⟨l, h1, h2, h3⟩ := strs_cells (len := len) (by omega) hcell
    have hd : d = .slice (strs (ss.take len)) (strs (ss.drop len)) := congrArg Prod.fst hx
    subst hd
    refine ⟨some a, l, cap, by rw [h1]; exact hcs, h2, ?_, by omega, ?_, fun h => by cases h⟩
    · intro s hs
      have hm := h3 s hs
      have hw : s.length ∈ (DataW.slice (H := H) (strs (ss.take len)) (strs (ss.drop len))).weights Tryd.prog 35 := by
        simp only [DataW.weights, Tryd.underlying35]
        refine List.mem_cons_of_mem _ ?_
        rw [← List.take_append_drop len ss] at hm
        have hall : ∀ (m : List ByteArray), ba s ∈ m → s.length ∈ DataW.weightsAll (H := H) Tryd.prog 9 (strs m) := by
          intro m hm
          exact mem_weightsAll (d := .lit (.string (ba s).data.toList)) (List.mem_map.2 ⟨ba s, hm, rfl⟩) (by simp [DataW.weights, ba])
        rcases List.mem_append.1 hm with hm | hm
        · exact List.mem_append_left _ (hall _ hm)
        · exact List.mem_append_right _ (hall _ hm)
      exact hr _ hw
    · have := hr ((strs (H := H) (ss.take len)).length + (strs (H := H) (ss.drop len)).length |> (· * Tryd.prog.bytesOf 9)) (by simp [DataW.weights, Tryd.underlying35])
      rw [bytesStr] at this
      simp only [strs, List.length_map, List.length_take, List.length_drop] at this
      omega

set_option maxRecDepth 100000 in
theorem open_rows {H : Type} {enc : TypeId × Value → H} {W : World} {base : Nat} {v : Value} {d : DataW H} {p : List MemPlace} (hv : Value.okWide Tryd.prog W .any base 31 v) (h : DataW.Trod enc Tryd.prog W 0 (fun _ => true) true 31 v d p) (hr : Reach 31 d) :
    ∃ (ao : Option Addr) (rows : List (List (List UInt8))) (cap : Nat), v = .slice ao rows.length cap ∧ RowsAt W ao rows ∧ Small rows ∧ rows.length ≤ cap ∧ (ao = none → cap = 0) := by
  obtain ⟨a0, len0, cap0, rfl⟩ := okWide_slice Tryd.underlying31 hv
  obtain ⟨fuel, hf⟩ := h
  rcases open_slice1 Tryd.underlying31 cellsStrs hf with ⟨hcs, hx⟩ | ⟨a, len, cap, m, n, V, D, Pl, hcs, _, hl, hm, hmm, hx, hel⟩
  · simp [Value.cells] at hcs
    obtain ⟨rfl, rfl, rfl⟩ := hcs
    exact ⟨none, [], 0, rfl, ⟨0, 0, fun h => by simp at h, fun i l h => by simp at h⟩, ⟨by simp, fun r hr => by cases hr⟩, Nat.le_refl _, fun _ => rfl⟩
  · simp [Value.cells] at hcs
    obtain ⟨rfl, rfl, rfl⟩ := hcs
    simp only [if_true] at hmm
    subst hmm
    have hd : d = .slice ((List.range len0).map D) ((List.range (m - len0)).map fun j => D (len0 + j)) := congrArg Prod.fst hx
    subst hd
    have hreach : ∀ i, i < len0 → Reach 35 (D i) := fun i hi n hn => by
      refine hr n ?_
      simp only [DataW.weights, Tryd.underlying31]
      exact List.mem_cons_of_mem _ (List.mem_append_left _ (mem_weightsAll (List.mem_map.2 ⟨i, List.mem_range.2 hi, rfl⟩) hn))
    have each : ∀ i, i < len0 → ∃ y : Option Addr × List (List UInt8) × Nat, V i = .slice y.1 y.2.1.length y.2.2 ∧ CellsAt W y.1 (y.2.1.map sv) ∧ (∀ s ∈ y.2.1, s.length ≤ 140737488351232) ∧ y.2.1.length ≤ y.2.2 ∧ y.2.2 * 16 ≤ 140737488351232 ∧ (y.1 = none → y.2.2 = 0) := fun i hi => by
      obtain ⟨ao, l, c, h⟩ := open_strlist0 (hel i (by omega)).2 (hreach i hi)
      exact ⟨(ao, l, c), h⟩
    obtain ⟨y, hy⟩ := choose_lt each
    have hlen : ((List.range len0).map fun i => (y i).2.1).length = len0 := by simp
    have hget : ∀ i l, ((List.range len0).map fun i => (y i).2.1)[i]? = some l → i < len0 ∧ l = (y i).2.1 := fun i l h => by
      rw [List.getElem?_map] at h
      by_cases hi : i < len0
      · rw [List.getElem?_range hi] at h; simp at h; exact ⟨hi, h.symm⟩
      · rw [List.getElem?_eq_none (by simp; omega)] at h; cases h
    refine ⟨some a, (List.range len0).map fun i => (y i).2.1, m, by rw [hlen], ?_, ⟨?_, ?_⟩, by rw [hlen]; exact hl, fun h => by cases h⟩
    · by_cases h0 : len0 = 0
      · exact ⟨0, 0, fun h => by simp [h0] at h, fun i l h => by have := (hget i l h).1; omega⟩
      · have h1 := (hel 0 (by omega)).1
        obtain ⟨b, off, spot⟩ := a
        have hs : spot = none := by
          have := World.cell?_spot h1
          simpa [Addr.add] using this
        subst hs
        refine ⟨b, off, fun _ => rfl, fun i l h => ?_⟩
        obtain ⟨hi, rfl⟩ := hget i l h
        obtain ⟨q1, q2, q3, q4, q5, q6⟩ := hy i hi
        have := (hel i (by omega)).1
        rw [add_plain, q1] at this
        exact ⟨_, _, this, q2, q4, q6⟩
    · have := hr (((List.range len0).map D).length + ((List.range (m - len0)).map fun j => D (len0 + j)).length |> (· * Tryd.prog.bytesOf 35)) (by simp [DataW.weights, Tryd.underlying31])
      rw [bytesStrs] at this
      simp at this
      rw [hlen]; omega
    · intro r hr
      obtain ⟨i, hi, rfl⟩ := List.mem_map.1 hr
      obtain ⟨q1, q2, q3, q4, q5, q6⟩ := hy i (List.mem_range.1 hi)
      exact ⟨by omega, q3⟩
end Go.Proofs.YtefkhjbgkaknmaaDoor
