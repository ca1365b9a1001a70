/- Opening the arguments of a law: strings, lists of strings; and closing its row. -/
import Derived.Test.YtefkhjbgkaknmaaDoorRows
import Derived.Test.YtefkhjbgkaknmaaDoorKit
import Derived.ProofKit
import Derived.OpenShut
import Derived.ShutString
import Derived.ChangeOld
import Derived.SizedLaws
set_option linter.unusedVariables false
namespace Go.Proofs.YtefkhjbgkaknmaaDoor
open Go.ChangeShapes Go.WideShapes Go.ChangeAt Go.RowKit
open Go.ChangeMaps (open_string shut_string)

theorem own : ownKnob Tryd.prog.godebug = none := by kernel_rfl
theorem laidOut : laidOutB Tryd.prog = true := by kernel_rfl
theorem cellsStr : Tryd.prog.cellsOf 9 = 1 := by kernel_rfl
theorem bytesStr : Tryd.prog.bytesOf 9 = 16 := by kernel_rfl

/-- What a reading weighs is within the form's own reach. -/
def Reach {H : Type} (t : TypeId) (d : DataW H) : Prop := ∀ n ∈ d.weights Tryd.prog t, n ≤ 140737488351232

theorem reach_each {H : Type} {ts : List TypeId} {ds : List (DataW H)} (h : (DataW.weightsEach Tryd.prog ts ds).all (· ≤ reachBytes) = true) {j : Nat} {t : TypeId} {d : DataW H} (ht : ts[j]? = some t) (hd : ds[j]? = some d) : Reach t d := by
  intro n hn
  have := List.all_eq_true.1 h _ (DataW.weights_mem_each ht hd n hn)
  exact of_decide_eq_true this

/- A string that came in. -/
set_option maxRecDepth 100000 in
theorem open_str {H : Type} {enc : TypeId × Value → H} {W : World} {base : Nat} {v : Value} {d : DataW H} {p : List MemPlace} (hv : Value.okWide Tryd.prog W .any base 9 v) (h : DataW.Trod enc Tryd.prog W 0 (fun _ => true) true 9 v d p) (hr : Reach 9 d) :
    ∃ s : ByteArray, v = .string s ∧ s.size ≤ 140737488351232 := by
  obtain ⟨s, rfl, rfl, rfl, hs⟩ := open_string Tryd.underlying9 hv h
  refine ⟨s, rfl, ?_⟩
  have := hr s.data.toList.length (by simp [DataW.weights])
  simpa using this

/-- The cells of a list of strings, wherever it lies. -/
theorem strs_cells {W : World} {a : Addr} {len : Nat} {ss : List ByteArray} (hl : len ≤ ss.length) (hcell : ∀ i, i < ss.length → W.cell? (a.add i) = some (.string (ss.getD i ByteArray.empty))) :
    ∃ l : List (List UInt8), l.length = len ∧ CellsAt W (some a) (l.map sv) ∧ ∀ s ∈ l, ba s ∈ ss := by
  refine ⟨(ss.take len).map bl, by simp; omega, ?_, ?_⟩
  · by_cases h0 : len = 0
    · subst h0
      exact ⟨0, 0, fun h => by simp at h, fun i x h => by simp at h⟩
    · have h1 := hcell 0 (by omega)
      obtain ⟨b, off, spot⟩ := a
      have hs : spot = none := by
        have := World.cell?_spot h1
        simpa [Addr.add] using this
      subst hs
      refine ⟨b, off, fun _ => rfl, fun i x hx => ?_⟩
      rw [List.map_map, List.getElem?_map] at hx
      cases hi : (ss.take len)[i]? with
      | none => rw [hi] at hx; cases hx
      | some y =>
        rw [hi] at hx
        simp only [Option.map_some, Option.some.injEq, Function.comp] at hx
        subst hx
        obtain ⟨h2, h3⟩ := List.getElem?_eq_some_iff.1 hi
        rw [List.length_take] at h2
        have := hcell i (by omega)
        rw [add_plain] at this
        rw [this]
        rw [List.getElem_take] at h3
        simp only [sv, ba_bl, Option.some.injEq, Value.string.injEq]
        rw [List.getD_eq_getElem?_getD, List.getElem?_eq_getElem (by omega), ← h3]; rfl
  · intro s hs
    obtain ⟨y, hy, rfl⟩ := List.mem_map.1 hs
    rw [ba_bl]
    exact List.mem_of_mem_take hy

/- A list of strings that came in. -/
set_option maxRecDepth 100000 in
theorem open_strlist {H : Type} {enc : TypeId × Value → H} {W : World} {base : Nat} {v : Value} {d : DataW H} {p : List MemPlace} (hv : Value.okWide Tryd.prog W .any base 35 v) (h : DataW.Trod enc Tryd.prog W 0 (fun _ => true) true 35 v d p) (hr : Reach 35 d) :
    ∃ (ao : Option Addr) (l : List (List UInt8)) (cap : Nat), v = .slice ao l.length cap ∧ CellsAt W ao (l.map sv) ∧ (∀ s ∈ l, s.length ≤ 140737488351232) ∧ l.length ≤ cap ∧ cap * 16 ≤ 140737488351232 ∧ (ao = none → cap = 0) := by
  obtain ⟨a0, len0, cap0, rfl⟩ := okWide_slice Tryd.underlying35 hv
  obtain ⟨fuel, hf⟩ := h
  rcases open_strings Tryd.underlying35 Tryd.underlying9 cellsStr hf with ⟨hcs, hx⟩ | ⟨a, len, cap, ss, hcs, _, hl, hm, hz, hx, hcell, hws⟩
  · simp [Value.cells] at hcs
    obtain ⟨rfl, rfl, rfl⟩ := hcs
    exact ⟨none, [], 0, rfl, CellsAt.nil, (fun s hs => by cases hs), Nat.le_refl _, by omega, fun _ => rfl⟩
  · simp [Value.cells] at hcs
    obtain ⟨rfl, rfl, rfl⟩ := hcs
    simp only [if_true] at hz
    obtain ⟨l, h1, h2, h3⟩ := strs_cells (len := len0) (by omega) hcell
    have hd : d = .slice (strs (ss.take len0)) (strs (ss.drop len0)) := congrArg Prod.fst hx
    subst hd
    refine ⟨some a, l, cap0, by rw [h1], h2, ?_, by omega, ?_, fun h => by cases h⟩
    · intro s hs
      have hm := h3 s hs
      have hw : s.length ∈ (DataW.slice (H := H) (strs (ss.take len0)) (strs (ss.drop len0))).weights Tryd.prog 35 := by
        simp only [DataW.weights, Tryd.underlying35]
        refine List.mem_cons_of_mem _ ?_
        rw [← List.take_append_drop len0 ss] at hm
        have hall : ∀ (m : List ByteArray), ba s ∈ m → s.length ∈ DataW.weightsAll (H := H) Tryd.prog 9 (strs m) := by
          intro m
          induction m with
          | nil => intro hm; cases hm
          | cons y r ih =>
            intro hm
            simp only [strs, List.map_cons, DataW.weightsAll, DataW.weights]
            rcases List.mem_cons.1 hm with e | e
            · subst e
              simp [ba]
            · exact List.mem_append_right _ (ih e)
        rcases List.mem_append.1 hm with hm | hm
        · exact List.mem_append_left _ (hall _ hm)
        · exact List.mem_append_right _ (hall _ hm)
      exact hr _ hw
    · have := hr ((strs (H := H) (ss.take len0)).length + (strs (H := H) (ss.drop len0)).length |> (· * Tryd.prog.bytesOf 9)) (by simp [DataW.weights, Tryd.underlying35])
      rw [bytesStr] at this
      simp only [strs, List.length_map, List.length_take, List.length_drop] at this
      omega
end Go.Proofs.YtefkhjbgkaknmaaDoor
