/- Helpers for the walks: how a slice's cells lie in memory, and what a call keeps of them. Nothing of the program is named here. · Opening the arguments of a law: strings, lists of strings; and closing its row. · Opening ballots and lists of numbers and Booleans that came in. · AL: what came in from outside, as values of AL; a contract of AL, told of a call from outside. -/
import Derived.WalkKit
import Derived.BigQuiet
import Derived.Deep.QuietTactic
import Derived.Deep.LoopGhost
import Derived.Lib.Hide
import Derived.WalkLawsBesides
import Derived.WalkSpells
import Derived.Lib.Strings
import Derived.Test.YtnhfbabenifbkaaGreatDoorRows
import Derived.ProofKit
import Derived.OpenShut
import Derived.ShutString
import Derived.ChangeOld
import Derived.SizedLaws
import Derived.Lib.SmallJoins
import Derived.Deep.Grids
import Derived.Test.YtnhfbabenifbkaaGreatDoorAlWk
import Derived.Test.YtnhfbabenifbkaaGreatDoorAlXl
set_option linter.unusedVariables false
namespace Go.Proofs.YtnhfbabenifbkaaGreatDoor
open Go.RowKit

theorem ret_int {k : IntKind} {a b : Int} (h : a = b) : Ending.returned (.int k a) = .returned (.int k b) := by rw [h]
theorem ret_bool {a b : Bool} (h : a = b) : Ending.returned (.bool a) = .returned (.bool b) := by rw [h]
theorem ret_str {a b : ByteArray} (h : a = b) : Ending.returned (.string a) = .returned (.string b) := by rw [h]
theorem ret_str_int {a b : ByteArray} {k : IntKind} {m n : Int} (h : a = b) (h2 : m = n) : Ending.returned (.tuple #[.string a, .int k m]) = .returned (.tuple #[.string b, .int k n]) := by rw [h, h2]

/-- The cells xs lie in w behind the address ao (of an empty list nothing is said). -/
def CellsAt (w : World) (ao : Option Addr) (xs : List Value) : Prop :=
  ∃ b off, (0 < xs.length → ao = some ⟨b, off, none⟩) ∧ ∀ i x, xs[i]? = some x → w.cell? ⟨b, off + i, none⟩ = some x

theorem lt_of_cell {w : World} {b o : Nat} {x : Value} (h : w.cell? ⟨b, o, none⟩ = some x) : b < w.heap.size := by
  rcases Nat.lt_or_ge b w.heap.size with h1 | h1
  · exact h1
  · rw [World.cell?, Array.getElem?_eq_none h1] at h; simp at h

theorem cell_below {w w' : World} (hb : Below w.heap.size w w') {b o : Nat} {x : Value} (h : w.cell? ⟨b, o, none⟩ = some x) : w'.cell? ⟨b, o, none⟩ = some x :=
  (hb.cell (p := ⟨b, o, none⟩) (lt_of_cell h)).trans h

theorem CellsAt.below {w w' : World} {ao : Option Addr} {xs : List Value} (h : CellsAt w ao xs) (hb : Below w.heap.size w w') : CellsAt w' ao xs := by
  obtain ⟨b, off, ha, hc⟩ := h
  exact ⟨b, off, ha, fun i x hx => cell_below hb (hc i x hx)⟩

theorem CellsAt.nil {w : World} {ao : Option Addr} : CellsAt w ao [] := ⟨0, 0, fun h => by simp at h, fun i x h => by simp at h⟩

theorem CellsAt.of_owns {w : World} {base : Nat} {e : TypeId} {size : Nat} {v : Value} {n : Nat} {xs : List Value} (h : w.ownsRow base e size v n xs) :
    ∃ ao cap, v = .slice ao n cap ∧ CellsAt w ao xs ∧ (ao = none → n = 0 ∧ cap = 0) := by
  obtain ⟨h1, h2⟩ := h
  rcases h2 with ⟨hv, hn⟩ | ⟨g, cap, cur, hv, hg, hh, hn, hc, hs, ht⟩
  · subst hn
    have : xs = [] := by simpa using h1
    subst this
    exact ⟨none, 0, hv, CellsAt.nil, fun _ => ⟨rfl, rfl⟩⟩
  · refine ⟨some ⟨g, 0, none⟩, cap, hv, ⟨g, 0, fun _ => rfl, fun i x hx => ?_⟩, fun h => by cases h⟩
    subst hv
    have hi : i < n * size := by rw [← h1]; exact (List.getElem?_eq_some_iff.1 hx).1
    rw [Nat.zero_add, World.ownsRow.cellAt (base := base) (e := e) (size := size) ⟨h1, .inr ⟨g, cap, cur, rfl, hg, hh, hn, hc, hs, ht⟩⟩ i hi, hx]

theorem ownsRow_below {w w' : World} {base : Nat} {e : TypeId} {size : Nat} {v : Value} {n : Nat} {xs : List Value} (h : w.ownsRow base e size v n xs) (hb : Below w.heap.size w w') : w'.ownsRow base e size v n xs := by
  obtain ⟨h1, h2⟩ := h
  refine ⟨h1, ?_⟩
  rcases h2 with h2 | ⟨g, cap, cur, hv, hg, hh, r⟩
  · exact Or.inl h2
  · exact Or.inr ⟨g, cap, cur, hv, hg, by rw [hb.block g (Array.getElem?_eq_some_iff.1 hh).1]; exact hh, r⟩

theorem ownsRow_mono {w : World} {base base' : Nat} {e : TypeId} {size : Nat} {v : Value} {n : Nat} {xs : List Value} (h : w.ownsRow base e size v n xs) (hb : base' ≤ base) : w.ownsRow base' e size v n xs := by
  obtain ⟨h1, h2⟩ := h
  refine ⟨h1, ?_⟩
  rcases h2 with h2 | ⟨g, cap, cur, hv, hg, r⟩
  · exact Or.inl h2
  · exact Or.inr ⟨g, cap, cur, hv, Nat.le_trans hb hg, r⟩
theorem add_plain (b off j : Nat) : (⟨b, off, none⟩ : Addr).add j = ⟨b, off + j, none⟩ := by
  unfold Addr.add
  by_cases h : j = 0
  · subst h; rfl
  · rw [if_neg h]
theorem below_dn {B : Nat} {a w : World} (h : Below B a w) (n : Nat) : Below B a (w.drewN n) := ⟨h.os, h.tape, h.output, h.size, h.block⟩
theorem alloc_new (w : World) (o : Obj) : (w.alloc o).heap[w.heap.size]? = some o := by
  show (w.heap.push o)[w.heap.size]? = some o
  simp
/-- Bytes of a string, and back. -/
def bl (s : ByteArray) : List UInt8 := s.data.toList
def ba (l : List UInt8) : ByteArray := ⟨l.toArray⟩
theorem ba_bl (s : ByteArray) : ba (bl s) = s := by cases s; simp [ba, bl]
theorem bl_ba (l : List UInt8) : bl (ba l) = l := by simp [ba, bl]
theorem bl_length (s : ByteArray) : (bl s).length = s.size := by simp [bl]
theorem bl_inj {s t : ByteArray} (h : bl s = bl t) : s = t := by rw [← ba_bl s, h, ba_bl]
theorem ba_inj {l m : List UInt8} (h : ba l = ba m) : l = m := by rw [← bl_ba l, h, bl_ba]
theorem bl_extract (s : ByteArray) (a b : Nat) : bl (s.extract a b) = ((bl s).drop a).take (b - a) := by
  unfold bl; rw [Lib.extract_data]
theorem bl_append (s t : ByteArray) : bl (s ++ t) = bl s ++ bl t := by simp [bl]
theorem bl_get (s : ByteArray) (k : Nat) (h : k < s.size) : (bl s)[k]? = some s[k] := by
  have : k < (bl s).length := by rw [bl_length]; exact h
  rw [List.getElem?_eq_getElem this]; rfl
theorem bl_drop_cons (s : ByteArray) (k : Nat) (h : k < s.size) : (bl s).drop k = s[k] :: (bl s).drop (k + 1) := by
  have : k < (bl s).length := by rw [bl_length]; exact h
  rw [List.drop_eq_getElem_cons this]; rfl
theorem bl_drop_end (s : ByteArray) (k : Nat) (h : ¬ k < s.size) : (bl s).drop k = [] := List.drop_of_length_le (by rw [bl_length]; omega)
theorem ba_ne {l m : List UInt8} (h : l ≠ m) : ((ba l).toList == (ba m).toList) = false := by
  rw [Lib.toList_data, Lib.toList_data]
  show ((bl (ba l)) == (bl (ba m))) = false
  rw [bl_ba, bl_ba]; simp [h]
/-- A string's value. -/
abbrev sv (l : List UInt8) : Value := .string (ba l)
end Go.Proofs.YtnhfbabenifbkaaGreatDoor
set_option linter.unusedVariables false
namespace Go.Proofs.YtnhfbabenifbkaaGreatDoor
open Go.ChangeShapes Go.WideShapes Go.ChangeAt Go.RowKit
open Go.ChangeMaps (open_string shut_string)

theorem own : ownKnob Tryz.prog.godebug = none := by kernel_rfl
theorem laidOut : laidOutB Tryz.prog = true := by kernel_rfl
theorem cellsStr : Tryz.prog.cellsOf 9 = 1 := by kernel_rfl
theorem bytesStr : Tryz.prog.bytesOf 9 = 16 := by kernel_rfl

/-- What a reading weighs is within the form's own reach. -/
def Reach {H : Type} (t : TypeId) (d : DataW H) : Prop := ∀ n ∈ d.weights Tryz.prog t, n ≤ 140737488351232

theorem reach_each {H : Type} {ts : List TypeId} {ds : List (DataW H)} (h : (DataW.weightsEach Tryz.prog ts ds).all (· ≤ reachBytes) = true) {j : Nat} {t : TypeId} {d : DataW H} (ht : ts[j]? = some t) (hd : ds[j]? = some d) : Reach t d := by
  intro n hn
  have := List.all_eq_true.1 h _ (DataW.weights_mem_each ht hd n hn)
  exact of_decide_eq_true this

/- A string that came in. -/
set_option maxRecDepth 100000 in
theorem open_str {H : Type} {enc : TypeId × Value → H} {W : World} {base : Nat} {v : Value} {d : DataW H} {p : List MemPlace} (hv : Value.okWide Tryz.prog W .any base 9 v) (h : DataW.Trod enc Tryz.prog W 0 (fun _ => true) true 9 v d p) (hr : Reach 9 d) :
    ∃ s : ByteArray, v = .string s ∧ s.size ≤ 140737488351232 := by
  obtain ⟨s, rfl, rfl, rfl, hs⟩ := open_string Tryz.underlying9 hv h
  refine ⟨s, rfl, ?_⟩
  have := hr s.data.toList.length (by simp [DataW.weights])
  simpa using this

/-- The cells of a list of strings, wherever it lies. -/
theorem strs_cells {W : World} {a : Addr} {len : Nat} {ss : List ByteArray} (hl : len ≤ ss.length) (hcell : ∀ i, i < ss.length → W.cell? (a.add i) = some (.string (ss.getD i ByteArray.empty))) :
    ∃ l : List (List UInt8), l.length = len ∧ CellsAt W (some a) (l.map sv) ∧ ∀ s ∈ l, ba s ∈ ss := by
  refine ⟨(ss.take len).map bl, by simp; omega, ?_, ?_⟩
  · by_cases h0 : len = 0
    · subst h0
      exact ⟨0, 0, fun h => by simp at h, fun i x h => by simp at h⟩
    · have h1 := hcell 0 (by omega)
      obtain ⟨b, off, spot⟩ := a
      have hs : spot = none := by
        have := World.cell?_spot h1
        simpa [Addr.add] using this
      subst hs
      refine ⟨b, off, fun _ => rfl, fun i x hx => ?_⟩
      rw [List.map_map, List.getElem?_map] at hx
      cases hi : (ss.take len)[i]? with
      | none => rw [hi] at hx; cases hx
      | some y =>
        rw [hi] at hx
        simp only [Option.map_some, Option.some.injEq, Function.comp] at hx
        subst hx
        obtain ⟨h2, h3⟩ := List.getElem?_eq_some_iff.1 hi
        rw [List.length_take] at h2
        have := hcell i (by omega)
        rw [add_plain] at this
        rw [this]
        rw [List.getElem_take] at h3
        simp only [sv, ba_bl, Option.some.injEq, Value.string.injEq]
        rw [List.getD_eq_getElem?_getD, List.getElem?_eq_getElem (by omega), ← h3]; rfl
  · intro s hs
    obtain ⟨y, hy, rfl⟩ := List.mem_map.1 hs
    rw [ba_bl]
    exact List.mem_of_mem_take hy

/- A list of strings that came in. -/
set_option maxRecDepth 100000 in
theorem open_strlist {H : Type} {enc : TypeId × Value → H} {W : World} {base : Nat} {v : Value} {d : DataW H} {p : List MemPlace} (hv : Value.okWide Tryz.prog W .any base 61 v) (h : DataW.Trod enc Tryz.prog W 0 (fun _ => true) true 61 v d p) (hr : Reach 61 d) :
    ∃ (ao : Option Addr) (l : List (List UInt8)) (cap : Nat), v = .slice ao l.length cap ∧ CellsAt W ao (l.map sv) ∧ (∀ s ∈ l, s.length ≤ 140737488351232) ∧ l.length ≤ cap ∧ cap * 16 ≤ 140737488351232 ∧ (ao = none → cap = 0) := by
  obtain ⟨a0, len0, cap0, rfl⟩ := okWide_slice Tryz.underlying61 hv
  obtain ⟨fuel, hf⟩ := h
  rcases open_strings Tryz.underlying61 Tryz.underlying9 cellsStr hf with ⟨hcs, hx⟩ | ⟨a, len, cap, ss, hcs, _, hl, hm, hz, hx, hcell, hws⟩
  · simp [Value.cells] at hcs
    obtain ⟨rfl, rfl, rfl⟩ := hcs
    exact ⟨none, [], 0, rfl, CellsAt.nil, (fun s hs => by cases hs), Nat.le_refl _, by omega, fun _ => rfl⟩
  · simp [Value.cells] at hcs
    obtain ⟨rfl, rfl, rfl⟩ := hcs
    simp only [if_true] at hz
    obtain ⟨l, h1, h2, h3⟩ := strs_cells (len := len0) (by omega) hcell
    have hd : d = .slice (strs (ss.take len0)) (strs (ss.drop len0)) := congrArg Prod.fst hx
    subst hd
    refine ⟨some a, l, cap0, by rw [h1], h2, ?_, by omega, ?_, fun h => by cases h⟩
    · intro s hs
      have hm := h3 s hs
      have hw : s.length ∈ (DataW.slice (H := H) (strs (ss.take len0)) (strs (ss.drop len0))).weights Tryz.prog 61 := by
        simp only [DataW.weights, Tryz.underlying61]
        refine List.mem_cons_of_mem _ ?_
        rw [← List.take_append_drop len0 ss] at hm
        have hall : ∀ (m : List ByteArray), ba s ∈ m → s.length ∈ DataW.weightsAll (H := H) Tryz.prog 9 (strs m) := by
          intro m
          induction m with
          | nil => intro hm; cases hm
          | cons y r ih =>
            intro hm
            simp only [strs, List.map_cons, DataW.weightsAll, DataW.weights]
            rcases List.mem_cons.1 hm with e | e
            · subst e
              simp [ba]
            · exact List.mem_append_right _ (ih e)
        rcases List.mem_append.1 hm with hm | hm
        · exact List.mem_append_left _ (hall _ hm)
        · exact List.mem_append_right _ (hall _ hm)
      exact hr _ hw
    · have := hr ((strs (H := H) (ss.take len0)).length + (strs (H := H) (ss.drop len0)).length |> (· * Tryz.prog.bytesOf 9)) (by simp [DataW.weights, Tryz.underlying61])
      rw [bytesStr] at this
      simp only [strs, List.length_map, List.length_take, List.length_drop] at this
      omega
end Go.Proofs.YtnhfbabenifbkaaGreatDoor
set_option linter.unusedVariables false
namespace Go.Proofs.YtnhfbabenifbkaaGreatDoor
open Go.ChangeShapes Go.WideShapes Go.ChangeAt Go.RowKit Go.Joins

abbrev ii (n : Int) : Value := .int .i64 n
abbrev ib (b : Bool) : Value := .bool b
theorem cellsInt : Tryz.prog.cellsOf 3 = 1 := by kernel_rfl
theorem bytesInt : Tryz.prog.bytesOf 3 = 8 := by kernel_rfl
theorem cellsBool : Tryz.prog.cellsOf 4 = 1 := by kernel_rfl
theorem bytesBool : Tryz.prog.bytesOf 4 = 1 := by kernel_rfl
theorem cellsBallot : Tryz.prog.cellsOf 24 = 2 := by kernel_rfl

/-- The cells of a list of numbers, wherever it lies. -/
theorem ints_cells {W : World} {a : Addr} {len : Nat} {zs : List Int} (hl : len ≤ zs.length) (hcell : ∀ i, i < zs.length → W.cell? (a.add i) = some (.int .i64 (zs.getD i 0))) : CellsAt W (some a) ((zs.take len).map ii) := by
  by_cases h0 : len = 0
  · subst h0
    exact ⟨0, 0, fun h => by simp at h, fun i x h => by simp at h⟩
  · have h1 := hcell 0 (by omega)
    obtain ⟨b, off, spot⟩ := a
    have hs : spot = none := by
      have := World.cell?_spot h1
      simpa [Addr.add] using this
    subst hs
    refine ⟨b, off, fun _ => rfl, fun i x hx => ?_⟩
    rw [List.getElem?_map] at hx
    cases hi : (zs.take len)[i]? with
    | none => rw [hi] at hx; cases hx
    | some y =>
      rw [hi] at hx
      simp only [Option.map_some, Option.some.injEq] at hx
      subst hx
      obtain ⟨h2, h3⟩ := List.getElem?_eq_some_iff.1 hi
      rw [List.length_take] at h2
      have := hcell i (by omega)
      rw [add_plain] at this
      rw [this]
      rw [List.getElem_take] at h3
      rw [List.getD_eq_getElem?_getD, List.getElem?_eq_getElem (by omega), ← h3]; rfl

theorem open_intlist0 {H : Type} {enc : TypeId × Value → H} {W : World} {v : Value} {d : DataW H} {p : List MemPlace} {fuel : Nat} (hf : DataW.trod enc Tryz.prog W 0 (fun _ => true) true fuel 22 [v] = some (d, p)) (hr : Reach 22 d) :
    ∃ (ao : Option Addr) (l : List Int) (cap : Nat), v = .slice ao l.length cap ∧ CellsAt W ao (l.map ii) ∧ l.length ≤ cap ∧ cap * 8 ≤ 140737488351232 ∧ (ao = none → cap = 0) ∧ ∀ n ∈ l, -9223372036854775808 ≤ n ∧ n ≤ 9223372036854775807 := by
  rcases open_ints Tryz.underlying22 Tryz.underlying3 cellsInt hf with ⟨hcs, hx⟩ | ⟨a, len, cap, zs, hcs, _, hl, hm, hz, hx, hcell, hwf⟩
  · simp at hcs
    exact ⟨none, [], 0, hcs, CellsAt.nil, Nat.le_refl _, by omega, fun _ => rfl, by simp⟩
  · simp at hcs
    simp only [if_true] at hz
    have hlen : (zs.take len).length = len := by rw [List.length_take]; omega
    have hd : d = .slice (lits .i64 (zs.take len)) (lits .i64 (zs.drop len)) := congrArg Prod.fst hx
    subst hd
    refine ⟨some a, zs.take len, cap, by rw [hlen]; exact hcs, ints_cells (by omega) hcell, by omega, ?_, fun h => (by cases h), fun n hn => ?_⟩
    · have := hr (((lits (H := H) .i64 (zs.take len)).length + (lits (H := H) .i64 (zs.drop len)).length) * Tryz.prog.bytesOf 3) (by simp [DataW.weights, Tryz.underlying22])
      rw [bytesInt] at this
      simp only [lits, List.length_map, List.length_take, List.length_drop] at this
      omega
    · have := hwf n (List.mem_of_mem_take hn)
      simpa [Lit.wf, IntKind.min, IntKind.max, IntKind.signed, IntKind.bits] using this

set_option maxRecDepth 100000 in
theorem open_intlist {H : Type} {enc : TypeId × Value → H} {W : World} {base : Nat} {v : Value} {d : DataW H} {p : List MemPlace} (hv : Value.okWide Tryz.prog W .any base 22 v) (h : DataW.Trod enc Tryz.prog W 0 (fun _ => true) true 22 v d p) (hr : Reach 22 d) :
    ∃ (ao : Option Addr) (l : List Int) (cap : Nat), v = .slice ao l.length cap ∧ CellsAt W ao (l.map ii) ∧ l.length ≤ cap ∧ cap * 8 ≤ 140737488351232 ∧ (ao = none → cap = 0) ∧ ∀ n ∈ l, -9223372036854775808 ≤ n ∧ n ≤ 9223372036854775807 := by
  obtain ⟨a0, len0, cap0, rfl⟩ := okWide_slice Tryz.underlying22 hv
  obtain ⟨fuel, hf⟩ := h
  exact open_intlist0 (by simpa [Value.cells] using hf) hr

set_option maxRecDepth 100000 in
theorem open_ballot {H : Type} {enc : TypeId × Value → H} {W : World} {base : Nat} {v : Value} {d : DataW H} {p : List MemPlace} (hv : Value.okWide Tryz.prog W .any base 24 v) (h : DataW.Trod enc Tryz.prog W 0 (fun _ => true) true 24 v d p) (hr : Reach 24 d) :
    ∃ (k : Int) (ao : Option Addr) (l : List Int) (cap : Nat), v = .agg #[.int .u8 k, .slice ao l.length cap] ∧ (0 ≤ k ∧ k ≤ 255) ∧ CellsAt W ao (l.map ii) ∧ l.length ≤ cap ∧ cap * 8 ≤ 140737488351232 ∧ (ao = none → cap = 0) ∧ ∀ n ∈ l, -9223372036854775808 ≤ n ∧ n ≤ 9223372036854775807 := by
  obtain ⟨v0, v1, y0, y1, n, rfl, rfl, rfl, h0, h1⟩ := open_agg2 Tryz.underlying24 (by kernel_rfl) cellsBallot hv h
  obtain ⟨k, hk, _, hwf⟩ := DataW.trod_int Tryz.underlying5 h0
  simp at hk
  subst hk
  obtain ⟨y1, q1⟩ := y1
  obtain ⟨ao, l, cap, rfl, hc, hl, hcap, hn, hb⟩ := open_intlist0 h1 (fun m hm => hr m (by simp only [DataW.weights, Tryz.underlying24]; exact List.mem_append_right _ (List.mem_append_left _ hm)))
  refine ⟨k, ao, l, cap, rfl, ?_, hc, hl, hcap, hn, hb⟩
  simpa [Lit.wf, IntKind.min, IntKind.max, IntKind.signed, IntKind.bits] using hwf

set_option maxRecDepth 100000 in
theorem open_boollist {H : Type} {enc : TypeId × Value → H} {W : World} {base : Nat} {v : Value} {d : DataW H} {p : List MemPlace} (hv : Value.okWide Tryz.prog W .any base 34 v) (h : DataW.Trod enc Tryz.prog W 0 (fun _ => true) true 34 v d p) (hr : Reach 34 d) :
    ∃ (ao : Option Addr) (l : List Bool) (cap : Nat), v = .slice ao l.length cap ∧ CellsAt W ao (l.map ib) ∧ l.length ≤ cap ∧ cap ≤ 140737488351232 ∧ (ao = none → cap = 0) := by
  obtain ⟨a0, len0, cap0, rfl⟩ := okWide_slice Tryz.underlying34 hv
  obtain ⟨fuel, hf⟩ := h
  rcases Go.Deep.open_bools Tryz.underlying34 Tryz.underlying4 cellsBool hf with ⟨hcs, hx⟩ | ⟨a, len, cap, B, hcs, _, hl, hm, hx, hcell⟩
  · simp [Value.cells] at hcs
    obtain ⟨rfl, rfl, rfl⟩ := hcs
    exact ⟨none, [], 0, rfl, CellsAt.nil, Nat.le_refl _, by omega, fun _ => rfl⟩
  · simp [Value.cells] at hcs
    obtain ⟨rfl, rfl, rfl⟩ := hcs
    have hlen : ((List.range len0).map B).length = len0 := by simp
    refine ⟨some a, (List.range len0).map B, cap0, by rw [hlen], ?_, by omega, ?_, fun h => by cases h⟩
    · by_cases h0 : len0 = 0
      · subst h0
        exact ⟨0, 0, fun h => by simp at h, fun i x h => by simp at h⟩
      · have h1 := hcell 0 (by omega)
        obtain ⟨b, off, spot⟩ := a
        have hs : spot = none := by
          have := World.cell?_spot h1
          simpa [Addr.add] using this
        subst hs
        refine ⟨b, off, fun _ => rfl, fun i x hx => ?_⟩
        rw [List.getElem?_map, List.getElem?_map] at hx
        by_cases hi : i < len0
        · rw [List.getElem?_range hi] at hx
          simp at hx
          subst hx
          have := hcell i (by omega)
          rw [add_plain] at this
          exact this
        · rw [List.getElem?_eq_none (by simp; omega)] at hx; cases hx
    · have hd := congrArg Prod.fst hx
      simp only at hd
      subst hd
      have := hr ((len0 + (cap0 - len0)) * Tryz.prog.bytesOf 4) (by simp [Go.Deep.boolRow, DataW.weights, Tryz.underlying34])
      rw [bytesBool] at this
      omega
end Go.Proofs.YtnhfbabenifbkaaGreatDoor
set_option maxRecDepth 100000
set_option linter.unusedVariables false
namespace Go.Proofs.YtnhfbabenifbkaaGreatDoor
open Go.RowKit
/-- Nothing that lies there is written. -/
abbrev Old (W : World) (b : Nat) : Prop := Imm (fun b => W.heap.size ≤ b ∨ True) W (fun _ => none) (Heap.get []) b
theorem old_of {W : World} {b o : Nat} {x : Value} (h : W.cell? ⟨b, o, none⟩ = some x) : Old W b := by
  refine ⟨lt_of_cell h, fun ⟨a, ha, _⟩ => by simp [Heap.get] at ha, .inr trivial, ?_⟩
  unfold World.cell? at h
  dsimp only at h
  split at h <;> first | exact ⟨_, _, _, by assumption⟩ | cases h
/-- A list of one-celled things. -/
theorem rel_tl {α : Type} {f : α → List V} {g : α → Value} {W : World} {ao : Option Addr} {l : List α} {cap : Nat} (hf : ∀ x, ∃ v, f x = [v] ∧ Rel CC.N W (Old W) (fun _ => none) v (g x) ∧ (g x).oneCell' = true) (h : CellsAt W ao (l.map g)) (hl : l.length ≤ cap) (hn : ao = none → cap = 0) :
    Rel CC.N W (Old W) (fun _ => none) (tl f 1 l none) (.slice ao l.length cap) := by
  obtain ⟨b, off, ha, hc⟩ := h
  have hcell : ∀ (i : Nat) (x : α), l[i]? = some x → W.cell? ⟨b, off + i, none⟩ = some (g x) := fun i x hx => hc i _ (by rw [List.getElem?_map, hx]; rfl)
  have := Rel.lst (N := CC.N) (w := W) (S := Old W) (fun _ => none) 1 (l.map f) none ao cap b off (fun i _ => (W.cell? ⟨b, off + i, none⟩).getD undef) (fun k hk => by cases hk) (by simpa using hl)
    (fun h0 => by
      have h0' : 0 < l.length := by simpa using h0
      obtain ⟨x, hx, _⟩ := get_of h0'
      exact ⟨ha (by simpa using h0'), old_of (hcell 0 x hx)⟩) hn
    (fun i row hr => by
      rw [List.getElem?_map] at hr
      obtain ⟨x, _, rfl⟩ := Option.map_eq_some_iff.1 hr
      obtain ⟨v, hv, _⟩ := hf x
      rw [hv]; rfl)
    (fun i row j y hr hj => by
      rw [List.getElem?_map] at hr
      obtain ⟨x, hx, rfl⟩ := Option.map_eq_some_iff.1 hr
      obtain ⟨v, hv, _, h1⟩ := hf x
      rw [hv] at hj
      have hj0 : j = 0 := by
        have := (List.getElem?_eq_some_iff.1 hj).1
        simpa using this
      subst hj0
      rw [Nat.mul_one, Nat.add_zero, hcell i x hx]
      exact ⟨rfl, h1⟩)
    (fun i row j y hr hj => by
      rw [List.getElem?_map] at hr
      obtain ⟨x, hx, rfl⟩ := Option.map_eq_some_iff.1 hr
      obtain ⟨v, hv, h2, _⟩ := hf x
      rw [hv] at hj
      have hj0 : j = 0 := by
        have := (List.getElem?_eq_some_iff.1 hj).1
        simpa using this
      subst hj0
      simp at hj
      subst hj
      rw [hcell i x hx]
      exact h2) ⟨fun h => absurd h (by decide), fun h => absurd h (by decide)⟩
  rw [List.length_map] at this
  exact this
theorem rel_mlst {W : World} {ao : Option Addr} {l : List Int} {cap : Nat} (h : CellsAt W ao (l.map ii)) (hl : l.length ≤ cap) (hn : ao = none → cap = 0) : Rel CC.N W (Old W) (fun _ => none) (tl mrow 1 l none) (.slice ao l.length cap) :=
  rel_tl (fun x => ⟨_, rfl, .int _ _ _, rfl⟩) h hl hn
theorem rel_blst {W : World} {ao : Option Addr} {l : List Bool} {cap : Nat} (h : CellsAt W ao (l.map ib)) (hl : l.length ≤ cap) (hn : ao = none → cap = 0) : Rel CC.N W (Old W) (fun _ => none) (tl brow 1 l none) (.slice ao l.length cap) :=
  rel_tl (fun x => ⟨_, rfl, .bool _ _, rfl⟩) h hl hn
theorem rel_bal {W : World} {k : Int} {ao : Option Addr} {l : List Int} {cap : Nat} (h : CellsAt W ao (l.map ii)) (hl : l.length ≤ cap) (hn : ao = none → cap = 0) : Rel CC.N W (Old W) (fun _ => none) (.agg [.int .u8 k, tl mrow 1 l none]) (.agg #[.int .u8 k, .slice ao l.length cap]) := by
  refine .agg _ _ _ rfl (fun i y hy => ?_) (fun i c y hc hy => ?_)
  · match i with
    | 0 => simp at hy; subst hy; rfl
    | 1 => simp at hy; subst hy; rfl
    | n + 2 => simp at hy
  · match i with
    | 0 => simp at hc hy; subst hc; subst hy; exact .int _ _ _
    | 1 => simp at hc hy; subst hc; subst hy; exact rel_mlst h hl hn
    | n + 2 => simp at hc
/-- What came in, one after another. -/
def RelAll (W : World) : List V → List Value → Prop
  | [], [] => True
  | v :: vs, x :: xs => Rel CC.N W (Old W) (fun _ => none) v x ∧ RelAll W vs xs
  | _, _ => False
theorem RelAll.get {W : World} : ∀ {vs : List V} {xs : List Value}, RelAll W vs xs → xs.length = vs.length ∧ ∀ (i : Nat) (v : V) (x : Value), vs[i]? = some v → xs[i]? = some x → Rel CC.N W (Old W) (fun _ => none) v x
  | [], [], _ => ⟨rfl, fun i v x h => by simp at h⟩
  | v :: vs, x :: xs, ⟨h1, h2⟩ => by
    obtain ⟨h3, h4⟩ := h2.get
    refine ⟨by simp [h3], fun i v' x' hv hx => ?_⟩
    cases i with
    | zero => simp at hv hx; subst hv; subst hx; exact h1
    | succ i => exact h4 i v' x' (by simpa using hv) (by simpa using hx)
  | [], _ :: _, h => h.elim
  | _ :: _, [], h => h.elim
/-- A law that yields true in AL yields true. -/
theorem law_args {L : Lib} (hC : Ok L CC) {k : Nat} {vs : List V} {xs : List Value} (h : AFn L (.fn k) vs [] (fun r' H' => r' = .bool true ∧ H' = [])) (hk : CT.fns k = some k) (W : World) (hr : RelAll W vs xs) :
    Calls Tryz.prog k xs.toArray W fun e w' => e = .returned (.bool true) ∧ Below W.heap.size W w' := by
  obtain ⟨h1, h2⟩ := hr.get
  refine Calls.mono (h CC hC (fun b => W.heap.size ≤ b ∨ True) W (fun _ => none) xs.toArray (fun _ _ => .inr trivial) (fun _ _ => rfl) ⟨fun a k h => by simp [Heap.get] at h, fun a a' b h => absurd (by simp [Heap.get]) h⟩ (fun g k v _ h => by cases h) ⟨by simp [h1], fun i v x hv hx => h2 i v x hv (by simpa using hx)⟩ k hk) ?_
  rintro e w' ⟨v, r', H', β', rfl, ⟨rfl, _⟩, _, _, _, _, hrel, _, hf⟩
  cases hrel
  exact ⟨rfl, ⟨hf.os, hf.tape, hf.output, hf.size, fun b hb => hf.block b hb (fun ⟨a, ha, _⟩ => by simp [Heap.get] at ha)⟩⟩
end Go.Proofs.YtnhfbabenifbkaaGreatDoor
