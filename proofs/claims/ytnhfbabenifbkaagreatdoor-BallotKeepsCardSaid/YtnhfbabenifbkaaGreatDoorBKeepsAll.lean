/- DERIVED: THE SHELF's CONTRACTS AT THIS DUMP, IN PLAIN WORDS (tools/lay-plain.mjs out of 'TryzShelfb.lean', which tools/lay-shelf.mjs wrote): THE SAME DECLARATIONS UNDER THE SAME NAMES: 'import', 'namespace', 'open', 'def', 'theorem' AND NOTHING ELSE: no command of the shelf's: FOR A HAND-IN. Each laying: the table of numbers ('.._ren') and one theorem, a field a fact of the dump's own or the kernel's comparison; each contract: ONE APPLICATION. · Helpers for the walks: how a slice's cells lie in memory, and what a call keeps of them. Nothing of the program is named here. · Opening the arguments of a law: strings, lists of strings; and closing its row. · Opening ballots and lists of numbers and Booleans that came in. · AL: what came in from outside, as values of AL; a contract of AL, told of a call from outside. · AL: strconv.Atoi at every string, known by what it yields alone; the two variables that it reads; contracts told of calls from outside, with these variables. · Ballots: the law BallotKeeps, with Atoi as it stands. · BallotKeeps: the law returns true at every input, and its arguments read afterwards as before. The row's list of variables is tied to the program's text (the given tie). The law is walked in an abstract language into which the given functions are translated (checked by Lean, function by function). -/
import Derived.Shelf.Strconv.ErrVarAll
import Derived.Test.YtnhfbabenifbkaaGreatDoorProg
import Derived.WalkKit
import Derived.BigQuiet
import Derived.Deep.QuietTactic
import Derived.Deep.LoopGhost
import Derived.Lib.Hide
import Derived.WalkLawsBesides
import Derived.WalkSpells
import Derived.Lib.Strings
import Derived.Test.YtnhfbabenifbkaaGreatDoorRows
import Derived.ProofKit
import Derived.OpenShut
import Derived.ShutString
import Derived.ChangeOld
import Derived.SizedLaws
import Derived.Lib.SmallJoins
import Derived.Deep.Grids
import Derived.Test.YtnhfbabenifbkaaGreatDoorAlWk
import Derived.Test.YtnhfbabenifbkaaGreatDoorAlXl
import Derived.Stop.LaidErr
import Derived.Stop.Joined
import Derived.WalkSmall
import Derived.Test.YtnhfbabenifbkaaGreatDoorWl6m
import Derived.Test.YtnhfbabenifbkaaGreatDoorCards
import Derived.Test.YtnhfbabenifbkaaGreatDoorTie
import Derived.Lay
import Derived.LaidOnce
import Derived.SevenTiedAt
import Derived.MakeChecks
namespace Go.Proofs
open Go.Shelf
def Tryz.laysC172_ren : Go.Shelf.Ren := ⟨fun | 172 => 56 | 244 => 67 | 245 => 68 | 247 => 87 | 279 => 88 | 280 => 89 | 281 => 90 | 282 => 91 | 287 => 106 | 316 => 107 | 171 => 52 | 205 => 108 | 321 => 119 | 322 => 120 | 243 => 65 | 246 => 83 | 283 => 98 | 284 => 99 | 285 => 100 | 286 => 101 | 129 => 82 | 317 => 110 | 318 => 111 | 319 => 112 | 320 => 113 | 337 => 121 | 338 => 122 | n => n, fun | 9 => 9 | 3 => 3 | 75 => 68 | 76 => 69 | 4 => 4 | 5 => 5 | 167 => 99 | 37 => 100 | 0 => 0 | 85 => 101 | 2 => 2 | 168 => 103 | 53 => 95 | 175 => 120 | 46 => 81 | 210 => 124 | 127 => 135 | 145 => 138 | 143 => 136 | 21 => 21 | 171 => 113 | 173 => 115 | 212 => 131 | 51 => 93 | 20 => 20 | 213 => 132 | 232 => 145 | 233 => 146 | 80 => 147 | n => n, fun | 15 => 0 | 16 => 1 | 17 => 2 | 18 => 6 | 19 => 7 | n => n⟩
theorem Tryz.laysC172 : Go.Proofs.LaysC.n172 Tryz.prog Tryz.laysC172_ren := {
  mixed := by kernel_rfl
  f129 := Tryz.func82.trans (congrArg some (by kernel_rfl))
  f171 := Tryz.func52.trans (congrArg some (by kernel_rfl))
  f172 := Tryz.func56.trans (congrArg some (by kernel_rfl))
  f205 := Tryz.func108.trans (congrArg some (by kernel_rfl))
  f243 := Tryz.func65.trans (congrArg some (by kernel_rfl))
  f244 := Tryz.func67.trans (congrArg some (by kernel_rfl))
  f245 := Tryz.func68.trans (congrArg some (by kernel_rfl))
  f246 := Tryz.func83.trans (congrArg some (by kernel_rfl))
  f247 := Tryz.func87.trans (congrArg some (by kernel_rfl))
  f279 := Tryz.func88.trans (congrArg some (by kernel_rfl))
  f280 := Tryz.func89.trans (congrArg some (by kernel_rfl))
  f281 := Tryz.func90.trans (congrArg some (by kernel_rfl))
  f282 := Tryz.func91.trans (congrArg some (by kernel_rfl))
  f283 := Tryz.func98.trans (congrArg some (by kernel_rfl))
  f284 := Tryz.func99.trans (congrArg some (by kernel_rfl))
  f285 := Tryz.func100.trans (congrArg some (by kernel_rfl))
  f286 := Tryz.func101.trans (congrArg some (by kernel_rfl))
  f287 := Tryz.func106.trans (congrArg some (by kernel_rfl))
  f316 := Tryz.func107.trans (congrArg some (by kernel_rfl))
  f317 := Tryz.func110.trans (congrArg some (by kernel_rfl))
  f318 := Tryz.func111.trans (congrArg some (by kernel_rfl))
  f319 := Tryz.func112.trans (congrArg some (by kernel_rfl))
  f320 := Tryz.func113.trans (congrArg some (by kernel_rfl))
  f321 := Tryz.func119.trans (congrArg some (by kernel_rfl))
  f322 := Tryz.func120.trans (congrArg some (by kernel_rfl))
  f337 := Tryz.func121.trans (congrArg some (by kernel_rfl))
  f338 := Tryz.func122.trans (congrArg some (by kernel_rfl))
  t0 := Tryz.underlying0
  a0 := Tryz.isAgg0
  z0 := Tryz.sizeOf0
  v0 := Tryz.zeroValue0
  t2 := Tryz.underlying2
  a2 := Tryz.isAgg2
  z2 := Tryz.sizeOf2
  v2 := Tryz.zeroValue2
  t3 := Tryz.underlying3
  a3 := Tryz.isAgg3
  z3 := Tryz.sizeOf3
  v3 := Tryz.zeroValue3
  t4 := Tryz.underlying4
  a4 := Tryz.isAgg4
  z4 := Tryz.sizeOf4
  v4 := Tryz.zeroValue4
  t5 := Tryz.underlying5
  a5 := Tryz.isAgg5
  z5 := Tryz.sizeOf5
  v5 := Tryz.zeroValue5
  t9 := Tryz.underlying9
  a9 := Tryz.isAgg9
  z9 := Tryz.sizeOf9
  v9 := Tryz.zeroValue9
  t20 := Tryz.underlying20
  a20 := Tryz.isAgg20
  z20 := Tryz.sizeOf20
  v20 := Tryz.zeroValue20
  t21 := Tryz.underlying21
  a21 := Tryz.isAgg21
  z21 := Tryz.sizeOf21
  v21 := Tryz.zeroValue21
  t37 := Tryz.underlying100
  a37 := Tryz.isAgg100
  z37 := Tryz.sizeOf100
  v37 := Tryz.zeroValue100
  t46 := Tryz.underlying81
  a46 := Tryz.isAgg81
  z46 := Tryz.sizeOf81
  v46 := Tryz.zeroValue81
  t51 := Tryz.underlying93
  a51 := Tryz.isAgg93
  z51 := Tryz.sizeOf93
  v51 := Tryz.zeroValue93
  t53 := Tryz.underlying95
  a53 := Tryz.isAgg95
  z53 := Tryz.sizeOf95
  v53 := Tryz.zeroValue95
  t75 := Tryz.underlying68
  a75 := Tryz.isAgg68
  z75 := Tryz.sizeOf68
  v75 := Tryz.zeroValue68
  t76 := Tryz.underlying69
  a76 := Tryz.isAgg69
  z76 := Tryz.sizeOf69
  v76 := Tryz.zeroValue69
  t85 := Tryz.underlying101
  a85 := Tryz.isAgg101
  z85 := Tryz.sizeOf101
  v85 := Tryz.zeroValue101
  t127 := Tryz.underlying135
  a127 := Tryz.isAgg135
  z127 := Tryz.sizeOf135
  v127 := Tryz.zeroValue135
  t143 := Tryz.underlying136
  a143 := Tryz.isAgg136
  z143 := Tryz.sizeOf136
  v143 := Tryz.zeroValue136
  t145 := Tryz.underlying138
  a145 := Tryz.isAgg138
  z145 := Tryz.sizeOf138
  v145 := Tryz.zeroValue138
  t167 := Tryz.underlying99
  a167 := Tryz.isAgg99
  z167 := Tryz.sizeOf99
  v167 := Tryz.zeroValue99
  t168 := Tryz.underlying103
  a168 := Tryz.isAgg103
  z168 := Tryz.sizeOf103
  v168 := Tryz.zeroValue103
  t171 := Tryz.underlying113
  a171 := Tryz.isAgg113
  z171 := Tryz.sizeOf113
  v171 := Tryz.zeroValue113
  t173 := Tryz.underlying115
  a173 := Tryz.isAgg115
  z173 := Tryz.sizeOf115
  v173 := Tryz.zeroValue115
  t175 := Tryz.underlying120
  a175 := Tryz.isAgg120
  z175 := Tryz.sizeOf120
  v175 := Tryz.zeroValue120
  t210 := Tryz.underlying124
  a210 := Tryz.isAgg124
  z210 := Tryz.sizeOf124
  v210 := Tryz.zeroValue124
  t212 := Tryz.underlying131
  a212 := Tryz.isAgg131
  z212 := Tryz.sizeOf131
  v212 := Tryz.zeroValue131
  t213 := Tryz.underlying132
  a213 := Tryz.isAgg132
  z213 := Tryz.sizeOf132
  t232 := Tryz.underlying145
  a232 := Tryz.isAgg145
  z232 := Tryz.sizeOf145
  v232 := Tryz.zeroValue145
  t233 := Tryz.underlying146
  a233 := Tryz.isAgg146
  z233 := Tryz.sizeOf146
  v233 := Tryz.zeroValue146
  g15 := by kernel_rfl
  g16 := by kernel_rfl
  g17 := by kernel_rfl
  g18 := by kernel_rfl
  g19 := by kernel_rfl
  t80 := Tryz.underlying147
  a80 := Tryz.isAgg147
  z80 := Tryz.sizeOf147
  v80 := Tryz.zeroValue147
  i0 := by kernel_rfl
  i2 := by kernel_rfl
  i3 := by kernel_rfl
  i4 := by kernel_rfl
  i5 := by kernel_rfl
  i9 := by kernel_rfl
  i20 := by kernel_rfl
  i21 := by kernel_rfl
  i37 := by kernel_rfl
  i46 := by kernel_rfl
  i51 := by kernel_rfl
  i53 := by kernel_rfl
  i75 := by kernel_rfl
  i76 := by kernel_rfl
  i80 := by kernel_rfl
  i85 := by kernel_rfl
  i127 := by kernel_rfl
  i143 := by kernel_rfl
  i145 := by kernel_rfl
  i167 := by kernel_rfl
  i168 := by kernel_rfl
  i171 := by kernel_rfl
  i173 := by kernel_rfl
  i175 := by kernel_rfl
  i210 := by kernel_rfl
  i212 := by kernel_rfl
  i232 := by kernel_rfl
  i233 := by kernel_rfl
  m15 := by kernel_rfl
  m16 := by kernel_rfl
  m17 := by kernel_rfl
  m18 := by kernel_rfl
  m19 := by kernel_rfl
  c0 := by kernel_rfl
  c2 := by kernel_rfl
  c3 := by kernel_rfl
  c4 := by kernel_rfl
  c5 := by kernel_rfl
  c9 := by kernel_rfl
  c20 := by kernel_rfl
  c21 := by kernel_rfl
  c37 := by kernel_rfl
  c46 := by kernel_rfl
  c51 := by kernel_rfl
  c53 := by kernel_rfl
  c75 := by kernel_rfl
  c76 := by kernel_rfl
  c80 := by kernel_rfl
  c85 := by kernel_rfl
  c127 := by kernel_rfl
  c143 := by kernel_rfl
  c145 := by kernel_rfl
  c167 := by kernel_rfl
  c168 := by kernel_rfl
  c171 := by kernel_rfl
  c173 := by kernel_rfl
  c175 := by kernel_rfl
  c210 := by kernel_rfl
  c212 := by kernel_rfl
  c213 := by kernel_rfl
  c232 := by kernel_rfl
  c233 := by kernel_rfl }
end Go.Proofs
set_option linter.unusedVariables false
namespace Go.Proofs.YtnhfbabenifbkaaGreatDoor
open Go.RowKit

theorem ret_int {k : IntKind} {a b : Int} (h : a = b) : Ending.returned (.int k a) = .returned (.int k b) := by rw [h]
theorem ret_bool {a b : Bool} (h : a = b) : Ending.returned (.bool a) = .returned (.bool b) := by rw [h]
theorem ret_str {a b : ByteArray} (h : a = b) : Ending.returned (.string a) = .returned (.string b) := by rw [h]
theorem ret_str_int {a b : ByteArray} {k : IntKind} {m n : Int} (h : a = b) (h2 : m = n) : Ending.returned (.tuple #[.string a, .int k m]) = .returned (.tuple #[.string b, .int k n]) := by rw [h, h2]

/-- The cells xs lie in w behind the address ao (of an empty list nothing is said). -/
def CellsAt (w : World) (ao : Option Addr) (xs : List Value) : Prop :=
  ∃ b off, (0 < xs.length → ao = some ⟨b, off, none⟩) ∧ ∀ i x, xs[i]? = some x → w.cell? ⟨b, off + i, none⟩ = some x

theorem lt_of_cell {w : World} {b o : Nat} {x : Value} (h : w.cell? ⟨b, o, none⟩ = some x) : b < w.heap.size := by
  rcases Nat.lt_or_ge b w.heap.size with h1 | h1
  · exact h1
  · rw [World.cell?, Array.getElem?_eq_none h1] at h; simp at h

theorem cell_below {w w' : World} (hb : Below w.heap.size w w') {b o : Nat} {x : Value} (h : w.cell? ⟨b, o, none⟩ = some x) : w'.cell? ⟨b, o, none⟩ = some x :=
  (hb.cell (p := ⟨b, o, none⟩) (lt_of_cell h)).trans h

theorem CellsAt.below {w w' : World} {ao : Option Addr} {xs : List Value} (h : CellsAt w ao xs) (hb : Below w.heap.size w w') : CellsAt w' ao xs := by
  obtain ⟨b, off, ha, hc⟩ := h
  exact ⟨b, off, ha, fun i x hx => cell_below hb (hc i x hx)⟩

theorem CellsAt.nil {w : World} {ao : Option Addr} : CellsAt w ao [] := ⟨0, 0, fun h => by simp at h, fun i x h => by simp at h⟩

theorem CellsAt.of_owns {w : World} {base : Nat} {e : TypeId} {size : Nat} {v : Value} {n : Nat} {xs : List Value} (h : w.ownsRow base e size v n xs) :
    ∃ ao cap, v = .slice ao n cap ∧ CellsAt w ao xs ∧ (ao = none → n = 0 ∧ cap = 0) := by
  obtain ⟨h1, h2⟩ := h
  rcases h2 with ⟨hv, hn⟩ | ⟨g, cap, cur, hv, hg, hh, hn, hc, hs, ht⟩
  · subst hn
    have : xs = [] := by simpa using h1
    subst this
    exact ⟨none, 0, hv, CellsAt.nil, fun _ => ⟨rfl, rfl⟩⟩
  · refine ⟨some ⟨g, 0, none⟩, cap, hv, ⟨g, 0, fun _ => rfl, fun i x hx => ?_⟩, fun h => by cases h⟩
    subst hv
    have hi : i < n * size := by rw [← h1]; exact (List.getElem?_eq_some_iff.1 hx).1
    rw [Nat.zero_add, World.ownsRow.cellAt (base := base) (e := e) (size := size) ⟨h1, .inr ⟨g, cap, cur, rfl, hg, hh, hn, hc, hs, ht⟩⟩ i hi, hx]

theorem ownsRow_below {w w' : World} {base : Nat} {e : TypeId} {size : Nat} {v : Value} {n : Nat} {xs : List Value} (h : w.ownsRow base e size v n xs) (hb : Below w.heap.size w w') : w'.ownsRow base e size v n xs := by
  obtain ⟨h1, h2⟩ := h
  refine ⟨h1, ?_⟩
  rcases h2 with h2 | ⟨g, cap, cur, hv, hg, hh, r⟩
  · exact Or.inl h2
  · exact Or.inr ⟨g, cap, cur, hv, hg, by rw [hb.block g (Array.getElem?_eq_some_iff.1 hh).1]; exact hh, r⟩

theorem ownsRow_mono {w : World} {base base' : Nat} {e : TypeId} {size : Nat} {v : Value} {n : Nat} {xs : List Value} (h : w.ownsRow base e size v n xs) (hb : base' ≤ base) : w.ownsRow base' e size v n xs := by
  obtain ⟨h1, h2⟩ := h
  refine ⟨h1, ?_⟩
  rcases h2 with h2 | ⟨g, cap, cur, hv, hg, r⟩
  · exact Or.inl h2
  · exact Or.inr ⟨g, cap, cur, hv, Nat.le_trans hb hg, r⟩
theorem add_plain (b off j : Nat) : (⟨b, off, none⟩ : Addr).add j = ⟨b, off + j, none⟩ := by
  unfold Addr.add
  by_cases h : j = 0
  · subst h; rfl
  · rw [if_neg h]
theorem below_dn {B : Nat} {a w : World} (h : Below B a w) (n : Nat) : Below B a (w.drewN n) := ⟨h.os, h.tape, h.output, h.size, h.block⟩
theorem alloc_new (w : World) (o : Obj) : (w.alloc o).heap[w.heap.size]? = some o := by
  show (w.heap.push o)[w.heap.size]? = some o
  simp
/-- Bytes of a string, and back. -/
def bl (s : ByteArray) : List UInt8 := s.data.toList
def ba (l : List UInt8) : ByteArray := ⟨l.toArray⟩
theorem ba_bl (s : ByteArray) : ba (bl s) = s := by cases s; simp [ba, bl]
theorem bl_ba (l : List UInt8) : bl (ba l) = l := by simp [ba, bl]
theorem bl_length (s : ByteArray) : (bl s).length = s.size := by simp [bl]
theorem bl_inj {s t : ByteArray} (h : bl s = bl t) : s = t := by rw [← ba_bl s, h, ba_bl]
theorem ba_inj {l m : List UInt8} (h : ba l = ba m) : l = m := by rw [← bl_ba l, h, bl_ba]
theorem bl_extract (s : ByteArray) (a b : Nat) : bl (s.extract a b) = ((bl s).drop a).take (b - a) := by
  unfold bl; rw [Lib.extract_data]
theorem bl_append (s t : ByteArray) : bl (s ++ t) = bl s ++ bl t := by simp [bl]
theorem bl_get (s : ByteArray) (k : Nat) (h : k < s.size) : (bl s)[k]? = some s[k] := by
  have : k < (bl s).length := by rw [bl_length]; exact h
  rw [List.getElem?_eq_getElem this]; rfl
theorem bl_drop_cons (s : ByteArray) (k : Nat) (h : k < s.size) : (bl s).drop k = s[k] :: (bl s).drop (k + 1) := by
  have : k < (bl s).length := by rw [bl_length]; exact h
  rw [List.drop_eq_getElem_cons this]; rfl
theorem bl_drop_end (s : ByteArray) (k : Nat) (h : ¬ k < s.size) : (bl s).drop k = [] := List.drop_of_length_le (by rw [bl_length]; omega)
theorem ba_ne {l m : List UInt8} (h : l ≠ m) : ((ba l).toList == (ba m).toList) = false := by
  rw [Lib.toList_data, Lib.toList_data]
  show ((bl (ba l)) == (bl (ba m))) = false
  rw [bl_ba, bl_ba]; simp [h]
/-- A string's value. -/
abbrev sv (l : List UInt8) : Value := .string (ba l)
end Go.Proofs.YtnhfbabenifbkaaGreatDoor
set_option linter.unusedVariables false
namespace Go.Proofs.YtnhfbabenifbkaaGreatDoor
open Go.ChangeShapes Go.WideShapes Go.ChangeAt Go.RowKit
open Go.ChangeMaps (open_string shut_string)

theorem own : ownKnob Tryz.prog.godebug = none := by kernel_rfl
theorem laidOut : laidOutB Tryz.prog = true := by kernel_rfl
theorem cellsStr : Tryz.prog.cellsOf 9 = 1 := by kernel_rfl
theorem bytesStr : Tryz.prog.bytesOf 9 = 16 := by kernel_rfl

/-- What a reading weighs is within the form's own reach. -/
def Reach {H : Type} (t : TypeId) (d : DataW H) : Prop := ∀ n ∈ d.weights Tryz.prog t, n ≤ 140737488351232

theorem reach_each {H : Type} {ts : List TypeId} {ds : List (DataW H)} (h : (DataW.weightsEach Tryz.prog ts ds).all (· ≤ reachBytes) = true) {j : Nat} {t : TypeId} {d : DataW H} (ht : ts[j]? = some t) (hd : ds[j]? = some d) : Reach t d := by
  intro n hn
  have := List.all_eq_true.1 h _ (DataW.weights_mem_each ht hd n hn)
  exact of_decide_eq_true this

/- A string that came in. -/
set_option maxRecDepth 100000 in
theorem open_str {H : Type} {enc : TypeId × Value → H} {W : World} {base : Nat} {v : Value} {d : DataW H} {p : List MemPlace} (hv : Value.okWide Tryz.prog W .any base 9 v) (h : DataW.Trod enc Tryz.prog W 0 (fun _ => true) true 9 v d p) (hr : Reach 9 d) :
    ∃ s : ByteArray, v = .string s ∧ s.size ≤ 140737488351232 := by
  obtain ⟨s, rfl, rfl, rfl, hs⟩ := open_string Tryz.underlying9 hv h
  refine ⟨s, rfl, ?_⟩
  have := hr s.data.toList.length (by simp [DataW.weights])
  simpa using this

/-- The cells of a list of strings, wherever it lies. -/
theorem strs_cells {W : World} {a : Addr} {len : Nat} {ss : List ByteArray} (hl : len ≤ ss.length) (hcell : ∀ i, i < ss.length → W.cell? (a.add i) = some (.string (ss.getD i ByteArray.empty))) :
    ∃ l : List (List UInt8), l.length = len ∧ CellsAt W (some a) (l.map sv) ∧ ∀ s ∈ l, ba s ∈ ss := by
  refine ⟨(ss.take len).map bl, by simp; omega, ?_, ?_⟩
  · by_cases h0 : len = 0
    · subst h0
      exact ⟨0, 0, fun h => by simp at h, fun i x h => by simp at h⟩
    · have h1 := hcell 0 (by omega)
      obtain ⟨b, off, spot⟩ := a
      have hs : spot = none := by
        have := World.cell?_spot h1
        simpa [Addr.add] using this
      subst hs
      refine ⟨b, off, fun _ => rfl, fun i x hx => ?_⟩
      rw [List.map_map, List.getElem?_map] at hx
      cases hi : (ss.take len)[i]? with
      | none => rw [hi] at hx; cases hx
      | some y =>
        rw [hi] at hx
        simp only [Option.map_some, Option.some.injEq, Function.comp] at hx
        subst hx
        obtain ⟨h2, h3⟩ := List.getElem?_eq_some_iff.1 hi
        rw [List.length_take] at h2
        have := hcell i (by omega)
        rw [add_plain] at this
        rw [this]
        rw [List.getElem_take] at h3
        simp only [sv, ba_bl, Option.some.injEq, Value.string.injEq]
        rw [List.getD_eq_getElem?_getD, List.getElem?_eq_getElem (by omega), ← h3]; rfl
  · intro s hs
    obtain ⟨y, hy, rfl⟩ := List.mem_map.1 hs
    rw [ba_bl]
    exact List.mem_of_mem_take hy

/- A list of strings that came in. -/
set_option maxRecDepth 100000 in
theorem open_strlist {H : Type} {enc : TypeId × Value → H} {W : World} {base : Nat} {v : Value} {d : DataW H} {p : List MemPlace} (hv : Value.okWide Tryz.prog W .any base 61 v) (h : DataW.Trod enc Tryz.prog W 0 (fun _ => true) true 61 v d p) (hr : Reach 61 d) :
    ∃ (ao : Option Addr) (l : List (List UInt8)) (cap : Nat), v = .slice ao l.length cap ∧ CellsAt W ao (l.map sv) ∧ (∀ s ∈ l, s.length ≤ 140737488351232) ∧ l.length ≤ cap ∧ cap * 16 ≤ 140737488351232 ∧ (ao = none → cap = 0) := by
  obtain ⟨a0, len0, cap0, rfl⟩ := okWide_slice Tryz.underlying61 hv
  obtain ⟨fuel, hf⟩ := h
  rcases open_strings Tryz.underlying61 Tryz.underlying9 cellsStr hf with ⟨hcs, hx⟩ | ⟨a, len, cap, ss, hcs, _, hl, hm, hz, hx, hcell, hws⟩
  · simp [Value.cells] at hcs
    obtain ⟨rfl, rfl, rfl⟩ := hcs
    exact ⟨none, [], 0, rfl, CellsAt.nil, (fun s hs => by cases hs), Nat.le_refl _, by omega, fun _ => rfl⟩
  · simp [Value.cells] at hcs
    obtain ⟨rfl, rfl, rfl⟩ := hcs
    simp only [if_true] at hz
    obtain ⟨l, h1, h2, h3⟩ := strs_cells (len := len0) (by omega) hcell
    have hd : d = .slice (strs (ss.take len0)) (strs (ss.drop len0)) := congrArg Prod.fst hx
    subst hd
    refine ⟨some a, l, cap0, by rw [h1], h2, ?_, by omega, ?_, fun h => by cases h⟩
    · intro s hs
      have hm := h3 s hs
      have hw : s.length ∈ (DataW.slice (H := H) (strs (ss.take len0)) (strs (ss.drop len0))).weights Tryz.prog 61 := by
        simp only [DataW.weights, Tryz.underlying61]
        refine List.mem_cons_of_mem _ ?_
        rw [← List.take_append_drop len0 ss] at hm
        have hall : ∀ (m : List ByteArray), ba s ∈ m → s.length ∈ DataW.weightsAll (H := H) Tryz.prog 9 (strs m) := by
          intro m
          induction m with
          | nil => intro hm; cases hm
          | cons y r ih =>
            intro hm
            simp only [strs, List.map_cons, DataW.weightsAll, DataW.weights]
            rcases List.mem_cons.1 hm with e | e
            · subst e
              simp [ba]
            · exact List.mem_append_right _ (ih e)
        rcases List.mem_append.1 hm with hm | hm
        · exact List.mem_append_left _ (hall _ hm)
        · exact List.mem_append_right _ (hall _ hm)
      exact hr _ hw
    · have := hr ((strs (H := H) (ss.take len0)).length + (strs (H := H) (ss.drop len0)).length |> (· * Tryz.prog.bytesOf 9)) (by simp [DataW.weights, Tryz.underlying61])
      rw [bytesStr] at this
      simp only [strs, List.length_map, List.length_take, List.length_drop] at this
      omega
end Go.Proofs.YtnhfbabenifbkaaGreatDoor
set_option linter.unusedVariables false
namespace Go.Proofs.YtnhfbabenifbkaaGreatDoor
open Go.ChangeShapes Go.WideShapes Go.ChangeAt Go.RowKit Go.Joins

abbrev ii (n : Int) : Value := .int .i64 n
abbrev ib (b : Bool) : Value := .bool b
theorem cellsInt : Tryz.prog.cellsOf 3 = 1 := by kernel_rfl
theorem bytesInt : Tryz.prog.bytesOf 3 = 8 := by kernel_rfl
theorem cellsBool : Tryz.prog.cellsOf 4 = 1 := by kernel_rfl
theorem bytesBool : Tryz.prog.bytesOf 4 = 1 := by kernel_rfl
theorem cellsBallot : Tryz.prog.cellsOf 24 = 2 := by kernel_rfl

/-- The cells of a list of numbers, wherever it lies. -/
theorem ints_cells {W : World} {a : Addr} {len : Nat} {zs : List Int} (hl : len ≤ zs.length) (hcell : ∀ i, i < zs.length → W.cell? (a.add i) = some (.int .i64 (zs.getD i 0))) : CellsAt W (some a) ((zs.take len).map ii) := by
  by_cases h0 : len = 0
  · subst h0
    exact ⟨0, 0, fun h => by simp at h, fun i x h => by simp at h⟩
  · have h1 := hcell 0 (by omega)
    obtain ⟨b, off, spot⟩ := a
    have hs : spot = none := by
      have := World.cell?_spot h1
      simpa [Addr.add] using this
    subst hs
    refine ⟨b, off, fun _ => rfl, fun i x hx => ?_⟩
    rw [List.getElem?_map] at hx
    cases hi : (zs.take len)[i]? with
    | none => rw [hi] at hx; cases hx
    | some y =>
      rw [hi] at hx
      simp only [Option.map_some, Option.some.injEq] at hx
      subst hx
      obtain ⟨h2, h3⟩ := List.getElem?_eq_some_iff.1 hi
      rw [List.length_take] at h2
      have := hcell i (by omega)
      rw [add_plain] at this
      rw [this]
      rw [List.getElem_take] at h3
      rw [List.getD_eq_getElem?_getD, List.getElem?_eq_getElem (by omega), ← h3]; rfl

theorem open_intlist0 {H : Type} {enc : TypeId × Value → H} {W : World} {v : Value} {d : DataW H} {p : List MemPlace} {fuel : Nat} (hf : DataW.trod enc Tryz.prog W 0 (fun _ => true) true fuel 22 [v] = some (d, p)) (hr : Reach 22 d) :
    ∃ (ao : Option Addr) (l : List Int) (cap : Nat), v = .slice ao l.length cap ∧ CellsAt W ao (l.map ii) ∧ l.length ≤ cap ∧ cap * 8 ≤ 140737488351232 ∧ (ao = none → cap = 0) ∧ ∀ n ∈ l, -9223372036854775808 ≤ n ∧ n ≤ 9223372036854775807 := by
  rcases open_ints Tryz.underlying22 Tryz.underlying3 cellsInt hf with ⟨hcs, hx⟩ | ⟨a, len, cap, zs, hcs, _, hl, hm, hz, hx, hcell, hwf⟩
  · simp at hcs
    exact ⟨none, [], 0, hcs, CellsAt.nil, Nat.le_refl _, by omega, fun _ => rfl, by simp⟩
  · simp at hcs
    simp only [if_true] at hz
    have hlen : (zs.take len).length = len := by rw [List.length_take]; omega
    have hd : d = .slice (lits .i64 (zs.take len)) (lits .i64 (zs.drop len)) := congrArg Prod.fst hx
    subst hd
    refine ⟨some a, zs.take len, cap, by rw [hlen]; exact hcs, ints_cells (by omega) hcell, by omega, ?_, fun h => (by cases h), fun n hn => ?_⟩
    · have := hr (((lits (H := H) .i64 (zs.take len)).length + (lits (H := H) .i64 (zs.drop len)).length) * Tryz.prog.bytesOf 3) (by simp [DataW.weights, Tryz.underlying22])
      rw [bytesInt] at this
      simp only [lits, List.length_map, List.length_take, List.length_drop] at this
      omega
    · have := hwf n (List.mem_of_mem_take hn)
      simpa [Lit.wf, IntKind.min, IntKind.max, IntKind.signed, IntKind.bits] using this

set_option maxRecDepth 100000 in
theorem open_intlist {H : Type} {enc : TypeId × Value → H} {W : World} {base : Nat} {v : Value} {d : DataW H} {p : List MemPlace} (hv : Value.okWide Tryz.prog W .any base 22 v) (h : DataW.Trod enc Tryz.prog W 0 (fun _ => true) true 22 v d p) (hr : Reach 22 d) :
    ∃ (ao : Option Addr) (l : List Int) (cap : Nat), v = .slice ao l.length cap ∧ CellsAt W ao (l.map ii) ∧ l.length ≤ cap ∧ cap * 8 ≤ 140737488351232 ∧ (ao = none → cap = 0) ∧ ∀ n ∈ l, -9223372036854775808 ≤ n ∧ n ≤ 9223372036854775807 := by
  obtain ⟨a0, len0, cap0, rfl⟩ := okWide_slice Tryz.underlying22 hv
  obtain ⟨fuel, hf⟩ := h
  exact open_intlist0 (by simpa [Value.cells] using hf) hr

set_option maxRecDepth 100000 in
theorem open_ballot {H : Type} {enc : TypeId × Value → H} {W : World} {base : Nat} {v : Value} {d : DataW H} {p : List MemPlace} (hv : Value.okWide Tryz.prog W .any base 24 v) (h : DataW.Trod enc Tryz.prog W 0 (fun _ => true) true 24 v d p) (hr : Reach 24 d) :
    ∃ (k : Int) (ao : Option Addr) (l : List Int) (cap : Nat), v = .agg #[.int .u8 k, .slice ao l.length cap] ∧ (0 ≤ k ∧ k ≤ 255) ∧ CellsAt W ao (l.map ii) ∧ l.length ≤ cap ∧ cap * 8 ≤ 140737488351232 ∧ (ao = none → cap = 0) ∧ ∀ n ∈ l, -9223372036854775808 ≤ n ∧ n ≤ 9223372036854775807 := by
  obtain ⟨v0, v1, y0, y1, n, rfl, rfl, rfl, h0, h1⟩ := open_agg2 Tryz.underlying24 (by kernel_rfl) cellsBallot hv h
  obtain ⟨k, hk, _, hwf⟩ := DataW.trod_int Tryz.underlying5 h0
  simp at hk
  subst hk
  obtain ⟨y1, q1⟩ := y1
  obtain ⟨ao, l, cap, rfl, hc, hl, hcap, hn, hb⟩ := open_intlist0 h1 (fun m hm => hr m (by simp only [DataW.weights, Tryz.underlying24]; exact List.mem_append_right _ (List.mem_append_left _ hm)))
  refine ⟨k, ao, l, cap, rfl, ?_, hc, hl, hcap, hn, hb⟩
  simpa [Lit.wf, IntKind.min, IntKind.max, IntKind.signed, IntKind.bits] using hwf

set_option maxRecDepth 100000 in
theorem open_boollist {H : Type} {enc : TypeId × Value → H} {W : World} {base : Nat} {v : Value} {d : DataW H} {p : List MemPlace} (hv : Value.okWide Tryz.prog W .any base 34 v) (h : DataW.Trod enc Tryz.prog W 0 (fun _ => true) true 34 v d p) (hr : Reach 34 d) :
    ∃ (ao : Option Addr) (l : List Bool) (cap : Nat), v = .slice ao l.length cap ∧ CellsAt W ao (l.map ib) ∧ l.length ≤ cap ∧ cap ≤ 140737488351232 ∧ (ao = none → cap = 0) := by
  obtain ⟨a0, len0, cap0, rfl⟩ := okWide_slice Tryz.underlying34 hv
  obtain ⟨fuel, hf⟩ := h
  rcases Go.Deep.open_bools Tryz.underlying34 Tryz.underlying4 cellsBool hf with ⟨hcs, hx⟩ | ⟨a, len, cap, B, hcs, _, hl, hm, hx, hcell⟩
  · simp [Value.cells] at hcs
    obtain ⟨rfl, rfl, rfl⟩ := hcs
    exact ⟨none, [], 0, rfl, CellsAt.nil, Nat.le_refl _, by omega, fun _ => rfl⟩
  · simp [Value.cells] at hcs
    obtain ⟨rfl, rfl, rfl⟩ := hcs
    have hlen : ((List.range len0).map B).length = len0 := by simp
    refine ⟨some a, (List.range len0).map B, cap0, by rw [hlen], ?_, by omega, ?_, fun h => by cases h⟩
    · by_cases h0 : len0 = 0
      · subst h0
        exact ⟨0, 0, fun h => by simp at h, fun i x h => by simp at h⟩
      · have h1 := hcell 0 (by omega)
        obtain ⟨b, off, spot⟩ := a
        have hs : spot = none := by
          have := World.cell?_spot h1
          simpa [Addr.add] using this
        subst hs
        refine ⟨b, off, fun _ => rfl, fun i x hx => ?_⟩
        rw [List.getElem?_map, List.getElem?_map] at hx
        by_cases hi : i < len0
        · rw [List.getElem?_range hi] at hx
          simp at hx
          subst hx
          have := hcell i (by omega)
          rw [add_plain] at this
          exact this
        · rw [List.getElem?_eq_none (by simp; omega)] at hx; cases hx
    · have hd := congrArg Prod.fst hx
      simp only at hd
      subst hd
      have := hr ((len0 + (cap0 - len0)) * Tryz.prog.bytesOf 4) (by simp [Go.Deep.boolRow, DataW.weights, Tryz.underlying34])
      rw [bytesBool] at this
      omega
end Go.Proofs.YtnhfbabenifbkaaGreatDoor
set_option maxRecDepth 100000
set_option linter.unusedVariables false
namespace Go.Proofs.YtnhfbabenifbkaaGreatDoor
open Go.RowKit
/-- Nothing that lies there is written. -/
abbrev Old (W : World) (b : Nat) : Prop := Imm (fun b => W.heap.size ≤ b ∨ True) W (fun _ => none) (Heap.get []) b
theorem old_of {W : World} {b o : Nat} {x : Value} (h : W.cell? ⟨b, o, none⟩ = some x) : Old W b := by
  refine ⟨lt_of_cell h, fun ⟨a, ha, _⟩ => by simp [Heap.get] at ha, .inr trivial, ?_⟩
  unfold World.cell? at h
  dsimp only at h
  split at h <;> first | exact ⟨_, _, _, by assumption⟩ | cases h
/-- A list of one-celled things. -/
theorem rel_tl {α : Type} {f : α → List V} {g : α → Value} {W : World} {ao : Option Addr} {l : List α} {cap : Nat} (hf : ∀ x, ∃ v, f x = [v] ∧ Rel CC.N W (Old W) (fun _ => none) v (g x) ∧ (g x).oneCell' = true) (h : CellsAt W ao (l.map g)) (hl : l.length ≤ cap) (hn : ao = none → cap = 0) :
    Rel CC.N W (Old W) (fun _ => none) (tl f 1 l none) (.slice ao l.length cap) := by
  obtain ⟨b, off, ha, hc⟩ := h
  have hcell : ∀ (i : Nat) (x : α), l[i]? = some x → W.cell? ⟨b, off + i, none⟩ = some (g x) := fun i x hx => hc i _ (by rw [List.getElem?_map, hx]; rfl)
  have := Rel.lst (N := CC.N) (w := W) (S := Old W) (fun _ => none) 1 (l.map f) none ao cap b off (fun i _ => (W.cell? ⟨b, off + i, none⟩).getD undef) (fun k hk => by cases hk) (by simpa using hl)
    (fun h0 => by
      have h0' : 0 < l.length := by simpa using h0
      obtain ⟨x, hx, _⟩ := get_of h0'
      exact ⟨ha (by simpa using h0'), old_of (hcell 0 x hx)⟩) hn
    (fun i row hr => by
      rw [List.getElem?_map] at hr
      obtain ⟨x, _, rfl⟩ := Option.map_eq_some_iff.1 hr
      obtain ⟨v, hv, _⟩ := hf x
      rw [hv]; rfl)
    (fun i row j y hr hj => by
      rw [List.getElem?_map] at hr
      obtain ⟨x, hx, rfl⟩ := Option.map_eq_some_iff.1 hr
      obtain ⟨v, hv, _, h1⟩ := hf x
      rw [hv] at hj
      have hj0 : j = 0 := by
        have := (List.getElem?_eq_some_iff.1 hj).1
        simpa using this
      subst hj0
      rw [Nat.mul_one, Nat.add_zero, hcell i x hx]
      exact ⟨rfl, h1⟩)
    (fun i row j y hr hj => by
      rw [List.getElem?_map] at hr
      obtain ⟨x, hx, rfl⟩ := Option.map_eq_some_iff.1 hr
      obtain ⟨v, hv, h2, _⟩ := hf x
      rw [hv] at hj
      have hj0 : j = 0 := by
        have := (List.getElem?_eq_some_iff.1 hj).1
        simpa using this
      subst hj0
      simp at hj
      subst hj
      rw [hcell i x hx]
      exact h2) ⟨fun h => absurd h (by decide), fun h => absurd h (by decide)⟩
  rw [List.length_map] at this
  exact this
theorem rel_mlst {W : World} {ao : Option Addr} {l : List Int} {cap : Nat} (h : CellsAt W ao (l.map ii)) (hl : l.length ≤ cap) (hn : ao = none → cap = 0) : Rel CC.N W (Old W) (fun _ => none) (tl mrow 1 l none) (.slice ao l.length cap) :=
  rel_tl (fun x => ⟨_, rfl, .int _ _ _, rfl⟩) h hl hn
theorem rel_blst {W : World} {ao : Option Addr} {l : List Bool} {cap : Nat} (h : CellsAt W ao (l.map ib)) (hl : l.length ≤ cap) (hn : ao = none → cap = 0) : Rel CC.N W (Old W) (fun _ => none) (tl brow 1 l none) (.slice ao l.length cap) :=
  rel_tl (fun x => ⟨_, rfl, .bool _ _, rfl⟩) h hl hn
theorem rel_bal {W : World} {k : Int} {ao : Option Addr} {l : List Int} {cap : Nat} (h : CellsAt W ao (l.map ii)) (hl : l.length ≤ cap) (hn : ao = none → cap = 0) : Rel CC.N W (Old W) (fun _ => none) (.agg [.int .u8 k, tl mrow 1 l none]) (.agg #[.int .u8 k, .slice ao l.length cap]) := by
  refine .agg _ _ _ rfl (fun i y hy => ?_) (fun i c y hc hy => ?_)
  · match i with
    | 0 => simp at hy; subst hy; rfl
    | 1 => simp at hy; subst hy; rfl
    | n + 2 => simp at hy
  · match i with
    | 0 => simp at hc hy; subst hc; subst hy; exact .int _ _ _
    | 1 => simp at hc hy; subst hc; subst hy; exact rel_mlst h hl hn
    | n + 2 => simp at hc
/-- What came in, one after another. -/
def RelAll (W : World) : List V → List Value → Prop
  | [], [] => True
  | v :: vs, x :: xs => Rel CC.N W (Old W) (fun _ => none) v x ∧ RelAll W vs xs
  | _, _ => False
theorem RelAll.get {W : World} : ∀ {vs : List V} {xs : List Value}, RelAll W vs xs → xs.length = vs.length ∧ ∀ (i : Nat) (v : V) (x : Value), vs[i]? = some v → xs[i]? = some x → Rel CC.N W (Old W) (fun _ => none) v x
  | [], [], _ => ⟨rfl, fun i v x h => by simp at h⟩
  | v :: vs, x :: xs, ⟨h1, h2⟩ => by
    obtain ⟨h3, h4⟩ := h2.get
    refine ⟨by simp [h3], fun i v' x' hv hx => ?_⟩
    cases i with
    | zero => simp at hv hx; subst hv; subst hx; exact h1
    | succ i => exact h4 i v' x' (by simpa using hv) (by simpa using hx)
  | [], _ :: _, h => h.elim
  | _ :: _, [], h => h.elim
/-- A law that yields true in AL yields true. -/
theorem law_args {L : Lib} (hC : Ok L CC) {k : Nat} {vs : List V} {xs : List Value} (h : AFn L (.fn k) vs [] (fun r' H' => r' = .bool true ∧ H' = [])) (hk : CT.fns k = some k) (W : World) (hr : RelAll W vs xs) :
    Calls Tryz.prog k xs.toArray W fun e w' => e = .returned (.bool true) ∧ Below W.heap.size W w' := by
  obtain ⟨h1, h2⟩ := hr.get
  refine Calls.mono (h CC hC (fun b => W.heap.size ≤ b ∨ True) W (fun _ => none) xs.toArray (fun _ _ => .inr trivial) (fun _ _ => rfl) ⟨fun a k h => by simp [Heap.get] at h, fun a a' b h => absurd (by simp [Heap.get]) h⟩ (fun g k v _ h => by cases h) ⟨by simp [h1], fun i v x hv hx => h2 i v x hv (by simpa using hx)⟩ k hk) ?_
  rintro e w' ⟨v, r', H', β', rfl, ⟨rfl, _⟩, _, _, _, _, hrel, _, hf⟩
  cases hrel
  exact ⟨rfl, ⟨hf.os, hf.tape, hf.output, hf.size, fun b hb => hf.block b hb (fun ⟨a, ha, _⟩ => by simp [Heap.get] at ha)⟩⟩
end Go.Proofs.YtnhfbabenifbkaaGreatDoor
set_option maxRecDepth 100000
set_option linter.unusedVariables false
namespace Go.Proofs.YtnhfbabenifbkaaGreatDoor
open Go.RowKit Go.Shelf
open Go.Extern.Stop Go.Stop Go.Extern
theorem gSyn : Tryz.prog.globalNamed "strconv.ErrSyntax" = some 0 := by kernel_rfl
theorem gRng : Tryz.prog.globalNamed "strconv.ErrRange" = some 1 := by kernel_rfl
theorem gSynT : (Tryz.prog.globals[0]?).map (·.type) = some 68 := by kernel_rfl
theorem gRngT : (Tryz.prog.globals[1]?).map (·.type) = some 68 := by kernel_rfl
theorem cellsErr : Tryz.prog.cellsOf 138 = 1 := by kernel_rfl
theorem cellsStr9 : Tryz.prog.cellsOf 9 = 1 := by kernel_rfl
theorem star : "*" ++ "errors.errorString" = "*errors.errorString" := by decide
theorem rowErr (u : TypeId) (h : Tryz.prog.typeName? 3 u = some "*errors.errorString") : u = 136 :=
  typeName_ptr_named (nm := "errors.errorString") (by rw [star]; kernel_rfl) (by kernel_rfl) (by decide) u (by rw [star]; exact h)
/-- What an error variable holds. -/
def errV : V := .iptr 1 [[.iface 136 .bot]] 0 0
def GA (g : Nat) : Option V := bif Nat.beq g 0 then some errV else bif Nat.beq g 1 then some errV else none
def endN : Lib.NumEnd Int → List UInt8 → Int
  | .ok v, _ => v
  | .range, s => Lib.atoiSat s
  | _, _ => 0
def atoiN (s : List UInt8) : Int := endN (Lib.atoiAll s) s
def xAt (k : Nat) : List V → Option V
  | [.str s] => bif Nat.beq k 56 && Nat.ble s.length 1000000 then some (.tup [.int .i64 (atoiN s), .bot]) else none
  | _ => none
noncomputable def LA : Lib := { T := tab.get, G := GA, X := xAt }
noncomputable def CA : Ctx := { CC with G := GA }
theorem err_cell {w : World} {S : Nat → Prop} {g : Nat} (h : Rel CA.N w S (fun _ => none) errV (.pointer (some ⟨g, 0, none⟩))) : ∃ T p, w.cell? ⟨g, 0, none⟩ = some (.iface T p) := by
  unfold errV at h
  generalize hx : Value.pointer (some ⟨g, 0, none⟩) = x at h
  cases h with
  | iptr _ _ _ _ _ b off ys hS hr hy hv =>
    obtain ⟨h1, _⟩ := hy 0 _ 0 _ rfl rfl
    have h2 := hv 0 _ 0 _ rfl rfl
    generalize ys 0 0 = y at h1 h2
    cases h2 with
    | iface _ _ T ht _ y' _ =>
      have : g = b ∧ 0 = off + 0 * 1 + 0 := by
        have := Value.pointer.inj hx
        have := Option.some.inj this
        exact ⟨congrArg Addr.block this, congrArg Addr.off this⟩
      obtain ⟨rfl, h3⟩ := this
      rw [← h3] at h1
      exact ⟨T, y', h1⟩
theorem frm_below {w w' : World} (h : Below w.heap.size w w') : Frm (fun _ => False) w w' :=
  ⟨h.os, h.tape, h.output, h.size, fun b hb _ => h.block b hb, fun b m ⟨cells, T, fz, h1, h2⟩ => ⟨cells, T, fz, by rw [h.block b (Array.getElem?_eq_some_iff.1 h1).1]; exact h1, h2⟩⟩
theorem okA : Ok LA CA := by
  have h := okC
  refine ⟨h.fn, rfl, h.body, fun k fid args r hk hX A w β hp vs hh hg ha hA => ?_⟩
  have hk' : CT.fns k = some fid := hk
  obtain ⟨rfl, _⟩ := CT_fns hk'
  change xAt k args = some r at hX
  unfold xAt at hX
  split at hX
  · rename_i s
    cases hb : Nat.beq k 56 && Nat.ble s.length 1000000 with
    | false => rw [hb] at hX; cases hX
    | true =>
      rw [hb] at hX
      cases hX
      rw [Bool.and_eq_true] at hb
      obtain ⟨hb1, hb2⟩ := hb
      obtain rfl := Nat.eq_of_beq_eq_true hb1
      have hlen := Nat.le_of_ble_eq_true hb2
      obtain ⟨ha1, ha2⟩ := ha
      have hsz : vs.size = 1 := ha1
      have hr := ha2 0 _ vs[0] rfl (by simp [hsz])
      generalize hv0 : vs[0] = v0 at hr
      cases hr with
      | str _ b =>
        obtain rfl : vs = #[.string b] := by
          apply Array.ext
          · simp [hsz]
          · intro i h1 h2
            have : i = 0 := by omega
            subst this
            simpa using hv0
        have hbs : b.size ≤ 1000000 := by simpa using hlen
        obtain ⟨T0, p0, hc0⟩ := err_cell (hg 0 0 errV rfl rfl)
        obtain ⟨T1, p1, hc1⟩ := err_cell (hg 1 1 errV rfl rfl)
        have fin : ∀ {n : Int} {x : Value} {w' : World}, x.oneCell' = true → Below w.heap.size w w' → ∃ v, Ending.returned (.tuple #[.int .i64 n, x]) = .returned v ∧ Frm (fun _ => False) w w' ∧ Rel CA.N w' (Imm A w' β hp) β (.tup [.int .i64 n, .bot]) v := fun hx hbel => ⟨_, rfl, frm_below hbel, .tup _ _ _ rfl fun i c y hc hy => by
          match i with
          | 0 => simp at hc hy; subst hc; subst hy; exact .int _ _ _
          | 1 => simp at hc hy; subst hc; subst hy; exact .bot _ _ hx
          | n + 2 => simp at hc⟩
        cases he : Lib.atoiAll b.data.toList
        · rename_i v
          refine (Any.strconv_Atoi_ok (ρ := Tryz.laysC172_ren) Tryz.laysC172 b (by omega) v he w).mono ?_
          rintro e w' ⟨rfl, hw⟩
          have : atoiN b.data.toList = v := by unfold atoiN; rw [he]; rfl
          rw [this]
          refine fin rfl ?_
          rcases hw with rfl | ⟨t, rfl⟩
          · exact Below.refl _ _
          · exact Lib.bytesWorld_below _ _ _
        · refine (Any.strconv_Atoi_syntax (ρ := Tryz.laysC172_ren) Tryz.laysC172 b (by omega) he _ w hc0 (.inr ⟨_, _, rfl⟩)).mono ?_
          rintro e w' ⟨N, rfl, _, _, hbel⟩
          have : atoiN b.data.toList = 0 := by unfold atoiN; rw [he]; rfl
          rw [this]
          exact fin rfl hbel
        · refine (Any.strconv_Atoi_range (ρ := Tryz.laysC172_ren) Tryz.laysC172 b (by omega) he _ w hc1 (.inr ⟨_, _, rfl⟩)).mono ?_
          rintro e w' ⟨N, rfl, _, _, hbel⟩
          have : atoiN b.data.toList = Lib.atoiSat b.data.toList := by unfold atoiN; rw [he]; rfl
          rw [this]
          exact fin rfl hbel
  · cases hX
theorem atoi_v (s : List UInt8) (hs : s.length ≤ 1000000) : VFn LA 56 [.str s] (.tup [.int .i64 (atoiN s), .bot]) := by
  refine ⟨rfl, rfl, AFn.of_ext ?_ []⟩
  show (bif Nat.beq _ _ && Nat.ble s.length 1000000 then _ else _) = _
  rw [show Nat.ble s.length 1000000 = true from Nat.ble_eq_true_of_le hs]
  rfl
theorem vfn_lift {k : Nat} {vs : List V} {r : V} (h : VFn LL k vs r) : VFn LA k vs r := by
  refine ⟨h.1, h.2.1, fun C hC A w β xs hA hd hh hg ha => ?_⟩
  exact h.2.2 { C with G := fun _ => none } ⟨hC.fn, rfl, hC.body, fun _ _ _ _ _ hX => by cases hX⟩ A w β xs hA hd hh (fun g k v _ h => by cases h) ha
/-- What the listed variables give. -/
theorem errs_laid {r : List (String × DataW Unit)} {W : World} (h : laidMet Tryz.prog (("strconv.ErrRange", Rows.laid_strconv_ErrRange) :: ("strconv.ErrSyntax", Rows.laid_strconv_ErrSyntax) :: r) W) : GlobR (fun b => W.heap.size ≤ b ∨ True) CA W (fun _ => none) (Heap.get []) := by
  obtain ⟨a1, s1, hv1, _⟩ := laid_sentinel h gRng gRngT Tryz.underlying68 rowErr Tryz.underlying136 Tryz.underlying138 rfl rfl Tryz.underlying9 cellsErr cellsStr9
  obtain ⟨a0, s0, hv0, _⟩ := laid_sentinel h.tail gSyn gSynT Tryz.underlying68 rowErr Tryz.underlying136 Tryz.underlying138 rfl rfl Tryz.underlying9 cellsErr cellsStr9
  have c1 := World.var?_cell gRng hv1 0
  have c0 := World.var?_cell gSyn hv0 0
  have mk : ∀ (g : Nat) (a : Addr), W.cell? ⟨g, 0, none⟩ = some (.iface 136 (.pointer (some a))) → Rel CA.N W (Imm (fun b => W.heap.size ≤ b ∨ True) W (fun _ => none) (Heap.get [])) (fun _ => none) errV (.pointer (some ⟨g, 0, none⟩)) := fun g a hc =>
    Rel.iptr (fun _ => none) 1 [[.iface 136 .bot]] 0 0 g 0 (fun _ _ => .iface 136 (.pointer (some a))) (old_of hc)
      (fun i row hr => by match i with | 0 => simp at hr; subst hr; rfl | n + 1 => simp at hr)
      (fun i row j x hr hx => by
        match i with
        | 0 =>
          simp at hr; subst hr
          match j with
          | 0 => exact ⟨hc, rfl⟩
          | n + 1 => simp at hx
        | n + 1 => simp at hr)
      (fun i row j x hr hx => by
        match i with
        | 0 =>
          simp at hr; subst hr
          match j with
          | 0 => simp at hx; subst hx; exact .iface _ _ _ rfl _ _ (.bot _ _ rfl)
          | n + 1 => simp at hx
        | n + 1 => simp at hr)
  intro g k v hgk hG
  have hgk : some g = some k := hgk
  cases hgk
  have hG : GA g = some v := hG
  unfold GA at hG
  cases b0 : Nat.beq g 0 with
  | true =>
    rw [b0] at hG
    obtain rfl := Nat.eq_of_beq_eq_true b0
    cases hG
    exact mk 0 a0 (by simpa using c0)
  | false =>
    rw [b0] at hG
    cases b1 : Nat.beq g 1 with
    | true =>
      rw [b1] at hG
      obtain rfl := Nat.eq_of_beq_eq_true b1
      cases hG
      exact mk 1 a1 (by simpa using c1)
    | false => rw [b1] at hG; cases hG
theorem law_argsA {r : List (String × DataW Unit)} {k : Nat} {vs : List V} {xs : List Value} (h : AFn LA (.fn k) vs [] (fun r' H' => r' = .bool true ∧ H' = [])) (hk : CT.fns k = some k) (W : World) (hl : laidMet Tryz.prog (("strconv.ErrRange", Rows.laid_strconv_ErrRange) :: ("strconv.ErrSyntax", Rows.laid_strconv_ErrSyntax) :: r) W) (hr : RelAll W vs xs) :
    Calls Tryz.prog k xs.toArray W fun e w' => e = .returned (.bool true) ∧ Below W.heap.size W w' := by
  obtain ⟨h1, h2⟩ := hr.get
  refine Calls.mono (h CA okA (fun b => W.heap.size ≤ b ∨ True) W (fun _ => none) xs.toArray (fun _ _ => .inr trivial) (fun _ _ => rfl) ⟨fun a k h => by simp [Heap.get] at h, fun a a' b h => absurd (by simp [Heap.get]) h⟩ (errs_laid hl) ⟨by simp [h1], fun i v x hv hx => h2 i v x hv (by simpa using hx)⟩ k hk) ?_
  rintro e w' ⟨v, r', H', β', rfl, ⟨rfl, _⟩, _, _, _, _, hrel, _, hf⟩
  cases hrel
  exact ⟨rfl, ⟨hf.os, hf.tape, hf.output, hf.size, fun b hb => hf.block b hb (fun ⟨a, ha, _⟩ => by simp [Heap.get] at ha)⟩⟩
end Go.Proofs.YtnhfbabenifbkaaGreatDoor
set_option maxRecDepth 100000
set_option linter.unusedVariables false
namespace Go.Proofs.YtnhfbabenifbkaaGreatDoor
theorem atoi_dig : ∀ n, n < 11 → atoiN (dig n) = (n : Int) := by
  intro n hn
  have : ((List.range 11).all fun n => decide (atoiN (dig n) = (n : Int))) = true := by decide +kernel
  exact of_decide_eq_true (List.all_eq_true.1 this n (List.mem_range.2 hn))
theorem keeps_al (k : Int) (l : List Int) (hk : 0 ≤ k ∧ k ≤ 255) (hl : l.length ≤ 17592186043904) (hb : ∀ n ∈ l, -9223372036854775808 ≤ n ∧ n ≤ 9223372036854775807) (left : List Bool) (h2 : left.length ≤ 140737488351232) (p : List Int) (hp : p.length ≤ 17592186043904) (hpb : ∀ n ∈ p, -9223372036854775808 ≤ n ∧ n ≤ 9223372036854775807) (s : List UInt8) (hs : s.length ≤ 140737488351232) : VFn LA 4 [.agg [.int .u8 k, tl mrow 1 l none], tl brow 1 left none, tl mrow 1 p none, .str s] (.bool true) :=
  bkeeps_v (L := LA) rfl (vfn_lift wakes_v) (fun s hs => read_v rfl (fun w hw => atoi_v w hw) atoi_dig s hs) k l hl left h2 p hp s
end Go.Proofs.YtnhfbabenifbkaaGreatDoor
set_option linter.unusedVariables false
namespace Go.Proofs.YtnhfbabenifbkaaGreatDoor
open Go.ChangeShapes Go.WideShapes Go.ChangeAt Go.RowKit

set_option maxRecDepth 100000 in
theorem ballotKeeps_lifted (os : Os) (started : os.Started) (H : Type) (enc : TypeId × Value → H) :
    ReturnsInHanded {} Tryz.checked os 4 .any (fun w args => (Rows.ballotKeepsSpec.pre enc Tryz.prog Tryz.f4 Rows.ballotKeepsRow.domain false w args ∧ laidMetH Tryz.prog Rows.ballotKeepsRow.laid w) ∧ sizedMet enc Tryz.prog Tryz.f4 (OpenSpec.ofChange Rows.ballotKeepsSpec) false w args) (Rows.ballotKeepsSpec.post enc Tryz.prog Tryz.f4 false true false false) := by
  refine returnsInHanded_of_change_and (C := Tryz.checked) (X := fun w _ => laidMetH Tryz.prog Rows.ballotKeepsRow.laid w) (fun _ _ _ hh h => h.of_heap hh) own started (by kernel_rfl) Tryz.func4
    (ChangeSpec.witness_shaped (enc := enc) (C := Tryz.checked) (os := os) (X := fun w _ => laidMetH Tryz.prog Rows.ballotKeepsRow.laid w) false (World.laidAll Tryz.prog os Rows.ballotKeepsRow.laid) #[.agg #[.int .u8 0, .slice none 0 0], .slice none 0 0, .slice none 0 0, .string ⟨#[]⟩] 8 (World.laidAll_os _ _ _)
      (World.shaped_of_ZipB (by kernel_rfl) (by kernel_rfl)) (by kernel_rfl) (by kernel_rfl) (by kernel_rfl)
      (by rw [MakeChecks.laidMetH_plain _ _ _ (by kernel_rfl)]; exact laidMet_laidAll _ (by kernel_rfl) (by kernel_rfl))) ?_
  intro W base args ds gs before hval0 hW _ hsz0 hL _
  have hval : ∀ (j : Nat) t v, Tryz.f4.params[j]? = some t → args[j]? = some v → Value.okWide Tryz.prog W .any base t v := hval0
  have hW' := hW
  obtain ⟨p, q, hA0, hV, rfl, hfz, hnd⟩ := hW
  have hA : DataW.TrodAll enc Tryz.prog W 0 (fun _ => true) true Tryz.f4.params.toList args.toList ds p := hA0
  have hsz : (DataW.weightsEach Tryz.prog (Tryz.f4.params.toList ++ Rows.ballotKeepsSpec.plain.varTypes Tryz.prog) (ds ++ gs)).all (· ≤ reachBytes) = true := hsz0
  rw [Tryz.params4] at hA hval hsz
  obtain ⟨v0, vs0, d0, ds0, p0, q0, hargs, rfl, rfl, h0, hA0⟩ := trodAll_cons hA
  obtain ⟨v1, vs1, d1, ds1, p1, q1, rfl, rfl, rfl, h1, hA1⟩ := trodAll_cons hA0
  obtain ⟨v2, vs2, d2, ds2, p2, q2, rfl, rfl, rfl, h2, hA2⟩ := trodAll_cons hA1
  obtain ⟨v3, vs3, d3, ds3, p3, q3, rfl, rfl, rfl, h3, hA3⟩ := trodAll_cons hA2
  obtain ⟨rfl, rfl, rfl⟩ := trodAll_nil hA3
  obtain rfl : args = #[v0, v1, v2, v3] := by cases args; simp_all
  obtain ⟨rfl, rfl⟩ := trodVars_none hV
  have k0 := h0
  have lt0 : ∀ x ∈ p0, x.block < W.heap.size := by obtain ⟨m, hm⟩ := k0; exact DataW.trod_lt m _ _ _ hm
  have k1 := h1
  have lt1 : ∀ x ∈ p1, x.block < W.heap.size := by obtain ⟨m, hm⟩ := k1; exact DataW.trod_lt m _ _ _ hm
  have k2 := h2
  have lt2 : ∀ x ∈ p2, x.block < W.heap.size := by obtain ⟨m, hm⟩ := k2; exact DataW.trod_lt m _ _ _ hm
  have k3 := h3
  have lt3 : ∀ x ∈ p3, x.block < W.heap.size := by obtain ⟨m, hm⟩ := k3; exact DataW.trod_lt m _ _ _ hm
  obtain ⟨k0b, ao0, l0, cap0, rfl, hk0, hc0, hlc0, hcap0, hn0, hb0⟩ := open_ballot (hval 0 24 v0 rfl rfl) h0 (reach_each hsz (j := 0) rfl rfl)
  obtain ⟨ao1, l1, cap1, rfl, hc1, hlc1, hcap1, hn1⟩ := open_boollist (hval 1 34 v1 rfl rfl) h1 (reach_each hsz (j := 1) rfl rfl)
  obtain ⟨ao2, l2, cap2, rfl, hc2, hlc2, hcap2, hn2, hb2⟩ := open_intlist (hval 2 22 v2 rfl rfl) h2 (reach_each hsz (j := 2) rfl rfl)
  obtain ⟨s3, rfl, hs3⟩ := open_str (hval 3 9 v3 rfl rfl) h3 (reach_each hsz (j := 3) rfl rfl)
  have hL9 : laidMet Tryz.prog Rows.ballotKeepsRow.laid W := by rw [MakeChecks.laidMetH_plain _ _ _ (by kernel_rfl)] at hL; exact hL
  have hLa : laidMet Tryz.prog (("strconv.ErrRange", Rows.laid_strconv_ErrRange) :: ("strconv.ErrSyntax", Rows.laid_strconv_ErrSyntax) :: _) W := hL9.tail.tail.tail.tail
  clear hA0 hval0 hL
  refine (law_argsA (keeps_al k0b l0 hk0 (by omega) hb0 l1 (by omega) l2 (by omega) hb2 s3.data.toList (by simpa using hs3)).2.2 (by kernel_rfl) W hLa (xs := [_, _, _, _]) ⟨rel_bal hc0 hlc0 hn0, rel_blst hc1 hlc1 hn1, rel_mlst hc2 hlc2 hn2, .str _ _, trivial⟩).mono fun e W' ⟨he, bel⟩ => ?_
  subst he
  exact ⟨_, rfl, _, _, _, [], _, [], hW', trodAll_mk1 (shut_bool Tryz.underlying4 _), (trodAll_cons_mk (Below.trod laidOut (by kernel_rfl) (of_decide_eq_true (by kernel_rfl)) k0 bel lt0) (trodAll_cons_mk (Below.trod laidOut (by kernel_rfl) (of_decide_eq_true (by kernel_rfl)) k1 bel lt1) (trodAll_cons_mk (Below.trod laidOut (by kernel_rfl) (of_decide_eq_true (by kernel_rfl)) k2 bel lt2) (trodAll_cons_mk (Below.trod laidOut (by kernel_rfl) (of_decide_eq_true (by kernel_rfl)) k3 bel lt3) trodAll_mk0)))), rfl, bel.frame _, fun h => by cases h⟩

theorem ballotKeeps_said : Rows.BallotKeepsSaid :=
  OpenClaim.holds_of_wide 4 Tryz.f4 rfl rfl rfl rfl rfl rfl rfl ⟨rfl, rfl, rfl, rfl, rfl⟩ rfl rfl rfl rfl rfl (by kernel_rfl) Tryz.func4 (by kernel_rfl)
    (of_decide_eq_true (by kernel_rfl)) (by unfold Func.isWrapper; first | (rw [if_pos (by decide +kernel)]; kernel_rfl) | (rw [if_neg (by decide +kernel)]; exact ⟨rfl, rfl⟩))
    (fun os started H enc _ => ballotKeeps_lifted os started H enc)

theorem ballotKeeps_plain (f : FuncId) (fn : Func) (hf : Tryz.pinned.checked.prog.funcNamed "suffrage/suffragelaw08.BallotKeeps" = some f) (hfn : Tryz.pinned.checked.prog.funcs[f]? = some fn) :
    true = Tryz.pinned.checked.prog.looks [] ∧ ∀ (j : Nat) t, fn.params[j]? = some t → Tryz.pinned.checked.prog.wantsStandIn t = false := by
  obtain rfl : f = 4 := Option.some.inj ((show Tryz.prog.funcNamed "suffrage/suffragelaw08.BallotKeeps" = some 4 by kernel_rfl).symm.trans hf) |>.symm
  obtain rfl : fn = Tryz.f4 := (Option.some.inj (Tryz.func4.symm.trans hfn)).symm
  refine ⟨by kernel_rfl, fun j t ht => ?_⟩
  rw [Tryz.params4] at ht
  have hm : t ∈ ([24, 34, 22, 9] : List TypeId) := by simpa using Array.mem_of_getElem? ht
  have hall : (([24, 34, 22, 9] : List TypeId).all fun u => !Tryz.prog.wantsStandIn u) = true := by kernel_rfl
  exact (show Tryz.prog.wantsStandIn t = false by simpa using List.all_eq_true.1 hall t hm)

theorem ballotKeeps_card : Rows.BallotKeepsCardSaid :=
  Claim7.holds_tied_plain_at .later [] _ _ _ _ ballotKeeps_said (fun _ h => by cases h) (by kernel_rfl) (fun _ h => by cases h) ballotKeeps_row_tie rfl ⟨rfl, rfl⟩ (by kernel_rfl) rfl ballotKeeps_plain (by kernel_rfl)
end Go.Proofs.YtnhfbabenifbkaaGreatDoor
