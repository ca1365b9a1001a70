/- Walks of the reference of layer 2: Lines. -/
import Derived.Test.YtefkhjbgkaknmaaDoorR2a
import Derived.Maps.AppendAt
set_option linter.unusedVariables false
namespace Go.Proofs.YtefkhjbgkaknmaaDoor
open Go.RowKit

theorem feeds_yes (s : ByteArray) (k : Nat) (h : k < s.size) (hb : s[k].toNat = 10) : feedsL ((bl s).take (k + 1)) = feedsL ((bl s).take k) + 1 := by
  obtain ⟨c, hc⟩ : ∃ c, c = s[k] := ⟨_, rfl⟩
  unfold feedsL
  rw [List.take_add_one, bl_get s k h, List.filter_append, ← hc]
  rw [← hc] at hb
  simp [hb]
theorem feeds_no (s : ByteArray) (k : Nat) (h : k < s.size) (hb : s[k].toNat ≠ 10) : feedsL ((bl s).take (k + 1)) = feedsL ((bl s).take k) := by
  obtain ⟨c, hc⟩ : ∃ c, c = s[k] := ⟨_, rfl⟩
  unfold feedsL
  rw [List.take_add_one, bl_get s k h, List.filter_append, ← hc]
  rw [← hc] at hb
  simp [hb]
theorem feeds_le (l : List UInt8) : feedsL l ≤ l.length := List.length_filter_le _ _
theorem last_get (s : ByteArray) (h : 0 < s.size) : (bl s).getLast?.map UInt8.toNat = some (s[s.size - 1]'(by omega)).toNat := by
  have hl : (bl s).length = s.size := bl_length s
  rw [List.getLast?_eq_getElem?, hl, bl_get s (s.size - 1) (by omega)]; rfl
theorem byte_t {s : ByteArray} {k : Nat} (n : Nat) {m : Int} (hm : m = (n : Int)) (h : k < s.size) (hb : s[k].toNat = n) : (((s[k].toNat : Nat) : Int) == m) = true := by subst hm; simp; omega
theorem byte_f {s : ByteArray} {k : Nat} (n : Nat) {m : Int} (hm : m = (n : Int)) (h : k < s.size) (hb : s[k].toNat ≠ n) : (((s[k].toNat : Nat) : Int) == m) = false := by subst hm; simp; omega
theorem byte_nt {s : ByteArray} {k : Nat} (n : Nat) {m : Int} (hm : m = (n : Int)) (h : k < s.size) (hb : s[k].toNat ≠ n) : (((s[k].toNat : Nat) : Int) != m) = true := by subst hm; simp; omega
theorem byte_nf {s : ByteArray} {k : Nat} (n : Nat) {m : Int} (hm : m = (n : Int)) (h : k < s.size) (hb : s[k].toNat = n) : (((s[k].toNat : Nat) : Int) != m) = false := by subst hm; simp; omega
/-- One more byte of the open line. -/
theorem ln_no (s : ByteArray) (f k : Nat) (hk : k < s.size) (hf : f ≤ k) (hb : s[k].toNat ≠ 10) (acc : List (List UInt8)) (h : lnGo (bl s) [] = acc ++ lnGo ((bl s).drop k) (bl (s.extract f k))) :
    lnGo (bl s) [] = acc ++ lnGo ((bl s).drop (k + 1)) (bl (s.extract f (k + 1))) := by
  rw [h, bl_drop_cons s k hk, lnGo, if_neg hb]
  congr 2
  rw [bl_extract, bl_extract, show k + 1 - f = k - f + 1 by omega, List.take_add_one, List.getElem?_drop, show f + (k - f) = k by omega, bl_get s k hk]; rfl
theorem ln_yes (s : ByteArray) (f k : Nat) (hk : k < s.size) (hb : s[k].toNat = 10) (acc : List (List UInt8)) (h : lnGo (bl s) [] = acc ++ lnGo ((bl s).drop k) (bl (s.extract f k))) :
    lnGo (bl s) [] = (acc ++ [bl (s.extract f k)]) ++ lnGo ((bl s).drop (k + 1)) (bl (s.extract (k + 1) (k + 1))) := by
  rw [h, bl_drop_cons s k hk, lnGo, if_pos hb]
  rw [bl_extract s (k + 1) (k + 1)]; simp
theorem ln_start (s : ByteArray) : lnGo (bl s) [] = [] ++ lnGo ((bl s).drop 0) (bl (s.extract 0 0)) := by
  rw [bl_extract]; simp
theorem ln_end (s : ByteArray) (f k : Nat) (hk : ¬ k < s.size) (acc : List (List UInt8)) (h : lnGo (bl s) [] = acc ++ lnGo ((bl s).drop k) (bl (s.extract f k))) : lnGo (bl s) [] = acc := by
  rw [h, bl_drop_end s k hk, lnGo, List.append_nil]
theorem ln_len : ∀ (l cur : List UInt8), (lnGo l cur).length = feedsL l
  | [], cur => rfl
  | c :: r, cur => by
    rw [lnGo]
    by_cases h : c.toNat = 10
    · rw [if_pos h]; simp [feedsL, h]; have := ln_len r []; simp [feedsL] at this; exact this
    · rw [if_neg h, ln_len r _]; simp [feedsL, h]

theorem infoStr : (Tryd.prog.info? 9).map (fun i => (i.zero, i.size, i.bytes)) = some (some (.string ⟨#[]⟩), 1, 16) := by kernel_rfl

/-- A list of texts that the call owns. -/
abbrev OwnStrs (w : World) (base : Nat) (v : Value) (l : List (List UInt8)) : Prop := w.ownsRow base 9 1 v l.length (l.map sv)

theorem own_snoc {w : World} {base : Nat} {v : Value} {l : List (List UInt8)} {x : ByteArray} (h : w.ownsRow base 9 1 v (l.length + 1) (l.map sv ++ [.string x])) : OwnStrs w base v (l ++ [bl x]) := by
  show w.ownsRow base 9 1 v (l ++ [bl x]).length ((l ++ [bl x]).map sv)
  rw [List.map_append, List.length_append]
  simpa [sv, ba_bl] using h

theorem own_len {n : Nat} {l m r : List (List UInt8)} (h : l = m ++ r) (hl : l.length ≤ n) : m.length ≤ n := by rw [h, List.length_append] at hl; omega
theorem below_append {w wr w1 : World} {e : TypeId} {size n : Nat} {v : Value} {xs : List Value} {o : Obj} (ho : wr.ownsRow w.heap.size e size v n xs) (hb : Below w.heap.size w wr) (hg : (wr.alloc o).grownBy w1 v.ownBlock) : Below w.heap.size w w1 :=
  (hb.alloc hb.size o).grown hg (by have := hb.size; simp; omega) fun k hk => (ho.lt k hk).1
def LinesRes (base : Nat) (s : List UInt8) (w : World) (e : Ending) (w' : World) : Prop :=
  ∃ v, e = .returned (.tuple #[v, .int .i64 (linesL s).2]) ∧ OwnStrs w' base v (linesL s).1 ∧ Below base w w'

theorem lines_many' (s : ByteArray) (w w' : World) (h : 16384 < s.size ∨ 512 < feedsL (bl s)) (hb : Below w.heap.size w w') : LinesRes w.heap.size (bl s) w (.returned (.tuple #[.slice none 0 0, .int .i64 4])) w' := by
  have e : linesL (bl s) = ([], 4) := by unfold linesL; rw [if_pos (by rw [bl_length]; exact h)]
  exact ⟨_, by rw [e], by rw [e]; exact World.ownsRow_nil _ _ _ _, hb⟩
theorem lines_many (s : ByteArray) (w : World) (h : 16384 < s.size ∨ 512 < feedsL (bl s)) : LinesRes w.heap.size (bl s) w (.returned (.tuple #[.slice none 0 0, .int .i64 4])) w := by
  have e : linesL (bl s) = ([], 4) := by unfold linesL; rw [if_pos (by rw [bl_length]; exact h)]
  exact ⟨_, by rw [e], by rw [e]; exact World.ownsRow_nil _ _ _ _, Below.refl _ _⟩
theorem lines_form (s : ByteArray) (w : World) (h0 : ¬ 16384 < s.size) (h1 : ¬ 512 < feedsL (bl s)) (h2 : 0 < s.size) (h3 : (s[s.size - 1]'(by omega)).toNat ≠ 10) : LinesRes w.heap.size (bl s) w (.returned (.tuple #[.slice none 0 0, .int .i64 11])) w := by
  have e : linesL (bl s) = ([], 11) := by
    unfold linesL
    rw [bl_length, if_neg (by omega), if_pos ⟨h2, by rw [last_get s h2]; simp; exact h3⟩]
  exact ⟨_, by rw [e], by rw [e]; exact World.ownsRow_nil _ _ _ _, Below.refl _ _⟩
theorem lines_ok (s : ByteArray) (w w' : World) (v : Value) (h0 : ¬ 16384 < s.size) (h1 : ¬ 512 < feedsL (bl s)) (h3 : ∀ h : 0 < s.size, (s[s.size - 1]'(by omega)).toNat = 10) (ho : OwnStrs w' w.heap.size v (lnGo (bl s) [])) (hb : Below w.heap.size w w') : LinesRes w.heap.size (bl s) w (.returned (.tuple #[v, .int .i64 0])) w' := by
  have e : linesL (bl s) = (lnGo (bl s) [], 0) := by
    unfold linesL
    rw [bl_length, if_neg (by omega), if_neg]
    rintro ⟨a, b⟩
    exact b (by rw [last_get s a, h3 a])
  exact ⟨_, by rw [e], by rw [e]; exact ho, hb⟩

end Go.Proofs.YtefkhjbgkaknmaaDoor
