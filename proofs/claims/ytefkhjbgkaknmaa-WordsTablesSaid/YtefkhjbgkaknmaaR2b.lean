/- Walks of the reference of layer 2: Lines. -/
import Derived.Test.YtefkhjbgkaknmaaR2a
import Derived.Maps.AppendAt
set_option linter.unusedVariables false
namespace Go.Proofs.Ytefkhjbgkaknmaa
open Go.RowKit

theorem feeds_yes (s : ByteArray) (k : Nat) (h : k < s.size) (hb : s[k].toNat = 10) : feedsL ((bl s).take (k + 1)) = feedsL ((bl s).take k) + 1 := by
  obtain ⟨c, hc⟩ : ∃ c, c = s[k] := ⟨_, rfl⟩
  unfold feedsL
  rw [List.take_add_one, bl_get s k h, List.filter_append, ← hc]
  rw [← hc] at hb
  simp [hb]
theorem feeds_no (s : ByteArray) (k : Nat) (h : k < s.size) (hb : s[k].toNat ≠ 10) : feedsL ((bl s).take (k + 1)) = feedsL ((bl s).take k) := by
  obtain ⟨c, hc⟩ : ∃ c, c = s[k] := ⟨_, rfl⟩
  unfold feedsL
  rw [List.take_add_one, bl_get s k h, List.filter_append, ← hc]
  rw [← hc] at hb
  simp [hb]
theorem feeds_le (l : List UInt8) : feedsL l ≤ l.length := List.length_filter_le _ _
theorem last_get (s : ByteArray) (h : 0 < s.size) : (bl s).getLast?.map UInt8.toNat = some (s[s.size - 1]'(by omega)).toNat := by
  have hl : (bl s).length = s.size := bl_length s
  rw [List.getLast?_eq_getElem?, hl, bl_get s (s.size - 1) (by omega)]; rfl
theorem byte_t {s : ByteArray} {k : Nat} (n : Nat) {m : Int} (hm : m = (n : Int)) (h : k < s.size) (hb : s[k].toNat = n) : (((s[k].toNat : Nat) : Int) == m) = true := by subst hm; simp; omega
theorem byte_f {s : ByteArray} {k : Nat} (n : Nat) {m : Int} (hm : m = (n : Int)) (h : k < s.size) (hb : s[k].toNat ≠ n) : (((s[k].toNat : Nat) : Int) == m) = false := by subst hm; simp; omega
theorem byte_nt {s : ByteArray} {k : Nat} (n : Nat) {m : Int} (hm : m = (n : Int)) (h : k < s.size) (hb : s[k].toNat ≠ n) : (((s[k].toNat : Nat) : Int) != m) = true := by subst hm; simp; omega
theorem byte_nf {s : ByteArray} {k : Nat} (n : Nat) {m : Int} (hm : m = (n : Int)) (h : k < s.size) (hb : s[k].toNat = n) : (((s[k].toNat : Nat) : Int) != m) = false := by subst hm; simp; omega
/-- One more byte of the open line. -/
theorem ln_no (s : ByteArray) (f k : Nat) (hk : k < s.size) (hf : f ≤ k) (hb : s[k].toNat ≠ 10) (acc : List (List UInt8)) (h : lnGo (bl s) [] = acc ++ lnGo ((bl s).drop k) (bl (s.extract f k))) :
    lnGo (bl s) [] = acc ++ lnGo ((bl s).drop (k + 1)) (bl (s.extract f (k + 1))) := by
  rw [h, bl_drop_cons s k hk, lnGo, if_neg hb]
  congr 2
  rw [bl_extract, bl_extract, show k + 1 - f = k - f + 1 by omega, List.take_add_one, List.getElem?_drop, show f + (k - f) = k by omega, bl_get s k hk]; rfl
theorem ln_yes (s : ByteArray) (f k : Nat) (hk : k < s.size) (hb : s[k].toNat = 10) (acc : List (List UInt8)) (h : lnGo (bl s) [] = acc ++ lnGo ((bl s).drop k) (bl (s.extract f k))) :
    lnGo (bl s) [] = (acc ++ [bl (s.extract f k)]) ++ lnGo ((bl s).drop (k + 1)) (bl (s.extract (k + 1) (k + 1))) := by
  rw [h, bl_drop_cons s k hk, lnGo, if_pos hb]
  rw [bl_extract s (k + 1) (k + 1)]; simp
theorem ln_start (s : ByteArray) : lnGo (bl s) [] = [] ++ lnGo ((bl s).drop 0) (bl (s.extract 0 0)) := by
  rw [bl_extract]; simp
theorem ln_end (s : ByteArray) (f k : Nat) (hk : ¬ k < s.size) (acc : List (List UInt8)) (h : lnGo (bl s) [] = acc ++ lnGo ((bl s).drop k) (bl (s.extract f k))) : lnGo (bl s) [] = acc := by
  rw [h, bl_drop_end s k hk, lnGo, List.append_nil]
theorem ln_len : ∀ (l cur : List UInt8), (lnGo l cur).length = feedsL l
  | [], cur => rfl
  | c :: r, cur => by
    rw [lnGo]
    by_cases h : c.toNat = 10
    · rw [if_pos h]; simp [feedsL, h]; have := ln_len r []; simp [feedsL] at this; exact this
    · rw [if_neg h, ln_len r _]; simp [feedsL, h]

theorem infoStr : (Try.prog.info? 9).map (fun i => (i.zero, i.size, i.bytes)) = some (some (.string ⟨#[]⟩), 1, 16) := by kernel_rfl

/-- A list of texts that the call owns. -/
abbrev OwnStrs (w : World) (base : Nat) (v : Value) (l : List (List UInt8)) : Prop := w.ownsRow base 9 1 v l.length (l.map sv)

theorem own_snoc {w : World} {base : Nat} {v : Value} {l : List (List UInt8)} {x : ByteArray} (h : w.ownsRow base 9 1 v (l.length + 1) (l.map sv ++ [.string x])) : OwnStrs w base v (l ++ [bl x]) := by
  show w.ownsRow base 9 1 v (l ++ [bl x]).length ((l ++ [bl x]).map sv)
  rw [List.map_append, List.length_append]
  simpa [sv, ba_bl] using h

theorem own_len {n : Nat} {l m r : List (List UInt8)} (h : l = m ++ r) (hl : l.length ≤ n) : m.length ≤ n := by rw [h, List.length_append] at hl; omega
theorem below_append {w wr w1 : World} {e : TypeId} {size n : Nat} {v : Value} {xs : List Value} {o : Obj} (ho : wr.ownsRow w.heap.size e size v n xs) (hb : Below w.heap.size w wr) (hg : (wr.alloc o).grownBy w1 v.ownBlock) : Below w.heap.size w w1 :=
  (hb.alloc hb.size o).grown hg (by have := hb.size; simp; omega) fun k hk => (ho.lt k hk).1
def LinesRes (base : Nat) (s : List UInt8) (w : World) (e : Ending) (w' : World) : Prop :=
  ∃ v, e = .returned (.tuple #[v, .int .i64 (linesL s).2]) ∧ OwnStrs w' base v (linesL s).1 ∧ Below base w w'

theorem lines_many' (s : ByteArray) (w w' : World) (h : 16384 < s.size ∨ 512 < feedsL (bl s)) (hb : Below w.heap.size w w') : LinesRes w.heap.size (bl s) w (.returned (.tuple #[.slice none 0 0, .int .i64 4])) w' := by
  have e : linesL (bl s) = ([], 4) := by unfold linesL; rw [if_pos (by rw [bl_length]; exact h)]
  exact ⟨_, by rw [e], by rw [e]; exact World.ownsRow_nil _ _ _ _, hb⟩
theorem lines_many (s : ByteArray) (w : World) (h : 16384 < s.size ∨ 512 < feedsL (bl s)) : LinesRes w.heap.size (bl s) w (.returned (.tuple #[.slice none 0 0, .int .i64 4])) w := by
  have e : linesL (bl s) = ([], 4) := by unfold linesL; rw [if_pos (by rw [bl_length]; exact h)]
  exact ⟨_, by rw [e], by rw [e]; exact World.ownsRow_nil _ _ _ _, Below.refl _ _⟩
theorem lines_form (s : ByteArray) (w : World) (h0 : ¬ 16384 < s.size) (h1 : ¬ 512 < feedsL (bl s)) (h2 : 0 < s.size) (h3 : (s[s.size - 1]'(by omega)).toNat ≠ 10) : LinesRes w.heap.size (bl s) w (.returned (.tuple #[.slice none 0 0, .int .i64 11])) w := by
  have e : linesL (bl s) = ([], 11) := by
    unfold linesL
    rw [bl_length, if_neg (by omega), if_pos ⟨h2, by rw [last_get s h2]; simp; exact h3⟩]
  exact ⟨_, by rw [e], by rw [e]; exact World.ownsRow_nil _ _ _ _, Below.refl _ _⟩
theorem lines_ok (s : ByteArray) (w w' : World) (v : Value) (h0 : ¬ 16384 < s.size) (h1 : ¬ 512 < feedsL (bl s)) (h3 : ∀ h : 0 < s.size, (s[s.size - 1]'(by omega)).toNat = 10) (ho : OwnStrs w' w.heap.size v (lnGo (bl s) [])) (hb : Below w.heap.size w w') : LinesRes w.heap.size (bl s) w (.returned (.tuple #[v, .int .i64 0])) w' := by
  have e : linesL (bl s) = (lnGo (bl s) [], 0) := by
    unfold linesL
    rw [bl_length, if_neg (by omega), if_neg]
    rintro ⟨a, b⟩
    exact b (by rw [last_get s a, h3 a])
  exact ⟨_, by rw [e], by rw [e]; exact ho, hb⟩

set_option maxHeartbeats 1000000 in
/-- The second loop of Lines and what stands behind it. -/
theorem rlines_walk (s : ByteArray) (w : World) (hs : s.size ≤ 140737488351232) :
    Calls Try.prog 12 #[.string s] w (LinesRes w.heap.size (bl s) w) := by
  obtain ⟨i0, hi, hz0, hz1, hz2⟩ := info_parts infoStr
  go_enter Try.func12, Try.ntmps12
  go_wp2
  go_loop [4, 5] (fun n i => ∃ (k : Nat), k ≤ s.size ∧ i = .int .i64 k ∧ n = .int .i64 (feedsL ((bl s).take k))) (fun _ i => s.size - (intOf i).toNat)
  case atStart => exact ⟨0, Nat.zero_le _, rfl, rfl⟩
  case round =>
    obtain ⟨k, hk, rfl, rfl⟩ := hrel
    by_cases hlt : k < s.size
    · have hfl := feeds_le ((bl s).take k)
      rw [List.length_take] at hfl
      by_cases hb : s[k].toNat = 10
      · have HF := Lib.hid (feeds_yes s k hlt hb)
        have hbb := byte_t (m := 10) 10 rfl hlt hb
        clear hb
        go_wp2
        go_round
        case rel => exact ⟨k + 1, by omega, by go_num, by rw [HF.out]; go_num⟩
        case measure => simp [intOf]; omega
      · have HF := Lib.hid (feeds_no s k hlt hb)
        have hbb := byte_f (m := 10) 10 rfl hlt hb
        clear hb
        go_wp2
        go_round
        case rel => exact ⟨k + 1, by omega, by go_num, by rw [HF.out]⟩
        case measure => simp [intOf]; omega
    · have HT : Hid ((bl s).take k = bl s) := Lib.hid (List.take_of_length_le (by rw [bl_length]; omega))
      rw [HT.out]
      by_cases hm : 16384 < s.size
      · have HR := lines_many s w (.inl hm)
        go_wp2
        go_ret2
        exact HR
      by_cases hf : 512 < feedsL (bl s)
      · have HR := lines_many s w (.inr hf)
        go_wp2
        go_ret2
        exact HR
      by_cases hx : ∃ h : 0 < s.size, (s[s.size - 1]'(by omega)).toNat ≠ 10
      · obtain ⟨hp, hb⟩ := hx
        have HR := lines_form s w hm hf hp hb
        have hbb := byte_nt (m := 10) (k := s.size - 1) 10 rfl (by omega) hb
        clear hb
        go_wp2
        go_ret2
        exact HR
      have h3 : ∀ h : 0 < s.size, (s[s.size - 1]'(by omega)).toNat = 10 := fun h => Decidable.byContradiction fun hc => hx ⟨h, hc⟩
      have HF : Hid (∀ w' v, OwnStrs w' w.heap.size v (lnGo (bl s) []) → Below w.heap.size w w' → LinesRes w.heap.size (bl s) w (.returned (.tuple #[v, .int .i64 0])) w') :=
        Lib.hid fun w' v ho hb => lines_ok s w w' v hm hf h3 ho hb
      have HL : Hid ((lnGo (bl s) []).length = feedsL (bl s)) := Lib.hid (ln_len _ _)
      clear hx
      by_cases hp : 0 < s.size
      case neg =>
        have HE := Lib.hid (ln_end s 0 0 hp [] (ln_start s))
        clear h3
        go_wp2
        refine wp_loop_rounds 1 ?_
        rw [rounds_succ]
        go_wp2
        go_ret2
        exact HF.out _ _ (by rw [HE.out]; exact World.ownsRow_nil _ _ _ _) (Below.refl _ _)
      case pos =>
        have hbb := byte_nf (m := 10) (k := s.size - 1) 10 rfl (by omega) (h3 hp)
        clear h3
        go_wp2
        go_loopw [6, 7, 8] (fun v f i wr => ∃ (k f0 : Nat) (acc : List (List UInt8)), k ≤ s.size ∧ f0 ≤ k ∧ i = .int .i64 k ∧ f = .int .i64 f0 ∧ OwnStrs wr w.heap.size v acc ∧ Below w.heap.size w wr ∧ Hid (lnGo (bl s) [] = acc ++ lnGo ((bl s).drop k) (bl (s.extract f0 k)))) (fun _ _ i _ => s.size - (intOf i).toNat)
        case atStart => exact ⟨0, 0, [], Nat.zero_le _, Nat.le_refl _, rfl, rfl, World.ownsRow_nil _ _ _ _, Below.refl _ _, ln_start s⟩
        case round =>
          obtain ⟨j, f0, acc, hj, hfj, rfl, rfl, hown, hbel, hln⟩ := hrel
          by_cases hlt2 : j < s.size
          · by_cases hb : s[j].toNat = 10
            · have HN := Lib.hid (ln_yes s f0 j hlt2 hb acc hln.out)
              have hlen := own_len (n := 512) hln.out (by rw [HL.out]; omega)
              have hbb := byte_t (m := 10) 10 rfl hlt2 hb
              clear hb
              go_wp2_with (at_builtin; go_must (refine wpList_append_own _ rfl _ _ 24 rfl w.heap.size 9 i0 (.string ⟨#[]⟩) 1 16 Try.underlying24 hi hz0 hz1 hz2 rfl (by decide) _ _ _ rfl (hown.alloc _) ⟨wr.heap.size, 0, none⟩ 1 1 [.string (s.extract f0 j)] rfl rfl (cell_one_new _ _ _) (by simp [Value.oneCell']) (by unfold maxLen; omega) (by omega) (by have := hbel.size; simp; omega) ?_); intro v' w1 hown' hgrow _)
              have hb1 := below_append hown hbel hgrow
              have ho1 := own_snoc hown'
              clear hown hown' hgrow hbel
              go_wp2
              go_roundw
              case rel => exact ⟨j + 1, j + 1, _, by omega, by omega, by go_num, by go_num, ho1, hb1, HN⟩
              case measure => simp [intOf]; omega
            · have HN := Lib.hid (ln_no s f0 j hlt2 hfj hb acc hln.out)
              have hbb := byte_f (m := 10) 10 rfl hlt2 hb
              clear hb
              go_wp2
              go_roundw
              case rel => exact ⟨j + 1, f0, acc, by omega, by omega, by go_num, rfl, hown, hbel, HN⟩
              case measure => simp [intOf]; omega
          · have HE := Lib.hid (ln_end s f0 j hlt2 acc hln.out)
            go_wp2
            go_ret2
            exact HF.out _ _ (by rw [HE.out]; exact hown) hbel
end Go.Proofs.Ytefkhjbgkaknmaa
