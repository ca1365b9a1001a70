/- Walks of the reference of layer 2: Long, Word, Same, Lines. -/
import Derived.Test.YtefkhjbgkaknmaaDoorProg
import Derived.Test.YtefkhjbgkaknmaaDoorKit
import Derived.Test.YtefkhjbgkaknmaaDoorPl2
set_option linter.unusedVariables false
namespace Go.Proofs.YtefkhjbgkaknmaaDoor
open Go.RowKit

set_option maxHeartbeats 400000 in
theorem long_walk (ao : Option Addr) (l : List (List UInt8)) (cap : Nat) (w : World) (h : CellsAt w ao (l.map sv)) (hs : ∀ s ∈ l, s.length ≤ 140737488351232) (hl : l.length ≤ 140737488351232) :
    Calls Tryd.prog 17 #[.slice ao l.length cap] w fun e w' => e = .returned (.int .i64 (longGo l 0)) ∧ w = w' := by
  obtain ⟨b, off, ha, hc⟩ := h
  go_enter Tryd.func17, Tryd.ntmps17
  go_wp2
  go_loop [3, 4] (fun n i => ∃ (k : Nat) (m : Int), k ≤ l.length ∧ i = .int .i64 k ∧ n = .int .i64 m ∧ 0 ≤ m ∧ m ≤ 140737489351300 ∧ longGo (l.drop k) m = longGo l 0) (fun _ i => l.length - (intOf i).toNat)
  case atStart => exact ⟨0, 0, Nat.zero_le _, rfl, rfl, by omega, by omega, rfl⟩
  case round =>
    obtain ⟨k, m, hk, rfl, rfl, hm0, hm1, hlong⟩ := hrel
    by_cases hlt : k < l.length
    · obtain rfl := ha (by simp; omega)
      obtain ⟨s, r, hsr⟩ : ∃ s r, l.drop k = s :: r := ⟨_, _, List.drop_eq_getElem_cons hlt⟩
      have hks : l[k]? = some s := by rw [← List.head?_drop, hsr]; rfl
      have hr : l.drop (k + 1) = r := by rw [← List.tail_drop, hsr]; rfl
      have hck := hc k (sv s) (by simp [hks])
      have hsk := hs s (List.mem_of_getElem? hks)
      have hsz : (ba s).size ≤ 140737488351232 := by rw [← bl_length, bl_ba]; exact hsk
      have HL := Lib.hid hlong
      have HD := Lib.hid hsr
      have HR := Lib.hid hr
      have HZ := Lib.hid (show (ba s).size = s.length by rw [← bl_length, bl_ba])
      clear hlong hc hs ha hsr hks hr
      by_cases hm : m < 1000000
      · go_wp2
        go_round
        case rel => exact ⟨k + 1, m + 1 + (ba s).size, by omega, by go_num, by go_num, by omega, by omega, by rw [← HL.out, HD.out, HR.out, longGo, if_pos hm, HZ.out]⟩
        case measure => simp [intOf]; omega
      · go_wp2
        go_ret
        exact ⟨ret_int (by rw [← HL.out, HD.out, longGo, if_neg (by omega)]), rfl⟩
    · have HL := Lib.hid hlong
      clear hlong hc hs ha
      go_wp2
      go_ret
      exact ⟨ret_int (by rw [← HL.out, List.drop_of_length_le (by omega), longGo]), rfl⟩

theorem wf_bad (s : ByteArray) (k : Nat) (h : k < s.size) (h1 : ¬ (33 ≤ s[k].toNat ∧ s[k].toNat ≤ 126)) (hw : wordL (bl s) = (((bl s).drop k).all okB && decide (0 < s.size))) : wordL (bl s) = false := by
  rw [hw, bl_drop_cons s k h, List.all_cons]; simp [okB]; intros; omega
theorem wf_good (s : ByteArray) (k : Nat) (h : k < s.size) (h1 : 33 ≤ s[k].toNat) (h2 : s[k].toNat ≤ 126) (hw : wordL (bl s) = (((bl s).drop k).all okB && decide (0 < s.size))) :
    wordL (bl s) = (((bl s).drop (k + 1)).all okB && decide (0 < s.size)) := by
  rw [hw, bl_drop_cons s k h, List.all_cons]; simp [okB, h1, h2]
theorem wf_end (s : ByteArray) (k : Nat) (h : ¬ k < s.size) (hw : wordL (bl s) = (((bl s).drop k).all okB && decide (0 < s.size))) : wordL (bl s) = decide (0 < s.size) := by
  rw [hw, bl_drop_end s k h]; simp
theorem wf_start (s : ByteArray) : wordL (bl s) = (((bl s).drop 0).all okB && decide (0 < s.size)) := by
  simp [wordL, bl_length]

/-- Two lists are told to be equal by their lengths and their elements in turn. -/
theorem same_step {l m : List (List UInt8)} {k : Nat} {s t : List UInt8} (hl : l[k]? = some s) (hm : m[k]? = some t) (h : s = t) : decide (l.drop k = m.drop k) = decide (l.drop (k + 1) = m.drop (k + 1)) := by
  obtain ⟨h1, e1⟩ := List.getElem?_eq_some_iff.1 hl
  obtain ⟨h2, e2⟩ := List.getElem?_eq_some_iff.1 hm
  rw [List.drop_eq_getElem_cons h1, List.drop_eq_getElem_cons h2, e1, e2, h]; simp
theorem same_no {l m : List (List UInt8)} {k : Nat} {s t : List UInt8} (hl : l[k]? = some s) (hm : m[k]? = some t) (h : s ≠ t) : decide (l.drop k = m.drop k) = false := by
  obtain ⟨h1, e1⟩ := List.getElem?_eq_some_iff.1 hl
  obtain ⟨h2, e2⟩ := List.getElem?_eq_some_iff.1 hm
  rw [List.drop_eq_getElem_cons h1, List.drop_eq_getElem_cons h2, e1, e2]; simp [h]

set_option maxHeartbeats 1000000 in
theorem rsame_walk (ao bo : Option Addr) (l m : List (List UInt8)) (cap cap' : Nat) (w : World) (ha : CellsAt w ao (l.map sv)) (hb : CellsAt w bo (m.map sv)) (hl : l.length ≤ 140737488351232) (hm : m.length ≤ 140737488351232) :
    Calls Tryd.prog 19 #[.slice ao l.length cap, .slice bo m.length cap'] w fun e w' => e = .returned (.bool (decide (l = m))) ∧ ∃ n, w' = w.drewN n := by
  obtain ⟨a, aoff, ha, hca⟩ := ha
  obtain ⟨b, boff, hb, hcb⟩ := hb
  by_cases hlen : l.length = m.length
  case neg =>
    have hne : decide (l = m) = false := by simp; intro h; exact hlen (by rw [h])
    have hz : ((l.length : Int) != (m.length : Int)) = true := by rw [bne_iff_ne]; omega
    rw [hne]
    clear hca hcb ha hb hne hlen
    go_enter Tryd.func19, Tryd.ntmps19
    go_wp2
    go_ret
    exact ⟨rfl, 0, rfl⟩
  case pos =>
  have hz : ((l.length : Int) != (m.length : Int)) = false := by simp; omega
  have HLEN := Lib.hid hlen
  clear hlen
  go_enter Tryd.func19, Tryd.ntmps19
  go_wp2
  clear hz
  go_loopw [5] (fun i wr => ∃ (k nd : Nat), k ≤ l.length ∧ i = .int .i64 k ∧ wr = w.drewN nd ∧ Hid (decide (l = m) = decide (l.drop k = m.drop k))) (fun i _ => l.length - (intOf i).toNat)
  case atStart => exact ⟨0, 0, Nat.zero_le _, rfl, rfl, Lib.hid (by simp)⟩
  case round =>
    obtain ⟨k, nd, hk, rfl, rfl, hw⟩ := hrel
    by_cases hlt : k < l.length
    · have hlt2 : k < m.length := by have := HLEN.out; omega
      obtain rfl := ha (by simp; omega)
      obtain rfl := hb (by simp; omega)
      obtain ⟨s, hks⟩ : ∃ s, l[k]? = some s := ⟨_, List.getElem?_eq_getElem hlt⟩
      obtain ⟨t, hkt⟩ : ∃ t, m[k]? = some t := ⟨_, List.getElem?_eq_getElem hlt2⟩
      have hck := hca k (sv s) (by simp [hks])
      have hct := hcb k (sv t) (by simp [hkt])
      have hi1 : (k : Int) < (l.length : Int) := by omega
      have hi2 : (k : Int) < (m.length : Int) := by omega
      have hi0 : (0 : Int) ≤ (k : Int) := by omega
      by_cases hst : s = t
      · have HW := Lib.hid (hw.out.trans (same_step hks hkt hst))
        subst hst
        clear hca hcb ha hb hks hkt hw
        go_wp2
        go_quiet (fail)
        go_wp2
        go_roundw
        case rel => exact ⟨k + 1, _, by omega, by go_num, rfl, HW⟩
        case measure => simp [intOf]; omega
      · have HW := Lib.hid (hw.out.trans (same_no hks hkt hst))
        have hne := ba_ne hst
        clear hca hcb ha hb hks hkt hw
        go_wp2
        go_quiet (fail)
        go_wp2
        go_ret
        exact ⟨ret_bool HW.out.symm, _, World.drewN_drewN _ _ _⟩
    · have hk2 : k = l.length := by omega
      have HW := Lib.hid (hw.out.trans (show decide (l.drop k = m.drop k) = true by
        rw [List.drop_of_length_le (by omega), List.drop_of_length_le (by have := HLEN.out; omega)]; rfl))
      clear hca hcb ha hb hw hk2
      go_wp2
      go_ret
      exact ⟨ret_bool HW.out.symm, _, rfl⟩
end Go.Proofs.YtefkhjbgkaknmaaDoor
