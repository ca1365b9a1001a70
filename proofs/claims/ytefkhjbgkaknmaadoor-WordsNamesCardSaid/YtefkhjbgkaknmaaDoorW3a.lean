/- Walks of the package words on tables: is there a text that is no word? -/
import Derived.Test.YtefkhjbgkaknmaaDoorR3b
import Derived.Test.YtefkhjbgkaknmaaDoorW2b
set_option linter.unusedVariables false
namespace Go.Proofs.YtefkhjbgkaknmaaDoor
open Go.RowKit

theorem odd_walk (s : ByteArray) (w : World) (hs : s.size ≤ 140737488351232) :
    Calls Tryd.prog 31 #[.string s] w fun e w' => e = .returned (.bool (!wordL (bl s))) ∧ w = w' := by
  go_enter Tryd.func31, Tryd.ntmps31
  go_wp2_with (go_at_call 32; refine (is_walk _ _ hs).mono ?_; rintro e w' ⟨rfl, rfl⟩)
  go_ret
  exact ⟨rfl, rfl⟩
theorem odd_b (s : ByteArray) (w : World) (hs : s.size ≤ 140737488351232) (b : Bool) (h : (!wordL (bl s)) = b) :
    Calls Tryd.prog 31 #[.string s] w fun e w' => e = .returned (.bool b) ∧ w = w' := by rw [← h]; exact odd_walk s w hs

set_option maxHeartbeats 1000000 in
theorem sidx_walk (ao : Option Addr) (l : List (List UInt8)) (cap : Nat) (w : World) (h : CellsAt w ao (l.map sv)) (hs : ∀ s ∈ l, s.length ≤ 140737488351232) (hl : l.length ≤ 140737488351232) :
    Calls Tryd.prog 56 #[.slice ao l.length cap, .func (.func 31) #[] #[]] w fun e w' => (∃ m : Int, e = .returned (.int .i64 m) ∧ decide (0 ≤ m) = oddRow l) ∧ w = w' := by
  obtain ⟨b, off, ha, hc⟩ := h
  go_enter Tryd.func56, Tryd.ntmps56
  go_wp2
  go_loop [8] (fun i => ∃ (k : Nat), k ≤ l.length ∧ i = .int .i64 k ∧ Hid (oddRow l = oddRow (l.drop k))) (fun i => l.length - (intOf i).toNat)
  case atStart => exact ⟨0, Nat.zero_le _, rfl, Lib.hid rfl⟩
  case round =>
    obtain ⟨k, hk, rfl, hro⟩ := hrel
    by_cases hlt : k < l.length
    · obtain rfl := ha (by simp; omega)
      obtain ⟨s, r', hd2, hg2, hr2, hmem2⟩ := drop_parts l k hlt
      have hcs := hc k (sv s) (by simp [hg2])
      have hsz : (ba s).size ≤ 140737488351232 := by rw [ba_size]; exact hs s hmem2
      by_cases hw : wordL s = true
      · have HA := Lib.hid (show oddRow l = oddRow (l.drop (k + 1)) by
          rw [hro.out, hd2, hr2]; show (!wordL s || oddRow r') = _; rw [hw]; rfl)
        have HW := Lib.hid (show (!wordL (bl (ba s))) = false by rw [bl_ba, hw]; rfl)
        clear hc hs hd2 hg2 hr2 hmem2 hw hro ha
        go_wp2_with (go_at_call 31; refine (odd_b _ _ hsz _ HW.out).mono ?_; rintro e w' ⟨rfl, rfl⟩)
        go_round
        case rel => exact ⟨k + 1, by omega, by go_num, HA⟩
        case measure => simp [intOf]; omega
      · have hw' : wordL s = false := by simpa using hw
        have HR := Lib.hid (show oddRow l = true by rw [hro.out, hd2]; show (!wordL s || oddRow r') = _; rw [hw']; rfl)
        have HW := Lib.hid (show (!wordL (bl (ba s))) = true by rw [bl_ba, hw']; rfl)
        clear hc hs hd2 hg2 hr2 hmem2 hw hw' hro ha
        go_wp2_with (go_at_call 31; refine (odd_b _ _ hsz _ HW.out).mono ?_; rintro e w' ⟨rfl, rfl⟩)
        go_ret
        exact ⟨⟨_, rfl, by rw [HR.out]; exact decide_eq_true (by omega)⟩, rfl⟩
    · have HA := Lib.hid (show oddRow l = false by rw [hro.out, List.drop_of_length_le (by omega)]; rfl)
      clear hc hs ha hro
      go_wp2
      go_ret
      exact ⟨⟨_, rfl, by rw [HA.out]; rfl⟩, rfl⟩

theorem scont_walk (ao : Option Addr) (l : List (List UInt8)) (cap : Nat) (w : World) (h : CellsAt w ao (l.map sv)) (hs : ∀ s ∈ l, s.length ≤ 140737488351232) (hl : l.length ≤ 140737488351232) :
    Calls Tryd.prog 35 #[.slice ao l.length cap, .func (.func 31) #[] #[]] w fun e w' => e = .returned (.bool (oddRow l)) ∧ w = w' := by
  go_enter Tryd.func35, Tryd.ntmps35
  go_wp2_with (go_at_call 56; refine (sidx_walk _ _ _ _ h hs hl).mono ?_; rintro e w' ⟨⟨m, rfl, hm⟩, rfl⟩)
  go_ret
  exact ⟨rfl, rfl⟩

theorem oddrow_walk (o : Nat) (ao : Option Addr) (l : List (List UInt8)) (cap : Nat) (w : World) (ho : w.cell? ⟨o, 0, none⟩ = some (.func (.func 31) #[] #[])) (h : CellsAt w ao (l.map sv)) (hs : ∀ s ∈ l, s.length ≤ 140737488351232) (hl : l.length ≤ 140737488351232) (b : Bool) (hb : oddRow l = b) :
    Calls Tryd.prog 34 #[.slice ao l.length cap, .pointer (some ⟨o, 0, none⟩)] w fun e w' => e = .returned (.bool b) ∧ w = w' := by
  subst hb
  go_enter Tryd.func34, Tryd.ntmps34
  go_wp2_with (go_at_call 35; refine (scont_walk _ _ _ _ h hs hl).mono ?_; rintro e w' ⟨rfl, rfl⟩)
  go_ret
  exact ⟨rfl, rfl⟩

set_option maxHeartbeats 1000000 in
theorem ridx_walk (o : Nat) (ao : Option Addr) (rows : List (List (List UInt8))) (cap : Nat) (w : World) (ho : w.cell? ⟨o, 0, none⟩ = some (.func (.func 31) #[] #[])) (h : RowsAt w ao rows) (hs : Small rows) :
    Calls Tryd.prog 55 #[.slice ao rows.length cap, .func (.func 34) #[] #[.pointer (some ⟨o, 0, none⟩)]] w fun e w' => (∃ m : Int, e = .returned (.int .i64 m) ∧ decide (0 ≤ m) = rows.any oddRow) ∧ w = w' := by
  obtain ⟨b, off, ha, hc⟩ := h
  obtain ⟨hl, hs⟩ := hs
  go_enter Tryd.func55, Tryd.ntmps55
  go_wp2
  go_loop [8] (fun i => ∃ (k : Nat), k ≤ rows.length ∧ i = .int .i64 k ∧ Hid (rows.any oddRow = (rows.drop k).any oddRow)) (fun i => rows.length - (intOf i).toNat)
  case atStart => exact ⟨0, Nat.zero_le _, rfl, Lib.hid rfl⟩
  case round =>
    obtain ⟨k, hk, rfl, hro⟩ := hrel
    by_cases hlt : k < rows.length
    · obtain rfl := ha (by omega)
      obtain ⟨r, hg, hd, hmem⟩ := drop_row hlt
      obtain ⟨hrl, hrs⟩ := hs r hmem
      obtain ⟨bo, rcap, hck, hcr, _, _⟩ := hc k r hg
      by_cases hw : oddRow r = true
      · have HR := Lib.hid (show rows.any oddRow = true by rw [hro.out, hd, List.any_cons, hw, Bool.true_or])
        have HW := Lib.hid hw
        have HS := Lib.hid hrs
        clear hc hs hd hg hmem hw hro ha hrs
        go_wp2_with (go_at_call 34; refine (oddrow_walk _ _ _ _ _ ho hcr HS.out hrl _ HW.out).mono ?_; rintro e w' ⟨rfl, rfl⟩)
        go_ret
        exact ⟨⟨_, rfl, by rw [HR.out]; exact decide_eq_true (by omega)⟩, rfl⟩
      · have hw' : oddRow r = false := by simpa using hw
        have HA := Lib.hid (show rows.any oddRow = (rows.drop (k + 1)).any oddRow by rw [hro.out, hd, List.any_cons, hw', Bool.false_or])
        have HW := Lib.hid hw'
        have HS := Lib.hid hrs
        clear hc hs hd hg hmem hw hw' hro ha hrs
        go_wp2_with (go_at_call 34; refine (oddrow_walk _ _ _ _ _ ho hcr HS.out hrl _ HW.out).mono ?_; rintro e w' ⟨rfl, rfl⟩)
        go_round
        case rel => exact ⟨k + 1, by omega, by go_num, HA⟩
        case measure => simp [intOf]; omega
    · have HA := Lib.hid (show rows.any oddRow = false by rw [hro.out, List.drop_of_length_le (by omega)]; rfl)
      clear hc hs ha hro
      go_wp2
      go_ret
      exact ⟨⟨_, rfl, by rw [HA.out]; rfl⟩, rfl⟩

theorem rcont_walk (o : Nat) (ao : Option Addr) (rows : List (List (List UInt8))) (cap : Nat) (w : World) (ho : w.cell? ⟨o, 0, none⟩ = some (.func (.func 31) #[] #[])) (h : RowsAt w ao rows) (hs : Small rows) (b : Bool) (hb : rows.any oddRow = b) :
    Calls Tryd.prog 33 #[.slice ao rows.length cap, .func (.func 34) #[] #[.pointer (some ⟨o, 0, none⟩)]] w fun e w' => e = .returned (.bool b) ∧ w = w' := by
  subst hb
  go_enter Tryd.func33, Tryd.ntmps33
  go_wp2_with (go_at_call 55; refine (ridx_walk o _ _ _ _ ho h hs).mono ?_; rintro e w' ⟨⟨m, rfl, hm⟩, rfl⟩)
  go_ret
  exact ⟨rfl, rfl⟩
end Go.Proofs.YtefkhjbgkaknmaaDoor
