/- Walks of the reference of layer 2 on tables: wide, Great. -/
import Derived.Test.YtefkhjbgkaknmaaR2e
import Derived.Test.YtefkhjbgkaknmaaPl3
set_option linter.unusedVariables false
namespace Go.Proofs.Ytefkhjbgkaknmaa
open Go.RowKit

/-- A list of lists of strings lies in w behind the address ao. -/
def RowsAt (w : World) (ao : Option Addr) (rows : List (List (List UInt8))) : Prop :=
  ∃ b off, (0 < rows.length → ao = some ⟨b, off, none⟩) ∧ ∀ i l, rows[i]? = some l → ∃ bo cap, w.cell? ⟨b, off + i, none⟩ = some (.slice bo l.length cap) ∧ CellsAt w bo (l.map sv) ∧ l.length ≤ cap ∧ (bo = none → cap = 0)
/-- All sizes are small. -/
def Small (rows : List (List (List UInt8))) : Prop := rows.length ≤ 140737488351232 ∧ ∀ r ∈ rows, r.length ≤ 140737488351232 ∧ ∀ s ∈ r, s.length ≤ 140737488351232
theorem RowsAt.below {w w' : World} {ao : Option Addr} {rows : List (List (List UInt8))} (h : RowsAt w ao rows) (hb : Below w.heap.size w w') : RowsAt w' ao rows := by
  obtain ⟨b, off, ha, hc⟩ := h
  refine ⟨b, off, ha, fun i l hl => ?_⟩
  obtain ⟨bo, cap, h1, h2, h3, h4⟩ := hc i l hl
  exact ⟨bo, cap, cell_below hb h1, h2.below hb, h3, h4⟩

theorem long_ge : ∀ (l : List (List UInt8)) (n : Int), n ≤ longGo l n
  | [], n => by simp [longGo]
  | s :: r, n => by
    rw [longGo]
    by_cases h : n < 1000000
    · rw [if_pos h]; have := long_ge r (n + 1 + s.length); omega
    · rw [if_neg h]; omega

theorem wide_hit {rows : List (List (List UInt8))} {i k m W : Nat} {r : List (List UInt8)} {s : List UInt8} (h : rows[i]? = some r) (hs : r[k]? = some s) (hW : W = max m (wideL (rows.drop i) k)) : W = max (max m s.length) (wideL (rows.drop (i + 1)) k) := by
  rw [hW, wide_step h, hs]
  show max m (max s.length _) = _
  omega
theorem wide_miss {rows : List (List (List UInt8))} {i k m W : Nat} {r : List (List UInt8)} (h : rows[i]? = some r) (hs : ¬ k < r.length) (hW : W = max m (wideL (rows.drop i) k)) : W = max m (wideL (rows.drop (i + 1)) k) := by
  rw [hW, wide_step h, List.getElem?_eq_none (by omega)]
  show max m (max 0 _) = _
  omega

set_option maxHeartbeats 1000000 in
theorem wide_walk (ao : Option Addr) (rows : List (List (List UInt8))) (cap place : Nat) (w : World) (h : RowsAt w ao rows) (hs : Small rows) (hp : place ≤ 140737488351232) :
    Calls Try.prog 32 #[.slice ao rows.length cap, .int .i64 place] w fun e w' => e = .returned (.int .i64 (wideL rows place)) ∧ w = w' := by
  obtain ⟨b, off, ha, hc⟩ := h
  obtain ⟨hl, hs⟩ := hs
  go_enter Try.func32, Try.ntmps32
  go_wp2
  go_loop [5, 6] (fun n i => ∃ (k m : Nat), k ≤ rows.length ∧ i = .int .i64 k ∧ n = .int .i64 m ∧ m ≤ 140737488351232 ∧ Hid (wideL rows place = max m (wideL (rows.drop k) place))) (fun _ i => rows.length - (intOf i).toNat)
  case atStart => exact ⟨0, 0, Nat.zero_le _, rfl, rfl, by omega, Lib.hid (by simp)⟩
  case round =>
    obtain ⟨k, m, hk, rfl, rfl, hm1, hgo⟩ := hrel
    by_cases hlt : k < rows.length
    · obtain rfl := ha (by omega)
      obtain ⟨r, hg⟩ : ∃ r, rows[k]? = some r := ⟨_, List.getElem?_eq_getElem hlt⟩
      obtain ⟨hrl, hrs⟩ := hs r (List.mem_of_getElem? hg)
      obtain ⟨bo, rcap, hck, ⟨b2, off2, ha2, hc2⟩, _, _⟩ := hc k r hg
      by_cases hpl : place < r.length
      · obtain rfl := ha2 (by simp; omega)
        obtain ⟨s, hgs⟩ : ∃ s, r[place]? = some s := ⟨_, List.getElem?_eq_getElem hpl⟩
        have hcs := hc2 place (sv s) (by simp [hgs])
        have HG := Lib.hid (wide_hit hg hgs hgo.out)
        have hsz : (ba s).size ≤ 140737488351232 := by rw [ba_size]; exact hrs s (List.mem_of_getElem? hgs)
        have HZ := Lib.hid (ba_size s)
        clear hc hc2 ha ha2 hs hrs hg hgs hgo
        go_wp2
        go_round
        case rel => exact ⟨k + 1, max m s.length, by omega, by go_num, by rw [← HZ.out]; go_num, by rw [← HZ.out]; omega, HG⟩
        case measure => simp [intOf]; omega
      · have HG := Lib.hid (wide_miss hg hpl hgo.out)
        clear hc hc2 ha ha2 hs hrs hg hgo
        go_wp2
        go_round
        case rel => exact ⟨k + 1, m, by omega, by go_num, rfl, hm1, HG⟩
        case measure => simp [intOf]; omega
    · have HG := Lib.hid (show wideL rows place = m by rw [hgo.out, List.drop_of_length_le (by omega)]; simp [wideL])
      clear hc ha hs hgo
      go_wp2
      go_ret
      exact ⟨ret_int (by rw [HG.out]), rfl⟩

set_option maxHeartbeats 1000000 in
theorem great_walk (ao : Option Addr) (rows : List (List (List UInt8))) (cap : Nat) (w : World) (h : RowsAt w ao rows) (hs : Small rows) :
    Calls Try.prog 6 #[.slice ao rows.length cap] w fun e w' => e = .returned (.bool (decide (30000 ≤ greatGo rows 0))) ∧ w = w' := by
  obtain ⟨b, off, ha, hc⟩ := h
  obtain ⟨hl, hs⟩ := hs
  go_enter Try.func6, Try.ntmps6
  go_wp2
  go_loop [3, 4] (fun n i => ∃ (k : Nat) (m : Int), k ≤ rows.length ∧ i = .int .i64 k ∧ n = .int .i64 m ∧ 0 ≤ m ∧ m ≤ 60001 ∧ Hid (greatGo rows 0 = greatGo (rows.drop k) m)) (fun _ i => rows.length - (intOf i).toNat)
  case atStart => exact ⟨0, 0, Nat.zero_le _, rfl, rfl, by omega, by omega, Lib.hid rfl⟩
  case round =>
    obtain ⟨k, m, hk, rfl, rfl, hm0, hm1, hgo⟩ := hrel
    by_cases hlt : k < rows.length
    · obtain rfl := ha (by omega)
      obtain ⟨r, hg⟩ : ∃ r, rows[k]? = some r := ⟨_, List.getElem?_eq_getElem hlt⟩
      have hd : rows.drop k = r :: rows.drop (k + 1) := by
        obtain ⟨h1, rfl⟩ := List.getElem?_eq_some_iff.1 hg
        exact List.drop_eq_getElem_cons h1
      obtain ⟨hrl, hrs⟩ := hs r (List.mem_of_getElem? hg)
      obtain ⟨bo, rcap, hck, hcr, _, _⟩ := hc k r hg
      by_cases hm : m < 30000
      · have HG := Lib.hid (show greatGo rows 0 = greatGo (rows.drop (k + 1)) (m + 1 + min (longGo r 0) 30000) by rw [hgo.out, hd, greatGo, if_pos hm])
        have hge := long_ge r 0
        clear hc ha hs hg hgo hd
        go_wp2_with (go_at_call 10; refine (long_walk _ _ _ _ hcr hrs hrl).mono ?_; rintro e w' ⟨rfl, rfl⟩)
        go_round
        case rel => exact ⟨k + 1, _, by omega, by go_num, by go_num, by omega, by omega, HG⟩
        case measure => simp [intOf]; omega
      · have HG := Lib.hid (show greatGo rows 0 = m by rw [hgo.out, hd, greatGo, if_neg hm])
        clear hc ha hs hg hgo hd
        go_wp2
        go_ret
        exact ⟨ret_bool (by rw [HG.out]; exact (decide_eq_true (by omega)).symm), rfl⟩
    · have HG := Lib.hid (show greatGo rows 0 = m by rw [hgo.out, List.drop_of_length_le (by omega)]; rfl)
      clear hc ha hs hgo
      go_wp2
      go_ret
      exact ⟨ret_bool (by rw [HG.out]), rfl⟩
end Go.Proofs.Ytefkhjbgkaknmaa
