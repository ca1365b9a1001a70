/- Walks of the reference of layer 2 on tables: wide, Great. -/
import Derived.Test.YtefkhjbgkaknmaaDoorR2e
import Derived.Test.YtefkhjbgkaknmaaDoorPl3
set_option linter.unusedVariables false
namespace Go.Proofs.YtefkhjbgkaknmaaDoor
open Go.RowKit

/-- A list of lists of strings lies in w behind the address ao. -/
def RowsAt (w : World) (ao : Option Addr) (rows : List (List (List UInt8))) : Prop :=
  ∃ b off, (0 < rows.length → ao = some ⟨b, off, none⟩) ∧ ∀ i l, rows[i]? = some l → ∃ bo cap, w.cell? ⟨b, off + i, none⟩ = some (.slice bo l.length cap) ∧ CellsAt w bo (l.map sv) ∧ l.length ≤ cap ∧ (bo = none → cap = 0)
/-- All sizes are small. -/
def Small (rows : List (List (List UInt8))) : Prop := rows.length ≤ 140737488351232 ∧ ∀ r ∈ rows, r.length ≤ 140737488351232 ∧ ∀ s ∈ r, s.length ≤ 140737488351232
theorem RowsAt.below {w w' : World} {ao : Option Addr} {rows : List (List (List UInt8))} (h : RowsAt w ao rows) (hb : Below w.heap.size w w') : RowsAt w' ao rows := by
  obtain ⟨b, off, ha, hc⟩ := h
  refine ⟨b, off, ha, fun i l hl => ?_⟩
  obtain ⟨bo, cap, h1, h2, h3, h4⟩ := hc i l hl
  exact ⟨bo, cap, cell_below hb h1, h2.below hb, h3, h4⟩

theorem long_ge : ∀ (l : List (List UInt8)) (n : Int), n ≤ longGo l n
  | [], n => by simp [longGo]
  | s :: r, n => by
    rw [longGo]
    by_cases h : n < 1000000
    · rw [if_pos h]; have := long_ge r (n + 1 + s.length); omega
    · rw [if_neg h]; omega

theorem wide_hit {rows : List (List (List UInt8))} {i k m W : Nat} {r : List (List UInt8)} {s : List UInt8} (h : rows[i]? = some r) (hs : r[k]? = some s) (hW : W = max m (wideL (rows.drop i) k)) : W = max (max m s.length) (wideL (rows.drop (i + 1)) k) := by
  rw [hW, wide_step h, hs]
  show max m (max s.length _) = _
  omega
theorem wide_miss {rows : List (List (List UInt8))} {i k m W : Nat} {r : List (List UInt8)} (h : rows[i]? = some r) (hs : ¬ k < r.length) (hW : W = max m (wideL (rows.drop i) k)) : W = max m (wideL (rows.drop (i + 1)) k) := by
  rw [hW, wide_step h, List.getElem?_eq_none (by omega)]
  show max m (max 0 _) = _
  omega

set_option maxHeartbeats 1000000 in
theorem great_walk (ao : Option Addr) (rows : List (List (List UInt8))) (cap : Nat) (w : World) (h : RowsAt w ao rows) (hs : Small rows) :
    Calls Tryd.prog 14 #[.slice ao rows.length cap] w fun e w' => e = .returned (.bool (decide (30000 ≤ greatGo rows 0))) ∧ w = w' := by
  obtain ⟨b, off, ha, hc⟩ := h
  obtain ⟨hl, hs⟩ := hs
  go_enter Tryd.func14, Tryd.ntmps14
  go_wp2
  go_loop [3, 4] (fun n i => ∃ (k : Nat) (m : Int), k ≤ rows.length ∧ i = .int .i64 k ∧ n = .int .i64 m ∧ 0 ≤ m ∧ m ≤ 60001 ∧ Hid (greatGo rows 0 = greatGo (rows.drop k) m)) (fun _ i => rows.length - (intOf i).toNat)
  case atStart => exact ⟨0, 0, Nat.zero_le _, rfl, rfl, by omega, by omega, Lib.hid rfl⟩
  case round =>
    obtain ⟨k, m, hk, rfl, rfl, hm0, hm1, hgo⟩ := hrel
    by_cases hlt : k < rows.length
    · obtain rfl := ha (by omega)
      obtain ⟨r, hg⟩ : ∃ r, rows[k]? = some r := ⟨_, List.getElem?_eq_getElem hlt⟩
      have hd : rows.drop k = r :: rows.drop (k + 1) := by
        obtain ⟨h1, rfl⟩ := List.getElem?_eq_some_iff.1 hg
        exact List.drop_eq_getElem_cons h1
      obtain ⟨hrl, hrs⟩ := hs r (List.mem_of_getElem? hg)
      obtain ⟨bo, rcap, hck, hcr, _, _⟩ := hc k r hg
      by_cases hm : m < 30000
      · have HG := Lib.hid (show greatGo rows 0 = greatGo (rows.drop (k + 1)) (m + 1 + min (longGo r 0) 30000) by rw [hgo.out, hd, greatGo, if_pos hm])
        have hge := long_ge r 0
        clear hc ha hs hg hgo hd
        go_wp2_with (go_at_call 17; refine (long_walk _ _ _ _ hcr hrs hrl).mono ?_; rintro e w' ⟨rfl, rfl⟩)
        go_round
        case rel => exact ⟨k + 1, _, by omega, by go_num, by go_num, by omega, by omega, HG⟩
        case measure => simp [intOf]; omega
      · have HG := Lib.hid (show greatGo rows 0 = m by rw [hgo.out, hd, greatGo, if_neg hm])
        clear hc ha hs hg hgo hd
        go_wp2
        go_ret
        exact ⟨ret_bool (by rw [HG.out]; exact (decide_eq_true (by omega)).symm), rfl⟩
    · have HG := Lib.hid (show greatGo rows 0 = m by rw [hgo.out, List.drop_of_length_le (by omega)]; rfl)
      clear hc ha hs hgo
      go_wp2
      go_ret
      exact ⟨ret_bool (by rw [HG.out]), rfl⟩
end Go.Proofs.YtefkhjbgkaknmaaDoor
