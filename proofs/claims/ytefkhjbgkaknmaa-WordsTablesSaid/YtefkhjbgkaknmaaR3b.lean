/- Walks of the reference of layer 2 on tables: Table. -/
import Derived.Test.YtefkhjbgkaknmaaR3a
set_option linter.unusedVariables false
namespace Go.Proofs.Ytefkhjbgkaknmaa
open Go.RowKit

def TableRes (rows : List (List (List UInt8))) (w : World) (e : Ending) (w' : World) : Prop :=
  e = .returned (.tuple #[.string (ba (tableL rows).1), .int .i64 (tableL rows).2]) ∧ w = w'
theorem tres_form {rows : List (List (List UInt8))} (w : World) (h : rows.any oddRow = true) : TableRes rows w (.returned (.tuple #[.string ⟨#[]⟩, .int .i64 11])) w := ⟨by rw [table_form h]; rfl, rfl⟩
theorem tres_rows {rows : List (List (List UInt8))} (w : World) (h : rows.any oddRow = false) (h2 : 512 < rows.length) : TableRes rows w (.returned (.tuple #[.string ⟨#[]⟩, .int .i64 4])) w := ⟨by rw [table_rows h h2]; rfl, rfl⟩
theorem tres_many {rows : List (List (List UInt8))} (w : World) (h : rows.any oddRow = false) (a : List UInt8) (x : List UInt8) (ht : tabL (wideL rows) rows = a ++ x) (h3 : 16384 < a.length) : TableRes rows w (.returned (.tuple #[.string ⟨#[]⟩, .int .i64 4])) w := ⟨by rw [table_many h (by rw [ht, List.length_append]; omega)]; rfl, rfl⟩
theorem tres_ok {rows : List (List (List UInt8))} (w : World) (h : rows.any oddRow = false) (h2 : ¬ 512 < rows.length) (o : ByteArray) (ht : tabL (wideL rows) rows = bl o) (h3 : o.size ≤ 16384) : TableRes rows w (.returned (.tuple #[.string o, .int .i64 0])) w := ⟨by rw [table_ok h h2 (by rw [ht, bl_length]; omega), ht, ba_bl], rfl⟩

theorem drop_row {rows : List (List (List UInt8))} {k : Nat} (h : k < rows.length) : ∃ r, rows[k]? = some r ∧ rows.drop k = r :: rows.drop (k + 1) ∧ r ∈ rows :=
  ⟨rows[k], List.getElem?_eq_getElem h, List.drop_eq_getElem_cons h, List.getElem_mem h⟩

set_option maxRecDepth 100000 in
set_option maxHeartbeats 4000000 in
theorem rtable_walk (ao : Option Addr) (rows : List (List (List UInt8))) (cap : Nat) (w : World) (h : RowsAt w ao rows) (hs : Small rows) :
    Calls Try.prog 8 #[.slice ao rows.length cap] w (TableRes rows w) := by
  have H0 := Lib.hid h
  have HS0 := Lib.hid hs
  obtain ⟨b, off, ha, hc⟩ := h
  obtain ⟨hl, hs⟩ := hs
  go_enter Try.func8, Try.ntmps8
  go_wp2
  go_loop [4] (fun i => ∃ (k : Nat), k ≤ rows.length ∧ i = .int .i64 k ∧ Hid (rows.any oddRow = (rows.drop k).any oddRow)) (fun i => rows.length - (intOf i).toNat)
  case atStart => exact ⟨0, Nat.zero_le _, rfl, Lib.hid rfl⟩
  case round =>
    obtain ⟨k, hk, rfl, hodd⟩ := hrel
    by_cases hlt : k < rows.length
    · obtain rfl := ha (by omega)
      obtain ⟨r, hg, hd, hmem⟩ := drop_row hlt
      obtain ⟨hrl, hrs⟩ := hs r hmem
      obtain ⟨bo, rcap, hck, ⟨b2, off2, ha2, hc2⟩, _, _⟩ := hc k r hg
      have HT := Lib.hid (fun (hr : oddRow r = true) => tres_form w (show rows.any oddRow = true by rw [hodd.out, hd, List.any_cons, hr, Bool.true_or]))
      have HN := Lib.hid (fun (hr : oddRow r = false) => show rows.any oddRow = (rows.drop (k + 1)).any oddRow by rw [hodd.out, hd, List.any_cons, hr, Bool.false_or])
      clear hc hs hd hodd hg hmem
      go_wp2
      go_loop [5] (fun i => ∃ (j : Nat), j ≤ r.length ∧ i = .int .i64 j ∧ Hid (oddRow r = oddRow (r.drop j))) (fun i => r.length - (intOf i).toNat)
      case atStart => exact ⟨0, Nat.zero_le _, rfl, Lib.hid rfl⟩
      case round =>
        obtain ⟨j, hj, rfl, hro⟩ := hrel
        by_cases hlt2 : j < r.length
        · obtain rfl := ha2 (by simp; omega)
          obtain ⟨s, r', hd2, hg2, hr2, hmem2⟩ := drop_parts r j hlt2
          have hcs := hc2 j (sv s) (by simp [hg2])
          have hsz : (ba s).size ≤ 140737488351232 := by rw [ba_size]; exact hrs s hmem2
          by_cases hw : wordL s = true
          · have HA := Lib.hid (show oddRow r = oddRow (r.drop (j + 1)) by
              rw [hro.out, hd2, hr2]; show (!wordL s || oddRow r') = _; rw [hw]; rfl)
            have HW := Lib.hid (show wordL (bl (ba s)) = true by rw [bl_ba]; exact hw)
            clear hc2 hrs hd2 hg2 hr2 hmem2 hw hro ha ha2
            go_wp2_with (go_at_call 31; refine (rword_yes _ _ hsz HW.out).mono ?_; rintro e w' ⟨rfl, rfl⟩)
            go_round
            case rel => exact ⟨j + 1, by omega, by go_num, HA⟩
            case measure => simp [intOf]; omega
          · have hw' : wordL s = false := by simpa using hw
            have HR := Lib.hid (HT.out (by rw [hro.out, hd2]; show (!wordL s || oddRow r') = _; rw [hw']; rfl))
            have HW := Lib.hid (show wordL (bl (ba s)) = false by rw [bl_ba]; exact hw')
            clear hc2 hrs hd2 hg2 hr2 hmem2 hw hw' hro ha ha2
            go_wp2_with (go_at_call 31; refine (rword_no _ _ hsz HW.out).mono ?_; rintro e w' ⟨rfl, rfl⟩)
            go_ret2
            exact HR.out
        · have HA := Lib.hid (HN.out (by rw [hro.out, List.drop_of_length_le (by omega)]; rfl))
          clear hc2 hrs hro ha ha2
          go_wp2
          go_round
          case rel => exact ⟨k + 1, by omega, by go_num, HA⟩
          case measure => simp [intOf]; omega
    · have hall : rows.any oddRow = false := by rw [hodd.out, List.drop_of_length_le (by omega)]; rfl
      clear hodd
      by_cases h512 : 512 < rows.length
      · have HR := Lib.hid (tres_rows w hall h512)
        clear hc hs ha hall
        go_wp2
        go_ret2
        exact HR.out
      have HM := Lib.hid (tres_many w hall)
      have HO := Lib.hid (tres_ok w hall h512)
      have HW := Lib.hid (fun k => wide_le (rows := rows) (k := k) (m := 140737488351232) fun r hr s h => (hs r hr).2 s h)
      have HX := Lib.hid (fun place (hp : place ≤ 140737488351232) => wide_walk ao rows cap place w H0.out HS0.out hp)
      clear hall
      go_wp2
      go_loop [6, 7, 8, 9] (fun o i _ _ => ∃ (k : Nat) (ou : ByteArray), k ≤ rows.length ∧ i = .int .i64 k ∧ o = .string ou ∧ ou.size ≤ 16384 + k ∧ Hid (tabL (wideL rows) rows = bl ou ++ tabL (wideL rows) (rows.drop k))) (fun _ i _ _ => rows.length - (intOf i).toNat)
      case atStart => exact ⟨0, ⟨#[]⟩, Nat.zero_le _, rfl, rfl, by decide, Lib.hid rfl⟩
      case round =>
        obtain ⟨k2, ou, hk2, rfl, rfl, hou, htab⟩ := hrel
        by_cases hlt : k2 < rows.length
        · obtain rfl := ha (by omega)
          obtain ⟨r, hg, hd, hmem⟩ := drop_row hlt
          obtain ⟨hrl, hrs⟩ := hs r hmem
          obtain ⟨bo, rcap, hck, ⟨b2, off2, ha2, hc2⟩, _, _⟩ := hc k2 r hg
          have HB := Lib.hid (show tabL (wideL rows) rows = bl ou ++ (cellsL (wideL rows) 0 (r.drop 0) ++ 10 :: tabL (wideL rows) (rows.drop (k2 + 1))) by rw [htab.out, tab_row _ _ _ _ hg])
          generalize hrest : tabL (wideL rows) (rows.drop (k2 + 1)) = rest at HB
          have HREST := Lib.hid hrest
          clear hc hs hd htab hg hmem hrest
          have hk5 : k2 ≤ 512 := by omega
          have hwo := HW.out
          go_wp2
          go_loop [6, 8, 9] (fun o i _ => ∃ (j : Nat) (ou : ByteArray), j ≤ r.length ∧ i = .int .i64 j ∧ o = .string ou ∧ ou.size ≤ 16384 + k2 ∧ Hid (tabL (wideL rows) rows = bl ou ++ (cellsL (wideL rows) j (r.drop j) ++ 10 :: rest))) (fun _ i _ => r.length - (intOf i).toNat)
          case atStart => exact ⟨0, ou, Nat.zero_le _, rfl, rfl, hou, HB⟩
          case round =>
            obtain ⟨j, o2, hj, rfl, rfl, ho2, hcel⟩ := hrel
            by_cases hlt2 : j < r.length
            · obtain rfl := ha2 (by simp; omega)
              obtain ⟨s, r', hd2, hg2, hr2, hmem2⟩ := drop_parts r j hlt2
              have hcs := hc2 j (sv s) (by simp [hg2])
              have hsz : (ba s).size ≤ 140737488351232 := by rw [ba_size]; exact hrs s hmem2
              by_cases hlast : j + 1 < r.length
              · have HC := Lib.hid (show tabL (wideL rows) rows = bl (o2 ++ ba s) ++ (List.replicate (wideL rows j + 2 - (ba s).size) 32 ++ (cellsL (wideL rows) (j + 1) (r.drop (j + 1)) ++ 10 :: rest)) by
                  rw [hcel.out, cells_more _ _ _ _ hg2 hlast, bl_append, bl_ba, ba_size]; simp)
                have hwj := hwo j
                have HX2 := Lib.hid (HX.out j (by omega))
                have hz2 : (o2 ++ ba s).size ≤ 16896 + (ba s).size := by rw [ByteArray.size_append]; omega
                generalize hO : o2 ++ ba s = o3 at HC hz2
                clear hc2 hrs hd2 hg2 hr2 hmem2 hcel ha ha2 hwo HX
                go_wp2
                go_loop [6, 9] (fun o n => ∃ (m : Nat) (ou : ByteArray), n = .int .i64 m ∧ o = .string ou ∧ m ≤ 140737488351234 ∧ ou.size ≤ 16896 + (ba s).size ∧ Hid (tabL (wideL rows) rows = bl ou ++ (List.replicate (wideL rows j + 2 - m) 32 ++ (cellsL (wideL rows) (j + 1) (r.drop (j + 1)) ++ 10 :: rest)))) (fun _ n => wideL rows j + 2 - (intOf n).toNat)
                case atStart => exact ⟨(ba s).size, o3, by go_num, by rw [← hO], by omega, hz2, HC⟩
                case round =>
                  obtain ⟨m, o4, rfl, rfl, hm4, ho4, hrep⟩ := hrel
                  by_cases hm : m < wideL rows j + 2
                  · by_cases hbig : 16384 < o4.size
                    · have HR := Lib.hid (HM.out _ _ hrep.out (by rw [bl_length]; exact hbig))
                      clear hrep
                      go_wp2_with (go_at_call 32; refine HX2.out.mono ?_; rintro e w' ⟨rfl, rfl⟩)
                      go_ret2
                      exact HR.out
                    · have HC := Lib.hid (show tabL (wideL rows) rows = bl (o4 ++ ⟨#[32]⟩) ++ (List.replicate (wideL rows j + 2 - (m + 1)) 32 ++ (cellsL (wideL rows) (j + 1) (r.drop (j + 1)) ++ 10 :: rest)) by
                        rw [hrep.out, show wideL rows j + 2 - m = (wideL rows j + 2 - (m + 1)) + 1 by omega, List.replicate_succ, bl_append]
                        show _ = (bl o4 ++ [32]) ++ _
                        simp)
                      have hz5 : (o4 ++ ⟨#[32]⟩).size = o4.size + 1 := by rw [ByteArray.size_append]; rfl
                      clear hrep
                      go_wp2_with (go_at_call 32; refine HX2.out.mono ?_; rintro e w' ⟨rfl, rfl⟩)
                      go_round
                      case rel => exact ⟨m + 1, _, by go_num, rfl, by omega, by rw [hz5]; omega, HC⟩
                      case measure => simp [intOf]; omega
                  · have HC := Lib.hid (show tabL (wideL rows) rows = bl o4 ++ (cellsL (wideL rows) (j + 1) (r.drop (j + 1)) ++ 10 :: rest) by
                      rw [hrep.out, show wideL rows j + 2 - m = 0 by omega]; rfl)
                    clear hrep
                    by_cases hbig : 16384 < o4.size
                    · have HR := Lib.hid (HM.out _ _ HC.out (by rw [bl_length]; exact hbig))
                      go_wp2_with (go_at_call 32; refine HX2.out.mono ?_; rintro e w' ⟨rfl, rfl⟩)
                      go_ret2
                      exact HR.out
                    · go_wp2_with (go_at_call 32; refine HX2.out.mono ?_; rintro e w' ⟨rfl, rfl⟩)
                      go_round
                      case rel => exact ⟨j + 1, _, by omega, by go_num, rfl, by omega, HC⟩
                      case measure => simp [intOf]; omega
              · have HC := Lib.hid (show tabL (wideL rows) rows = bl (o2 ++ ba s) ++ (cellsL (wideL rows) (j + 1) (r.drop (j + 1)) ++ 10 :: rest) by
                  rw [hcel.out, cells_last _ _ _ _ hg2 hlast, cells_end _ _ _ (show ¬ j + 1 < r.length by omega), bl_append, bl_ba]; simp)
                have hz2 : (o2 ++ ba s).size = o2.size + (ba s).size := by rw [ByteArray.size_append]
                have hj1 : j + 1 = r.length := by omega
                clear hc2 hrs hd2 hg2 hr2 hmem2 hcel ha ha2 hwo HX
                go_wp2
                go_loop [6, 9] (fun o n => o = .string (o2 ++ ba s)) (fun _ n => 0)
                case atStart => rfl
                case round =>
                  obtain rfl := hrel
                  by_cases hbig : 16384 < (o2 ++ ba s).size
                  · have HR := Lib.hid (HM.out _ _ HC.out (by rw [bl_length]; exact hbig))
                    go_wp2
                    go_ret2
                    exact HR.out
                  · go_wp2
                    go_round
                    case rel => exact ⟨j + 1, _, by omega, by go_num, rfl, by omega, HC⟩
                    case measure => simp [intOf]; omega
            · have HC := Lib.hid (show tabL (wideL rows) rows = bl (o2 ++ ⟨#[10]⟩) ++ tabL (wideL rows) (rows.drop (k2 + 1)) by
                rw [hcel.out, cells_end _ _ _ hlt2, bl_append, HREST.out]
                show _ = (bl o2 ++ [10]) ++ _
                simp)
              have hz5 : (o2 ++ ⟨#[10]⟩).size = o2.size + 1 := by rw [ByteArray.size_append]; rfl
              clear hc2 hrs hcel ha ha2 hwo HX
              go_wp2
              go_round
              case rel => exact ⟨k2 + 1, _, by omega, by go_num, rfl, by rw [hz5]; omega, HC⟩
              case measure => simp [intOf]; omega
        · have HE := Lib.hid (show tabL (wideL rows) rows = bl ou by rw [htab.out, List.drop_of_length_le (by omega)]; simp [tabL])
          clear hc hs ha htab
          by_cases hbig : 16384 < ou.size
          · have HR := Lib.hid (HM.out (bl ou) [] (by rw [HE.out]; simp) (by rw [bl_length]; exact hbig))
            go_wp2
            go_ret2
            exact HR.out
          · have HR := Lib.hid (HO.out ou HE.out (by omega))
            go_wp2
            go_ret2
            exact HR.out
end Go.Proofs.Ytefkhjbgkaknmaa
