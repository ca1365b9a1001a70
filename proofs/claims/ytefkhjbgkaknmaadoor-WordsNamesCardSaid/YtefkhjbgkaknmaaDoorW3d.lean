/- Walks of the package words on tables: Table. -/
import Derived.Test.YtefkhjbgkaknmaaDoorW3c
import Derived.Laws.EntriesVeiled
set_option linter.unusedVariables false
namespace Go.Proofs.YtefkhjbgkaknmaaDoor
open Go.RowKit Go.Shelf

def TableRes' (rows : List (List (List UInt8))) (w : World) (e : Ending) (w' : World) : Prop :=
  e = .returned (.tuple #[.string (ba (tableL rows).1), .int .i64 (tableL rows).2]) ∧ Below w.heap.size w w'
theorem tr_form {rows : List (List (List UInt8))} {w w' : World} (hb : Below w.heap.size w w') (h : rows.any oddRow = true) : TableRes' rows w (.returned (.tuple #[.string ⟨#[]⟩, .int .i64 11])) w' := ⟨by rw [table_form h]; rfl, hb⟩
theorem tr_rows {rows : List (List (List UInt8))} {w w' : World} (hb : Below w.heap.size w w') (h : rows.any oddRow = false) (h2 : 512 < rows.length) : TableRes' rows w (.returned (.tuple #[.string ⟨#[]⟩, .int .i64 4])) w' := ⟨by rw [table_rows h h2]; rfl, hb⟩
theorem tr_many {rows : List (List (List UInt8))} {w w' : World} (hb : Below w.heap.size w w') (h : rows.any oddRow = false) (h3 : 16384 < (tabL (wideL rows) rows).length) : TableRes' rows w (.returned (.tuple #[.string ⟨#[]⟩, .int .i64 4])) w' := ⟨by rw [table_many h h3]; rfl, hb⟩
theorem tr_ok {rows : List (List (List UInt8))} {w w' : World} (hb : Below w.heap.size w w') (h : rows.any oddRow = false) (h2 : ¬ 512 < rows.length) (o : List UInt8) (ht : tabL (wideL rows) rows = o) (h3 : o.length ≤ 16384) : TableRes' rows w (.returned (.tuple #[.string (ba o), .int .i64 0])) w' := ⟨by rw [table_ok h h2 (by rw [ht]; omega), ht], hb⟩

set_option maxRecDepth 100000 in
set_option maxHeartbeats 4000000 in
theorem table_walk (ao : Option Addr) (rows : List (List (List UInt8))) (cap : Nat) (w : World) (h : RowsAt w ao rows) (hs : Small rows) (hcount : ∀ r ∈ rows, r.length ≤ 1000000) :
    Calls Tryd.prog 15 #[.slice ao rows.length cap] w (TableRes' rows w) := by
  obtain ⟨w0, hw0⟩ : ∃ w0, w.alloc (.cells #[.func (.func 31) #[] #[]] 54) = w0 := ⟨_, rfl⟩
  have hb0 : Below w.heap.size w w0 := by rw [← hw0]; exact (Below.refl _ w).alloc (Nat.le_refl _) _
  have hsz0 : w0.heap.size = w.heap.size + 1 := by rw [← hw0]; simp
  have hc0 : w0.cell? ⟨w.heap.size, 0, none⟩ = some (.func (.func 31) #[] #[]) := by
    rw [← hw0]; rw [Lib.cell_of_heap (alloc_new w _)]; rfl
  have h0 := h.below hb0
  by_cases hodd : rows.any oddRow = true
  · have HR := Lib.hid (tr_form hb0 hodd)
    have HO := Lib.hid hodd
    have H0 := Lib.hid (And.intro h (And.intro h0 hs))
    clear hodd h h0 hs hcount
    go_enter Tryd.func15, Tryd.ntmps15
    go_wp2_with fail
    refine (rcont_walk _ ao rows cap w0 hc0 H0.out.2.1 H0.out.2.2 true HO.out).mono ?_
    rintro e w' ⟨rfl, rfl⟩
    go_wp2_with fail
    go_ret2
    exact HR.out
  have hall : rows.any oddRow = false := by simpa using hodd
  clear hodd
  by_cases h512 : 512 < rows.length
  · have HR := Lib.hid (tr_rows hb0 hall h512)
    have HO := Lib.hid hall
    have H0 := Lib.hid (And.intro h (And.intro h0 hs))
    clear hall h h0 hs hcount
    go_enter Tryd.func15, Tryd.ntmps15
    go_wp2_with fail
    refine (rcont_walk _ ao rows cap w0 hc0 H0.out.2.1 H0.out.2.2 false HO.out).mono ?_
    rintro e w' ⟨rfl, rfl⟩
    go_wp2_with fail
    go_ret2
    exact HR.out
  have HO := Lib.hid hall
  have HM := Lib.hid (fun w' (hb : Below w.heap.size w w') => tr_many hb hall)
  have HK := Lib.hid (fun w' (hb : Below w.heap.size w w') o => tr_ok hb hall h512 o)
  have H0 := Lib.hid (And.intro h (And.intro h0 hs))
  have HCT := Lib.hid hcount
  clear hall h h0 hs hcount
  go_enter Tryd.func15, Tryd.ntmps15
  go_wp2_with fail
  refine (rcont_walk _ ao rows cap w0 hc0 H0.out.2.1 H0.out.2.2 false HO.out).mono ?_
  rintro e w' ⟨rfl, rfl⟩
  go_wp2_with fail
  refine (widths_walk ao rows cap w0 H0.out.2.1 H0.out.2.2 HCT.out).mono ?_
  rintro e w1 ⟨v, ws, rfl, hown, hb1, hws, hlen⟩
  obtain ⟨aw, wcap, rfl, _⟩ := CellsAt.of_owns hown
  obtain ⟨w4, hw4⟩ : ∃ w4, (((w1.alloc (.cells #[.slice aw ws.length wcap] 38)).alloc (.cells #[.pointer none, .slice none 0 0] 62)).alloc (.cells #[.func (.func 37) #[] #[.pointer (some ⟨w1.heap.size + 1, 0, none⟩)]] 64)) = w4 := ⟨_, rfl⟩
  obtain ⟨B, hB⟩ : ∃ B, w1.heap.size = B := ⟨_, rfl⟩
  have hsz4 : w4.heap.size = B + 3 := by rw [← hw4]; simp; omega
  have hb4 : Below B w1 w4 := by rw [← hw4]; exact (((Below.refl _ w1).alloc (by omega) _).alloc (by simp; omega) _).alloc (by simp; omega) _
  have hW4 : w4.cell? ⟨B, 0, none⟩ = some (.slice aw ws.length wcap) := by
    have : w4.heap[B]? = some (.cells #[.slice aw ws.length wcap] 38 (0, 0)) := by
      rw [← hw4]; exact (Below.heap_alloc _ _ _ (by simp; omega)).trans ((Below.heap_alloc _ _ _ (by simp; omega)).trans (hB ▸ alloc_new w1 _))
    rw [Lib.cell_of_heap this]; rfl
  have hF4 : w4.heap[B + 2]? = some (.cells #[.func (.func 37) #[] #[.pointer (some ⟨B + 1, 0, none⟩)]] 64 (0, 0)) := by
    have := alloc_new ((w1.alloc (.cells #[.slice aw ws.length wcap] 38)).alloc (.cells #[.pointer none, .slice none 0 0] 62)) (.cells #[.func (.func 37) #[] #[.pointer (some ⟨w1.heap.size + 1, 0, none⟩)]] 64)
    rw [World.size_alloc, World.size_alloc, hw4, hB] at this
    exact this
  have hK4 : BldK w4 (B + 1) (B + 1) [] := by
    have := bldk_new (w1.alloc (.cells #[.slice aw ws.length wcap] 38)) (B + 1) (by simp; omega)
    rw [World.size_alloc, hB] at this
    rw [← hw4]
    exact bldk_below this ((Below.refl _ _).alloc (Nat.le_refl _) _)
  have hbb4 : Below w.heap.size w w4 := hb0.trans ((hb1.mono (by omega)).trans (hb4.mono (by have := hb1.size; omega)))
  have HOWN := Lib.hid hown
  have HWS := Lib.hid hws
  have HLEN := Lib.hid hlen
  have HB1 := Lib.hid (And.intro hb1 (And.intro hb4 hbb4))
  have HC := Lib.hid (H0.out.1)
  have HSM := Lib.hid (H0.out.2.2)
  have HBW : w.heap.size ≤ B := by have := hb1.size; omega
  clear hown hws hlen hb1 hb4 hb0 hbb4 H0 HCT hc0 hw0
  subst hB
  obtain ⟨b, off, ha, hc⟩ := HC.out
  go_wp2_with fail
  go_loopw [25] (fun i wr => ∃ (k : Nat) (l : List UInt8), k ≤ rows.length ∧ i = .int .i64 k ∧ BldK wr (w1.heap.size + 1) (w1.heap.size + 1) l ∧ l.length ≤ 16384 ∧ Below (w1.heap.size + 1) w4 wr ∧ Kept (w1.heap.size + 1) w4 wr ∧ Hid (tabL (wideL rows) rows = l ++ tabL (wideL rows) (rows.drop k))) (fun i _ => rows.length - (intOf i).toNat)
  case atStart => exact ⟨0, [], Nat.zero_le _, rfl, hK4, by simp, Below.refl _ _, Lib.OthersKept.refl _ _ _, Lib.hid rfl⟩
  case round =>
    obtain ⟨k, l, hk, rfl, hbld, hl, hbel, hkep, htab⟩ := hrel
    have hsz5 : w1.heap.size + 3 ≤ wr.heap.size := by have := hbel.size; omega
    have HX := Lib.hid (show Below w.heap.size w wr from HB1.out.2.2.trans (hbel.mono (by omega)))
    by_cases hlt : k < rows.length
    · obtain rfl := ha (by omega)
      obtain ⟨r, hg, hd, hmem⟩ := drop_row hlt
      obtain ⟨hrl, hrs⟩ := HSM.out.2 r hmem
      obtain ⟨bo, rcap, hck0, hcr, _, _⟩ := hc k r hg
      have hck := cell_below HX.out hck0
      have HT := Lib.hid (show tabL (wideL rows) rows = l ++ (cellsL (wideL rows) 0 (r.drop 0) ++ 10 :: tabL (wideL rows) (rows.drop (k + 1))) by rw [htab.out, tab_row _ _ _ _ hg])
      have HL := Lib.hid (HLEN.out r hmem)
      have HR := Lib.hid (fun j s (h : r[j]? = some s) => le_wide (rows := rows) hg h)
      have HCR := Lib.hid (And.intro hcr hrs)
      generalize hrest : tabL (wideL rows) (rows.drop (k + 1)) = rest at HT
      have HREST := Lib.hid hrest
      clear hd hg hmem htab hrest hck0 hcr hrs hc
      go_wp2_with fail
      go_loopw [31] (fun i wr => ∃ (j : Nat) (l : List UInt8), j ≤ r.length ∧ i = .int .i64 j ∧ BldK wr (w1.heap.size + 1) (w1.heap.size + 1) l ∧ l.length ≤ 16384 ∧ Below (w1.heap.size + 1) w4 wr ∧ Kept (w1.heap.size + 1) w4 wr ∧ Hid (tabL (wideL rows) rows = l ++ (cellsL (wideL rows) j (r.drop j) ++ 10 :: rest))) (fun i _ => r.length - (intOf i).toNat)
      case atStart => exact ⟨0, l, Nat.zero_le _, rfl, hbld, hl, hbel, hkep, HT⟩
      case round =>
        clear hbld hl hbel hkep HX hck hsz5 HT
        obtain ⟨j, l2, hj, rfl, hbld, hl, hbel, hkep, hcel⟩ := hrel
        have hsz5 : w1.heap.size + 3 ≤ wr.heap.size := by have := hbel.size; omega
        have HX := Lib.hid (show Below w.heap.size w wr from HB1.out.2.2.trans (hbel.mono (by omega)))
        by_cases hlt2 : j < r.length
        · obtain ⟨b2, off2, ha2, hc2⟩ := HCR.out.1
          obtain rfl := ha2 (by simp; omega)
          obtain ⟨s, r', hd2, hg2, hr2, hmem2⟩ := drop_parts r j hlt2
          have hcs := cell_below HX.out (hc2 j (sv s) (by simp [hg2]))
          have hsz : (ba s).size ≤ 140737488351232 := by rw [ba_size]; exact HCR.out.2 s hmem2
          have hjw : j < ws.length := by have := HL.out; omega
          obtain ⟨g, wcap2, hv⟩ := own_some HOWN.out (by omega)
          cases hv
          obtain ⟨x, hxj⟩ : ∃ x, ws[j]? = some x := ⟨_, List.getElem?_eq_getElem hjw⟩
          obtain ⟨hx, _, _, _, _⟩ := own_set HOWN.out rfl hxj
          have hwx : wideL rows j = x := by rw [HWS.out j, hxj]; rfl
          have hsx : (ba s).size ≤ x := by rw [ba_size, ← hwx]; exact HR.out j s hg2
          have hxm : x ≤ 140737488351232 := by rw [← hwx]; exact wide_le fun r hr s h => (HSM.out.2 r hr).2 s h
          have hxw := (hbel.cell (p := ⟨g, j, none⟩) (by show g < _; have := lt_of_cell hx; omega)).trans (cell_below HB1.out.2.1 hx)
          have hww := (hbel.cell (p := ⟨w1.heap.size, 0, none⟩) (Nat.lt_succ_self _)).trans hW4
          have hff : wr.cell? ⟨w1.heap.size + 2, 0, none⟩ = some (.func (.func 37) #[] #[.pointer (some ⟨w1.heap.size + 1, 0, none⟩)]) := by
            rw [Lib.cell_of_heap (hkep _ _ hF4 (by simp) (fun c fz e => by cases e))]; rfl
          have HBLS := Lib.hid (show bl (ba s) = s from bl_ba s)
          have hjw' : j < ws.length := hjw
          by_cases hlast : j + 1 < r.length
          · have hbq : ((j : Int) == (r.length : Int) - 1) = false := by simp; omega
            have HN := Lib.hid (show tabL (wideL rows) rows = (l2 ++ (bl (ba s) ++ List.replicate (x + 2 - (ba s).size) 32)) ++ (cellsL (wideL rows) (j + 1) (r.drop (j + 1)) ++ 10 :: rest) by
              rw [hcel.out, cells_more _ _ _ _ hg2 hlast, hwx, ba_size, bl_ba]; simp)
            have hln : (l2 ++ (bl (ba s) ++ List.replicate (x + 2 - (ba s).size) 32)).length = l2.length + (x + 2) := by have hzz := ba_size s; simp [bl_ba]; omega
            have HLN := Lib.hid hln
            clear hc2 hd2 hg2 hr2 hmem2 hcel ha ha2 hwx hxj hln hlast
            by_cases hbig : 16384 < l2.length + (x + 2)
            · have HQ := Lib.hid (HM.out _ HX.out (by rw [HN.out, List.length_append, HLN.out]; omega))
              go_wp2_with fail
              refine (cell_full j x ws.length (x + 2) (ba s) false _ _ _ g _ l2 _ hww hxw hjw' hff hbld hl hxm hsz rfl hbig).mono ?_
              rintro e w' ⟨rfl, rfl⟩
              go_wp2_with fail
              go_ret2
              exact HQ.out
            · go_wp2_with fail
              refine (cell_put j x ws.length (x + 2) (ba s) false _ _ _ g _ l2 _ hww hxw hjw' hff hbld hl hxm hsx (by omega) rfl hbig).mono ?_
              rintro e w6 ⟨rfl, hbld6, hbel6, hkep6⟩
              go_wp2_with fail
              go_roundw
              case rel => exact ⟨j + 1, _, by omega, by go_num, hbld6, by rw [HLN.out]; omega, hbel.trans hbel6, hkep.trans hkep6, HN⟩
              case measure => simp [intOf]; omega
          · have hbq : ((j : Int) == (r.length : Int) - 1) = true := by simp; omega
            have HN := Lib.hid (show tabL (wideL rows) rows = (l2 ++ (bl (ba s) ++ List.replicate ((ba s).size - (ba s).size) 32)) ++ (cellsL (wideL rows) (j + 1) (r.drop (j + 1)) ++ 10 :: rest) by
              rw [hcel.out, cells_last _ _ _ _ hg2 hlast, cells_end _ _ _ (show ¬ j + 1 < r.length by omega), bl_ba]; simp)
            have hln : (l2 ++ (bl (ba s) ++ List.replicate ((ba s).size - (ba s).size) 32)).length = l2.length + (ba s).size := by simp [bl_ba, ba_size]
            have HLN := Lib.hid hln
            have hj1 : j + 1 = r.length := by omega
            clear hc2 hd2 hg2 hr2 hmem2 hcel ha ha2 hwx hxj hln hlast
            by_cases hbig : 16384 < l2.length + (ba s).size
            · have HQ := Lib.hid (HM.out _ HX.out (by rw [HN.out, List.length_append, HLN.out]; omega))
              have HJ := Lib.hid hj1
              clear hj1
              go_wp2_with fail
              refine (cell_full j x ws.length (ba s).size (ba s) true _ _ _ g _ l2 _ hww hxw hjw' hff hbld hl hxm hsz rfl hbig).mono ?_
              rintro e w' ⟨rfl, rfl⟩
              go_wp2_with fail
              go_ret2
              exact HQ.out
            · have HJ := Lib.hid hj1
              clear hj1
              go_wp2_with fail
              refine (cell_put j x ws.length (ba s).size (ba s) true _ _ _ g _ l2 _ hww hxw hjw' hff hbld hl hxm hsx (by omega) rfl hbig).mono ?_
              rintro e w6 ⟨rfl, hbld6, hbel6, hkep6⟩
              go_wp2_with fail
              go_roundw
              case rel => exact ⟨j + 1, _, by omega, by go_num, hbld6, by rw [HLN.out]; omega, hbel.trans hbel6, hkep.trans hkep6, HN⟩
              case measure => simp [intOf]; omega
        · have HN := Lib.hid (show tabL (wideL rows) rows = (l2 ++ [10]) ++ tabL (wideL rows) (rows.drop (k + 1)) by
            rw [hcel.out, cells_end _ _ _ hlt2, HREST.out]; simp)
          have hff : wr.cell? ⟨w1.heap.size + 2, 0, none⟩ = some (.func (.func 37) #[] #[.pointer (some ⟨w1.heap.size + 1, 0, none⟩)]) := by
            rw [Lib.cell_of_heap (hkep _ _ hF4 (by simp) (fun c fz e => by cases e))]; rfl
          clear hcel
          by_cases hbig : 16384 < l2.length + 1
          · have HQ := Lib.hid (HM.out _ HX.out (by rw [HN.out]; simp; omega))
            go_wp2_with fail
            refine (full_walk 1 _ l2 _ hbld hl true (decide_eq_true (by omega))).mono ?_
            rintro e w' ⟨rfl, rfl⟩
            go_wp2_with fail
            go_ret2
            exact HQ.out
          · go_wp2_with fail
            refine (full_walk 1 _ l2 _ hbld hl false (decide_eq_false (by omega))).mono ?_
            rintro e w' ⟨rfl, rfl⟩
            go_wp2_with fail
            refine (kwstr_walk _ _ l2 ⟨#[10]⟩ _ hbld (by show l2.length + 1 ≤ _; omega) (by omega)).mono ?_
            rintro e w6 ⟨rfl, hbld6, hbel6, hkep6⟩
            go_wp2_with fail
            go_roundw
            case rel => exact ⟨k + 1, l2 ++ [10], by omega, by go_num, hbld6, by simp; omega, hbel.trans hbel6, hkep.trans hkep6, HN⟩
            case measure => simp [intOf]; omega
    · have HN := Lib.hid (show tabL (wideL rows) rows = l by rw [htab.out, List.drop_of_length_le (by omega)]; simp [tabL])
      clear hc ha htab
      go_wp2_with fail
      refine (kstring_walk _ _ l _ hbld (by omega)).mono ?_
      rintro e w6 ⟨rfl, _, hbel6, _⟩
      have HQ := Lib.hid (HK.out w6 (HX.out.trans (hbel6.mono (by omega))) l HN.out hl)
      go_wp2_with fail
      go_ret2
      exact HQ.out
end Go.Proofs.YtefkhjbgkaknmaaDoor
