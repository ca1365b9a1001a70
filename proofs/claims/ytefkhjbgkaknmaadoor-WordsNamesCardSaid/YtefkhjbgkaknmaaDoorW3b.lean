/- Walks of the package words on tables: widths. -/
import Derived.Test.YtefkhjbgkaknmaaDoorW3a
import Derived.Test.YtefkhjbgkaknmaaDoorRng
import Derived.Laws.OwnMore
set_option linter.unusedVariables false
namespace Go.Proofs.YtefkhjbgkaknmaaDoor
open Go.RowKit

attribute [local go_sem ↓ 10000] builtin_append_v

theorem infoInt : (Tryd.prog.info? 3).map (fun i => (i.zero, i.size, i.bytes)) = some (some (.int .i64 0), 1, 8) := by kernel_rfl
abbrev iv (n : Nat) : Value := .int .i64 n
theorem iv_max (a b : Nat) : iv (max a b) = .int .i64 (max (a : Int) (b : Int)) := congrArg (Value.int IntKind.i64) (by omega)
/-- A list of numbers that the call owns. -/
abbrev OwnInts (w : World) (base : Nat) (v : Value) (l : List Nat) : Prop := w.ownsRow base 3 1 v l.length (l.map iv)

/-- The widths of what has been read: rows before i, of row i the cells before j. -/
def WInv (rows : List (List (List UInt8))) (i j : Nat) (r : List (List UInt8)) (ws : List Nat) : Prop :=
  (∀ k, wideL rows k = max (ws[k]?.getD 0) (max (if j ≤ k then (r[k]?.map List.length).getD 0 else 0) (wideL (rows.drop (i + 1)) k))) ∧ j ≤ ws.length ∧
  (∀ (m : Nat) (r' : List (List UInt8)), m < i → rows[m]? = some r' → r'.length ≤ ws.length) ∧ ws.length ≤ 1000000 ∧ ∀ x ∈ ws, x ≤ 140737488351232
def WOut (rows : List (List (List UInt8))) (i : Nat) (ws : List Nat) : Prop :=
  (∀ k, wideL rows k = max (ws[k]?.getD 0) (wideL (rows.drop i) k)) ∧
  (∀ (m : Nat) (r' : List (List UInt8)), m < i → rows[m]? = some r' → r'.length ≤ ws.length) ∧ ws.length ≤ 1000000 ∧ ∀ x ∈ ws, x ≤ 140737488351232
theorem winv_start {rows : List (List (List UInt8))} {i : Nat} {r : List (List UInt8)} {ws : List Nat} (hr : rows[i]? = some r) (h : WOut rows i ws) : WInv rows i 0 r ws := by
  obtain ⟨h1, h2, h3, h4⟩ := h
  refine ⟨fun k => ?_, Nat.zero_le _, h2, h3, h4⟩
  rw [h1, wide_step hr, if_pos (Nat.zero_le _)]
theorem winv_end {rows : List (List (List UInt8))} {i j : Nat} {r : List (List UInt8)} {ws : List Nat} (hr : rows[i]? = some r) (hj : r.length ≤ j) (h : WInv rows i j r ws) : WOut rows (i + 1) ws := by
  obtain ⟨h1, h2, h3, h4, h5⟩ := h
  refine ⟨fun k => ?_, fun m r' hm hr' => ?_, h4, h5⟩
  · rw [h1]
    by_cases hk : j ≤ k
    · rw [if_pos hk, show r[k]? = none from List.getElem?_eq_none (by omega)]
      show max _ (max 0 _) = _
      omega
    · rw [if_neg hk]; omega
  · by_cases hm' : m < i
    · exact h3 m r' hm' hr'
    · obtain rfl : m = i := by omega
      rw [hr] at hr'; cases hr'; omega
theorem winv_app {rows : List (List (List UInt8))} {i j : Nat} {r : List (List UInt8)} {ws : List Nat} (h : WInv rows i j r ws) (hj : j < 1000000) (he : j = ws.length) : WInv rows i j r (ws ++ [0]) := by
  obtain ⟨h1, h2, h3, h4, h5⟩ := h
  refine ⟨fun k => ?_, by simp; omega, fun m r' hm hr' => by have := h3 m r' hm hr'; simp; omega, by simp; omega, ?_⟩
  · rw [h1]
    have : (ws ++ [0])[k]?.getD 0 = ws[k]?.getD 0 := by
      rw [List.getElem?_append]
      by_cases hk : k < ws.length
      · rw [if_pos hk]
      · rw [if_neg hk, List.getElem?_eq_none (show ws.length ≤ k by omega)]
        cases hkk : k - ws.length with
        | zero => rfl
        | succ n => rfl
    rw [this]
  · intro x hx
    rcases List.mem_append.1 hx with hx | hx
    · exact h5 x hx
    · simp at hx; omega
theorem winv_set {rows : List (List (List UInt8))} {i j x : Nat} {r : List (List UInt8)} {s : List UInt8} {ws : List Nat} (h : WInv rows i j r ws) (hs : r[j]? = some s) (hx : ws[j]? = some x) (hsl : s.length ≤ 140737488351232) : WInv rows i (j + 1) r (ws.set j (max x s.length)) := by
  obtain ⟨h1, h2, h3, h4, h5⟩ := h
  have hj : j < ws.length := (List.getElem?_eq_some_iff.1 hx).1
  refine ⟨fun k => ?_, by simp; omega, fun m r' hm hr' => by have := h3 m r' hm hr'; simp; omega, by simp; omega, ?_⟩
  · rw [h1]
    by_cases hk : j = k
    · subst hk
      rw [if_pos (Nat.le_refl _), if_neg (by omega), hx, hs, List.getElem?_set_self hj]
      show max x (max s.length _) = max (max x s.length) (max 0 _)
      omega
    · rw [List.getElem?_set_ne hk]
      by_cases h : j ≤ k
      · rw [if_pos h, if_pos (by omega)]
      · rw [if_neg h, if_neg (by omega)]
  · intro y hy
    rcases List.mem_or_eq_of_mem_set hy with hy | rfl
    · exact h5 y hy
    · have := h5 x (List.mem_of_getElem? hx); omega

theorem app_zero (wr : World) (B : Nat) (v : Value) (ws : List Nat) (hB : B ≤ wr.heap.size) (h : OwnInts wr B v ws) (hl : ws.length < 1000000) :
    ∃ g cap w1, (appendV #[38, 38] 38 #[v, .slice (some ⟨wr.heap.size, 0, none⟩) 1 1]).run Tryd.prog (wr.alloc (.cells #[.int .i64 0] 3)) = .ok (.slice (some ⟨g, 0, none⟩) (ws.length + 1) cap) w1 ∧
      OwnInts w1 B (.slice (some ⟨g, 0, none⟩) (ws.length + 1) cap) (ws ++ [0]) ∧ Below B wr w1 := by
  obtain ⟨i0, hi, hz0, hz1, hz2⟩ := info_parts infoInt
  obtain ⟨v', w1, hrun, hown', hgrow, hnil⟩ := run_append_own (P := Tryd.prog) (wr.alloc (.cells #[.int .i64 0] 3)) B 38 38 3 i0 (.int .i64 0) 1 8 Tryd.underlying38 hi hz0 hz1 hz2 rfl (by decide) v ws.length (ws.map iv) (h.alloc _) ⟨wr.heap.size, 0, none⟩ 1 1 [.int .i64 0] rfl (cell_one_new _ _ _) (by simp [Value.oneCell']) (by unfold maxLen; omega) (by omega) (by simp; omega)
  obtain ⟨g, cap, rfl⟩ := ownsRow_succ hown'
  refine ⟨g, cap, w1, hrun, ?_, ?_⟩
  · show w1.ownsRow _ _ _ _ (ws ++ [0]).length ((ws ++ [0]).map iv)
    rw [List.map_append, List.length_append]
    simpa [iv] using hown'
  · exact ((Below.refl B wr).alloc hB _).grown hgrow (by simp; omega) fun k hk => (h.lt k hk).1

theorem own_set {w : World} {B g n cap j x : Nat} {ws : List Nat} (h : OwnInts w B (.slice (some ⟨g, 0, none⟩) n cap) ws) (hn : ws.length = n) (hx : ws[j]? = some x) :
    w.cell? ⟨g, j, none⟩ = some (iv x) ∧ w.frozen? ⟨g, j, none⟩ = false ∧ (∀ u, OwnInts (w.setCell ⟨g, j, none⟩ (iv u)) B (.slice (some ⟨g, 0, none⟩) n cap) (ws.set j u)) ∧ (∀ u, w.grownBy (w.setCell ⟨g, j, none⟩ (iv u)) (some g)) ∧ B ≤ g := by
  subst hn
  have hj : j < ws.length := (List.getElem?_eq_some_iff.1 hx).1
  refine ⟨?_, h.frozenAt j, fun u => ?_, fun u => (h.stored j (iv u)).2, (h.lt g rfl).1⟩
  · rw [h.cellAt j (by omega), List.getElem?_map, hx]; rfl
  · have := (h.stored j (iv u)).1
    show World.ownsRow _ _ _ _ _ (ws.set j u).length ((ws.set j u).map iv)
    rw [List.map_set, List.length_set]; exact this
theorem own_some {w : World} {B : Nat} {v : Value} {ws : List Nat} (h : OwnInts w B v ws) (hp : 0 < ws.length) : ∃ g cap, v = .slice (some ⟨g, 0, none⟩) ws.length cap := by
  obtain ⟨n, hn⟩ : ∃ n, ws.length = n + 1 := ⟨ws.length - 1, by omega⟩
  rw [hn]
  refine ownsRow_succ (W := w) (base := B) (e := 3) (size := 1) (k := n) (xs := ws.map iv) ?_
  rw [← hn]; exact h

set_option maxHeartbeats 4000000 in
theorem widths_walk (ao : Option Addr) (rows : List (List (List UInt8))) (cap : Nat) (w : World) (h : RowsAt w ao rows) (hs : Small rows) (hcount : ∀ r ∈ rows, r.length ≤ 1000000) :
    Calls Tryd.prog 36 #[.slice ao rows.length cap] w fun e w' => ∃ v ws, e = .returned v ∧ OwnInts w' w.heap.size v ws ∧ Below w.heap.size w w' ∧ (∀ k, wideL rows k = ws[k]?.getD 0) ∧ ∀ r ∈ rows, r.length ≤ ws.length := by
  obtain ⟨b, off, ha, hc⟩ := h
  obtain ⟨hl, hs⟩ := hs
  go_enter Tryd.func36, Tryd.ntmps36
  go_wp2
  go_loopw [2, 9] (fun v i wr => ∃ (k : Nat) (ws : List Nat), k ≤ rows.length ∧ i = .int .i64 k ∧ OwnInts wr w.heap.size v ws ∧ Below w.heap.size w wr ∧ Hid (WOut rows k ws)) (fun _ i _ => rows.length - (intOf i).toNat)
  case atStart => exact ⟨0, [], Nat.zero_le _, rfl, World.ownsRow_nil _ _ _ _, Below.refl _ _, Lib.hid ⟨fun k => by simp, fun m r' hm => by omega, by simp, by simp⟩⟩
  case round =>
    obtain ⟨k, ws, hk, rfl, hown, hbel, hout⟩ := hrel
    by_cases hlt : k < rows.length
    · obtain rfl := ha (by omega)
      obtain ⟨r, hg, hd, hmem⟩ := drop_row hlt
      obtain ⟨hrl, hrs⟩ := hs r hmem
      have hrc := hcount r hmem
      obtain ⟨bo, rcap, hck0, hcr, _, _⟩ := hc k r hg
      have hck := cell_below hbel hck0
      have HS := Lib.hid (winv_start hg hout.out)
      have HE := Lib.hid (fun j ws hj (h : WInv rows k j r ws) => winv_end hg hj h)
      have HC := Lib.hid hcr
      clear hc hs hd hg hmem hout hcount ha hck0 hcr
      go_wp2
      go_loopw [2, 15] (fun v i wr => ∃ (j : Nat) (ws : List Nat), j ≤ r.length ∧ i = .int .i64 j ∧ OwnInts wr w.heap.size v ws ∧ Below w.heap.size w wr ∧ Hid (WInv rows k j r ws)) (fun _ i _ => r.length - (intOf i).toNat)
      case atStart => exact ⟨0, ws, Nat.zero_le _, rfl, hown, hbel, HS⟩
      case round =>
        clear hown hbel hck
        obtain ⟨j, ws2, hj, rfl, hown, hbel, hinv⟩ := hrel
        by_cases hlt2 : j < r.length
        · obtain ⟨b2, off2, ha2, hc2⟩ := HC.out
          obtain rfl := ha2 (by simp; omega)
          obtain ⟨s, r', hd2, hg2, hr2, hmem2⟩ := drop_parts r j hlt2
          have hcs0 := hc2 j (sv s) (by simp [hg2])
          have hcs := cell_below hbel hcs0
          have hsz : (ba s).size ≤ 140737488351232 := by rw [ba_size]; exact hrs s hmem2
          have HZ := Lib.hid (ba_size s)
          by_cases he : j = ws2.length
          · obtain ⟨ao3, cap3, rfl, _⟩ := CellsAt.of_owns hown
            obtain ⟨g, cap2, w1, hrun, hown1, hbel1⟩ := app_zero wr w.heap.size _ ws2 hbel.size hown (by omega)
            have hxj : (ws2 ++ [0])[j]? = some 0 := by subst he; simp
            have HN := Lib.hid (winv_set (winv_app hinv.out (by omega) he) hg2 hxj (by rw [← HZ.out]; exact hsz))
            obtain ⟨hx, hfz, hset, hgr, hBg⟩ := own_set hown1 (by simp) hxj
            have hcs1 := cell_below (hbel.trans hbel1) hcs0
            have hjn : (j : Int) < ((ws2.length + 1 : Nat) : Int) := by omega
            have hjeq : ((j : Int) == (ws2.length : Int)) = true := by simp; omega
            clear hc2 hd2 hg2 hr2 hmem2 hrs hxj hinv HC hown hown1 he
            go_wp2
            go_roundw
            case rel => exact ⟨j + 1, _, by omega, by go_num, (by rw [Nat.zero_max, ← HZ.out]; exact hset _), (hbel.trans hbel1).grown (hgr _) (hbel.trans hbel1).size (fun k e => by cases e; exact hBg), HN⟩
            case measure => simp [intOf]; omega
          · obtain ⟨g, cap2, rfl⟩ := own_some hown (by have := hinv.out.2.1; omega)
            obtain ⟨x, hxj⟩ : ∃ x, ws2[j]? = some x := ⟨_, List.getElem?_eq_getElem (by have := hinv.out.2.1; omega)⟩
            have HN := Lib.hid (winv_set hinv.out hg2 hxj (by rw [← HZ.out]; exact hsz))
            obtain ⟨hx, hfz, hset, hgr, hBg⟩ := own_set hown rfl hxj
            have hjn : (j : Int) < (ws2.length : Int) := by have := hinv.out.2.1; omega
            have hjne : ((j : Int) == (ws2.length : Int)) = false := by simp; omega
            clear hc2 hd2 hg2 hr2 hmem2 hrs hxj hinv HC hown he
            go_wp2
            go_roundw
            case rel => exact ⟨j + 1, _, by omega, by go_num, (by rw [← HZ.out, ← iv_max]; exact hset (max x (ba s).size)), (by rw [← iv_max]; exact hbel.grown (hgr (max x (ba s).size)) hbel.size (fun k e => by cases e; exact hBg)), HN⟩
            case measure => simp [intOf]; omega
        · have HA := HE.out j ws2 (by omega) hinv.out
          have HB := Lib.hid HA
          clear hrs HA
          go_wp2
          go_roundw
          case rel => exact ⟨k + 1, ws2, by omega, by go_num, hown, hbel, HB⟩
          case measure => simp [intOf]; omega
    · have ho := hout.out
      have HA := Lib.hid (show (∀ k, wideL rows k = ws[k]?.getD 0) ∧ ∀ r ∈ rows, r.length ≤ ws.length from
        ⟨fun j => by rw [ho.1 j, List.drop_of_length_le (by omega)]; simp [wideL], fun r hr => by
          obtain ⟨m, hm⟩ := List.getElem?_of_mem hr
          exact ho.2.1 m r (by have := (List.getElem?_eq_some_iff.1 hm).1; omega) hm⟩)
      clear hc hs ha hout ho hcount
      go_wp2
      go_ret
      exact ⟨_, ws, rfl, hown, hbel, HA.out⟩
end Go.Proofs.YtefkhjbgkaknmaaDoor
