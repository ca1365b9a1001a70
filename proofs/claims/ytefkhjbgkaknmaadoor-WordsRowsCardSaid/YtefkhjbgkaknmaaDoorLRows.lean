/- The law WordsRows, walked out of its callees' contracts. -/
import Derived.Test.YtefkhjbgkaknmaaDoorLBack
import Derived.Test.YtefkhjbgkaknmaaDoorPlR
import Derived.Test.YtefkhjbgkaknmaaDoorW3b
set_option linter.unusedVariables false
namespace Go.Proofs.YtefkhjbgkaknmaaDoor
open Go.RowKit Go.Shelf

attribute [local go_sem ↓ 10000] builtin_append_v

/-- Where the first m words of a row begin. -/
def begun (W : Nat → Nat) (m : Nat) : List Nat := (List.range m).map (colL W)
theorem begun_len (W : Nat → Nat) (m : Nat) : (begun W m).length = m := by simp [begun]
theorem begun_get (W : Nat → Nat) {m k : Nat} (h : k < m) : (begun W m)[k]? = some (colL W k) := by simp [begun, h]
theorem begun_succ (W : Nat → Nat) (m : Nat) : begun W (m + 1) = begun W m ++ [colL W m] := by simp [begun, List.range_succ]

theorem app_int (wr : World) (B : Nat) (v : Value) (ws : List Nat) (x : Nat) (hB : B ≤ wr.heap.size) (h : OwnInts wr B v ws) (hl : ws.length < 1000000) :
    ∃ g cap w1, (appendV #[38, 38] 38 #[v, .slice (some ⟨wr.heap.size, 0, none⟩) 1 1]).run Tryd.prog (wr.alloc (.cells #[iv x] 3)) = .ok (.slice (some ⟨g, 0, none⟩) (ws.length + 1) cap) w1 ∧
      OwnInts w1 B (.slice (some ⟨g, 0, none⟩) (ws.length + 1) cap) (ws ++ [x]) ∧ Below B wr w1 := by
  obtain ⟨i0, hi, hz0, hz1, hz2⟩ := info_parts infoInt
  obtain ⟨v', w1, hrun, hown', hgrow, hnil⟩ := run_append_own (P := Tryd.prog) (wr.alloc (.cells #[iv x] 3)) B 38 38 3 i0 (.int .i64 0) 1 8 Tryd.underlying38 hi hz0 hz1 hz2 rfl (by decide) v ws.length (ws.map iv) (h.alloc _) ⟨wr.heap.size, 0, none⟩ 1 1 [iv x] rfl (cell_one_new _ _ _) (by simp [Value.oneCell']) (by unfold maxLen; omega) (by omega) (by simp; omega)
  obtain ⟨g, cap, rfl⟩ := ownsRow_succ hown'
  refine ⟨g, cap, w1, hrun, ?_, ?_⟩
  · show w1.ownsRow _ _ _ _ (ws ++ [x]).length ((ws ++ [x]).map iv)
    rw [List.map_append, List.length_append]
    simpa [iv] using hown'
  · exact ((Below.refl B wr).alloc hB _).grown hgrow (by simp; omega) fun k hk => (h.lt k hk).1

theorem begun_own {w : World} {B : Nat} {v : Value} {W : Nat → Nat} {m : Nat} (h : OwnInts w B v (begun W m)) : ∃ ao cap, v = .slice ao m cap := by
  obtain ⟨ao, cap, e, _⟩ := CellsAt.of_owns h
  rw [begun_len] at e
  exact ⟨ao, cap, e⟩
theorem begun_some {w : World} {B : Nat} {v : Value} {W : Nat → Nat} {m k : Nat} (h : OwnInts w B v (begun W m)) (hk : k < m) : ∃ g cap, v = .slice (some ⟨g, 0, none⟩) m cap ∧ w.cell? ⟨g, k, none⟩ = some (iv (colL W k)) := by
  obtain ⟨g, cap, rfl⟩ := own_some h (by rw [begun_len]; omega)
  obtain ⟨hx, _⟩ := own_set h rfl (begun_get W hk)
  exact ⟨g, cap, by rw [begun_len], hx⟩
theorem begun_app (wr : World) (B : Nat) (ao : Option Addr) (cap m : Nat) (W : Nat → Nat) (x : Nat) (hx : colL W m = x) (hB : B ≤ wr.heap.size) (h : OwnInts wr B (.slice ao m cap) (begun W m)) (hl : m < 1000000) :
    ∃ g cap' w1, (appendV #[38, 38] 38 #[.slice ao m cap, .slice (some ⟨wr.heap.size, 0, none⟩) 1 1]).run Tryd.prog (wr.alloc (.cells #[.int .i64 (x : Int)] 3)) = .ok (.slice (some ⟨g, 0, none⟩) (m + 1) cap') w1 ∧
      OwnInts w1 B (.slice (some ⟨g, 0, none⟩) (m + 1) cap') (begun W (m + 1)) ∧ Below B wr w1 ∧ w1.cell? ⟨g, m, none⟩ = some (.int .i64 (x : Int)) := by
  subst hx
  obtain ⟨g, cap', w1, h1, h2, h3⟩ := app_int wr B _ (begun W m) (colL W m) hB h (by rw [begun_len]; exact hl)
  rw [begun_len, ← begun_succ] at h2
  rw [begun_len] at h1
  refine ⟨g, cap', w1, h1, h2, h3, ?_⟩
  exact (own_set h2 (begun_len W (m + 1)) (begun_get W (Nat.lt_succ_self m))).1

/-- What stands between two words of a row's line: j words are behind, at a. -/
def RowAt (W : Nat → Nat) (r : List (List UInt8)) (line : List UInt8) (j a : Nat) : Prop :=
  ∃ pre n, pre.length = a ∧ line = pre ++ (List.replicate n 32 ++ cellsL W j (r.drop j)) ∧ (j < r.length → a + n = colL W j) ∧ (r.length ≤ j → n = 0)
theorem rowAt_zero (W : Nat → Nat) (r : List (List UInt8)) : RowAt W r (cellsL W 0 r) 0 0 := ⟨[], 0, rfl, by simp, fun _ => rfl, fun _ => rfl⟩
theorem rowAt_le {W : Nat → Nat} {r : List (List UInt8)} {line : List UInt8} {j a : Nat} (h : RowAt W r line j a) : a ≤ (ba line).size := by
  obtain ⟨pre, n, rfl, h, _⟩ := h
  rw [ba_size, h]; simp
theorem rowAt_end {W : Nat → Nat} {r : List (List UInt8)} {line : List UInt8} {j a : Nat} (h : RowAt W r line j a) (hj : ¬ j < r.length) : a = (ba line).size := by
  obtain ⟨pre, n, rfl, h, _, h3⟩ := h
  rw [ba_size, h, h3 (by omega), cells_end _ _ _ hj]; simp
theorem ba_get {l : List UInt8} {k : Nat} {c : UInt8} (h : l[k]? = some c) : ∃ hk : k < (ba l).size, (ba l)[k] = c := by
  have hk : k < (ba l).size := by rw [ba_size]; exact (List.getElem?_eq_some_iff.1 h).1
  refine ⟨hk, ?_⟩
  have := bl_get (ba l) k hk
  rw [bl_ba, h] at this
  exact (Option.some.inj this).symm
/-- At a word that is still ahead: blanks up to its place, and there the word. -/
theorem rowAt_step {W : Nat → Nat} {r : List (List UInt8)} {line s : List UInt8} {j a : Nat} (h : RowAt W r line j a) (hs : r[j]? = some s) (hW : s.length ≤ W j) (hw : wordL s = true) :
    ∃ n, a + n = colL W j ∧ colL W j + (ba s).size ≤ (ba line).size ∧ (∀ q, q < n → ∃ hk : a + q < (ba line).size, (ba line)[a + q].toNat = 32) ∧ (∃ hk : colL W j < (ba line).size, (ba line)[colL W j].toNat ≠ 32) ∧
      (ba line).extract (colL W j) (colL W j + (ba s).size) = ba s ∧ RowAt W r line (j + 1) (colL W j + (ba s).size) := by
  obtain ⟨pre, n, rfl, hl, h2, _⟩ := h
  have hj := (List.getElem?_eq_some_iff.1 hs).1
  obtain ⟨pre', n', post, e1, e2, e3, e4, e5⟩ := row_step W r line pre s n j hs hW hl (h2 hj)
  obtain ⟨c1, c2⟩ := word_cut e1
  have hat := h2 hj
  rw [hat] at c1 c2
  refine ⟨n, hat, by rw [ba_size, ba_size]; exact c1, fun q hq => ?_, ?_, ?_, ⟨pre', n', by rw [e3, ba_size], e2, fun h => by rw [ba_size, ← e3]; exact e4 h, e5⟩⟩
  · obtain ⟨hk, he⟩ := ba_get (blank_at hl hq)
    exact ⟨hk, by rw [he]; rfl⟩
  · obtain ⟨c, hc, hne⟩ := word_at e1 hw
    rw [hat] at hc
    obtain ⟨hk, he⟩ := ba_get hc
    exact ⟨hk, by rw [he]; exact hne⟩
  · apply bl_inj
    rw [bl_extract, bl_ba, bl_ba, ba_size, Nat.add_sub_cancel_left]
    rw [List.drop_take, Nat.add_sub_cancel_left] at c2
    exact c2

/-- What a table is and what its lines are. -/
theorem rows_one (rows : List (List (List UInt8))) : ∃ (s : List UInt8) (e : Int), tableL rows = (s, e) ∧
    ((s = [] ∧ (e != 0) = true) ∨ (e = 0 ∧ (∀ r ∈ rows, ∀ x ∈ r, wordL x = true) ∧ rows.length ≤ 512 ∧ s.length ≤ 16384 ∧ linesL s = (rows.map (cellsL (wideL rows) 0), 0) ∧ ∀ r ∈ rows, (cellsL (wideL rows) 0 r).length ≤ 16384)) := by
  rcases table_codes rows with h | ⟨h1, h2⟩
  · obtain ⟨q1, q2, q3, q4⟩ := table_lines rows h
    refine ⟨(tableL rows).1, (tableL rows).2, rfl, .inr ⟨h, q1, q2, q3, q4, fun r hr => ?_⟩⟩
    have h5 : textL (linesL (tableL rows).1).1 = ((tableL rows).1, 0) := text_lines _ (by rw [q4])
    rw [q4] at h5
    have := text_in _ _ h5 (cellsL (wideL rows) 0 r) (List.mem_map.2 ⟨r, hr, rfl⟩)
    omega
  · refine ⟨(tableL rows).1, (tableL rows).2, rfl, .inl ⟨h1, ?_⟩⟩
    rcases h2 with h2 | h2 <;> rw [h2] <;> rfl

set_option maxRecDepth 100000 in
set_option maxHeartbeats 8000000 in
theorem rows_law (ao : Option Addr) (rows : List (List (List UInt8))) (cap : Nat) (w : World) (h : Std w) (hr : RowsAt w ao rows) (hs : Small rows) :
    Calls Tryd.prog 5 #[.slice ao rows.length cap] w fun e w' => e = .returned (.bool true) ∧ Below w.heap.size w w' := by
  have H := Lib.hid h
  have H0 := Lib.hid (And.intro hr hs)
  have hemp : (ba ([] : List UInt8)).toList.isEmpty = true := by rw [Lib.toList_data]; rfl
  by_cases hgr : 30000 ≤ greatGo rows 0
  · have HG := Lib.hid (decide_eq_true hgr)
    clear h hr hs hgr
    go_enter Tryd.func5, Tryd.ntmps5
    go_wp2_with fail
    refine (alive_walk w H.out).mono ?_
    rintro e w1 ⟨rfl, hb1⟩
    go_wp2_with fail
    refine (great_walk _ _ _ _ (H0.out.1.below hb1) H0.out.2).mono ?_
    rw [HG.out]
    rintro e w' ⟨rfl, rfl⟩
    go_wp2_with fail
    go_ret
    exact ⟨rfl, hb1⟩
  obtain ⟨hrows, hlongs⟩ := great_count rows 0 (by omega) (by omega)
  have hcnt : ∀ r ∈ rows, r.length ≤ 60000 := fun r hr => by
    have := (long_count r 0 (by omega) (by have := hlongs r hr; omega)).1; omega
  have HG := Lib.hid (decide_eq_false hgr)
  have HC := Lib.hid hcnt
  obtain ⟨s, e, htab, hcase⟩ := rows_one rows
  have T1 := Lib.hid (fun w (hr : RowsAt w ao rows) => table_walk ao rows cap w hr hs (fun r h => Nat.le_trans (hcnt r h) (by omega)))
  unfold TableRes' at T1
  rw [htab] at T1
  have L1 := Lib.hid (fun w (h : s.length ≤ 16384) => lines_walk (ba s) w (by rw [ba_size]; omega))
  unfold LinesRes at L1
  rw [bl_ba] at L1
  clear h hr hs hgr hlongs hcnt htab
  rcases hcase with ⟨rfl, he⟩ | ⟨rfl, hw, hrl, hsl, hlines, hin⟩
  · go_enter Tryd.func5, Tryd.ntmps5
    go_wp2_with fail
    refine (alive_walk w H.out).mono ?_
    rintro e w1 ⟨rfl, hb1⟩
    go_wp2_with fail
    refine (great_walk _ _ _ _ (H0.out.1.below hb1) H0.out.2).mono ?_
    rw [HG.out]
    rintro e w' ⟨rfl, rfl⟩
    go_wp2_with fail
    refine (T1.out _ (H0.out.1.below hb1)).mono ?_
    rintro e w2 ⟨rfl, hb2⟩
    go_wp2_with fail
    go_ret
    exact ⟨rfl, hb1.trans (hb2.mono hb1.size)⟩
  rw [hlines] at L1
  have HW := Lib.hid (And.intro hw (And.intro hsl hin))
  clear hw hlines hin
  go_enter Tryd.func5, Tryd.ntmps5
  go_wp2_with fail
  refine (alive_walk w H.out).mono ?_
  rintro e w1 ⟨rfl, hb1⟩
  go_wp2_with fail
  refine (great_walk _ _ _ _ (H0.out.1.below hb1) H0.out.2).mono ?_
  rw [HG.out]
  rintro e w' ⟨rfl, rfl⟩
  go_wp2_with fail
  refine (T1.out _ (H0.out.1.below hb1)).mono ?_
  rintro e w2 ⟨rfl, hb2⟩
  have B2 := hb1.trans (hb2.mono hb1.size)
  go_wp2_with fail
  refine (L1.out _ HW.out.2.1).mono ?_
  rintro e w3 ⟨v3, rfl, ho3, hb3⟩
  obtain ⟨a3, c3, rfl, hc3, _⟩ := CellsAt.of_owns ho3
  have B3 := Lib.hid (B2.trans (hb3.mono B2.size))
  have hr3 := H0.out.1.below B3.out
  clear ho3 hb3 B2 hb2 hb1
  rw [List.length_map]
  obtain ⟨b, off, ha, hc⟩ := hr3
  obtain ⟨bl, loff, hla, hlc⟩ := hc3
  rw [List.length_map, List.length_map] at hla
  go_wp2_with fail
  go_loopw [8, 9] (fun v i wr => ∃ (k m : Nat), k ≤ rows.length ∧ i = .int .i64 k ∧ m ≤ 60000 ∧ OwnInts wr w3.heap.size v (begun (wideL rows) m) ∧ Below w3.heap.size w3 wr) (fun _ i _ => rows.length - (intOf i).toNat)
  case atStart => exact ⟨0, 0, Nat.zero_le _, rfl, Nat.zero_le _, World.ownsRow_nil _ _ _ _, Below.refl _ _⟩
  case round =>
    obtain ⟨k, m, hk, rfl, hm, hown, hbel⟩ := hrel
    by_cases hlt : k < rows.length
    · obtain rfl := ha (by omega)
      obtain rfl := hla (by omega)
      obtain ⟨r, hg, hd, hmem⟩ := drop_row hlt
      obtain ⟨bo, rcap, hck0, hcr, _, _⟩ := hc k r hg
      have hck := cell_below hbel hck0
      obtain ⟨line, hline⟩ : ∃ line, cellsL (wideL rows) 0 r = line := ⟨_, rfl⟩
      have hlk0 := hlc k (sv line) (by rw [List.getElem?_map, List.getElem?_map, hg, ← hline]; rfl)
      have hlk := cell_below hbel hlk0
      have hrl2 := HC.out r hmem
      have hsz : (ba line).size ≤ 16384 := by rw [ba_size, ← hline]; exact HW.out.2.2 r hmem
      have HWR := Lib.hid (fun j s (h : r[j]? = some s) => And.intro (le_wide (rows := rows) hg h) (HW.out.1 r hmem s (List.mem_of_getElem? h)))
      have HST := Lib.hid (show RowAt (wideL rows) r line 0 0 from hline ▸ rowAt_zero (wideL rows) r)
      have HCR := Lib.hid hcr
      generalize hWW : wideL rows = W at *
      have HK := Lib.hid (And.intro hck0 hlk0)
      clear hc hlc hd hg hmem hline hck0 hlk0 ha hla hcr hWW HW HC
      go_wp2_with fail
      go_loopw [8, 10, 11] (fun v at' i wr => ∃ (j a m : Nat), j ≤ r.length ∧ i = .int .i64 j ∧ at' = .int .i64 a ∧ a ≤ (ba line).size ∧ j ≤ m ∧ m ≤ 60000 ∧ OwnInts wr w3.heap.size v (begun W m) ∧ Below w3.heap.size w3 wr ∧ Hid (RowAt W r line j a)) (fun _ _ i _ => r.length - (intOf i).toNat)
      case atStart => exact ⟨0, 0, m, Nat.zero_le _, rfl, rfl, Nat.zero_le _, Nat.zero_le _, hm, hown, hbel, HST⟩
      case round =>
        clear hown hbel hck hlk hm HST
        obtain ⟨j, a, m, hj, rfl, rfl, hsa, hjm, hm, hown, hbel, hat⟩ := hrel
        have hck := cell_below hbel HK.out.1
        have hlk := cell_below hbel HK.out.2
        by_cases hlt2 : j < r.length
        · obtain ⟨b2, off2, ha2, hc2⟩ := HCR.out
          obtain rfl := ha2 (by simp; omega)
          obtain ⟨s2, r', hd2, hg2, hr2, hmem2⟩ := drop_parts r j hlt2
          have hcs0 := hc2 j (sv s2) (by simp [hg2])
          have hcs := cell_below hbel hcs0
          obtain ⟨hsW, hsw⟩ := HWR.out j s2 hg2
          obtain ⟨n, hn, hle, hbl, hwd, hext, hnext⟩ := rowAt_step hat.out hg2 hsW hsw
          have hget : ∀ v, j < m → (begun W m)[j]? = some v → v = colL W j := fun v h e => by rw [begun_get W h] at e; exact (Option.some.inj e).symm
          obtain ⟨x, hx⟩ : ∃ x, colL W j = x := ⟨_, rfl⟩
          rw [hx] at hn hle hwd hext hnext
          have HB := Lib.hid hbl
          have HN := Lib.hid hnext
          have HG := Lib.hid (And.intro hx hcs0)
          clear hc2 hd2 hg2 hr2 hmem2 hsW hsw hbl hnext hat hget hx hcs0
          go_wp2_with fail
          go_loop [10] (fun at' => ∃ q : Nat, q ≤ n ∧ at' = .int .i64 ((a + q : Nat) : Int)) (fun at' => (ba line).size - (intOf at').toNat)
          case atStart => exact ⟨0, Nat.zero_le _, rfl⟩
          case round =>
            obtain ⟨q, hq, rfl⟩ := hrel
            by_cases hqn : q < n
            · obtain ⟨hk2, he⟩ := HB.out q hqn
              have hbb := byte_t (m := 32) 32 rfl hk2 he
              clear he hwd hext
              go_wp2_with fail
              go_round
              case rel => exact ⟨q + 1, by omega, by go_num⟩
              case measure => simp [intOf]; omega
            · have hqe : a + q = x := by omega
              rw [hqe]
              obtain ⟨hk2, he⟩ := hwd
              have hbb := byte_f (m := 32) 32 rfl hk2 he
              have hi0 : (0 : Int) ≤ (k : Int) := by omega
              have hi1 : (k : Int) < (rows.length : Int) := by omega
              have hj0 : (0 : Int) ≤ (j : Int) := by omega
              have hj1 : (j : Int) < (r.length : Int) := by omega
              have hx0 : (0 : Int) ≤ (x : Int) := by omega
              have hx1 : (x : Int) ≤ (x : Int) + ((ba s2).size : Int) := by omega
              have hx2 : (x : Int) + ((ba s2).size : Int) ≤ ((ba line).size : Int) := by omega
              have hx3 : ((x : Int) + ((ba s2).size : Int)).toNat = x + (ba s2).size := by omega
              by_cases hjm2 : j = m
              · obtain ⟨ao3, cap3, rfl⟩ := begun_own hown
                obtain ⟨g, cap4, w5, hrun, hown5, hbel5, hx5⟩ := begun_app wr w3.heap.size ao3 cap3 m W x (by rw [← hjm2]; exact HG.out.1) hbel.size hown (by omega)
                have hjeq : ((j : Int) == (m : Int)) = true := by simp; omega
                have hjl : (j : Int) < ((m + 1 : Nat) : Int) := by omega
                have hjl2 : (j : Int) < (m : Int) + 1 := by omega
                have hB5 := hbel.trans hbel5
                have hcs5 := cell_below hB5 HG.out.2
                have hlk5 := cell_below hB5 HK.out.2
                have hck5 := cell_below hB5 HK.out.1
                rw [← hjm2] at hx5
                have hm1 : m + 1 ≤ 60000 := by omega
                clear he hqn hown hbel hqe hbel5 hjm2
                go_wp2_with fail
                go_quiet (fail)
                go_wp2_with fail
                go_roundw
                case rel => exact ⟨j + 1, x + (ba s2).size, m + 1, by omega, by go_num, by go_num, by omega, by omega, hm1, hown5, below_dn hB5 _, HN⟩
                case measure => simp [intOf]; omega
              · obtain ⟨g, cap4, rfl, hx5⟩ := begun_some hown (show j < m by omega)
                rw [HG.out.1] at hx5
                have hx5 : wr.cell? ⟨g, j, none⟩ = some (.int .i64 (x : Int)) := hx5
                have hjeq : ((j : Int) == (m : Int)) = false := by simp; omega
                have hjl : (j : Int) < (m : Int) := by omega
                clear he hqn hqe hjm2
                go_wp2_with fail
                go_quiet (fail)
                go_wp2_with fail
                go_roundw
                case rel => exact ⟨j + 1, x + (ba s2).size, m, by omega, by go_num, by go_num, by omega, by omega, by omega, hown, below_dn hbel _, HN⟩
                case measure => simp [intOf]; omega
        · have hae := rowAt_end hat.out hlt2
          clear hat
          go_wp2_with fail
          go_roundw
          case rel => exact ⟨k + 1, m, by omega, by go_num, by omega, hown, hbel⟩
          case measure => simp [intOf]; omega
    · have B4 := B3.out.trans (hbel.mono B3.out.size)
      clear ha hla hc hlc
      go_wp2_with fail
      go_ret
      exact ⟨rfl, B4⟩
end Go.Proofs.YtefkhjbgkaknmaaDoor
