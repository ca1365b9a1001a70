/- The law WordsTables, walked out of its callees' contracts. -/
import Derived.Test.YtefkhjbgkaknmaaW3d
import Derived.Test.YtefkhjbgkaknmaaL2a
set_option linter.unusedVariables false
namespace Go.Proofs.Ytefkhjbgkaknmaa
open Go.RowKit

attribute [local go_sem ↓ 10000] builtin_append_v

theorem infoStrs : (Try.prog.info? 24).map (fun i => (i.zero, i.size, i.bytes)) = some (some (.slice none 0 0), 1, 24) := by kernel_rfl

theorem great_count : ∀ (rows : List (List (List UInt8))) (n : Int), 0 ≤ n → greatGo rows n < 30000 → n + (rows.length : Int) ≤ 30000 ∧ ∀ r ∈ rows, longGo r 0 < 30000
  | [], n, _, h => ⟨by simp [greatGo] at h; simp; omega, by simp⟩
  | r :: rs, n, h0, h => by
    rw [greatGo] at h
    by_cases hc : n < 30000
    · rw [if_pos hc] at h
      have hge := long_ge r 0
      have hmono : ∀ (rs : List (List (List UInt8))) (n : Int), n ≤ greatGo rs n := by
        intro rs
        induction rs with
        | nil => intro n; simp [greatGo]
        | cons a t ih =>
          intro n
          rw [greatGo]
          by_cases h : n < 30000
          · rw [if_pos h]; have := ih (n + 1 + min (longGo a 0) 30000); have := long_ge a 0; omega
          · rw [if_neg h]; omega
      have h1 := great_count rs _ (by omega) h
      have h2 := hmono rs (n + 1 + min (longGo r 0) 30000)
      refine ⟨by simp; omega, ?_⟩
      intro x hx
      rcases List.mem_cons.1 hx with rfl | hx
      · omega
      · exact h1.2 x hx
    · rw [if_neg hc] at h; omega

/-- 'append([]string{}, l...)': a copy of its own, and owned. -/
theorem copy_own (w : World) (B : Nat) (hB : B ≤ w.heap.size) (ao : Option Addr) (l : List (List UInt8)) (cap : Nat) (h : CellsAt w ao (l.map sv)) (hn : ao = none → cap = 0) (hl : l.length ≤ 1000000) :
    ∃ bo cap' w1, (appendV #[24, 24] 24 #[.slice (some ⟨w.heap.size, 0, none⟩) 0 0, .slice ao l.length cap]).run Try.prog (w.alloc (.cells #[] 9)) = .ok (.slice bo l.length cap') w1 ∧
      OwnStrs w1 B (.slice bo l.length cap') l ∧ Below w.heap.size w w1 := by
  obtain ⟨i0, hi, hz0, hz1, hz2⟩ := info_parts infoStr
  have hown : (w.alloc (.cells #[] 9)).ownsRow w.heap.size 9 1 (.slice (some ⟨w.heap.size, 0, none⟩) 0 0) 0 [] :=
    ⟨by simp, .inr ⟨w.heap.size, 0, #[], rfl, Nat.le_refl _, alloc_new w _, Nat.le_refl _, by unfold maxLen; omega, by simp, by simp⟩⟩
  have hb0 : Below w.heap.size w (w.alloc (.cells #[] 9)) := (Below.refl _ w).alloc (Nat.le_refl _) _
  have h1 := h.below hb0
  cases ao with
  | none =>
    obtain ⟨b, off, ha, hc⟩ := h
    have hl0 : l = [] := by
      cases l with
      | nil => rfl
      | cons a r => have := ha (by simp); cases this
    subst hl0
    rw [hn rfl]
    have := run_append_owned_none (P := Try.prog) (w.alloc (.cells #[] 9)) w.heap.size 24 24 9 i0 1 Try.underlying24 hi _ 0 [] hown
    exact ⟨some ⟨w.heap.size, 0, none⟩, 0, _, this, ownsRow_mono hown hB, hb0⟩
  | some ad =>
    obtain ⟨v', w1, hrun, hown', hgrow, _⟩ := run_append_own (P := Try.prog) (w.alloc (.cells #[] 9)) w.heap.size 24 24 9 i0 (.string ⟨#[]⟩) 1 16 Try.underlying24 hi hz0 hz1 hz2 rfl (by decide) _ 0 [] hown ad l.length cap (l.map sv) (by simp) (fun j u hu => by
      obtain ⟨b, off, ha, hc⟩ := h1
      have hj : 0 < (l.map sv).length := by have := (List.getElem?_eq_some_iff.1 hu).1; omega
      obtain rfl : ad = ⟨b, off, none⟩ := by have := ha hj; cases this; rfl
      rw [add_plain]; exact hc j u hu) (by intro u hu; obtain ⟨x, _, rfl⟩ := List.mem_map.1 hu; rfl) (by unfold maxLen; omega) (by omega) (by simp)
    obtain ⟨bo, cap', rfl, hcells, _⟩ := CellsAt.of_owns hown'
    refine ⟨bo, cap', w1, by rw [Nat.zero_add] at hrun; exact hrun, ?_, hb0.grown hgrow (by simp) (fun k e => by cases e; exact Nat.le_refl _)⟩
    have := ownsRow_mono hown' hB
    simpa using this

theorem app_row (w1 : World) (B : Nat) (v x : Value) (k : Nat) (vs : List Value) (hB : B ≤ w1.heap.size) (hx : x.oneCell' = true) (h : w1.ownsRow B 24 1 v k vs) (hk : k < 1000000) :
    ∃ v' w2, (appendV #[22, 22] 22 #[v, .slice (some ⟨w1.heap.size, 0, none⟩) 1 1]).run Try.prog (w1.alloc (.cells #[x] 24)) = .ok v' w2 ∧
      w2.ownsRow B 24 1 v' (k + 1) (vs ++ [x]) ∧ (w1.alloc (.cells #[x] 24)).grownBy w2 v.ownBlock ∧ Below B w1 w2 := by
  obtain ⟨i0, hi, hz0, hz1, hz2⟩ := info_parts infoStrs
  obtain ⟨v', w2, hrun, hown', hgrow, hnil⟩ := run_append_own (P := Try.prog) (w1.alloc (.cells #[x] 24)) B 22 22 24 i0 (.slice none 0 0) 1 24 Try.underlying22 hi hz0 hz1 hz2 rfl (by decide) v k vs (h.alloc _) ⟨w1.heap.size, 0, none⟩ 1 1 [x] rfl (cell_one_new _ _ _) (by simp [hx]) (by unfold maxLen; omega) (by omega) (by simp; omega)
  exact ⟨v', w2, hrun, hown', hgrow, ((Below.refl B w1).alloc hB _).grown hgrow (by simp; omega) fun k hk => (h.lt k hk).1⟩

theorem own_ne {w : World} {B B' : Nat} {e e' : TypeId} {s s' n n' : Nat} {v v' : Value} {xs xs' : List Value} (h : w.ownsRow B e s v n xs) (h' : w.ownsRow B' e' s' v' n' xs') (hne : e ≠ e') : v.ownBlock = none ∨ v.ownBlock ≠ v'.ownBlock := by
  rcases h.2 with ⟨rfl, _⟩ | ⟨g, cap, cur, rfl, _, hg, _⟩
  · exact .inl rfl
  · right
    intro he
    rcases h'.2 with ⟨rfl, _⟩ | ⟨g', cap', cur', rfl, _, hg', _⟩
    · simp [Value.ownBlock] at he
    · simp [Value.ownBlock] at he
      subst he
      rw [hg] at hg'
      cases hg'
      exact hne rfl

/-- The first k rows have been copied, each into a row of the call's own. -/
def RowInv (rows : List (List (List UInt8))) (wr : World) (B : Nat) (vs : List Value) (k : Nat) : Prop :=
  vs.length = k ∧ ∀ i l, i < k → rows[i]? = some l → ∃ bo cap, vs[i]? = some (.slice bo l.length cap) ∧ OwnStrs wr B (.slice bo l.length cap) l

theorem rowInv_step {rows : List (List (List UInt8))} {wr w1 w2 : World} {B k : Nat} {v : Value} {vs : List Value} {r : List (List UInt8)} {bo : Option Addr} {cap : Nat} (h : RowInv rows wr B vs k) (ho : wr.ownsRow B 24 1 v k vs)
    (hr : rows[k]? = some r) (hb : Below wr.heap.size wr w1) (hx : OwnStrs w1 B (.slice bo r.length cap) r) (hg : (w1.alloc (.cells #[.slice bo r.length cap] 24)).grownBy w2 v.ownBlock) : RowInv rows w2 B (vs ++ [.slice bo r.length cap]) (k + 1) := by
  obtain ⟨h1, h2⟩ := h
  have ho1 := ownsRow_below ho hb
  refine ⟨by simp [h1], fun i l hi hl => ?_⟩
  by_cases hik : i < k
  · obtain ⟨bo', cap', q1, q2⟩ := h2 i l hik hl
    have q3 := ownsRow_below q2 hb
    exact ⟨bo', cap', by rw [List.getElem?_append_left (by omega)]; exact q1, (q3.alloc _).kept hg (own_ne q3 ho1 (by decide))⟩
  · obtain rfl : i = k := by omega
    rw [hr] at hl
    cases hl
    exact ⟨bo, cap, by rw [List.getElem?_append_right (by omega), h1]; simp, (hx.alloc _).kept hg (own_ne hx ho1 (by decide))⟩

theorem rowsAt_own {rows : List (List (List UInt8))} {wr : World} {B k : Nat} {ao : Option Addr} {vs : List Value} (h : RowInv rows wr B vs k) (hk : rows.length ≤ k) (hc : CellsAt wr ao vs) : RowsAt wr ao rows := by
  obtain ⟨h1, h2⟩ := h
  obtain ⟨b, off, ha, hcc⟩ := hc
  refine ⟨b, off, fun hp => ha (by omega), fun i l hl => ?_⟩
  have hi := (List.getElem?_eq_some_iff.1 hl).1
  obtain ⟨bo, c, q1, q2⟩ := h2 i l (by omega) hl
  obtain ⟨bo', c', e, q3, q4⟩ := CellsAt.of_owns q2
  cases e
  refine ⟨bo, c, hcc i _ q1, q3, ?_, fun e => (q4 e).2⟩
  rcases q2.2 with ⟨e, e2⟩ | ⟨g, c3, cur, e, _, _, e2, _⟩
  · simp at e; omega
  · cases e; exact e2

set_option maxRecDepth 100000 in
set_option maxHeartbeats 4000000 in
theorem tables_law (ao : Option Addr) (rows : List (List (List UInt8))) (cap : Nat) (w : World) (h : RowsAt w ao rows) (hs : Small rows) :
    Calls Try.prog 3 #[.slice ao rows.length cap] w fun e w' => e = .returned (.bool true) ∧ Below w.heap.size w w' := by
  have H0 := Lib.hid (And.intro h hs)
  by_cases hgr : 30000 ≤ greatGo rows 0
  · have HG := Lib.hid (decide_eq_true hgr)
    clear h hs hgr
    go_enter Try.func3, Try.ntmps3
    go_wp2_with fail
    refine (great_walk _ _ _ _ H0.out.1 H0.out.2).mono ?_
    rw [HG.out]
    rintro e w' ⟨rfl, rfl⟩
    go_wp2_with fail
    go_ret
    exact ⟨rfl, Below.refl _ _⟩
  obtain ⟨hrows, hlongs⟩ := great_count rows 0 (by omega) (by omega)
  have hcnt : ∀ r ∈ rows, r.length ≤ 1000000 := fun r hr => by
    have := (long_count r 0 (by omega) (by have := hlongs r hr; omega)).1; omega
  have HG := Lib.hid (decide_eq_false hgr)
  have HC := Lib.hid hcnt
  obtain ⟨b, off, ha, hc⟩ := h
  clear hs hgr hlongs hcnt
  go_enter Try.func3, Try.ntmps3
  go_wp2_with fail
  refine (great_walk _ _ _ _ H0.out.1 H0.out.2).mono ?_
  rw [HG.out]
  rintro e w' ⟨rfl, rfl⟩
  go_wp2_with fail
  go_loopw [3, 4] (fun v i wr => ∃ (k : Nat) (vs : List Value), k ≤ rows.length ∧ i = .int .i64 k ∧ wr.ownsRow w.heap.size 24 1 v k vs ∧ Hid (RowInv rows wr w.heap.size vs k) ∧ Below w.heap.size w wr) (fun _ i _ => rows.length - (intOf i).toNat)
  case atStart => exact ⟨0, [], Nat.zero_le _, rfl, World.ownsRow_nil _ _ _ _, Lib.hid ⟨rfl, fun i l hi => by omega⟩, Below.refl _ _⟩
  case round =>
    obtain ⟨k, vs, hk, rfl, hown, hinv, hbel⟩ := hrel
    by_cases hlt : k < rows.length
    · obtain rfl := ha (by omega)
      obtain ⟨r, hg, hd, hmem⟩ := drop_row hlt
      obtain ⟨bo, rcap, hck0, hcr0, _, hn0⟩ := hc k r hg
      have hck := cell_below hbel hck0
      obtain ⟨bo2, cap2, w1, hrun1, hown1, hb1⟩ := copy_own wr w.heap.size hbel.size bo r rcap (hcr0.below hbel) hn0 (HC.out r hmem)
      have ho1 := ownsRow_below hown hb1
      obtain ⟨v', w2, hrun2, hown2, hgrow, hb2⟩ := app_row w1 w.heap.size _ (.slice bo2 r.length cap2) k vs (by have := hb1.size; have := hbel.size; omega) rfl ho1 (by omega)
      have HI := Lib.hid (rowInv_step hinv.out hown hg hb1 hown1 hgrow)
      have hbel2 := hbel.trans ((hb1.mono hbel.size).trans hb2)
      have hck2 := cell_below ((Below.refl _ wr).alloc (Nat.le_refl _) (.cells #[] 9)) hck
      clear hc hown hinv hg hd hmem hck0 hcr0 hn0 hown1 hgrow ho1 hbel hb1 hb2 ha
      go_wp2_with fail
      go_roundw
      case rel => exact ⟨k + 1, _, by omega, by go_num, hown2, HI, hbel2⟩
      case measure => simp [intOf]; omega
    · obtain ⟨av, vcap, rfl, hcv, _⟩ := CellsAt.of_owns hown
      obtain rfl : k = rows.length := by omega
      have hra := rowsAt_own hinv.out (Nat.le_refl _) hcv
      have HR := Lib.hid hra
      have HB := Lib.hid hbel
      clear hc hown hinv ha hcv hra hbel
      go_wp2_with fail
      refine (table_walk av rows vcap wr HR.out H0.out.2 HC.out).mono ?_
      rintro e w3 ⟨rfl, hb3⟩
      have h3 := HR.out.below hb3
      have hbel3 := HB.out.trans (hb3.mono HB.out.size)
      have h3a := H0.out.1.below hbel3
      go_wp2_with fail
      refine (rtable_walk ao rows cap w3 h3a H0.out.2).mono ?_
      rintro e w4 ⟨rfl, rfl⟩
      obtain ⟨b1, off1, ha1, hc1⟩ := h3
      obtain ⟨b2, off2, ha2, hc2⟩ := h3a
      go_wp2_with fail
      go_loopw [9] (fun i wr => ∃ (j nd : Nat), j ≤ rows.length ∧ i = .int .i64 j ∧ wr = w3.drewN nd) (fun i _ => rows.length - (intOf i).toNat)
      case atStart => exact ⟨0, 0, Nat.zero_le _, rfl, rfl⟩
      case round =>
        obtain ⟨j, nd, hj, rfl, rfl⟩ := hrel
        by_cases hlt2 : j < rows.length
        · obtain rfl := ha1 (by omega)
          obtain rfl := ha2 (by omega)
          obtain ⟨r, hg, hd, hmem⟩ := drop_row hlt2
          obtain ⟨bo, rcap, hck, hcr, _, _⟩ := hc1 j r hg
          obtain ⟨bo2, rcap2, hck2, hcr2, _, _⟩ := hc2 j r hg
          have hrl := (H0.out.2.2 r hmem).1
          have hi1 : (j : Int) < (rows.length : Int) := by omega
          have hi0 : (0 : Int) ≤ (j : Int) := by omega
          clear hc1 hc2 hg hd hmem ha1 ha2 hlt
          go_wp2_with fail
          go_quiet ((go_at_call 9; refine (rsame_eq _ _ r _ rfl _ _ _ (hcr.below (below_dn (Below.refl _ _) _)) (hcr2.below (below_dn (Below.refl _ _) _)) hrl).mono ?_; rintro e w' ⟨rfl, m, rfl⟩; exact ⟨rfl, _, by rw [World.drewN_drewN, Nat.add_assoc]⟩))
          go_wp2_with fail
          go_roundw
          case rel => exact ⟨j + 1, _, by omega, by go_num, rfl⟩
          case measure => simp [intOf]; omega
        · clear hc1 hc2 ha1 ha2
          go_wp2_with fail
          go_ret
          exact ⟨rfl, below_dn hbel3 _⟩
end Go.Proofs.Ytefkhjbgkaknmaa
