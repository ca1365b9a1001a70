/- Walks of the package words: Words. -/
import Derived.Test.YtefkhjbgkaknmaaDoorIt
import Derived.Test.YtefkhjbgkaknmaaDoorW2b
set_option linter.unusedVariables false
namespace Go.Proofs.YtefkhjbgkaknmaaDoor
open Go.RowKit Go.Shelf
attribute [local go_sem] Oper.semAt_some

theorem parts_walk (s : ByteArray) (w : World) :
    Calls Tryd.prog 48 #[.string s] w fun e w' => e = .returned (.func (.func 68) #[] #[.pointer (some ⟨w.heap.size, 0, none⟩)]) ∧ w.alloc (.cells #[.string s] 9) = w' := by
  go_enter Tryd.func48, Tryd.ntmps48
  go_wp2
  go_ret
  exact ⟨rfl, rfl⟩

/-- Between two rounds: all that came are words, and they lie in 'out'. -/
def WI (w : World) (B : Nat) (pre : List BStr) (W : World) : Prop :=
  (pre.map bs).all wordL = true ∧ (∃ v, W.heap[B]? = some (.cells #[v] 35 (0, 0)) ∧ W.ownsRow (B + 3) 9 1 v pre.length (pre.map (fun x => Value.string x.1))) ∧ W.heap[B + 1]? = some (.cells #[.int .i64 0] 22 (0, 0)) ∧ Below B w W
/-- A round has left: what came last is no word. -/
def WX (w : World) (B : Nat) (c : Code) (pre : List BStr) (W : World) : Prop :=
  c = .ret ∧ (pre.map bs).all wordL = false ∧ W.heap[B]? = some (.cells #[.slice none 0 0] 35 (0, 0)) ∧ W.heap[B + 1]? = some (.cells #[.int .i64 11] 22 (0, 0)) ∧ Below B w W
theorem wi_own (w : World) (B D : Nat) (hB : B ≤ w.heap.size) (hD : B + 3 ≤ D) : OwnO (B + 2) D (WI w B) := by
  rintro s W W' row ⟨h1, ⟨v, h2, h3⟩, h4, h5⟩ hg hr
  exact ⟨h1, ⟨v, heap_O h2 rfl hg hr (by omega), ownsRow_O h3 hg hr (by omega)⟩, heap_O h4 rfl hg hr (by omega), below_O h5 hg hr (by omega) (by omega) hB⟩
theorem wx_own (w : World) (B D : Nat) (hB : B ≤ w.heap.size) (hD : B + 3 ≤ D) (c : Code) : OwnO (B + 2) D (WX w B c) := by
  rintro s W W' row ⟨h0, h1, h2, h4, h5⟩ hg hr
  exact ⟨h0, h1, heap_O h2 rfl hg hr (by omega), heap_O h4 rfl hg hr (by omega), below_O h5 hg hr (by omega) (by omega) hB⟩

theorem words_done (s : ByteArray) (xs : List BStr) (h0 : ¬ 16384 < s.size) (h1 : (xs.map bs).all wordL = true) (h2 : xs.map bs = partsL (bl s)) : wordsL (bl s) = (xs.map bs, 0) := by
  unfold wordsL
  rw [if_neg (by rw [bl_length]; exact h0)]
  by_cases h : (bl s).length = 0
  · rw [if_pos h, h2, partsL, if_pos (List.length_eq_zero_iff.1 h)]
  · rw [if_neg h]
    have e : partsL (bl s) = ptGo (bl s) [] := by unfold partsL; rw [if_neg (fun e => h (by rw [e]; rfl))]
    rw [← e, ← h2, if_pos h1]
theorem words_stop (s : ByteArray) (pre : List BStr) (h0 : ¬ 16384 < s.size) (h1 : (pre.map bs).all wordL = false) (h2 : pre.map bs <+: partsL (bl s)) : wordsL (bl s) = ([], 11) := by
  obtain ⟨r, hr⟩ := h2
  have hall : (partsL (bl s)).all wordL = false := by rw [← hr, List.all_append, h1]; rfl
  unfold wordsL
  rw [if_neg (by rw [bl_length]; exact h0)]
  by_cases h : (bl s).length = 0
  · rw [partsL, if_pos (List.length_eq_zero_iff.1 h)] at hall; cases hall
  · rw [if_neg h]
    have e : partsL (bl s) = ptGo (bl s) [] := by unfold partsL; rw [if_neg (fun e => h (by rw [e]; rfl))]
    rw [← e, if_neg (by rw [hall]; simp)]

theorem words_end (w : World) (s : ByteArray) (xs : List BStr) {D : Nat} {W4 : World} {ao : Option Addr} {cap : Nat} {tmps : Array Value} {n : Nat} (hD : w.heap.size + 3 ≤ D) (hK : W4.heap[D]? = some (.deferred (some [])))
    (h2 : W4.heap[w.heap.size]? = some (.cells #[.slice ao xs.length cap] 35 (0, 0))) (h4 : W4.heap[w.heap.size + 1]? = some (.cells #[.int .i64 0] 22 (0, 0)))
    (h3 : W4.ownsRow (w.heap.size + 3) 9 1 (.slice ao xs.length cap) xs.length (xs.map fun x => Value.string x.1)) (hb : Below w.heap.size w W4) (hx : wordsL (bl s) = (xs.map bs, 0))
    (t2 : tmps[2]? = some (.pointer (some ⟨w.heap.size, 0, none⟩)) := by rfl) (t3 : tmps[3]? = some (.pointer (some ⟨w.heap.size + 1, 0, none⟩)) := by rfl) :
    LeavesInM Fence.wide n Tryd.prog Tryd.f20 tmps (WordsRes w.heap.size (bl s) w) [] .returning (W4.putObj D (.deferred none)) := by
  have q0 : (W4.putObj D (.deferred none)).cell? ⟨w.heap.size, 0, none⟩ = some (.slice ao xs.length cap) := by rw [Lib.cell_of_heap ((World.putObj_heap_other (by omega)).trans h2)]; rfl
  have q1 : (W4.putObj D (.deferred none)).cell? ⟨w.heap.size + 1, 0, none⟩ = some (.int .i64 0) := by rw [Lib.cell_of_heap ((World.putObj_heap_other (by omega)).trans h4)]; rfl
  refine ⟨.tuple #[.slice ao xs.length cap, .int .i64 0], by simp [results, Tryd.results20, go_sem, t2, t3, q0, q1], .slice ao xs.length cap, by rw [hx], ?_, ?_⟩
  · rw [hx]
    have := ownsRow_mono (ownsRow_putObj h3 (.deferred none) hK rfl) (base' := w.heap.size) (by omega)
    show World.ownsRow _ _ _ _ _ (xs.map bs).length ((xs.map bs).map sv)
    rw [List.length_map, List.map_map]
    have e : xs.map (sv ∘ bs) = xs.map fun x => Value.string x.1 := List.map_congr_left fun x _ => by simp [sv, bs, ba_bl]
    rw [e]; exact this
  · exact hb.grown (grownBy_putObj' W4 D _) hb.size (fun k e => by cases e; omega)
theorem words_end' (w : World) (s : ByteArray) {D : Nat} {W4 : World} {tmps : Array Value} {n : Nat} (hD : w.heap.size + 3 ≤ D) (hK : W4.heap[D]? = some (.deferred (some [])))
    (h2 : W4.heap[w.heap.size]? = some (.cells #[.slice none 0 0] 35 (0, 0))) (h4 : W4.heap[w.heap.size + 1]? = some (.cells #[.int .i64 11] 22 (0, 0)))
    (hb : Below w.heap.size w W4) (hx : wordsL (bl s) = ([], 11))
    (t2 : tmps[2]? = some (.pointer (some ⟨w.heap.size, 0, none⟩)) := by rfl) (t3 : tmps[3]? = some (.pointer (some ⟨w.heap.size + 1, 0, none⟩)) := by rfl) :
    LeavesInM Fence.wide n Tryd.prog Tryd.f20 tmps (WordsRes w.heap.size (bl s) w) [] .returning (W4.putObj D (.deferred none)) := by
  have q0 : (W4.putObj D (.deferred none)).cell? ⟨w.heap.size, 0, none⟩ = some (.slice none 0 0) := by rw [Lib.cell_of_heap ((World.putObj_heap_other (by omega)).trans h2)]; rfl
  have q1 : (W4.putObj D (.deferred none)).cell? ⟨w.heap.size + 1, 0, none⟩ = some (.int .i64 11) := by rw [Lib.cell_of_heap ((World.putObj_heap_other (by omega)).trans h4)]; rfl
  refine ⟨.tuple #[.slice none 0 0, .int .i64 11], by simp [results, Tryd.results20, go_sem, t2, t3, q0, q1], .slice none 0 0, by rw [hx], ?_, ?_⟩
  · rw [hx]; exact World.ownsRow_nil _ _ _ _
  · exact hb.grown (grownBy_putObj' W4 D _) hb.size (fun k e => by cases e; omega)

set_option maxRecDepth 100000 in
set_option maxHeartbeats 2000000 in
theorem words_in (s : ByteArray) (w : World) (hs : s.size ≤ 140737488351232) :
    CallsIn Fence.wide 3 Tryd.prog 20 #[.string s] w (WordsRes w.heap.size (bl s) w) := by
  obtain ⟨i0, hi, hz0, hz1, hz2⟩ := info_parts infoStr
  refine callsIn_of_wp_marks Tryd.func20 rfl trivial ?_ rfl
  simp only [Tryd.ntmps20, List.size_toArray, List.length_cons, List.length_nil, Nat.reduceAdd, Nat.reduceSub, Array.replicate_succ, Array.replicate_zero, List.push_toArray, List.append_toArray, List.nil_append, List.cons_append]
  by_cases hm : 16384 < s.size
  · have HR := Lib.hid (fun w' => words_many' s w w' hm)
    gi_wp2
    exact ⟨_, by simp [results, Tryd.results20, go_sem], HR.out _ (((Below.refl _ w).alloc (Nat.le_refl _) _).alloc (by simp) _)⟩
  · gi_wp2_with (refine ⟨trivial, ?_⟩; gi_at_call 48; refine (callsIn_wide.2 (parts_walk s _)).mono ?_; rintro e w' ⟨rfl, rfl⟩)
    obtain ⟨w3, hw3⟩ : ∃ w3, (((w.alloc (.cells #[.slice none 0 0] 35)).alloc (.cells #[.int .i64 0] 22)).alloc (.cells #[.string s] 9)) = w3 := ⟨_, rfl⟩
    have hsz3 : w3.heap.size = w.heap.size + 3 := by rw [← hw3]; simp
    have hB3 : w3.heap[w.heap.size]? = some (.cells #[.slice none 0 0] 35 (0, 0)) := by
      rw [← hw3]; exact (Below.heap_alloc _ _ _ (by simp; omega)).trans ((Below.heap_alloc _ _ _ (by simp)).trans (alloc_new w _))
    have hE3 : w3.heap[w.heap.size + 1]? = some (.cells #[.int .i64 0] 22 (0, 0)) := by
      have := alloc_new (w.alloc (.cells #[.slice none 0 0] 35)) (.cells #[.int .i64 0] 22)
      rw [World.size_alloc] at this
      rw [← hw3]; exact (Below.heap_alloc _ _ _ (by simp)).trans this
    have hS3 : w3.heap[w.heap.size + 2]? = some (.cells #[.string s] 9 (0, 0)) := by
      have := alloc_new ((w.alloc (.cells #[.slice none 0 0] 35)).alloc (.cells #[.int .i64 0] 22)) (.cells #[.string s] 9)
      rw [World.size_alloc, World.size_alloc] at this
      rw [← hw3]; exact this
    have hbel3 : Below w.heap.size w w3 := by rw [← hw3]; exact (((Below.refl _ w).alloc (Nat.le_refl _) _).alloc (by simp) _).alloc (by simp; omega) _
    rw [hw3]
    clear hw3
    have HZ := Lib.hid hsz3
    refine wpIn_rangeFunc_O (o := w.heap.size + 2) rfl (by omega) (gf := 68) (lb := #[.pointer (some ⟨w.heap.size + 2, 0, none⟩)]) rfl trivial (enters_of Tryd.func68 (by kernel_rfl) rfl)
      (parts1_seq (3 - 1) (w.heap.size + 2) s w3 (by omega) hs hS3) (by omega) (fun h k => k.trans h) (fun W l ob o' hl _ _ => World.putObj_heap_other (by omega)) (fun x => rfl)
      (WI w w.heap.size) (WX w w.heap.size) (wi_own w _ _ (Nat.le_refl _) (by omega)) (wx_own w _ _ (Nat.le_refl _) (by omega))
      ⟨rfl, ⟨_, hB3, World.ownsRow_nil _ _ _ _⟩, hE3, hbel3⟩
      (fun x => { tmps := #[.string s, undef, .pointer (some ⟨w.heap.size, 0, none⟩), .pointer (some ⟨w.heap.size + 1, 0, none⟩), .string x.1, .string s, .int .i64 s.size, .bool (decide (16384 < (s.size : Int))), .string s, .func (.func 68) #[] #[.pointer (some ⟨w.heap.size + 1 + 1, 0, none⟩)], .string x.1, undef, undef, undef, undef, undef, undef, undef, undef], defers := [] }) ?assign ?body ?done ?stop
    case assign =>
      intro l x W K hK
      gi_wp2
      exact hK
    case body =>
      rintro l pre x W ⟨h1, ⟨v, h2, h3⟩, h4, h5⟩ hlen hsw
      have c0 : W.cell? ⟨w.heap.size, 0, none⟩ = some v := by rw [Lib.cell_of_heap h2]; rfl
      have c1 : W.cell? ⟨w.heap.size + 1, 0, none⟩ = some (.int .i64 0) := by rw [Lib.cell_of_heap h4]; rfl
      have f0 : W.frozen? ⟨w.heap.size, 0, none⟩ = false := Lib.frozen_of_heap h2 0
      have f1 : W.frozen? ⟨w.heap.size + 1, 0, none⟩ = false := Lib.frozen_of_heap h4 0
      have hx := x.2
      have hl1 : pre.length ≤ s.size := by have := parts_len (bl s); rw [bl_length] at this; omega
      have hsB := h5.size
      by_cases hw : wordL (bs x) = true
      · have HW := Lib.hid hw
        have H1 := Lib.hid h1
        clear h1 hw
        gi_wp2_with (first | (refine ⟨trivial, ?_⟩; gi_at_call 32; refine (CallsIn.inRound l (callsIn_wide.2 (is_yes _ _ hx HW.out))).mono ?_; rintro e w' ⟨rfl, rfl⟩) | (gi_at_builtin; refine wpListIn_append_own _ rfl _ _ 35 rfl (w.heap.size + 3) 9 i0 (.string ⟨#[]⟩) 1 16 Tryd.underlying35 hi hz0 hz1 hz2 rfl (by decide) _ _ _ rfl (h3.alloc _) ⟨W.heap.size, 0, none⟩ 1 1 [.string x.1] rfl rfl (cell_one_new _ _ _) (by simp [Value.oneCell']) (by unfold maxLen; omega) (by omega) (by simp; omega) ?_; intro v' w1 hown' hgrow _; obtain ⟨g', cap', rfl⟩ := ownsRow_succ hown'; obtain ⟨hko, hkb⟩ := app_round h3 hgrow; have hk0 := (hkb w.heap.size (by omega) (by omega)).trans h2; have cc0 := Lib.cell_of_heap hk0 0; simp only [List.getElem?_toArray, List.getElem?_cons_zero] at cc0; have ff0 := Lib.frozen_of_heap hk0 0))
        have hk1 := (hkb (w.heap.size + 1) (by omega) (by omega)).trans h4
        have hk2 := hkb (w.heap.size + 2) (by omega) (by omega)
        have hb1 : Below w.heap.size w w1 := (h5.alloc hsB _).grown hgrow (by simp; omega) (fun k e => by have := (h3.lt k e).1; omega)
        refine ⟨hko.trans (KeepsOthers.setCell _ _ _), ?_, ?_, ?_, ?_, ?_⟩
        · exact (Below.heap_setCell _ _ _ _ (by simp)).trans hk2
        · have := H1.out
          have := HW.out
          simp_all
        · refine ⟨_, one_setCell hk0, ?_⟩
          have := ownsRow_setCell_below (a := ⟨w.heap.size, 0, none⟩) hown' (by simp) (.slice (some ⟨g', 0, none⟩) (pre.length + 1) cap')
          simpa using this
        · exact (Below.heap_setCell _ _ _ _ (by simp)).trans hk1
        · exact hb1.setCell (p := ⟨w.heap.size, 0, none⟩) (Nat.le_refl _) _
      · have hw' : wordL (bs x) = false := by simpa using hw
        have HW := Lib.hid hw'
        clear hw hw'
        gi_wp2_with (refine ⟨trivial, ?_⟩; gi_at_call 32; refine (CallsIn.inRound l (callsIn_wide.2 (is_no _ _ hx HW.out))).mono ?_; rintro e w' ⟨rfl, rfl⟩)
        refine ⟨(KeepsOthers.setCell _ _ _).trans (KeepsOthers.setCell _ _ _), rfl, ?_, ?_, ?_, ?_⟩
        · have := HW.out
          simp_all
        · exact (Below.heap_setCell _ _ _ _ (by simp)).trans (one_setCell h2)
        · exact one_setCell ((Below.heap_setCell _ _ _ _ (by simp)).trans h4)
        · exact (h5.setCell (p := ⟨w.heap.size, 0, none⟩) (Nat.le_refl _) _).setCell (p := ⟨w.heap.size + 1, 0, none⟩) (by simp) _
    case done =>
      rintro D xs W hD hxs ⟨h1, ⟨v, h2, h3⟩, h4, h5⟩ hK
      obtain ⟨ao, cap, rfl, _, _⟩ := CellsAt.of_owns h3
      have c0 : W.cell? ⟨w.heap.size, 0, none⟩ = some (.slice ao xs.length cap) := by rw [Lib.cell_of_heap h2]; rfl
      have c1 : W.cell? ⟨w.heap.size + 1, 0, none⟩ = some (.int .i64 0) := by rw [Lib.cell_of_heap h4]; rfl
      have f0 : W.frozen? ⟨w.heap.size, 0, none⟩ = false := Lib.frozen_of_heap h2 0
      have f1 : W.frozen? ⟨w.heap.size + 1, 0, none⟩ = false := Lib.frozen_of_heap h4 0
      have HX := Lib.hid (words_done s xs hm h1 hxs)
      clear hxs h1
      gi_wp2
      have hD2 : w.heap.size + 3 ≤ D := by omega
      have hK2 : ((W.setCell ⟨w.heap.size, 0, none⟩ (.slice ao xs.length cap)).setCell ⟨w.heap.size + 1, 0, none⟩ (.int .i64 0)).heap[D]? = some (.deferred (some [])) :=
        (Below.heap_setCell _ _ _ _ (by simp; omega)).trans ((Below.heap_setCell _ _ _ _ (by simp; omega)).trans hK)
      refine ⟨by simp, .inl ⟨_, _, rfl, run_takeDeferred hK2, ?_⟩⟩
      have hk0 := (Below.heap_setCell (W.setCell ⟨w.heap.size, 0, none⟩ (.slice ao xs.length cap)) ⟨w.heap.size + 1, 0, none⟩ (.int .i64 0) w.heap.size (by simp)).trans (one_setCell (u := .slice ao xs.length cap) h2)
      have hk1 := one_setCell (u := .int .i64 0) ((Below.heap_setCell W ⟨w.heap.size, 0, none⟩ (.slice ao xs.length cap) (w.heap.size + 1) (by simp)).trans h4)
      have hr := ownsRow_setCell_below (a := ⟨w.heap.size + 1, 0, none⟩) (ownsRow_setCell_below (a := ⟨w.heap.size, 0, none⟩) h3 (by simp) (.slice ao xs.length cap)) (by simp) (.int .i64 0)
      have hb := (h5.setCell (p := ⟨w.heap.size, 0, none⟩) (Nat.le_refl _) (.slice ao xs.length cap)).setCell (p := ⟨w.heap.size + 1, 0, none⟩) (by simp) (.int .i64 0)
      generalize (W.setCell ⟨w.heap.size, 0, none⟩ (.slice ao xs.length cap)).setCell ⟨w.heap.size + 1, 0, none⟩ (.int .i64 0) = W4 at hk0 hk1 hr hK2 hb ⊢
      exact words_end w s xs hD2 hK2 hk0 hk1 hr hb HX.out
    case stop =>
      rintro D c pre W hD hpre ⟨rfl, h1, h2, h4, h5⟩ hK
      have HX := Lib.hid (words_stop s pre hm h1 hpre)
      clear hpre h1
      gi_wp2
      refine ⟨by simp, .inl ⟨_, _, rfl, run_takeDeferred hK, ?_⟩⟩
      exact words_end' w s (by omega) hK h2 h4 h5 HX.out
theorem words_walk (s : ByteArray) (w : World) (hs : s.size ≤ 140737488351232) : Calls Tryd.prog 20 #[.string s] w (WordsRes w.heap.size (bl s) w) :=
  callsIn_wide.1 (words_in s w hs)
end Go.Proofs.YtefkhjbgkaknmaaDoor
