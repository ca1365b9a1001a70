/- Walks of the package words: Lines. -/
import Derived.Test.YtefkhjbgkaknmaaDoorIt2
import Derived.Test.YtefkhjbgkaknmaaDoorW2b
set_option linter.unusedVariables false
namespace Go.Proofs.YtefkhjbgkaknmaaDoor
open Go.RowKit Go.Shelf
attribute [local go_sem] Oper.semAt_some
attribute [local go_sem ↓ 10000] builtin_append_v

/-! ### The lines with and without their feeds -/
def trimL (l : List UInt8) : List UInt8 := Lib.trimSuffix l [10]
theorem trim_feed (l : List UInt8) : trimL (l ++ [10]) = l := by
  unfold trimL Lib.trimSuffix Lib.hasSuffix
  rw [if_pos (by rw [List.isSuffixOf_iff_suffix]; exact ⟨l, rfl⟩)]
  simp
theorem rw_lines : ∀ (l cur : List UInt8), (l = [] → cur = []) → (l.getLast?.map UInt8.toNat = some 10 ∨ l = []) → (rwGo l cur).map trimL = lnGo l cur
  | [], cur, h1, _ => by rw [h1 rfl]; rfl
  | [c], cur, _, h2 => by
    have : c.toNat = 10 := by simpa using h2
    rw [rwGo, lnGo, if_pos this, if_pos this, show c = 10 from UInt8.toNat_inj.1 (by rw [this]; rfl)]
    simp [rwGo, lnGo, trim_feed]
  | c :: d :: r, cur, _, h2 => by
    have h2' : (d :: r).getLast?.map UInt8.toNat = some 10 ∨ (d :: r) = [] := by
      rcases h2 with h2 | h2
      · left; rw [← h2]; rfl
      · cases h2
    rw [rwGo, lnGo]
    by_cases h : c.toNat = 10
    · rw [if_pos h, if_pos h, List.map_cons, rw_lines (d :: r) [] (fun e => by cases e) h2', show c = 10 from UInt8.toNat_inj.1 (by rw [h]; rfl), trim_feed]
    · rw [if_neg h, if_neg h, rw_lines (d :: r) _ (fun e => by cases e) h2']

theorem slines_walk (s : ByteArray) (w : World) :
    Calls Tryd.prog 45 #[.string s] w fun e w' => e = .returned (.func (.func 65) #[] #[.pointer (some ⟨w.heap.size, 0, none⟩)]) ∧ w.alloc (.cells #[.string s] 9) = w' := by
  go_enter Tryd.func45, Tryd.ntmps45
  go_wp2
  go_ret
  exact ⟨rfl, rfl⟩
theorem trim_walk (s : ByteArray) (w : World) (hs : s.size ≤ 140737488351232) :
    Calls Tryd.prog 46 #[.string s, .string ⟨#[10]⟩] w fun e w' => e = .returned (.string (ba (trimL (bl s)))) ∧ w = w' :=
  (Tryd.strings_TrimSuffix s ⟨#[10]⟩ w (by omega)).mono fun e w' ⟨he, hw⟩ => ⟨he, hw.symm⟩
theorem count_eq (l : List UInt8) : Lib.countByte l 10 = feedsL l := by
  unfold Lib.countByte feedsL
  rw [List.count_eq_length_filter]
  congr 1
  refine List.filter_congr fun x _ => ?_
  by_cases h : x = 10
  · subst h; rfl
  · have : x.toNat ≠ 10 := ne10 h
    simp [h, this]
theorem count_walk (s : ByteArray) (w : World) :
    Calls Tryd.prog 43 #[.string s, .string ⟨#[10]⟩] w fun e w' => e = .returned (.int .i64 (feedsL (bl s))) ∧ w = w' :=
  (Tryd.strings_Count_one s 10 w).mono fun e w' ⟨he, hw⟩ => ⟨by rw [he]; exact congrArg (fun x : Nat => Ending.returned (.int .i64 x)) (count_eq (bl s)), hw.symm⟩
theorem suffix_eq (s : ByteArray) (h : 0 < s.size) : Lib.hasSuffix (bl s) [10] = decide ((bl s).getLast?.map UInt8.toNat = some 10) := by
  unfold Lib.hasSuffix
  have hne : bl s ≠ [] := fun e => by rw [← bl_length, e] at h; simp at h
  obtain ⟨m, c, hm⟩ : ∃ m c, bl s = m ++ [c] := ⟨(bl s).dropLast, (bl s).getLast hne, (List.dropLast_concat_getLast hne).symm⟩
  rw [hm]
  rw [Bool.eq_iff_iff, List.isSuffixOf_iff_suffix, decide_eq_true_iff]
  simp only [List.getLast?_append, List.getLast?_singleton, Option.some_or, Option.map_some, Option.some.injEq]
  constructor
  · rintro ⟨t, ht⟩
    have := congrArg List.getLast? ht
    simp at this
    rw [← this]; rfl
  · intro hc
    exact ⟨m, by rw [show c = 10 from UInt8.toNat_inj.1 (by rw [hc]; rfl)]⟩
theorem suf_walk (s : ByteArray) (w : World) (hs : s.size ≤ 140737488351232) (b : Bool) (h : Lib.hasSuffix (bl s) [10] = b) :
    Calls Tryd.prog 44 #[.string s, .string ⟨#[10]⟩] w fun e w' => e = .returned (.bool b) ∧ w = w' :=
  (Tryd.strings_HasSuffix s ⟨#[10]⟩ w (by omega)).mono fun e w' ⟨he, hw⟩ => ⟨by rw [he]; exact congrArg (fun x => Ending.returned (.bool x)) h, hw.symm⟩

theorem lines_form' (s : ByteArray) (w w' : World) (h0 : ¬ 16384 < s.size) (h1 : ¬ 512 < feedsL (bl s)) (h2 : 0 < s.size) (h3 : Lib.hasSuffix (bl s) [10] = false) (hb : Below w.heap.size w w') : LinesRes w.heap.size (bl s) w (.returned (.tuple #[.slice none 0 0, .int .i64 11])) w' := by
  rw [suffix_eq s h2] at h3
  have e : linesL (bl s) = ([], 11) := by
    unfold linesL
    rw [bl_length, if_neg (by omega), if_pos ⟨h2, by simpa using h3⟩]
  exact ⟨_, by rw [e], by rw [e]; exact World.ownsRow_nil _ _ _ _, hb⟩
def LI (w : World) (B : Nat) (pre : List BStr) (W : World) : Prop :=
  (∃ v, W.heap[B]? = some (.cells #[v] 35 (0, 0)) ∧ W.ownsRow (B + 2) 9 1 v pre.length (pre.map (fun x => sv (trimL (bs x))))) ∧ Below B w W
theorem li_own (w : World) (B D : Nat) (hB : B ≤ w.heap.size) (hD : B + 2 ≤ D) : OwnO (B + 1) D (LI w B) := by
  rintro s W W' row ⟨⟨v, h2, h3⟩, h5⟩ hg hr
  exact ⟨⟨v, heap_O h2 rfl hg hr (by omega), ownsRow_O h3 hg hr (by omega)⟩, below_O h5 hg hr (by omega) (by omega) hB⟩

theorem lines_done (s : ByteArray) (xs : List BStr) (h0 : ¬ 16384 < s.size) (h1 : ¬ 512 < feedsL (bl s)) (hg : Lib.hasSuffix (bl s) [10] = true ∨ ¬ 0 < s.size) (hx : xs.map bs = rwGo (bl s) []) : linesL (bl s) = (xs.map (fun x => trimL (bs x)), 0) := by
  have e : xs.map (fun x => trimL (bs x)) = (rwGo (bl s) []).map trimL := by rw [← hx, List.map_map]; rfl
  have h2 : (bl s).getLast?.map UInt8.toNat = some 10 ∨ bl s = [] := by
    rcases hg with h | h
    · by_cases hp : 0 < s.size
      · rw [suffix_eq s hp] at h; left; simpa using h
      · right; exact List.length_eq_zero_iff.1 (by rw [bl_length]; omega)
    · right; exact List.length_eq_zero_iff.1 (by rw [bl_length]; omega)
  rw [e, rw_lines _ _ (fun _ => rfl) h2]
  unfold linesL
  rw [bl_length, if_neg (by omega), if_neg]
  rintro ⟨a, b⟩
  rcases h2 with h2 | h2
  · exact b h2
  · rw [← bl_length, h2] at a; simp at a
theorem lines_end (w : World) (s : ByteArray) (xs : List BStr) {D : Nat} {W4 : World} {ao : Option Addr} {cap : Nat} {tmps : Array Value} {n : Nat} (hD : w.heap.size + 2 ≤ D) (hK : W4.heap[D]? = some (.deferred (some [])))
    (h2 : W4.heap[w.heap.size]? = some (.cells #[.slice ao xs.length cap] 35 (0, 0)))
    (h3 : W4.ownsRow (w.heap.size + 2) 9 1 (.slice ao xs.length cap) xs.length (xs.map fun x => sv (trimL (bs x)))) (hb : Below w.heap.size w W4) (hx : linesL (bl s) = (xs.map (fun x => trimL (bs x)), 0))
    (t2 : tmps[2]? = some (.pointer (some ⟨w.heap.size, 0, none⟩)) := by rfl) (t3 : tmps[3]? = some (.int .i64 0) := by rfl) :
    LeavesInM Fence.wide n Tryd.prog Tryd.f16 tmps (LinesRes w.heap.size (bl s) w) [] .returning (W4.putObj D (.deferred none)) := by
  have q0 : (W4.putObj D (.deferred none)).cell? ⟨w.heap.size, 0, none⟩ = some (.slice ao xs.length cap) := by rw [Lib.cell_of_heap ((World.putObj_heap_other (by omega)).trans h2)]; rfl
  refine ⟨.tuple #[.slice ao xs.length cap, .int .i64 0], by simp [results, Tryd.results16, go_sem, t2, t3, q0], .slice ao xs.length cap, by rw [hx], ?_, ?_⟩
  · rw [hx]
    have := ownsRow_mono (ownsRow_putObj h3 (.deferred none) hK rfl) (base' := w.heap.size) (by omega)
    show World.ownsRow _ _ _ _ _ (xs.map (fun x => trimL (bs x))).length ((xs.map (fun x => trimL (bs x))).map sv)
    rw [List.length_map, List.map_map]
    exact this
  · exact hb.grown (grownBy_putObj' W4 D _) hb.size (fun k e => by cases e; omega)

set_option maxRecDepth 100000 in
set_option maxHeartbeats 2000000 in
theorem lines_in (s : ByteArray) (w : World) (hs : s.size ≤ 140737488351232) :
    CallsIn Fence.wide 3 Tryd.prog 16 #[.string s] w (LinesRes w.heap.size (bl s) w) := by
  obtain ⟨i0, hi, hz0, hz1, hz2⟩ := info_parts infoStr
  refine callsIn_of_wp_marks Tryd.func16 rfl trivial ?_ rfl
  simp only [Tryd.ntmps16, List.size_toArray, List.length_cons, List.length_nil, Nat.reduceAdd, Nat.reduceSub, Array.replicate_succ, Array.replicate_zero, List.push_toArray, List.append_toArray, List.nil_append, List.cons_append]
  by_cases hm : 16384 < s.size
  · have HR := Lib.hid (fun w' => lines_many' s w w' (.inl hm))
    gi_wp2
    refine ⟨trivial, ?_⟩
    gi_wp2
    exact ⟨_, by simp [results, Tryd.results16, go_sem], HR.out _ ((Below.refl _ w).alloc (Nat.le_refl _) _)⟩
  by_cases hf : 512 < feedsL (bl s)
  · have HR := Lib.hid (fun w' => lines_many' s w w' (.inr hf))
    gi_wp2_with (refine ⟨trivial, ?_⟩; gi_at_call 43; refine (callsIn_wide.2 (count_walk s _)).mono ?_; rintro e w' ⟨rfl, rfl⟩)
    exact ⟨_, by simp [results, Tryd.results16, go_sem], HR.out _ ((Below.refl _ w).alloc (Nat.le_refl _) _)⟩
  have hfl := feeds_le (bl s)
  rw [bl_length] at hfl
  by_cases hbad : 0 < s.size ∧ Lib.hasSuffix (bl s) [10] = false
  · obtain ⟨hp, hbad⟩ := hbad
    have HR := Lib.hid (fun w' => lines_form' s w w' hm hf hp hbad)
    have hz : s.toList.isEmpty = false := by have := not_empty s; rw [decide_eq_true hp] at this; simpa using this
    have HB := Lib.hid hbad
    clear hbad
    gi_wp2_with (first | (refine ⟨trivial, ?_⟩; gi_at_call 43; refine (callsIn_wide.2 (count_walk s _)).mono ?_; rintro e w' ⟨rfl, rfl⟩) | (refine ⟨trivial, ?_⟩; gi_at_call 44; refine (callsIn_wide.2 (suf_walk s _ hs false HB.out)).mono ?_; rintro e w' ⟨rfl, rfl⟩))
    exact ⟨_, by simp [results, Tryd.results16, go_sem], HR.out _ ((Below.refl _ w).alloc (Nat.le_refl _) _)⟩
  by_cases hp : 0 < s.size
  · have hz : s.toList.isEmpty = false := by have := not_empty s; rw [decide_eq_true hp] at this; simpa using this
    have hgood : Lib.hasSuffix (bl s) [10] = true := by
      cases h : Lib.hasSuffix (bl s) [10]
      · exact absurd ⟨hp, h⟩ hbad
      · rfl
    have HG := Lib.hid hgood
    clear hgood hbad
    gi_wp2_with (first | (refine ⟨trivial, ?_⟩; gi_at_call 43; refine (callsIn_wide.2 (count_walk s _)).mono ?_; rintro e w' ⟨rfl, rfl⟩) | (refine ⟨trivial, ?_⟩; gi_at_call 44; refine (callsIn_wide.2 (suf_walk s _ hs true HG.out)).mono ?_; rintro e w' ⟨rfl, rfl⟩) | (refine ⟨trivial, ?_⟩; gi_at_call 45; refine (callsIn_wide.2 (slines_walk s _)).mono ?_; rintro e w' ⟨rfl, rfl⟩))
    obtain ⟨w3, hw3⟩ : ∃ w3, ((w.alloc (.cells #[.slice none 0 0] 35)).alloc (.cells #[.string s] 9)) = w3 := ⟨_, rfl⟩
    have hsz3 : w3.heap.size = w.heap.size + 2 := by rw [← hw3]; simp
    have hB3 : w3.heap[w.heap.size]? = some (.cells #[.slice none 0 0] 35 (0, 0)) := by
      rw [← hw3]; exact (Below.heap_alloc _ _ _ (by simp)).trans (alloc_new w _)
    have hS3 : w3.heap[w.heap.size + 1]? = some (.cells #[.string s] 9 (0, 0)) := by
      have := alloc_new (w.alloc (.cells #[.slice none 0 0] 35)) (.cells #[.string s] 9)
      rw [World.size_alloc] at this
      rw [← hw3]; exact this
    have hbel3 : Below w.heap.size w w3 := by rw [← hw3]; exact ((Below.refl _ w).alloc (Nat.le_refl _) _).alloc (by simp) _
    rw [hw3]
    clear hw3
    refine wpIn_rangeFunc_O (o := w.heap.size + 1) rfl (by omega) (gf := 65) (lb := #[.pointer (some ⟨w.heap.size + 1, 0, none⟩)]) rfl trivial (enters_of Tryd.func65 (by kernel_rfl) rfl)
      (lines1_seq (3 - 1) (w.heap.size + 1) s w3 (by omega) hs hS3) (by omega) (fun h k => k.trans h) (fun W l ob o' hl _ _ => World.putObj_heap_other (by omega)) (fun x => rfl)
      (LI w w.heap.size) (fun _ _ _ => False) (li_own w _ _ (Nat.le_refl _) (by omega)) (fun _ _ _ _ _ h _ _ => h)
      ⟨⟨_, hB3, World.ownsRow_nil _ _ _ _⟩, hbel3⟩
      ?a1 ?assign1 ?body1 ?done1 ?stop1
    case assign1 =>
      intro l x W K hK
      gi_wp2
      exact hK
    case body1 =>
      rintro l pre x W ⟨⟨v, h2, h3⟩, h5⟩ hlen hsw
      have c0 : W.cell? ⟨w.heap.size, 0, none⟩ = some v := by rw [Lib.cell_of_heap h2]; rfl
      have f0 : W.frozen? ⟨w.heap.size, 0, none⟩ = false := Lib.frozen_of_heap h2 0
      have hx := x.2
      have hl1 : pre.length ≤ s.size := by have := rw_len (bl s) []; rw [bl_length] at this; omega
      have hsB := h5.size
      have hltW : w.heap.size < W.heap.size := by omega
      have cA : (W.alloc (.cells #[.string (ba (trimL (bl x.1)))] 9)).cell? ⟨w.heap.size, 0, none⟩ = some v := by rw [World.cell?_of_block (w := W) (Below.heap_alloc W _ _ hltW)]; exact c0
      obtain ⟨v', w1, hrun, hown', hgrow, _⟩ := run_append_own (P := Tryd.prog) ((W.alloc (.cells #[.string (ba (trimL (bl x.1)))] 9)).drew) (w.heap.size + 2) 35 35 9 i0 (.string ⟨#[]⟩) 1 16 Tryd.underlying35 hi hz0 hz1 hz2 rfl (by decide) v pre.length _ ((h3.alloc _).drew) ⟨W.heap.size, 0, none⟩ 1 1 [.string (ba (trimL (bl x.1)))] rfl (cell_one_new _ _ _) (by simp [Value.oneCell']) (by unfold maxLen; omega) (by omega) (by simp; omega)
      obtain ⟨g', cap', rfl⟩ := ownsRow_succ hown'
      have hgrow2 : (W.alloc (.cells #[.string (ba (trimL (bl x.1)))] 9)).grownBy w1 v.ownBlock := ⟨hgrow.os, hgrow.tape, hgrow.output, hgrow.size, hgrow.block⟩
      obtain ⟨hko, hkb⟩ := app_round h3 hgrow2
      have hk0 := (hkb w.heap.size (by omega) (by omega)).trans h2
      have cc0 : w1.cell? ⟨w.heap.size, 0, none⟩ = some v := by rw [Lib.cell_of_heap hk0]; rfl
      have ff0 := Lib.frozen_of_heap hk0 0
      have hk2 := hkb (w.heap.size + 1) (by omega) (by omega)
      have hb1 : Below w.heap.size w w1 := (h5.alloc hsB _).grown hgrow2 (by simp; omega) (fun k e => by have := (h3.lt k e).1; omega)
      have HO := Lib.hid hown'
      have HK := Lib.hid (And.intro hko (And.intro hk0 hk2))
      clear hown' hko hkb hk0 hk2 hgrow hgrow2 h2 h3
      have hrun' : (appendV #[35, 35] 35 #[v, .slice (some ⟨W.heap.size, 0, none⟩) 1 1]).run Tryd.prog ((W.alloc (.cells #[.string (ba (trimL (bl x.1)))] 9)).drew) = .ok (.slice (some ⟨g', 0, none⟩) (pre.length + 1) cap') w1 := hrun
      clear hrun
      gi_wp2
      gi_region_with (first | (refine ⟨trivial, ?_⟩; gi_at_call 46; refine (CallsIn.inRound l (callsIn_wide.2 (trim_walk x.1 _ hx))).mono ?_; rintro e w' ⟨rfl, rfl⟩))
      all_goals
        gi_wp2
        obtain ⟨hko, hk0, hk2⟩ := HK.out
        refine ⟨hko.trans (KeepsOthers.setCell _ _ _), (Below.heap_setCell _ _ _ _ (by simp)).trans hk2, ⟨_, one_setCell hk0, ?_⟩, hb1.setCell (p := ⟨w.heap.size, 0, none⟩) (Nat.le_refl _) _⟩
        have := ownsRow_setCell_below (a := ⟨w.heap.size, 0, none⟩) HO.out (by simp) (.slice (some ⟨g', 0, none⟩) (pre.length + 1) cap')
        simp only [List.map_append, List.length_append, List.map_cons, List.map_nil, List.length_cons, List.length_nil]
        exact this
    case done1 =>
      rintro D xs W hD hxs ⟨⟨v, h2, h3⟩, h5⟩ hK
      obtain ⟨ao, cap, rfl, _, _⟩ := CellsAt.of_owns h3
      have c0 : W.cell? ⟨w.heap.size, 0, none⟩ = some (.slice ao xs.length cap) := by rw [Lib.cell_of_heap h2]; rfl
      have f0 : W.frozen? ⟨w.heap.size, 0, none⟩ = false := Lib.frozen_of_heap h2 0
      have HX := Lib.hid (lines_done s xs hm hf (.inl HG.out) hxs)
      clear hxs
      gi_wp2
      have hD2 : w.heap.size + 2 ≤ D := by omega
      have hK2 : (W.setCell ⟨w.heap.size, 0, none⟩ (.slice ao xs.length cap)).heap[D]? = some (.deferred (some [])) := (Below.heap_setCell _ _ _ _ (by simp; omega)).trans hK
      refine ⟨by simp, .inl ⟨_, _, rfl, run_takeDeferred hK2, ?_⟩⟩
      exact lines_end w s xs hD2 hK2 (one_setCell h2) (ownsRow_setCell_below (a := ⟨w.heap.size, 0, none⟩) h3 (by simp) (.slice ao xs.length cap)) (h5.setCell (p := ⟨w.heap.size, 0, none⟩) (Nat.le_refl _) (.slice ao xs.length cap)) HX.out
    case stop1 =>
      rintro D c pre W hD hpre h hK
      exact h.elim
  · have hz : s.toList.isEmpty = true := by have := not_empty s; rw [decide_eq_false hp] at this; simpa using this
    have HG := Lib.hid hp
    clear hbad
    gi_wp2_with (first | (refine ⟨trivial, ?_⟩; gi_at_call 43; refine (callsIn_wide.2 (count_walk s _)).mono ?_; rintro e w' ⟨rfl, rfl⟩) | (refine ⟨trivial, ?_⟩; gi_at_call 45; refine (callsIn_wide.2 (slines_walk s _)).mono ?_; rintro e w' ⟨rfl, rfl⟩))
    refine ⟨trivial, ?_⟩
    gi_wp2_with (refine ⟨trivial, ?_⟩; gi_at_call 45; refine (callsIn_wide.2 (slines_walk s _)).mono ?_; rintro e w' ⟨rfl, rfl⟩)
    obtain ⟨w3, hw3⟩ : ∃ w3, ((w.alloc (.cells #[.slice none 0 0] 35)).alloc (.cells #[.string s] 9)) = w3 := ⟨_, rfl⟩
    have hsz3 : w3.heap.size = w.heap.size + 2 := by rw [← hw3]; simp
    have hB3 : w3.heap[w.heap.size]? = some (.cells #[.slice none 0 0] 35 (0, 0)) := by
      rw [← hw3]; exact (Below.heap_alloc _ _ _ (by simp)).trans (alloc_new w _)
    have hS3 : w3.heap[w.heap.size + 1]? = some (.cells #[.string s] 9 (0, 0)) := by
      have := alloc_new (w.alloc (.cells #[.slice none 0 0] 35)) (.cells #[.string s] 9)
      rw [World.size_alloc] at this
      rw [← hw3]; exact this
    have hbel3 : Below w.heap.size w w3 := by rw [← hw3]; exact ((Below.refl _ w).alloc (Nat.le_refl _) _).alloc (by simp) _
    rw [hw3]
    clear hw3
    refine wpIn_rangeFunc_O (o := w.heap.size + 1) rfl (by omega) (gf := 65) (lb := #[.pointer (some ⟨w.heap.size + 1, 0, none⟩)]) rfl trivial (enters_of Tryd.func65 (by kernel_rfl) rfl)
      (lines1_seq (3 - 1) (w.heap.size + 1) s w3 (by omega) hs hS3) (by omega) (fun h k => k.trans h) (fun W l ob o' hl _ _ => World.putObj_heap_other (by omega)) (fun x => rfl)
      (LI w w.heap.size) (fun _ _ _ => False) (li_own w _ _ (Nat.le_refl _) (by omega)) (fun _ _ _ _ _ h _ _ => h)
      ⟨⟨_, hB3, World.ownsRow_nil _ _ _ _⟩, hbel3⟩
      ?a2 ?assign2 ?body2 ?done2 ?stop2
    case assign2 =>
      intro l x W K hK
      gi_wp2
      exact hK
    case body2 =>
      rintro l pre x W ⟨⟨v, h2, h3⟩, h5⟩ hlen hsw
      have c0 : W.cell? ⟨w.heap.size, 0, none⟩ = some v := by rw [Lib.cell_of_heap h2]; rfl
      have f0 : W.frozen? ⟨w.heap.size, 0, none⟩ = false := Lib.frozen_of_heap h2 0
      have hx := x.2
      have hl1 : pre.length ≤ s.size := by have := rw_len (bl s) []; rw [bl_length] at this; omega
      have hsB := h5.size
      have hltW : w.heap.size < W.heap.size := by omega
      have cA : (W.alloc (.cells #[.string (ba (trimL (bl x.1)))] 9)).cell? ⟨w.heap.size, 0, none⟩ = some v := by rw [World.cell?_of_block (w := W) (Below.heap_alloc W _ _ hltW)]; exact c0
      obtain ⟨v', w1, hrun, hown', hgrow, _⟩ := run_append_own (P := Tryd.prog) ((W.alloc (.cells #[.string (ba (trimL (bl x.1)))] 9)).drew) (w.heap.size + 2) 35 35 9 i0 (.string ⟨#[]⟩) 1 16 Tryd.underlying35 hi hz0 hz1 hz2 rfl (by decide) v pre.length _ ((h3.alloc _).drew) ⟨W.heap.size, 0, none⟩ 1 1 [.string (ba (trimL (bl x.1)))] rfl (cell_one_new _ _ _) (by simp [Value.oneCell']) (by unfold maxLen; omega) (by omega) (by simp; omega)
      obtain ⟨g', cap', rfl⟩ := ownsRow_succ hown'
      have hgrow2 : (W.alloc (.cells #[.string (ba (trimL (bl x.1)))] 9)).grownBy w1 v.ownBlock := ⟨hgrow.os, hgrow.tape, hgrow.output, hgrow.size, hgrow.block⟩
      obtain ⟨hko, hkb⟩ := app_round h3 hgrow2
      have hk0 := (hkb w.heap.size (by omega) (by omega)).trans h2
      have cc0 : w1.cell? ⟨w.heap.size, 0, none⟩ = some v := by rw [Lib.cell_of_heap hk0]; rfl
      have ff0 := Lib.frozen_of_heap hk0 0
      have hk2 := hkb (w.heap.size + 1) (by omega) (by omega)
      have hb1 : Below w.heap.size w w1 := (h5.alloc hsB _).grown hgrow2 (by simp; omega) (fun k e => by have := (h3.lt k e).1; omega)
      have HO := Lib.hid hown'
      have HK := Lib.hid (And.intro hko (And.intro hk0 hk2))
      clear hown' hko hkb hk0 hk2 hgrow hgrow2 h2 h3
      have hrun' : (appendV #[35, 35] 35 #[v, .slice (some ⟨W.heap.size, 0, none⟩) 1 1]).run Tryd.prog ((W.alloc (.cells #[.string (ba (trimL (bl x.1)))] 9)).drew) = .ok (.slice (some ⟨g', 0, none⟩) (pre.length + 1) cap') w1 := hrun
      clear hrun
      gi_wp2
      gi_region_with (first | (refine ⟨trivial, ?_⟩; gi_at_call 46; refine (CallsIn.inRound l (callsIn_wide.2 (trim_walk x.1 _ hx))).mono ?_; rintro e w' ⟨rfl, rfl⟩))
      all_goals
        gi_wp2
        obtain ⟨hko, hk0, hk2⟩ := HK.out
        refine ⟨hko.trans (KeepsOthers.setCell _ _ _), (Below.heap_setCell _ _ _ _ (by simp)).trans hk2, ⟨_, one_setCell hk0, ?_⟩, hb1.setCell (p := ⟨w.heap.size, 0, none⟩) (Nat.le_refl _) _⟩
        have := ownsRow_setCell_below (a := ⟨w.heap.size, 0, none⟩) HO.out (by simp) (.slice (some ⟨g', 0, none⟩) (pre.length + 1) cap')
        simp only [List.map_append, List.length_append, List.map_cons, List.map_nil, List.length_cons, List.length_nil]
        exact this
    case done2 =>
      rintro D xs W hD hxs ⟨⟨v, h2, h3⟩, h5⟩ hK
      obtain ⟨ao, cap, rfl, _, _⟩ := CellsAt.of_owns h3
      have c0 : W.cell? ⟨w.heap.size, 0, none⟩ = some (.slice ao xs.length cap) := by rw [Lib.cell_of_heap h2]; rfl
      have f0 : W.frozen? ⟨w.heap.size, 0, none⟩ = false := Lib.frozen_of_heap h2 0
      have HX := Lib.hid (lines_done s xs hm hf (.inr HG.out) hxs)
      clear hxs
      gi_wp2
      have hD2 : w.heap.size + 2 ≤ D := by omega
      have hK2 : (W.setCell ⟨w.heap.size, 0, none⟩ (.slice ao xs.length cap)).heap[D]? = some (.deferred (some [])) := (Below.heap_setCell _ _ _ _ (by simp; omega)).trans hK
      refine ⟨by simp, .inl ⟨_, _, rfl, run_takeDeferred hK2, ?_⟩⟩
      exact lines_end w s xs hD2 hK2 (one_setCell h2) (ownsRow_setCell_below (a := ⟨w.heap.size, 0, none⟩) h3 (by simp) (.slice ao xs.length cap)) (h5.setCell (p := ⟨w.heap.size, 0, none⟩) (Nat.le_refl _) (.slice ao xs.length cap)) HX.out
    case stop2 =>
      rintro D c pre W hD hpre h hK
      exact h.elim
theorem lines_walk (s : ByteArray) (w : World) (hs : s.size ≤ 140737488351232) : Calls Tryd.prog 16 #[.string s] w (LinesRes w.heap.size (bl s) w) :=
  callsIn_wide.1 (lines_in s w hs)
end Go.Proofs.YtefkhjbgkaknmaaDoor
