/- Walks of the package words: Line. -/
import Derived.Test.YtefkhjbgkaknmaaDoorW2a
set_option linter.unusedVariables false
namespace Go.Proofs.YtefkhjbgkaknmaaDoor
open Go.RowKit

theorem join_eq : ∀ l : List (List UInt8), Lib.join l [32] = joinBlank l
  | [] => rfl
  | [s] => by simp [Lib.join, joinBlank, List.intercalate]
  | s :: t :: r => by
    have := join_eq (t :: r)
    rw [joinBlank, ← this]
    simp [Lib.join, List.intercalate, List.intersperse]
    intro h; cases h
theorem is_yes (s : ByteArray) (w : World) (hs : s.size ≤ 140737488351232) (h : wordL (bl s) = true) :
    Calls Tryd.prog 32 #[.string s] w fun e w' => e = .returned (.bool true) ∧ w = w' := by rw [← h]; exact is_walk s w hs
theorem is_no (s : ByteArray) (w : World) (hs : s.size ≤ 140737488351232) (h : wordL (bl s) = false) :
    Calls Tryd.prog 32 #[.string s] w fun e w' => e = .returned (.bool false) ∧ w = w' := by rw [← h]; exact is_walk s w hs

theorem join_walk (ao : Option Addr) (l : List (List UInt8)) (cap : Nat) (w : World) (h : CellsAt w ao (l.map sv)) (hcap : l.length ≤ cap) (hl : l.length ≤ 16385) (hlen : (joinBlank l).length ≤ 16384) :
    Calls Tryd.prog 49 #[.slice ao l.length cap, .string ⟨#[32]⟩] w fun e w' => e = .returned (.string (ba (joinBlank l))) ∧ Below w.heap.size w w' := by
  obtain ⟨b, off, ha, hc⟩ := h
  by_cases h0 : l = []
  · subst h0
    refine (Tryd.strings_Join_none ao cap ⟨#[32]⟩ w).mono ?_
    rintro e w' ⟨he, rfl⟩
    exact ⟨he, Below.refl _ _⟩
  · have hp : 0 < l.length := List.length_pos_iff.2 h0
    obtain rfl := ha (by simpa using hp)
    have e1 : (l.map ba).map (·.data.toList) = l := by
      rw [List.map_map]
      conv => rhs; rw [← List.map_id l]
      exact List.map_congr_left fun x _ => bl_ba x
    have := Tryd.strings_Join b off cap (l.map ba) ⟨#[32]⟩ w (fun j x hx => by
        rw [List.getElem?_map] at hx
        cases hl2 : l[j]? with
        | none => rw [hl2] at hx; cases hx
        | some y =>
          rw [hl2] at hx
          simp at hx
          subst hx
          exact hc j (sv y) (by rw [List.getElem?_map, hl2]; rfl))
      (by
        obtain ⟨x, hx⟩ : ∃ x, (l.map sv)[0]? = some x := ⟨_, List.getElem?_eq_getElem (by simpa using hp)⟩
        exact lt_of_cell (hc 0 x hx))
      (by simp; omega) (by simpa using hcap) (by rw [e1]; show (Lib.join l [32]).length ≤ _; rw [join_eq]; omega)
    rw [e1, List.length_map] at this
    refine this.mono ?_
    rintro e w' ⟨he, hb⟩
    refine ⟨?_, hb⟩
    rw [he]
    show Ending.returned (.string ⟨(Lib.join l [32]).toArray⟩) = _
    rw [join_eq]; rfl

def szL (l : List (List UInt8)) : Int := if l = [] then -1 else min ((joinBlank l).length : Int) 16385
theorem szL_step (l : List (List UInt8)) (k : Nat) (s : List UInt8) (h : l[k]? = some s) : szL (l.take (k + 1)) = min (szL (l.take k) + 1 + s.length) 16385 := by
  have hk := (List.getElem?_eq_some_iff.1 h).1
  by_cases h0 : k = 0
  · subst h0
    have e : l.take (0 + 1) = [s] := by rw [List.take_add_one, h]; rfl
    rw [e, szL, szL, if_neg (by simp), if_pos (by simp)]
    simp [joinBlank]
  · have hn : l.take k ≠ [] := fun hn => by
      have h3 : (l.take k).length = 0 := by rw [hn]; rfl
      rw [List.length_take] at h3; omega
    have hn' : l.take (k + 1) ≠ [] := fun hn => by
      have h3 : (l.take (k + 1)).length = 0 := by rw [hn]; rfl
      rw [List.length_take] at h3; omega
    rw [szL, szL, if_neg hn, if_neg hn', jb_succ l k s (by omega) h]
    simp only [List.length_append, List.length_cons]
    omega
theorem szL_bd (l : List (List UInt8)) : -1 ≤ szL l ∧ szL l ≤ 16385 := by
  unfold szL; by_cases h : l = []
  · rw [if_pos h]; omega
  · rw [if_neg h]; omega
theorem jb_count : ∀ l : List (List UInt8), l.length ≤ (joinBlank l).length + 1
  | [] => by simp
  | [s] => by simp
  | s :: t :: r => by have := jb_count (t :: r); simp only [joinBlank, List.length_append, List.length_cons] at this ⊢; omega
def LineRes' (l : List (List UInt8)) (w : World) (e : Ending) (w' : World) : Prop :=
  e = .returned (.tuple #[.string (ba (lineL l).1), .int .i64 (lineL l).2]) ∧ Below w.heap.size w w'
theorem lineRes_below {l : List (List UInt8)} {w w' : World} {e : Ending} (h : LineRes l w e w) (hb : Below w.heap.size w w') : LineRes' l w e w' := ⟨h.1, hb⟩
theorem line_many' (l : List (List UInt8)) (w : World) (h : l.all wordL = true) (h2 : 16384 < szL l) : LineRes l w (.returned (.tuple #[.string ⟨#[]⟩, .int .i64 4])) w := by
  refine line_many l w h l.length ?_
  rw [List.take_length]
  unfold szL at h2
  by_cases h0 : l = []
  · rw [if_pos h0] at h2; omega
  · rw [if_neg h0] at h2; omega
theorem szL_ok (l : List (List UInt8)) (h2 : ¬ 16384 < szL l) : (joinBlank l).length ≤ 16384 := by
  unfold szL at h2
  by_cases h0 : l = []
  · subst h0; simp [joinBlank]
  · rw [if_neg h0] at h2; omega

set_option maxRecDepth 100000 in
set_option maxHeartbeats 1000000 in
theorem line_walk (ao : Option Addr) (l : List (List UInt8)) (cap : Nat) (w : World) (h : CellsAt w ao (l.map sv)) (hs : ∀ s ∈ l, s.length ≤ 140737488351232) (hl : l.length ≤ 140737488351232) (hcap : l.length ≤ cap) :
    Calls Tryd.prog 21 #[.slice ao l.length cap] w (LineRes' l w) := by
  have hcells := h
  obtain ⟨b, off, ha, hc⟩ := h
  go_enter Tryd.func21, Tryd.ntmps21
  go_wp2
  go_loop [4, 9] (fun n i => ∃ (k : Nat) (m : Int), k ≤ l.length ∧ i = .int .i64 k ∧ n = .int .i64 m ∧ -1 ≤ m ∧ m ≤ 16385 ∧ Hid (m = szL (l.take k)) ∧ Hid (l.all wordL = (l.drop k).all wordL)) (fun _ i => l.length - (intOf i).toNat)
  case atStart => exact ⟨0, -1, Nat.zero_le _, rfl, rfl, by omega, by omega, Lib.hid rfl, Lib.hid rfl⟩
  case round =>
    obtain ⟨k, m, hk, rfl, rfl, hm0, hm1, hsz, hall⟩ := hrel
    by_cases hlt : k < l.length
    · obtain rfl := ha (by simp; omega)
      obtain ⟨s, r, hd, hg, hr, hmem⟩ := drop_parts l k hlt
      have hck := hc k (sv s) (by simp [hg])
      have hbs : (ba s).size ≤ 140737488351232 := by rw [ba_size]; exact hs s hmem
      by_cases hw : wordL s = true
      · have HA := Lib.hid (show l.all wordL = (l.drop (k + 1)).all wordL by rw [hall.out, hd, hr, List.all_cons, hw, Bool.true_and])
        have HW := Lib.hid (show wordL (bl (ba s)) = true by rw [bl_ba]; exact hw)
        have HZ := Lib.hid (show szL (l.take (k + 1)) = min (m + 1 + (ba s).size) 16385 by rw [szL_step l k s hg, ← hsz.out, ba_size])
        clear hc hs ha hd hg hr hmem hw hall hsz
        by_cases hmin : m + 1 + (ba s).size ≤ 16385
        · go_wp2_with (go_at_call 32; refine (is_yes _ _ hbs HW.out).mono ?_; rintro e w' ⟨rfl, rfl⟩)
          go_round
          case rel => exact ⟨k + 1, m + 1 + (ba s).size, by omega, by go_num, by first | rfl | go_num | (congr 1; omega), by omega, by omega, by unfold Hid; rw [HZ.out]; omega, HA⟩
          case measure => simp [intOf]; omega
        · go_wp2_with (go_at_call 32; refine (is_yes _ _ hbs HW.out).mono ?_; rintro e w' ⟨rfl, rfl⟩)
          go_round
          case rel => exact ⟨k + 1, 16385, by omega, by go_num, by first | rfl | go_num | (congr 1; omega), by omega, by omega, by unfold Hid; rw [HZ.out]; omega, HA⟩
          case measure => simp [intOf]; omega
      · have hw' : wordL s = false := by simpa using hw
        have HR := Lib.hid (lineRes_below (line_form l w (by rw [hall.out, hd, List.all_cons, hw', Bool.false_and])) (Below.refl _ _))
        have HW := Lib.hid (show wordL (bl (ba s)) = false by rw [bl_ba]; exact hw')
        clear hc hs ha hd hg hr hmem hw hw' hall
        go_wp2_with (go_at_call 32; refine (is_no _ _ hbs HW.out).mono ?_; rintro e w' ⟨rfl, rfl⟩)
        go_ret2
        exact HR.out
    · have hal : l.all wordL = true := by rw [hall.out, List.drop_of_length_le (by omega)]; rfl
      have hms := hsz.out
      rw [List.take_of_length_le (by omega)] at hms
      by_cases hbig : 16384 < m
      · have HR := Lib.hid (lineRes_below (line_many' l w hal (by rw [← hms]; exact hbig)) (Below.refl _ _))
        clear hal hall hms hsz hc hs ha
        go_wp2
        go_ret2
        exact HR.out
      · have hok := szL_ok l (by rw [← hms]; exact hbig)
        have hcn := jb_count l
        have HR := Lib.hid (line_ok l w hal l.length (by omega) (ba (joinBlank l)) (by rw [bl_ba, List.take_length]) (by rw [ba_size]; exact hok))
        clear hal hall hms hsz hc hs ha
        go_wp2_with (go_at_call 49; refine (join_walk _ _ _ _ hcells hcap (by omega) hok).mono ?_; rintro e w' ⟨rfl, hb⟩)
        go_ret2
        exact lineRes_below HR.out hb
end Go.Proofs.YtefkhjbgkaknmaaDoor
