/- Walks of the reference of layer 2: Line. -/
import Derived.Test.YtefkhjbgkaknmaaR2d
set_option linter.unusedVariables false
namespace Go.Proofs.Ytefkhjbgkaknmaa
open Go.RowKit

theorem jb_snoc : ∀ (l : List (List UInt8)) (s : List UInt8), joinBlank (l ++ [s]) = if l = [] then s else joinBlank l ++ 32 :: s
  | [], s => rfl
  | [a], s => by simp [joinBlank]
  | a :: b :: r, s => by
    have := jb_snoc (b :: r) s
    simp only [List.cons_append] at this ⊢
    rw [joinBlank, this]
    simp [joinBlank]
    intro h; simp at h
theorem jb_pre : ∀ (l m : List (List UInt8)), (joinBlank l).length ≤ (joinBlank (l ++ m)).length
  | [], m => by simp [joinBlank]
  | [a], [] => by simp
  | [a], b :: m => by simp [joinBlank]
  | a :: b :: r, m => by
    have := jb_pre (b :: r) m
    simp only [List.cons_append] at this ⊢
    simp only [joinBlank, List.length_append, List.length_cons]
    omega
theorem jb_take (l : List (List UInt8)) (k : Nat) : (joinBlank (l.take k)).length ≤ (joinBlank l).length := by
  have := jb_pre (l.take k) (l.drop k)
  rwa [List.take_append_drop] at this
theorem jb_zero (l : List (List UInt8)) (s : List UInt8) (h : l[0]? = some s) : joinBlank (l.take 1) = s := by
  rw [List.take_add_one, h]; rfl
theorem jb_succ (l : List (List UInt8)) (k : Nat) (s : List UInt8) (hk : 0 < k) (h : l[k]? = some s) : joinBlank (l.take (k + 1)) = joinBlank (l.take k) ++ 32 :: s := by
  rw [List.take_add_one, h]
  show joinBlank (l.take k ++ [s]) = _
  rw [jb_snoc, if_neg]
  intro hn
  have := (List.getElem?_eq_some_iff.1 h).1
  have h2 : (l.take k).length = 0 := by rw [hn]; rfl
  rw [List.length_take] at h2; omega

def LineRes (l : List (List UInt8)) (w : World) (e : Ending) (w' : World) : Prop :=
  e = .returned (.tuple #[.string (ba (lineL l).1), .int .i64 (lineL l).2]) ∧ w = w'
theorem line_form (l : List (List UInt8)) (w : World) (h : l.all wordL = false) : LineRes l w (.returned (.tuple #[.string ⟨#[]⟩, .int .i64 11])) w := by
  have e : lineL l = ([], 11) := by unfold lineL; rw [if_pos h]
  exact ⟨by rw [e]; rfl, rfl⟩
theorem line_many (l : List (List UInt8)) (w : World) (h : l.all wordL = true) (k : Nat) (h2 : 16384 < (joinBlank (l.take k)).length) : LineRes l w (.returned (.tuple #[.string ⟨#[]⟩, .int .i64 4])) w := by
  have e : lineL l = ([], 4) := by unfold lineL; rw [if_neg (by rw [h]; simp), if_pos (Nat.lt_of_lt_of_le h2 (jb_take l k))]
  exact ⟨by rw [e]; rfl, rfl⟩
theorem line_ok (l : List (List UInt8)) (w : World) (h : l.all wordL = true) (k : Nat) (hk : ¬ k < l.length) (o : ByteArray) (h2 : bl o = joinBlank (l.take k)) (h3 : o.size ≤ 16384) : LineRes l w (.returned (.tuple #[.string o, .int .i64 0])) w := by
  rw [List.take_of_length_le (by omega)] at h2
  have e : lineL l = (joinBlank l, 0) := by unfold lineL; rw [if_neg (by rw [h]; simp), if_neg (by rw [← h2, bl_length]; omega)]
  exact ⟨by rw [e, ← h2, ba_bl], rfl⟩

set_option maxRecDepth 100000 in
set_option maxHeartbeats 1000000 in
theorem rline_walk (ao : Option Addr) (l : List (List UInt8)) (cap : Nat) (w : World) (h : CellsAt w ao (l.map sv)) (hs : ∀ s ∈ l, s.length ≤ 140737488351232) (hl : l.length ≤ 140737488351232) :
    Calls Try.prog 18 #[.slice ao l.length cap] w (LineRes l w) := by
  obtain ⟨b, off, ha, hc⟩ := h
  go_enter Try.func18, Try.ntmps18
  go_wp2
  go_loop [4] (fun i => ∃ (k : Nat), k ≤ l.length ∧ i = .int .i64 k ∧ Hid (l.all wordL = (l.drop k).all wordL)) (fun i => l.length - (intOf i).toNat)
  case atStart => exact ⟨0, Nat.zero_le _, rfl, Lib.hid rfl⟩
  case round =>
    obtain ⟨k, hk, rfl, hall⟩ := hrel
    by_cases hlt : k < l.length
    · obtain rfl := ha (by simp; omega)
      obtain ⟨s, r, hd, hg, hr, hmem⟩ := drop_parts l k hlt
      have hck := hc k (sv s) (by simp [hg])
      have hsz : (ba s).size ≤ 140737488351232 := by rw [ba_size]; exact hs s hmem
      by_cases hw : wordL s = true
      · have HA := Lib.hid (show l.all wordL = (l.drop (k + 1)).all wordL by rw [hall.out, hd, hr, List.all_cons, hw, Bool.true_and])
        have HW := Lib.hid (show wordL (bl (ba s)) = true by rw [bl_ba]; exact hw)
        clear hc hs ha hd hg hr hmem hw hall
        go_wp2_with (go_at_call 31; refine (rword_yes _ _ hsz HW.out).mono ?_; rintro e w' ⟨rfl, rfl⟩)
        go_round
        case rel => exact ⟨k + 1, by omega, by go_num, HA⟩
        case measure => simp [intOf]; omega
      · have hw' : wordL s = false := by simpa using hw
        have HR := Lib.hid (line_form l w (by rw [hall.out, hd, List.all_cons, hw', Bool.false_and]))
        have HW := Lib.hid (show wordL (bl (ba s)) = false by rw [bl_ba]; exact hw')
        clear hc hs ha hd hg hr hmem hw hw' hall
        go_wp2_with (go_at_call 31; refine (rword_no _ _ hsz HW.out).mono ?_; rintro e w' ⟨rfl, rfl⟩)
        go_ret2
        exact HR.out
    · have hal : l.all wordL = true := by rw [hall.out, List.drop_of_length_le (by omega)]; rfl
      have HM := Lib.hid (line_many l w hal)
      have HO := Lib.hid (line_ok l w hal)
      clear hal hall
      go_wp2
      go_loop [5, 6] (fun o i => ∃ (j : Nat) (ou : ByteArray), j ≤ l.length ∧ i = .int .i64 j ∧ o = .string ou ∧ ou.size ≤ 16384 ∧ Hid (bl ou = joinBlank (l.take j))) (fun _ i => l.length - (intOf i).toNat)
      case atStart => exact ⟨0, ⟨#[]⟩, Nat.zero_le _, rfl, rfl, by decide, Lib.hid rfl⟩
      case round =>
        obtain ⟨j, ou, hj, rfl, rfl, hou, hjn⟩ := hrel
        by_cases hlt2 : j < l.length
        · obtain rfl := ha (by simp; omega)
          obtain ⟨s, r, hd, hg, hr, hmem⟩ := drop_parts l j hlt2
          have hck := hc j (sv s) (by simp [hg])
          have hsz : (ba s).size ≤ 140737488351232 := by rw [ba_size]; exact hs s hmem
          by_cases hj0 : 0 < j
          · have HS := Lib.hid (show bl (ou ++ ⟨#[32]⟩ ++ ba s) = joinBlank (l.take (j + 1)) by
              rw [jb_succ l j s hj0 hg, bl_append, bl_append, bl_ba, hjn.out]
              show _ ++ [32] ++ s = _
              simp)
            have HZ := Lib.hid (show (ou ++ ⟨#[32]⟩ ++ ba s).size = ou.size + 1 + (ba s).size by rw [ByteArray.size_append, ByteArray.size_append]; rfl)
            have hgt : (0 : Int) < j := by omega
            clear hc hs ha hd hg hr hmem hjn
            by_cases hbig : 16384 < ou.size + 1 + (ba s).size
            · have HR := Lib.hid (HM.out (j + 1) (by rw [← HS.out, bl_length, HZ.out]; exact hbig))
              go_wp2
              go_ret2
              exact HR.out
            · go_wp2
              go_round
              case rel => exact ⟨j + 1, _, by omega, by go_num, rfl, by rw [HZ.out]; omega, HS⟩
              case measure => simp [intOf]; omega
          · obtain rfl : j = 0 := by omega
            simp only [Nat.add_zero] at hck
            have HS := Lib.hid (show bl (ou ++ ba s) = joinBlank (l.take (0 + 1)) by
              rw [jb_zero l s hg, bl_append, bl_ba, hjn.out]; rfl)
            have h00 : ou.size = 0 := by rw [← bl_length, hjn.out]; rfl
            have HZ := Lib.hid (show (ou ++ ba s).size = (ba s).size by rw [ByteArray.size_append, h00, Nat.zero_add])
            have h01 : ou.size ≤ 0 := by omega
            clear hc hs ha hd hg hr hmem hjn h00
            by_cases hbig : 16384 < (ba s).size
            · have HR := Lib.hid (HM.out (0 + 1) (by rw [← HS.out, bl_length, HZ.out]; exact hbig))
              go_wp2
              go_ret2
              exact HR.out
            · go_wp2
              go_round
              case rel => exact ⟨0 + 1, _, by omega, by go_num, rfl, by rw [HZ.out]; omega, HS⟩
              case measure => simp [intOf]; omega
        · have HR := Lib.hid (HO.out j hlt2 ou hjn.out hou)
          go_wp2
          go_ret2
          exact HR.out
end Go.Proofs.Ytefkhjbgkaknmaa
