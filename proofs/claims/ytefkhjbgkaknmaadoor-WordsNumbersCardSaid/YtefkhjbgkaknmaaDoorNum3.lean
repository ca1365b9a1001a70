/- Walks of the reference of layer 2: Number. -/
import Derived.Test.YtefkhjbgkaknmaaDoorNum2
set_option linter.unusedVariables false
namespace Go.Proofs.YtefkhjbgkaknmaaDoor
open Go.RowKit Go.Shelf

def RNumRes (s : ByteArray) (w : World) (e : Ending) (w' : World) : Prop :=
  e = .returned (.tuple #[.int .i64 (numL (bl s)).1, .int .i64 (numL (bl s)).2]) ∧ w = w'
theorem rnum_form {s : ByteArray} (w : World) (h : formL (bl s) = false) : RNumRes s w (.returned (.tuple #[.int .i64 0, .int .i64 11])) w := ⟨by unfold numL; rw [if_pos h], rfl⟩
theorem rnum_great {s : ByteArray} (w : World) (h : formL (bl s) = true) (h2 : 4611686018427387904 < decVal 0 (magL (bl s))) : RNumRes s w (.returned (.tuple #[.int .i64 0, .int .i64 30])) w := ⟨by unfold numL; rw [if_neg (by rw [h]; simp), if_pos h2], rfl⟩
theorem rnum_ok {s : ByteArray} (w : World) (h : formL (bl s) = true) (h2 : ¬ 4611686018427387904 < decVal 0 (magL (bl s))) (v : Int) (hv : (if negL (bl s) then -(decVal 0 (magL (bl s)) : Int) else (decVal 0 (magL (bl s)) : Int)) = v) : RNumRes s w (.returned (.tuple #[.int .i64 v, .int .i64 0])) w := ⟨by unfold numL; rw [if_neg (by rw [h]; simp), if_neg h2, hv], rfl⟩

set_option maxRecDepth 100000 in
set_option maxHeartbeats 4000000 in
theorem rnumber_walk (s : ByteArray) (w : World) (hs : s.size ≤ 140737488351232) :
    Calls Tryd.prog 10 #[.string s] w (RNumRes s w) := by
  by_cases hs0 : s.size = 0
  · have HR := Lib.hid (rnum_form w (show formL (bl s) = false by
      have : bl s = [] := List.length_eq_zero_iff.1 (by rw [bl_length]; exact hs0)
      simp [formL, this, magL]))
    go_enter Tryd.func10, Tryd.ntmps10
    go_wp2
    go_ret2
    exact HR.out
  have hs1 : 0 < s.size := by omega
  have hhd : (bl s).head?.map UInt8.toNat = some s[0].toNat := by
    rw [List.head?_eq_getElem?, bl_get s 0 hs1]; rfl
  obtain ⟨x, hbx, hent⟩ : ∃ x : ByteArray, bl x = magL (bl s) ∧ (((((s[0].toNat : Nat) : Int) == 45) = true ∧ s.extract 1 s.size = x ∧ x.size + 1 = s.size ∧ negL (bl s) = true) ∨ ((((s[0].toNat : Nat) : Int) == 45) = false ∧ s = x ∧ negL (bl s) = false)) := by
    by_cases h45 : s[0].toNat = 45
    · refine ⟨s.extract 1 s.size, ?_, .inl ⟨byte_t (m := 45) 45 rfl hs1 h45, rfl, by rw [ByteArray.size_extract]; omega, by simp [negL, hhd, h45]⟩⟩
      rw [bl_extract, magL, if_pos (by rw [hhd, h45]), List.take_of_length_le (by simp [bl_length])]
    · exact ⟨s, by rw [magL, if_neg (by rw [hhd]; simp; exact h45)], .inr ⟨byte_f (m := 45) 45 rfl hs1 h45, rfl, by simp [negL, hhd, h45]⟩⟩
  clear hhd
  by_cases hx0 : x.size = 0
  · have HR := Lib.hid (rnum_form w (show formL (bl s) = false by
      have : bl x = [] := List.length_eq_zero_iff.1 (by rw [bl_length]; exact hx0)
      simp [formL, ← hbx, this]))
    clear hbx
    rcases hent with ⟨hb, hxe, hxs, _⟩ | ⟨hb, hxe, _⟩
    · go_enter Tryd.func10, Tryd.ntmps10
      go_wp2
      go_ret2
      exact HR.out
    · subst hxe; omega
  have hx1 : 0 < x.size := by omega
  have hxd : (magL (bl s)).head?.map UInt8.toNat = some x[0].toNat := by
    rw [← hbx, List.head?_eq_getElem?, bl_get x 0 hx1]; rfl
  by_cases hz : x[0].toNat = 48 ∧ 1 < s.size
  · have hb0 := byte_t (m := 48) 48 rfl hx1 hz.1
    have hsz := hz.2
    have HR := Lib.hid (rnum_form w (show formL (bl s) = false by simp [formL, hxd, hz.1, bl_length, hz.2]))
    clear hbx hxd hz
    rcases hent with ⟨hb, hxe, hxs, _⟩ | ⟨hb, hxe, _⟩
    · go_enter Tryd.func10, Tryd.ntmps10
      go_wp2
      go_ret2
      exact HR.out
    · subst hxe
      go_enter Tryd.func10, Tryd.ntmps10
      go_wp2
      go_ret2
      exact HR.out
  have key : ((((x[0].toNat : Nat) : Int) == 48) = false) ∨ ((((x[0].toNat : Nat) : Int) == 48) = true ∧ s.size ≤ 1) := by
    by_cases h48 : x[0].toNat = 48
    · exact .inr ⟨byte_t (m := 48) 48 rfl hx1 h48, by omega⟩
    · exact .inl (byte_f (m := 48) 48 rfl hx1 h48)
  have hform : formL (bl s) = (magL (bl s)).all digB := by
    have h0 : magL (bl s) ≠ [] := by rw [← hbx]; intro h; have := bl_length x; rw [h] at this; simp at this; omega
    have hcond : (decide ((magL (bl s)).head?.map UInt8.toNat = some 48) && decide (1 < (bl s).length)) = false := by
      rw [hxd, bl_length]; simp; omega
    simp only [formL, hcond]
    simp [h0]
  have HF := Lib.hid hform
  have HBX := Lib.hid hbx
  have hneg : (negL (bl s) = true ∧ x.size < s.size) ∨ (negL (bl s) = false ∧ ¬ x.size < s.size) := by
    rcases hent with ⟨_, _, h1, h2⟩ | ⟨_, h1, h2⟩
    · exact .inl ⟨h2, by omega⟩
    · subst h1; exact .inr ⟨h2, by omega⟩
  have hxs : x.size ≤ 140737488351232 := by
    rcases hent with ⟨_, _, h1, h2⟩ | ⟨_, h1, h2⟩
    · omega
    · subst h1; exact hs
  have HN := Lib.hid hneg
  have hx00 : ((x.size : Int) == 0) = false := beq_eq_false_iff_ne.2 (by omega)
  have hent' : (((((s[0].toNat : Nat) : Int) == 45) = true ∧ s.extract 1 s.size = x ∧ (((x[0].toNat : Nat) : Int) == 48) = false) ∨ ((((s[0].toNat : Nat) : Int) == 45) = false ∧ s = x)) := by
    rcases hent with ⟨h1, h2, h3, _⟩ | ⟨h1, h2, _⟩
    · rcases key with k | ⟨_, k⟩
      · exact .inl ⟨h1, h2, k⟩
      · omega
    · exact .inr ⟨h1, h2⟩
  clear hent hz hxd hform hbx hneg
  have HHF := Lib.hid (fun k (hk : k < x.size) (h : ¬ (48 ≤ x[k].toNat ∧ x[k].toNat ≤ 57)) => rnum_form w (show formL (bl s) = false by
    rw [HF.out, ← HBX.out, List.all_eq_false]
    exact ⟨x[k], List.mem_of_getElem? (bl_get x k hk), by simp [digB]; omega⟩))
  rcases hent' with ⟨hb, hxe, hb0⟩ | ⟨hb, hxe⟩
  · have HNEG : Hid (negL (bl s) = true) := Lib.hid (by
      simp only [negL, List.head?_eq_getElem?, bl_get s 0 hs1]
      simp at hb ⊢; omega)
    go_enter Tryd.func10, Tryd.ntmps10
    go_wp2
    clear hx00 hb hb0 hxe
    go_loop [5] (fun i => ∃ (k : Nat), k ≤ x.size ∧ i = .int .i64 k ∧ Hid ((bl x).all digB = ((bl x).drop k).all digB)) (fun i => x.size - (intOf i).toNat)
    case atStart => exact ⟨0, Nat.zero_le _, rfl, Lib.hid rfl⟩
    case round =>
      obtain ⟨k, hk, rfl, hall⟩ := hrel
      by_cases hlt : k < x.size
      · by_cases h1 : x[k].toNat < 48
        · have HR := Lib.hid (HHF.out k hlt (by omega))
          clear hall
          go_wp2
          go_ret2
          exact HR.out
        · by_cases h2 : 57 < x[k].toNat
          · have HR := Lib.hid (HHF.out k hlt (by omega))
            clear hall
            go_wp2
            go_ret2
            exact HR.out
          · have HA := Lib.hid (show (bl x).all digB = ((bl x).drop (k + 1)).all digB by
              rw [hall.out, bl_drop_cons x k hlt, List.all_cons, show digB x[k] = true by simp [digB]; omega, Bool.true_and])
            clear hall
            go_wp2
            go_round
            case rel => exact ⟨k + 1, by omega, by go_num, HA⟩
            case measure => simp [intOf]; omega
      · have HALL : Hid ((bl x).all digB = true) := Lib.hid (by rw [hall.out, bl_drop_end x k hlt]; rfl)
        have HFT : Hid (formL (bl s) = true) := Lib.hid (by rw [HF.out, ← HBX.out]; exact HALL.out)
        clear hall
        go_wp2
        go_loop [6, 7] (fun n i => ∃ (j m : Nat), j ≤ x.size ∧ i = .int .i64 j ∧ n = .int .i64 m ∧ m ≤ 4611686018427387920 ∧ Hid (decVal 0 (bl x) = decVal m ((bl x).drop j))) (fun _ i => x.size - (intOf i).toNat)
        case atStart => exact ⟨0, 0, Nat.zero_le _, rfl, rfl, by omega, Lib.hid rfl⟩
        case round =>
          obtain ⟨j, m, hj, rfl, rfl, hm, hdv⟩ := hrel
          by_cases hlt2 : j < x.size
          · have hd : 48 ≤ x[j].toNat ∧ x[j].toNat ≤ 57 := by
              have := List.all_eq_true.1 HALL.out x[j] (List.mem_of_getElem? (bl_get x j hlt2))
              simpa [digB] using this
            obtain ⟨hd1, hd2⟩ := hd
            by_cases hbig : 461168601842738790 < m
            · have HR := Lib.hid (rnum_great w HFT.out (by
                rw [← HBX.out, hdv.out, bl_drop_cons x j hlt2]
                have := decVal_ge10 x[j] ((bl x).drop (j + 1)) m
                omega))
              clear hdv
              go_wp2
              go_ret2
              exact HR.out
            · have HD := Lib.hid (show decVal 0 (bl x) = decVal (10 * m + (x[j].toNat - 48)) ((bl x).drop (j + 1)) by
                rw [hdv.out, bl_drop_cons x j hlt2, decVal_cons])
              clear hdv
              go_wp2
              go_round
              case rel => exact ⟨j + 1, 10 * m + (x[j].toNat - 48), by omega, by go_num, by go_num, by omega, HD⟩
              case measure => simp [intOf]; omega
          · have HD := Lib.hid (show decVal 0 (magL (bl s)) = m by rw [← HBX.out, hdv.out, bl_drop_end x j hlt2, decVal_nil])
            clear hdv
            by_cases hbig : 4611686018427387904 < m
            · have HR := Lib.hid (rnum_great w HFT.out (by rw [HD.out]; exact hbig))
              go_wp2
              go_ret2
              exact HR.out
            · have hv := Lib.hid (rnum_ok w HFT.out (by rw [HD.out]; exact hbig))
              have hlts : x.size < s.size := by rcases HN.out with ⟨_, h⟩ | ⟨h, _⟩ <;> first | exact h | (exfalso; exact absurd h (by simp [HNEG.out]))
              have HR := Lib.hid (hv.out (-(m : Int)) (by rw [HNEG.out, HD.out]; rfl))
              go_wp2
              go_ret2
              exact HR.out
  · subst hxe
    have HNEG : Hid (negL (bl s) = false) := Lib.hid (by
      simp only [negL, List.head?_eq_getElem?, bl_get s 0 hs1]
      simp at hb ⊢; omega)
    rcases key with hb0 | ⟨hb0, hs2⟩
    · go_enter Tryd.func10, Tryd.ntmps10
      go_wp2
      clear hx00 hb hb0
      go_loop [5] (fun i => ∃ (k : Nat), k ≤ s.size ∧ i = .int .i64 k ∧ Hid ((bl s).all digB = ((bl s).drop k).all digB)) (fun i => s.size - (intOf i).toNat)
      case atStart => exact ⟨0, Nat.zero_le _, rfl, Lib.hid rfl⟩
      case round =>
        obtain ⟨k, hk, rfl, hall⟩ := hrel
        by_cases hlt : k < s.size
        · by_cases h1 : s[k].toNat < 48
          · have HR := Lib.hid (HHF.out k hlt (by omega))
            clear hall
            go_wp2
            go_ret2
            exact HR.out
          · by_cases h2 : 57 < s[k].toNat
            · have HR := Lib.hid (HHF.out k hlt (by omega))
              clear hall
              go_wp2
              go_ret2
              exact HR.out
            · have HA := Lib.hid (show (bl s).all digB = ((bl s).drop (k + 1)).all digB by
                rw [hall.out, bl_drop_cons s k hlt, List.all_cons, show digB s[k] = true by simp [digB]; omega, Bool.true_and])
              clear hall
              go_wp2
              go_round
              case rel => exact ⟨k + 1, by omega, by go_num, HA⟩
              case measure => simp [intOf]; omega
        · have HALL : Hid ((bl s).all digB = true) := Lib.hid (by rw [hall.out, bl_drop_end s k hlt]; rfl)
          have HFT : Hid (formL (bl s) = true) := Lib.hid (by rw [HF.out, ← HBX.out]; exact HALL.out)
          clear hall
          go_wp2
          go_loop [6, 7] (fun n i => ∃ (j m : Nat), j ≤ s.size ∧ i = .int .i64 j ∧ n = .int .i64 m ∧ m ≤ 4611686018427387920 ∧ Hid (decVal 0 (bl s) = decVal m ((bl s).drop j))) (fun _ i => s.size - (intOf i).toNat)
          case atStart => exact ⟨0, 0, Nat.zero_le _, rfl, rfl, by omega, Lib.hid rfl⟩
          case round =>
            obtain ⟨j, m, hj, rfl, rfl, hm, hdv⟩ := hrel
            by_cases hlt2 : j < s.size
            · have hd : 48 ≤ s[j].toNat ∧ s[j].toNat ≤ 57 := by
                have := List.all_eq_true.1 HALL.out s[j] (List.mem_of_getElem? (bl_get s j hlt2))
                simpa [digB] using this
              obtain ⟨hd1, hd2⟩ := hd
              by_cases hbig : 461168601842738790 < m
              · have HR := Lib.hid (rnum_great w HFT.out (by
                  rw [← HBX.out, hdv.out, bl_drop_cons s j hlt2]
                  have := decVal_ge10 s[j] ((bl s).drop (j + 1)) m
                  omega))
                clear hdv
                go_wp2
                go_ret2
                exact HR.out
              · have HD := Lib.hid (show decVal 0 (bl s) = decVal (10 * m + (s[j].toNat - 48)) ((bl s).drop (j + 1)) by
                  rw [hdv.out, bl_drop_cons s j hlt2, decVal_cons])
                clear hdv
                go_wp2
                go_round
                case rel => exact ⟨j + 1, 10 * m + (s[j].toNat - 48), by omega, by go_num, by go_num, by omega, HD⟩
                case measure => simp [intOf]; omega
            · have HD := Lib.hid (show decVal 0 (magL (bl s)) = m by rw [← HBX.out, hdv.out, bl_drop_end s j hlt2, decVal_nil])
              clear hdv
              by_cases hbig : 4611686018427387904 < m
              · have HR := Lib.hid (rnum_great w HFT.out (by rw [HD.out]; exact hbig))
                go_wp2
                go_ret2
                exact HR.out
              · have hv := Lib.hid (rnum_ok w HFT.out (by rw [HD.out]; exact hbig))
                have HR := Lib.hid (hv.out (m : Int) (by rw [HNEG.out, HD.out]; rfl))
                go_wp2
                go_ret2
                exact HR.out
    · go_enter Tryd.func10, Tryd.ntmps10
      go_wp2
      clear hx00 hb hb0
      go_loop [5] (fun i => ∃ (k : Nat), k ≤ s.size ∧ i = .int .i64 k ∧ Hid ((bl s).all digB = ((bl s).drop k).all digB)) (fun i => s.size - (intOf i).toNat)
      case atStart => exact ⟨0, Nat.zero_le _, rfl, Lib.hid rfl⟩
      case round =>
        obtain ⟨k, hk, rfl, hall⟩ := hrel
        by_cases hlt : k < s.size
        · by_cases h1 : s[k].toNat < 48
          · have HR := Lib.hid (HHF.out k hlt (by omega))
            clear hall
            go_wp2
            go_ret2
            exact HR.out
          · by_cases h2 : 57 < s[k].toNat
            · have HR := Lib.hid (HHF.out k hlt (by omega))
              clear hall
              go_wp2
              go_ret2
              exact HR.out
            · have HA := Lib.hid (show (bl s).all digB = ((bl s).drop (k + 1)).all digB by
                rw [hall.out, bl_drop_cons s k hlt, List.all_cons, show digB s[k] = true by simp [digB]; omega, Bool.true_and])
              clear hall
              go_wp2
              go_round
              case rel => exact ⟨k + 1, by omega, by go_num, HA⟩
              case measure => simp [intOf]; omega
        · have HALL : Hid ((bl s).all digB = true) := Lib.hid (by rw [hall.out, bl_drop_end s k hlt]; rfl)
          have HFT : Hid (formL (bl s) = true) := Lib.hid (by rw [HF.out, ← HBX.out]; exact HALL.out)
          clear hall
          go_wp2
          go_loop [6, 7] (fun n i => ∃ (j m : Nat), j ≤ s.size ∧ i = .int .i64 j ∧ n = .int .i64 m ∧ m ≤ 4611686018427387920 ∧ Hid (decVal 0 (bl s) = decVal m ((bl s).drop j))) (fun _ i => s.size - (intOf i).toNat)
          case atStart => exact ⟨0, 0, Nat.zero_le _, rfl, rfl, by omega, Lib.hid rfl⟩
          case round =>
            obtain ⟨j, m, hj, rfl, rfl, hm, hdv⟩ := hrel
            by_cases hlt2 : j < s.size
            · have hd : 48 ≤ s[j].toNat ∧ s[j].toNat ≤ 57 := by
                have := List.all_eq_true.1 HALL.out s[j] (List.mem_of_getElem? (bl_get s j hlt2))
                simpa [digB] using this
              obtain ⟨hd1, hd2⟩ := hd
              by_cases hbig : 461168601842738790 < m
              · have HR := Lib.hid (rnum_great w HFT.out (by
                  rw [← HBX.out, hdv.out, bl_drop_cons s j hlt2]
                  have := decVal_ge10 s[j] ((bl s).drop (j + 1)) m
                  omega))
                clear hdv
                go_wp2
                go_ret2
                exact HR.out
              · have HD := Lib.hid (show decVal 0 (bl s) = decVal (10 * m + (s[j].toNat - 48)) ((bl s).drop (j + 1)) by
                  rw [hdv.out, bl_drop_cons s j hlt2, decVal_cons])
                clear hdv
                go_wp2
                go_round
                case rel => exact ⟨j + 1, 10 * m + (s[j].toNat - 48), by omega, by go_num, by go_num, by omega, HD⟩
                case measure => simp [intOf]; omega
            · have HD := Lib.hid (show decVal 0 (magL (bl s)) = m by rw [← HBX.out, hdv.out, bl_drop_end s j hlt2, decVal_nil])
              clear hdv
              by_cases hbig : 4611686018427387904 < m
              · have HR := Lib.hid (rnum_great w HFT.out (by rw [HD.out]; exact hbig))
                go_wp2
                go_ret2
                exact HR.out
              · have hv := Lib.hid (rnum_ok w HFT.out (by rw [HD.out]; exact hbig))
                have HR := Lib.hid (hv.out (m : Int) (by rw [HNEG.out, HD.out]; rfl))
                go_wp2
                go_ret2
                exact HR.out
end Go.Proofs.YtefkhjbgkaknmaaDoor
