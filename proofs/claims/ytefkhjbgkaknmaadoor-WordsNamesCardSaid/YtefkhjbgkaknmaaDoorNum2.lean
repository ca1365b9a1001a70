/- Walks: Show of the package words, Natural, Show of the reference. -/
import Derived.Test.YtefkhjbgkaknmaaDoorNum
import Derived.Test.YtefkhjbgkaknmaaDoorShelf
import Derived.Lib.AppendIntMem
import Derived.Laws.IdiomStrings
set_option linter.unusedVariables false
namespace Go.Proofs.YtefkhjbgkaknmaaDoor
open Go.RowKit Go.Shelf

theorem show_walk (n : Int) (h0 : -9223372036854775808 ≤ n) (h1 : n ≤ 9223372036854775807) (w : World) (htab : Lib.TabIs Tryd.prog w "internal/strconv.uint64pow10" .u64 Lib.pow10Tab) :
    Calls Tryd.prog 11 #[.int .i64 n] w fun e w' => e = .returned (.string (ba (Lib.itoa n))) ∧ Below w.heap.size w w' := by
  have HI := Lib.hid (Tryd.strconv_Itoa n h0 h1 w htab)
  clear htab
  go_enter Tryd.func11, Tryd.ntmps11
  go_wp2_with fail
  refine HI.out.mono ?_
  rintro e w1 ⟨rfl, k, os, rfl⟩
  go_wp2_with fail
  go_ret
  exact ⟨rfl, Lib.below_grow _ _ (Nat.le_refl _) _ _⟩

def dgB (m : Nat) : UInt8 := UInt8.ofNat (48 + m % 10)
def hiD (m : Nat) : List UInt8 := if m < 10 then [] else Lib.decDigits (m / 10)
theorem dec_split (m : Nat) : Lib.decDigits m = hiD m ++ [dgB m] := by
  unfold dgB
  rw [Lib.decDigits, hiD]
  by_cases h : m < 10
  · rw [dif_pos h, if_pos h, Nat.mod_eq_of_lt h]; rfl
  · rw [dif_neg h, if_neg h]
theorem pow_bound {m k u : Nat} (h : m * 10 ^ k ≤ u) (hm : 0 < m) (hu : u < 18446744073709551616) : k < 20 := by
  rcases Nat.lt_or_ge k 20 with h1 | h1
  · exact h1
  · have h2 : 10 ^ 20 ≤ 10 ^ k := Nat.pow_le_pow_right (by omega) h1
    have h3 : 1 * 10 ^ k ≤ m * 10 ^ k := Nat.mul_le_mul_right _ hm
    have : (10 : Nat) ^ 20 = 100000000000000000000 := by decide
    omega

theorem dig_conv (w : World) (m : Nat) : (convert 60 9 (.slice (some ⟨w.heap.size, 0, none⟩) 1 1)).run Tryd.prog (w.alloc (.cells #[.int .u8 (48 + (m : Int) % 10)] 5)) = .ok (.string (ba [dgB m])) (w.alloc (.cells #[.int .u8 (48 + (m : Int) % 10)] 5)) := by
  refine run_convert_bytes_back _ 60 9 5 ⟨w.heap.size, 0, none⟩ 1 [dgB m] Tryd.underlying60 Tryd.underlying5 Tryd.underlying9 ?_
  intro j hj
  have hj0 : j = 0 := by simp at hj; exact hj
  subst hj0
  have : (w.alloc (.cells #[.int .u8 (48 + (m : Int) % 10)] 5)).cell? ⟨w.heap.size, 0, none⟩ = some (.int .u8 (48 + (m : Int) % 10)) := by rw [Lib.cell_of_heap (alloc_new w _)]; rfl
  rw [add_plain, this]
  unfold dgB
  simp
  omega

theorem hi_step {m : Nat} (h : 10 ≤ m) : hiD m = hiD (m / 10) ++ [dgB (m / 10)] := by
  rw [hiD, if_neg (by omega), dec_split]

set_option maxRecDepth 100000 in
set_option maxHeartbeats 1000000 in
theorem natural_walk (u : Nat) (hu : u < 18446744073709551616) (w : World) :
    Calls Tryd.prog 30 #[.int .u64 (u : Int)] w fun e w' => e = .returned (.string (ba (Lib.decDigits u))) ∧ Below w.heap.size w w' := by
  have hc := dig_conv
  go_enter Tryd.func30, Tryd.ntmps30
  go_wp2
  go_loopw [0, 3] (fun n o wr => ∃ (m : Nat) (ou : ByteArray), n = .int .u64 (m : Int) ∧ o = .string ou ∧ m < 18446744073709551616 ∧ ou.size ≤ 21 ∧ Below w.heap.size w wr ∧ Hid (Lib.decDigits u = hiD m ++ bl ou) ∧ Hid (m * 10 ^ (ou.size - 1) ≤ u)) (fun n _ _ => (intOf n).toNat)
  case atStart => exact ⟨u, _, rfl, rfl, hu, by rw [ba_size]; show 1 ≤ 21; omega, (Below.refl _ w).alloc (Nat.le_refl _) _, Lib.hid (by rw [bl_ba, ← dec_split]), Lib.hid (by rw [ba_size]; simp)⟩
  case round =>
    obtain ⟨m, ou, rfl, rfl, hm, hou, hbel, hdec, hpow⟩ := hrel
    by_cases hbig : 10 ≤ m
    · have HD := Lib.hid (show Lib.decDigits u = hiD (m / 10) ++ bl (ba [dgB (m / 10)] ++ ou) by rw [hdec.out, hi_step hbig, bl_append, bl_ba]; simp)
      have hsz : (ba [dgB (m / 10)] ++ ou).size = 1 + ou.size := by rw [ByteArray.size_append, ba_size]; rfl
      have hs1 : (ba [dgB (m / 10)]).size = 1 := by rw [ba_size]; rfl
      have hp2 : (m / 10) * 10 ^ (1 + ou.size - 1) ≤ u := by
        have h1 := hpow.out
        rcases Nat.eq_zero_or_pos ou.size with h0 | h0
        · rw [h0] at h1 ⊢; simp at h1 ⊢; omega
        · rw [show 1 + ou.size - 1 = (ou.size - 1) + 1 by omega, Nat.pow_succ, Nat.mul_comm (10 ^ (ou.size - 1)), ← Nat.mul_assoc]
          exact Nat.le_trans (Nat.mul_le_mul_right _ (by omega)) h1
      have hk := pow_bound hp2 (by omega) hu
      have HP := Lib.hid hp2
      have hc2 : ∀ w : World, (convert 60 9 (.slice (some ⟨w.heap.size, 0, none⟩) 1 1)).run Tryd.prog (w.alloc (.cells #[.int .u8 (48 + (m : Int) / 10 % 10)] 5)) = .ok (.string (ba [dgB (m / 10)])) (w.alloc (.cells #[.int .u8 (48 + (m : Int) / 10 % 10)] 5)) := fun w => by
        have := dig_conv w (m / 10)
        rwa [show ((m / 10 : Nat) : Int) = (m : Int) / 10 by omega] at this
      clear hpow hp2 hdec
      go_wp2
      go_roundw
      case rel => exact ⟨m / 10, _, by go_num, rfl, by omega, by rw [hsz]; omega, hbel.alloc hbel.size _, HD, by rw [hsz]; exact HP⟩
      case measure => simp [intOf]; omega
    · have HD := Lib.hid (show Lib.decDigits u = bl ou by rw [hdec.out, hiD, if_pos (by omega)]; rfl)
      clear hpow hdec
      go_wp2
      go_ret
      exact ⟨ret_str (by rw [HD.out, ba_bl]), hbel⟩

theorem dec_len : ∀ (k u : Nat), u < 10 ^ (k + 1) → (Lib.decDigits u).length ≤ k + 1
  | 0, u, h => by rw [Lib.decDigits, dif_pos (by simpa using h)]; exact Nat.le_refl _
  | k + 1, u, h => by
    rw [Lib.decDigits]
    by_cases h1 : u < 10
    · rw [dif_pos h1]; simp
    · rw [dif_neg h1, List.length_append]
      have := dec_len k (u / 10) (by rw [Nat.pow_succ] at h; omega)
      simp; omega
theorem neg_wrap (u : Nat) (h : u ≤ 9223372036854775808) : IntKind.u64.wrap (-IntKind.u64.wrap (-(u : Int))) = (u : Int) := by
  simp [IntKind.wrap, IntKind.bits, IntKind.signed]
  omega

set_option maxRecDepth 100000 in
theorem rshow_walk (n : Int) (h0 : -9223372036854775808 ≤ n) (h1 : n ≤ 9223372036854775807) (w : World) :
    Calls Tryd.prog 12 #[.int .i64 n] w fun e w' => e = .returned (.string (ba (Lib.itoa n))) ∧ Below w.heap.size w w' := by
  by_cases hn : n < 0
  · obtain ⟨u, hu⟩ : ∃ u : Nat, n = -(u : Int) := ⟨n.natAbs, by omega⟩
    have hit : ba (Lib.itoa n) = ⟨#[45]⟩ ++ ba (Lib.decDigits u) := by
      apply bl_inj
      rw [bl_append, bl_ba, bl_ba, Lib.itoa, if_pos hn, hu, Int.natAbs_neg]; rfl
    have hN := fun w => natural_walk u (by omega) w
    rw [hit]
    clear hit
    have hsz : (ba (Lib.decDigits u)).size ≤ 1000 := by
      rw [ba_size]
      exact Nat.le_trans (dec_len 19 u (by have : (10 : Nat) ^ 20 = 100000000000000000000 := by decide
                                           rw [this]; omega)) (by decide)
    have hwr := neg_wrap u (by omega)
    generalize ba (Lib.decDigits u) = x at hN hsz
    have HN := Lib.hid hN
    clear hN
    go_enter Tryd.func12, Tryd.ntmps12
    go_wp2_with fail
    refine (HN.out _).mono ?_
    rintro e w1 ⟨rfl, hb⟩
    go_wp2_with fail
    go_ret
    exact ⟨rfl, hb⟩
  · obtain ⟨u, rfl⟩ : ∃ u : Nat, n = (u : Int) := ⟨n.toNat, by omega⟩
    have hit : Lib.itoa (u : Int) = Lib.decDigits u := by rw [Lib.itoa, if_neg hn]; rfl
    rw [hit]
    have HN := Lib.hid (fun w => natural_walk u (by omega) w)
    clear hit
    go_enter Tryd.func12, Tryd.ntmps12
    go_wp2_with fail
    refine (HN.out _).mono ?_
    rintro e w1 ⟨rfl, hb⟩
    go_wp2_with fail
    go_ret
    exact ⟨rfl, hb⟩
end Go.Proofs.YtefkhjbgkaknmaaDoor
