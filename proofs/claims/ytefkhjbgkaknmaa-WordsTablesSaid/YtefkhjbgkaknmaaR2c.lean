/- Walks of the reference of layer 2: Text. -/
import Derived.Test.YtefkhjbgkaknmaaR2b
set_option linter.unusedVariables false
namespace Go.Proofs.Ytefkhjbgkaknmaa
open Go.RowKit

theorem ba_size (s : List UInt8) : (ba s).size = s.length := by rw [← bl_length, bl_ba]
theorem size_of_go : ∀ (l : List (List UInt8)) (n : Nat), sizeGo l n = true → n ≤ 16384 → n + (joinFeed l).length ≤ 16384
  | [], n, _, hn => by simp [joinFeed]; exact hn
  | s :: r, n, h, _ => by
    rw [sizeGo] at h
    by_cases hc : 16384 < n + s.length + 1
    · rw [if_pos hc] at h; cases h
    · rw [if_neg hc] at h
      have := size_of_go r (n + s.length + 1) h (by omega)
      simp [joinFeed]; omega
theorem join_step (o : ByteArray) (l : List (List UInt8)) (k : Nat) (s : List UInt8) (r : List (List UInt8)) (h : l.drop k = s :: r) (hr : l.drop (k + 1) = r) (hj : joinFeed l = bl o ++ joinFeed (l.drop k)) :
    joinFeed l = bl (o ++ ba s ++ ⟨#[10]⟩) ++ joinFeed (l.drop (k + 1)) := by
  rw [hj, h, hr, joinFeed, bl_append, bl_append, bl_ba]
  have : bl ⟨#[10]⟩ = [10] := rfl
  rw [this]; simp
theorem join_end (o : ByteArray) (l : List (List UInt8)) (k : Nat) (h : ¬ k < l.length) (hj : joinFeed l = bl o ++ joinFeed (l.drop k)) : joinFeed l = bl o := by
  rw [hj, List.drop_of_length_le (by omega), joinFeed, List.append_nil]
theorem join_size (o : ByteArray) (l r : List (List UInt8)) (hj : joinFeed l = bl o ++ joinFeed r) (h : (joinFeed l).length ≤ 16384) : o.size ≤ 16384 := by
  rw [hj, List.length_append, bl_length] at h; omega
theorem feed_yes (s : ByteArray) (k : Nat) (h : k < s.size) (hb : s[k].toNat = 10) (hf : hasFeed (bl s) = hasFeed ((bl s).drop k)) : hasFeed (bl s) = true := by
  rw [hf, bl_drop_cons s k h, hasFeed, List.any_cons, decide_eq_true hb]; rfl
theorem feed_no (s : ByteArray) (k : Nat) (h : k < s.size) (hb : s[k].toNat ≠ 10) (hf : hasFeed (bl s) = hasFeed ((bl s).drop k)) : hasFeed (bl s) = hasFeed ((bl s).drop (k + 1)) := by
  rw [hf, bl_drop_cons s k h, hasFeed, List.any_cons, decide_eq_false hb, Bool.false_or]; rfl
theorem feed_end (s : ByteArray) (k : Nat) (h : ¬ k < s.size) (hf : hasFeed (bl s) = hasFeed ((bl s).drop k)) : hasFeed (bl s) = false := by
  rw [hf, bl_drop_end s k h]; rfl
theorem any_step (l : List (List UInt8)) (k : Nat) (s : List UInt8) (r : List (List UInt8)) (h : l.drop k = s :: r) (hr : l.drop (k + 1) = r) (hs : hasFeed s = false) (ha : l.any hasFeed = (l.drop k).any hasFeed) : l.any hasFeed = (l.drop (k + 1)).any hasFeed := by
  rw [ha, h, hr, List.any_cons, hs, Bool.false_or]
theorem any_hit (l : List (List UInt8)) (k : Nat) (s : List UInt8) (r : List (List UInt8)) (h : l.drop k = s :: r) (hs : hasFeed s = true) (ha : l.any hasFeed = (l.drop k).any hasFeed) : l.any hasFeed = true := by
  rw [ha, h, List.any_cons, hs, Bool.true_or]
theorem any_end (l : List (List UInt8)) (k : Nat) (h : ¬ k < l.length) (ha : l.any hasFeed = (l.drop k).any hasFeed) : l.any hasFeed = false := by
  rw [ha, List.drop_of_length_le (by omega)]; rfl

def TextRes (l : List (List UInt8)) (w : World) (e : Ending) (w' : World) : Prop :=
  e = .returned (.tuple #[.string (ba (textL l).1), .int .i64 (textL l).2]) ∧ w = w'
theorem text_many (l : List (List UInt8)) (w : World) (h : 512 < l.length ∨ sizeGo l 0 = false) : TextRes l w (.returned (.tuple #[.string ⟨#[]⟩, .int .i64 4])) w := by
  have e : textL l = ([], 4) := by
    unfold textL
    by_cases h1 : 512 < l.length
    · rw [if_pos h1]
    · rw [if_neg h1, if_pos (h.resolve_left h1)]
  exact ⟨by rw [e]; rfl, rfl⟩
theorem text_form (l : List (List UInt8)) (w : World) (h0 : ¬ 512 < l.length) (h1 : sizeGo l 0 = true) (h : l.any hasFeed = true) : TextRes l w (.returned (.tuple #[.string ⟨#[]⟩, .int .i64 11])) w := by
  have e : textL l = ([], 11) := by unfold textL; rw [if_neg h0, if_neg (by rw [h1]; simp), if_pos h]
  exact ⟨by rw [e]; rfl, rfl⟩
theorem text_ok (l : List (List UInt8)) (w : World) (o : ByteArray) (h0 : ¬ 512 < l.length) (h1 : sizeGo l 0 = true) (h : l.any hasFeed = false) (hj : joinFeed l = bl o) : TextRes l w (.returned (.tuple #[.string o, .int .i64 0])) w := by
  have e : textL l = (joinFeed l, 0) := by unfold textL; rw [if_neg h0, if_neg (by rw [h1]; simp), if_neg (by rw [h]; simp)]
  exact ⟨by rw [e, hj, ba_bl], rfl⟩

theorem drop_parts {α : Type} (l : List α) (k : Nat) (h : k < l.length) : ∃ s r, l.drop k = s :: r ∧ l[k]? = some s ∧ l.drop (k + 1) = r ∧ s ∈ l := by
  refine ⟨l[k], l.drop (k + 1), List.drop_eq_getElem_cons h, List.getElem?_eq_getElem h, rfl, List.getElem_mem h⟩

set_option maxRecDepth 100000 in
set_option maxHeartbeats 1000000 in
theorem rtext_walk (ao : Option Addr) (l : List (List UInt8)) (cap : Nat) (w : World) (h : CellsAt w ao (l.map sv)) (hs : ∀ s ∈ l, s.length ≤ 140737488351232) (hl : l.length ≤ 140737488351232) :
    Calls Try.prog 14 #[.slice ao l.length cap] w (TextRes l w) := by
  obtain ⟨b, off, ha, hc⟩ := h
  by_cases hm : 512 < l.length
  · have HR := text_many l w (.inl hm)
    clear hc ha
    go_enter Try.func14, Try.ntmps14
    go_wp2
    go_ret2
    exact HR
  go_enter Try.func14, Try.ntmps14
  go_wp2
  go_loop [4, 5] (fun n i => ∃ (k m : Nat), k ≤ l.length ∧ i = .int .i64 k ∧ n = .int .i64 m ∧ m ≤ 16384 ∧ Hid (sizeGo l 0 = sizeGo (l.drop k) m)) (fun _ i => l.length - (intOf i).toNat)
  case atStart => exact ⟨0, 0, Nat.zero_le _, rfl, rfl, by omega, Lib.hid rfl⟩
  case round =>
    obtain ⟨k, m, hk, rfl, rfl, hm1, hgo⟩ := hrel
    by_cases hlt : k < l.length
    · obtain rfl := ha (by simp; omega)
      obtain ⟨s, r, hd, hg, hr, hmem⟩ := drop_parts l k hlt
      have hck := hc k (sv s) (by simp [hg])
      have hsk := hs s hmem
      have hsz : (ba s).size ≤ 140737488351232 := by rw [ba_size]; exact hsk
      have HZ := Lib.hid (ba_size s)
      by_cases hbig : 16384 < m + (ba s).size + 1
      · have HR := text_many l w (.inr (by rw [hgo.out, hd, sizeGo, if_pos (by rw [← ba_size]; omega)]))
        clear hc hs ha hd hg hr hmem
        go_wp2
        go_ret2
        exact HR
      · have HG := Lib.hid (show sizeGo l 0 = sizeGo (l.drop (k + 1)) (m + (ba s).size + 1) by rw [hgo.out, hd, sizeGo, if_neg (by rw [← ba_size]; omega), hr, ba_size])
        clear hc hs ha hd hg hr hmem
        go_wp2
        go_round
        case rel => exact ⟨k + 1, m + (ba s).size + 1, by omega, by go_num, by go_num, by omega, HG⟩
        case measure => simp [intOf]; omega
    · have hsz : sizeGo l 0 = true := by rw [hgo.out, List.drop_of_length_le (by omega)]; rfl
      have HJ := Lib.hid (size_of_go l 0 hsz (by omega))
      have HF := Lib.hid (text_form l w hm hsz)
      have HO := Lib.hid (fun o => text_ok l w o hm hsz)
      clear hsz hgo
      go_wp2
      go_loop [6, 7, 8] (fun o i _ => ∃ (j : Nat) (ou : ByteArray), j ≤ l.length ∧ i = .int .i64 j ∧ o = .string ou ∧ ou.size ≤ 16384 ∧ Hid (joinFeed l = bl ou ++ joinFeed (l.drop j)) ∧ Hid (l.any hasFeed = (l.drop j).any hasFeed)) (fun _ i _ => l.length - (intOf i).toNat)
      case atStart => exact ⟨0, ⟨#[]⟩, Nat.zero_le _, rfl, rfl, by decide, Lib.hid rfl, Lib.hid rfl⟩
      case round =>
        obtain ⟨j, ou, hj, rfl, rfl, hou, hjn, hany⟩ := hrel
        by_cases hlt2 : j < l.length
        · obtain rfl := ha (by simp; omega)
          obtain ⟨s, r, hd, hg, hr, hmem⟩ := drop_parts l j hlt2
          have hck := hc j (sv s) (by simp [hg])
          have hsk := hs s hmem
          have hsz : (ba s).size ≤ 140737488351232 := by rw [ba_size]; exact hsk
          have HJ2 := Lib.hid (join_step ou l j s r hd hr hjn.out)
          have HS := Lib.hid (join_size _ l _ HJ2.out (by have := HJ.out; omega))
          have HA := Lib.hid (fun hx => any_step l j s r hd hr hx hany.out)
          have HB := Lib.hid (fun hx => any_hit l j s r hd hx hany.out)
          clear hd hg hr hmem hjn hany hc hs ha
          go_wp2
          go_loop [8] (fun i => ∃ (p : Nat), p ≤ (ba s).size ∧ i = .int .i64 p ∧ Hid (hasFeed (bl (ba s)) = hasFeed ((bl (ba s)).drop p))) (fun i => (ba s).size - (intOf i).toNat)
          case atStart => exact ⟨0, Nat.zero_le _, rfl, Lib.hid rfl⟩
          case round =>
            obtain ⟨p, hp, rfl, hfd⟩ := hrel
            by_cases hlt3 : p < (ba s).size
            · by_cases hb : (ba s)[p].toNat = 10
              · have HE := Lib.hid (feed_yes (ba s) p hlt3 hb hfd.out)
                rw [bl_ba] at HE
                have HR := Lib.hid (HF.out (HB.out HE.out))
                have hbb := byte_t (m := 10) 10 rfl hlt3 hb
                clear hb
                go_wp2
                go_ret2
                exact HR.out
              · have HE := Lib.hid (feed_no (ba s) p hlt3 hb hfd.out)
                have hbb := byte_f (m := 10) 10 rfl hlt3 hb
                clear hb
                go_wp2
                go_round
                case rel => exact ⟨p + 1, by omega, by go_num, HE⟩
                case measure => simp [intOf]; omega
            · have HE := Lib.hid (feed_end (ba s) p hlt3 hfd.out)
              rw [bl_ba] at HE
              have HA2 := Lib.hid (HA.out HE.out)
              go_wp2
              go_round
              case rel => exact ⟨j + 1, _, by omega, by go_num, rfl, HS.out, HJ2, HA2⟩
              case measure => simp [intOf]; omega
        · have HR := Lib.hid (HO.out ou (any_end l j hlt2 hany.out) (join_end ou l j hlt2 hjn.out))
          go_wp2
          go_ret2
          exact HR.out
end Go.Proofs.Ytefkhjbgkaknmaa
