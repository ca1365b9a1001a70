/- The iterator strings.Lines: the lines of a text, each with its feed. -/
import Derived.Test.YtefkhjbgkaknmaaDoorIt
set_option linter.unusedVariables false
namespace Go.Proofs.YtefkhjbgkaknmaaDoor
open Go.RowKit Go.Shelf
attribute [local go_sem] Oper.semAt_some

/-- The lines with their feeds; what stands behind the last feed is a line without one. -/
def rwGo : List UInt8 → List UInt8 → List (List UInt8)
  | [], cur => if cur = [] then [] else [cur]
  | c :: r, cur => if c.toNat = 10 then (cur ++ [c]) :: rwGo r [] else rwGo r (cur ++ [c])
theorem rw_none : ∀ (l cur : List UInt8), (∀ c ∈ l, c.toNat ≠ 10) → rwGo l cur = if cur ++ l = [] then [] else [cur ++ l]
  | [], cur, _ => by simp [rwGo]
  | c :: r, cur, h => by
    rw [rwGo, if_neg (h c (by simp)), rw_none r _ (fun x hx => h x (by simp [hx]))]; simp
theorem rw_some : ∀ (l : List UInt8) (r cur : List UInt8), (∀ c ∈ l, c.toNat ≠ 10) → rwGo (l ++ 10 :: r) cur = (cur ++ l ++ [10]) :: rwGo r []
  | [], r, cur, _ => by simp [rwGo]
  | c :: l, r, cur, h => by
    rw [List.cons_append, rwGo, if_neg (h c (by simp)), rw_some l r _ (fun x hx => h x (by simp [hx]))]; simp
theorem ne10 {c : UInt8} (h : c ≠ 10) : c.toNat ≠ 10 := fun e => h (UInt8.toNat_inj.1 (by rw [e]; rfl))
theorem rw_len : ∀ l cur : List UInt8, (rwGo l cur).length ≤ l.length + 1
  | [], cur => by rw [rwGo]; split <;> simp
  | c :: r, cur => by
    rw [rwGo]
    by_cases h : c.toNat = 10
    · rw [if_pos h]; have := rw_len r []; simp; omega
    · rw [if_neg h]; have := rw_len r (cur ++ [c]); simp; omega
theorem rw_idx (s : ByteArray) (i : Nat) (h : Lib.indexByte (bl s) 10 = i) : i < s.size ∧ rwGo (bl s) [] = bl (s.extract 0 (i + 1)) :: rwGo (bl (s.extract (i + 1) s.size)) [] := by
  obtain ⟨h1, h2, h3⟩ := idx_some h
  have hlt := h1
  rw [bl_length] at h1
  refine ⟨h1, ?_⟩
  conv => lhs; rw [h2]
  rw [rw_some _ _ _ (fun c hc => ne10 (h3 c hc)), bl_extract, bl_extract]
  obtain ⟨hx, _⟩ := Lib.indexByte_some h
  simp only [List.drop_zero, Nat.sub_zero, List.nil_append]
  congr 1
  · rw [List.take_add_one, hx]; rfl
  · rw [List.take_of_length_le (by rw [List.length_drop, bl_length]; omega)]
theorem rw_end (s : ByteArray) (h0 : 0 < s.size) (h : Lib.indexByte (bl s) 10 = -1) : rwGo (bl s) [] = [bl s] := by
  rw [rw_none _ _ (fun c hc => ne10 (idx_none h c hc))]
  have : bl s ≠ [] := fun e => by rw [← bl_length, e] at h0; simp at h0
  simp [this]
theorem rw_empty (s : ByteArray) (h0 : ¬ 0 < s.size) : rwGo (bl s) [] = [] := by
  have : bl s = [] := List.length_eq_zero_iff.1 (by rw [bl_length]; omega)
  rw [this]; rfl

theorem ib_walk (s : ByteArray) (i : Int) (w : World) (h : Lib.indexByte (bl s) 10 = i) :
    Calls Tryd.prog 66 #[.string s, .int .u8 10] w fun e w' => e = .returned (.int .i64 i) ∧ w = w' :=
  (Tryd.strings_IndexByte s 10 w).mono fun e w' ⟨he, hw⟩ => ⟨by rw [he]; exact congrArg (fun x => Ending.returned (.int .i64 x)) h, hw.symm⟩

set_option maxHeartbeats 1000000 in
theorem lines1_seq (n o : Nat) (s : ByteArray) (w : World) (hn : 1 ≤ n) (hs : s.size ≤ 140737488351232) (hcell : w.heap[o]? = some (.cells #[.string s] 9 (0, 0))) :
    SeqO Fence.wide n Tryd.prog 65 #[.pointer (some ⟨o, 0, none⟩)] (fun x : BStr => #[.string x.1]) o (fun A B => B.heap[o]? = A.heap[o]?)
      (fun xs => xs.map bs = rwGo (bl s) []) (fun pre => pre.map bs <+: rwGo (bl s) []) (rwGo (bl s) []).length w := by
  intro l J Jx W hW hJ hJx hY h0
  have hc : W.heap[o]? = some (.cells #[.string s] 9 (0, 0)) := (hW.block o (Array.getElem?_eq_some_iff.1 hcell).1).trans hcell
  refine callsIn_of_wp Tryd.func65 rfl trivial ?_ rfl
  simp only [Tryd.ntmps65, List.size_toArray, List.length_cons, List.length_nil, Nat.reduceAdd, Nat.reduceSub, Array.replicate_succ, Array.replicate_zero, List.push_toArray, List.append_toArray, List.nil_append, List.cons_append]
  have HY := Lib.hid hY
  have HJ := Lib.hid hJ
  have HJX := Lib.hid hJx
  clear hY hJ hJx hcell
  gi_wp2
  gi_loopw [3] (fun _ wr => ∃ (pre : List BStr) (rest : ByteArray), J pre wr ∧ wr.heap[o]? = some (.cells #[.string rest] 9 (0, 0)) ∧ rest.size ≤ s.size ∧ Hid (rwGo (bl s) [] = pre.map bs ++ rwGo (bl rest) [])) (fun _ wr => strLeft wr o)
  case atStart => exact ⟨[], s, h0, hc, Nat.le_refl _, Lib.hid rfl⟩
  case round =>
    obtain ⟨pre, rest, hJp, hh, hrs, hpi⟩ := hrel
    have hcr : wr.cell? ⟨o, 0, none⟩ = some (.string rest) := by rw [Lib.cell_of_heap hh]; rfl
    have hfr : wr.frozen? ⟨o, 0, none⟩ = false := Lib.frozen_of_heap hh 0
    have hrb : rest.size ≤ 140737488351232 := Nat.le_trans hrs hs
    by_cases hpos : 0 < rest.size
    case neg =>
      have HP := Lib.hid (hpi.out.trans (by rw [rw_empty rest hpos, List.append_nil]))
      gi_wp2
      go_end0
      exact ⟨⟨_, rfl⟩, .inl ⟨pre, HP.out.symm, hJp⟩⟩
    case pos =>
      have hM0 := Lib.hid (strLeft_eq hcr)
      by_cases hx : Lib.indexByte (bl rest) 10 = -1
      · have HI := Lib.hid hx
        have HP := Lib.hid (hpi.out.trans (by rw [rw_end rest hpos hx]))
        clear hx hpi
        gi_wp2_with (refine ⟨trivial, ?_⟩; gi_at_call 66; refine (callsIn_wide.2 (ib_walk rest (-1) _ HI.out)).mono ?_; rintro e w' ⟨rfl, rfl⟩)
        have hJ2 : J pre (wr.setCell ⟨o, 0, none⟩ (.string ⟨#[]⟩)) := HJ.out _ _ _ _ hJp (grown_set wr o _) (fun r e => by cases e; rfl)
        have hlen : pre.length < (rwGo (bl s) []).length := by rw [HP.out]; simp
        obtain ⟨fn, tmps, assign, body, hy, hR⟩ := HY.out pre ⟨rest, hrb⟩ _ hJ2 hlen
        rw [hy, Oper.uponIn_round]
        refine ⟨fun _ => hn, hR.mono ?_⟩
        rintro e W3 (⟨rfl, hJ3, hk3⟩ | ⟨rfl, hJx3⟩)
        · have hh3 : W3.heap[o]? = some (.cells #[.string ⟨#[]⟩] 9 (0, 0)) := hk3.trans (one_setCell hh)
          have hcr3 : W3.cell? ⟨o, 0, none⟩ = some (.string ⟨#[]⟩) := by rw [Lib.cell_of_heap hh3]; rfl
          have HM := Lib.hid (strLeft_eq hcr3)
          have HN := Lib.hid (show rwGo (bl s) [] = (pre ++ [(⟨rest, hrb⟩ : BStr)]).map bs ++ rwGo (bl (⟨#[]⟩ : ByteArray)) [] by
            rw [HP.out]; simp [bs]; rfl)
          gi_wp2
          go_roundw
          case rel => exact ⟨_, _, hJ3, hh3, Nat.zero_le _, HN⟩
          case measure => rw [HM.out, hM0.out]; exact hpos
        · gi_wp2
          refine bodyPost_ret (results_none rfl _ _ _) rfl ?_
          exact ⟨⟨_, rfl⟩, .inr ⟨pre ++ [⟨rest, hrb⟩], ⟨[], by rw [HP.out]; simp [bs]⟩, hJx3⟩⟩
      · obtain ⟨i, hi⟩ : ∃ i : Nat, Lib.indexByte (bl rest) 10 = i := by
          have := Lib.indexByte_ge (bl rest) 10
          exact ⟨(Lib.indexByte (bl rest) 10).toNat, by omega⟩
        obtain ⟨hlt, hpt⟩ := rw_idx rest i hi
        have hxb : (rest.extract 0 (i + 1)).size ≤ 140737488351232 := Nat.le_trans (ext_size rest 0 (i + 1)) hrb
        have HI := Lib.hid hi
        have HP := Lib.hid (hpi.out.trans (by rw [hpt]))
        have h1 : (i : Int) + 1 ≤ (rest.size : Int) := by omega
        have h2 : (0 : Int) ≤ (i : Int) := by omega
        have h3 : (0 : Int) ≤ (i : Int) + 1 := by omega
        have hw : IntKind.i64.wrap ((i : Int) + 1) = (i : Int) + 1 := IntWalk.i64_in _ (by omega)
        have ht : ((i : Int) + 1).toNat = i + 1 := by omega
        clear hx hi hpt hpi
        gi_wp2_with (refine ⟨trivial, ?_⟩; gi_at_call 66; refine (callsIn_wide.2 (ib_walk rest i _ HI.out)).mono ?_; rintro e w' ⟨rfl, rfl⟩)
        gi_region
        gi_wp2
        have hJ2 : J pre ((wr.setCell ⟨o, 0, none⟩ (.string (rest.extract (i + 1) rest.size))).drew) :=
          HJ.out _ _ _ _ (HJ.out _ _ _ _ hJp (grown_set wr o _) (fun r e => by cases e; rfl)) (grown_drewN _ 1) (fun r e => by cases e)
        have hlen : pre.length < (rwGo (bl s) []).length := by rw [HP.out]; simp
        obtain ⟨fn, tmps, assign, body, hy, hR⟩ := HY.out pre ⟨rest.extract 0 (i + 1), hxb⟩ _ hJ2 hlen
        rw [hy, Oper.uponIn_round]
        refine ⟨fun _ => hn, hR.mono ?_⟩
        rintro e W3 (⟨rfl, hJ3, hk3⟩ | ⟨rfl, hJx3⟩)
        · have hh3 : W3.heap[o]? = some (.cells #[.string (rest.extract (i + 1) rest.size)] 9 (0, 0)) := hk3.trans (one_setCell hh)
          have hcr3 : W3.cell? ⟨o, 0, none⟩ = some (.string (rest.extract (i + 1) rest.size)) := by rw [Lib.cell_of_heap hh3]; rfl
          have hsz : (rest.extract (i + 1) rest.size).size < rest.size := by
            rw [← bl_length, bl_extract, List.length_take, List.length_drop, bl_length]; omega
          have HN := Lib.hid (show rwGo (bl s) [] = (pre ++ [(⟨rest.extract 0 (i + 1), hxb⟩ : BStr)]).map bs ++ rwGo (bl (rest.extract (i + 1) rest.size)) [] by
            rw [HP.out]; simp [bs])
          have HM := Lib.hid (strLeft_eq hcr3)
          gi_wp2
          go_roundw
          case rel => exact ⟨_, _, hJ3, hh3, by omega, HN⟩
          case measure => rw [HM.out, hM0.out]; exact hsz
        · gi_wp2
          refine bodyPost_ret (results_none rfl _ _ _) rfl ?_
          exact ⟨⟨_, rfl⟩, .inr ⟨pre ++ [⟨rest.extract 0 (i + 1), hxb⟩], ⟨rwGo (bl (rest.extract (i + 1) rest.size)) [], by rw [HP.out]; simp [bs]⟩, hJx3⟩⟩
end Go.Proofs.YtefkhjbgkaknmaaDoor
