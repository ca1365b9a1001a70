/- The iterator behind words.Words: the parts between blanks. -/
import Derived.Test.YtefkhjbgkaknmaaDoorCut
import Derived.Test.YtefkhjbgkaknmaaDoorRng
import Derived.Test.YtefkhjbgkaknmaaDoorW2a
set_option linter.unusedVariables false
namespace Go.Proofs.YtefkhjbgkaknmaaDoor
open Go.RowKit Go.Shelf
attribute [local go_sem] Oper.semAt_some

/-- How much a block that holds a string has still to give. -/
def strLeft (w : World) (o : Nat) : Nat :=
  match w.cell? ⟨o, 0, none⟩ with
  | some (.string s) => s.size
  | _ => 0
theorem strLeft_eq {w : World} {o : Nat} {s : ByteArray} (h : w.cell? ⟨o, 0, none⟩ = some (.string s)) : strLeft w o = s.size := by simp [strLeft, h]
def boolOf : Value → Bool | .bool b => b | _ => false
def partsL (l : List UInt8) : List (List UInt8) := if l = [] then [] else ptGo l []
theorem grown_set (w : World) (o : Nat) (v : Value) : w.grownBy (w.setCell ⟨o, 0, none⟩ v) (some o) :=
  ⟨rfl, rfl, rfl, by simp [World.setCell], fun k _ hk => Below.heap_setCell _ _ _ _ (fun e => hk (by rw [e]))⟩
theorem grown_drewN (w : World) (n : Nat) : w.grownBy (w.drewN n) none := ⟨rfl, rfl, rfl, Nat.le_refl _, fun _ _ _ => rfl⟩

/-- A string that fits a machine. -/
abbrev BStr := { x : ByteArray // x.size ≤ 140737488351232 }
def bs (x : BStr) : List UInt8 := bl x.1
theorem pt_len : ∀ l cur : List UInt8, (ptGo l cur).length ≤ l.length + 1
  | [], _ => by simp [ptGo]
  | c :: r, cur => by
    rw [ptGo]
    by_cases h : c.toNat = 32
    · rw [if_pos h]; have := pt_len r []; simp; omega
    · rw [if_neg h]; have := pt_len r (cur ++ [c]); simp; omega
theorem parts_len (l : List UInt8) : (partsL l).length ≤ l.length + 1 := by
  unfold partsL; by_cases h : l = []
  · rw [if_pos h]; simp
  · rw [if_neg h]; exact pt_len l []
def PInv (s : ByteArray) (pre : List BStr) (rest : ByteArray) (more : Bool) : Prop :=
  if more then partsL (bl s) = pre.map bs ++ ptGo (bl rest) [] else partsL (bl s) = pre.map bs

set_option maxHeartbeats 1000000 in
theorem parts1_seq (n o : Nat) (s : ByteArray) (w : World) (hn : 1 ≤ n) (hs : s.size ≤ 140737488351232) (hcell : w.heap[o]? = some (.cells #[.string s] 9 (0, 0))) :
    SeqO Fence.wide n Tryd.prog 68 #[.pointer (some ⟨o, 0, none⟩)] (fun x : BStr => #[.string x.1]) o (fun A B => B.heap[o]? = A.heap[o]?)
      (fun xs => xs.map bs = partsL (bl s)) (fun pre => pre.map bs <+: partsL (bl s)) (partsL (bl s)).length w := by
  intro l J Jx W hW hJ hJx hY h0
  have hc : W.heap[o]? = some (.cells #[.string s] 9 (0, 0)) := (hW.block o (Array.getElem?_eq_some_iff.1 hcell).1).trans hcell
  refine callsIn_of_wp Tryd.func68 rfl trivial ?_ rfl
  simp only [Tryd.ntmps68, List.size_toArray, List.length_cons, List.length_nil, Nat.reduceAdd, Nat.reduceSub, Array.replicate_succ, Array.replicate_zero, List.push_toArray, List.append_toArray, List.nil_append, List.cons_append]
  have hc0 : W.cell? ⟨o, 0, none⟩ = some (.string s) := by rw [Lib.cell_of_heap hc]; rfl
  have HY := Lib.hid hY
  have HJ := Lib.hid hJ
  have HJX := Lib.hid hJx
  clear hY hJ hJx hcell
  have hp0 : PInv s [] s (!s.toList.isEmpty) := by
    rw [not_empty]
    unfold PInv partsL
    by_cases h : bl s = []
    · have : s.size = 0 := by rw [← bl_length, h]; rfl
      simp [this, h]
    · have : 0 < s.size := by rw [← bl_length]; exact List.length_pos_iff.2 h
      simp [this, h]
  gi_wp2
  gi_loopw [3] (fun m wr => ∃ (pre : List BStr) (rest : ByteArray) (more : Bool), m = .bool more ∧ J pre wr ∧ wr.heap[o]? = some (.cells #[.string rest] 9 (0, 0)) ∧ rest.size ≤ s.size ∧ Hid (PInv s pre rest more)) (fun m wr => if boolOf m then strLeft wr o + 1 else 0)
  case atStart => exact ⟨[], s, _, rfl, h0, hc, Nat.le_refl _, hp0⟩
  case round =>
    obtain ⟨pre, rest, more, rfl, hJp, hh, hrs, hpi⟩ := hrel
    have hcr : wr.cell? ⟨o, 0, none⟩ = some (.string rest) := by rw [Lib.cell_of_heap hh]; rfl
    have hfr : wr.frozen? ⟨o, 0, none⟩ = false := Lib.frozen_of_heap hh 0
    cases more with
    | false =>
      gi_wp2
      go_end0
      exact ⟨⟨_, rfl⟩, .inl ⟨pre, by have := hpi.out; simp [PInv] at this; exact this.symm, hJp⟩⟩
    | true =>
      have hrb : rest.size ≤ 140737488351232 := Nat.le_trans hrs hs
      have hpi' : partsL (bl s) = pre.map bs ++ ptGo (bl rest) [] := by have := hpi.out; simpa [PInv] using this
      by_cases hx : Lib.indexByte (bl rest) 32 = -1
      · have HI := Lib.hid hx
        have HP := Lib.hid (hpi'.trans (by rw [cut_pt_none rest hx]))
        clear hx hpi' hpi
        gi_wp2_with (refine ⟨trivial, ?_⟩; gi_at_call 69; refine (callsIn_wide.2 (cut_none rest _ hrb HI.out)).mono ?_; rintro e w' ⟨rfl, rfl⟩)
        have hJ2 : J pre (wr.setCell ⟨o, 0, none⟩ (.string ⟨#[]⟩)) := HJ.out _ _ _ _ hJp (grown_set wr o _) (fun r e => by cases e; rfl)
        have hlen : pre.length < (partsL (bl s)).length := by rw [HP.out]; simp
        obtain ⟨fn, tmps, assign, body, hy, hR⟩ := HY.out pre ⟨rest, hrb⟩ _ hJ2 hlen
        rw [hy, Oper.uponIn_round]
        refine ⟨fun _ => hn, hR.mono ?_⟩
        rintro e W3 (⟨rfl, hJ3, hk3⟩ | ⟨rfl, hJx3⟩)
        · have hh3 : W3.heap[o]? = some (.cells #[.string ⟨#[]⟩] 9 (0, 0)) := hk3.trans (one_setCell hh)
          have HN := Lib.hid (show PInv s (pre ++ [⟨rest, hrb⟩]) ⟨#[]⟩ false by
            show partsL (bl s) = _
            rw [HP.out]; simp [bs])
          gi_wp2
          go_roundw
          case rel => exact ⟨_, _, false, rfl, hJ3, hh3, Nat.zero_le _, HN⟩
          case measure => simp [boolOf]
        · gi_wp2
          refine bodyPost_ret (results_none rfl _ _ _) rfl ?_
          exact ⟨⟨_, rfl⟩, .inr ⟨pre ++ [⟨rest, hrb⟩], ⟨[], by rw [HP.out]; simp [bs]⟩, hJx3⟩⟩
      · obtain ⟨i, hi⟩ : ∃ i : Nat, Lib.indexByte (bl rest) 32 = i := by
          have := Lib.indexByte_ge (bl rest) 32
          exact ⟨(Lib.indexByte (bl rest) 32).toNat, by omega⟩
        obtain ⟨hlt, hpt⟩ := cut_pt_some rest i hi
        have hxb : (rest.extract 0 i).size ≤ 140737488351232 := Nat.le_trans (ext_size rest 0 i) hrb
        have HI := Lib.hid hi
        have HP := Lib.hid (hpi'.trans (by rw [hpt]))
        clear hx hi hpi' hpt hpi
        gi_wp2_with (refine ⟨trivial, ?_⟩; gi_at_call 69; refine (callsIn_wide.2 (cut_some rest i _ hrb HI.out hlt)).mono ?_; rintro e w' ⟨rfl, nd, rfl⟩)
        have hJ2 : J pre ((wr.drewN nd).setCell ⟨o, 0, none⟩ (.string (rest.extract (i + 1) rest.size))) :=
          HJ.out _ _ _ _ (HJ.out _ _ _ _ hJp (grown_drewN wr nd) (fun r e => by cases e)) (grown_set _ o _) (fun r e => by cases e; rfl)
        have hlen : pre.length < (partsL (bl s)).length := by rw [HP.out]; simp
        obtain ⟨fn, tmps, assign, body, hy, hR⟩ := HY.out pre ⟨rest.extract 0 i, hxb⟩ _ hJ2 hlen
        rw [hy, Oper.uponIn_round]
        refine ⟨fun _ => hn, hR.mono ?_⟩
        rintro e W3 (⟨rfl, hJ3, hk3⟩ | ⟨rfl, hJx3⟩)
        · have hh3 : W3.heap[o]? = some (.cells #[.string (rest.extract (i + 1) rest.size)] 9 (0, 0)) := hk3.trans (one_setCell hh)
          have hcr3 : W3.cell? ⟨o, 0, none⟩ = some (.string (rest.extract (i + 1) rest.size)) := by rw [Lib.cell_of_heap hh3]; rfl
          have hsz : (rest.extract (i + 1) rest.size).size < rest.size := by
            rw [← bl_length, bl_extract, List.length_take, List.length_drop, bl_length]; omega
          have HN := Lib.hid (show PInv s (pre ++ [⟨rest.extract 0 i, hxb⟩]) (rest.extract (i + 1) rest.size) true by
            show partsL (bl s) = _
            rw [HP.out]; simp [bs])
          have HM := Lib.hid (strLeft_eq hcr3)
          have HM0 := Lib.hid (strLeft_eq hcr)
          gi_wp2
          go_roundw
          case rel => exact ⟨_, _, true, rfl, hJ3, hh3, by omega, HN⟩
          case measure => rw [HM.out, HM0.out]; simp [boolOf]; omega
        · gi_wp2
          refine bodyPost_ret (results_none rfl _ _ _) rfl ?_
          exact ⟨⟨_, rfl⟩, .inr ⟨pre ++ [⟨rest.extract 0 i, hxb⟩], ⟨ptGo (bl (rest.extract (i + 1) rest.size)) [], by rw [HP.out]; simp [bs]⟩, hJx3⟩⟩
end Go.Proofs.YtefkhjbgkaknmaaDoor
