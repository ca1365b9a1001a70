/- Walks of the package words on tables: the closures full and cell of Table. -/
import Derived.Test.YtefkhjbgkaknmaaDoorW3b
import Derived.Shelf.Strings.BuilderK
set_option linter.unusedVariables false
namespace Go.Proofs.YtefkhjbgkaknmaaDoor
open Go.RowKit Go.Shelf

/-- A Builder in block b, with the frame that reaches above it. -/
abbrev BldK (w : World) (B b : Nat) (l : List UInt8) : Prop := Lib.IsBuilderF 62 5 B b (Lib.byteCells l) w
abbrev Kept (b : Nat) (w w' : World) : Prop := Lib.OthersKept 5 (some b) w w'
theorem bldk_new (w : World) (B : Nat) (hB : B ≤ w.heap.size) : BldK (w.alloc (.cells #[.pointer none, .slice none 0 0] 62)) B w.heap.size [] := Lib.IsBuilderF.of (bld_new w B hB)
theorem bldk_below {w w' : World} {B b : Nat} {l : List UInt8} (h : BldK w B b l) (hb : Below w.heap.size w w') : BldK w' B b l := by
  have key : ∀ p, Lib.BuilderAtF 62 5 B b p (Lib.byteCells l) w → Lib.BuilderAtF 62 5 B b p (Lib.byteCells l) w' := by
    rintro p ⟨hB, v, hh, ho, hn⟩
    refine ⟨hB, v, by rw [hb.block b (Array.getElem?_eq_some_iff.1 hh).1]; exact hh, ?_, hn⟩
    obtain ⟨h1, h2⟩ := ho
    refine ⟨h1, ?_⟩
    rcases h2 with h2 | ⟨g, cap, cur, hi, hv, hg, hx, r⟩
    · exact Or.inl h2
    · exact Or.inr ⟨g, cap, cur, hi, hv, hg, by rw [hb.block g (Array.getElem?_eq_some_iff.1 hx).1]; exact hx, r⟩
  exact h.elim (fun x => .inl (key _ x)) (fun x => .inr (key _ x))

theorem kwstr_walk (B b : Nat) (l : List UInt8) (s : ByteArray) (w : World) (h : BldK w B b l) (hlen : l.length + s.size ≤ 140737488355328) (hBw : B ≤ w.heap.size) :
    Calls Tryd.prog 40 #[.pointer (some ⟨b, 0, none⟩), .string s] w fun e w' => e = .returned (.tuple #[.int .i64 s.size, .nilIface]) ∧ BldK w' B b (l ++ bl s) ∧ Below B w w' ∧ Kept b w w' := by
  refine (Any.Builder_WriteString_k (ρ := Tryd.lays156_ren) { Tryd.lays156 with } Tryd.Builder_Extra_156 B b (Lib.byteCells l) s w h (by rw [Lib.byteCells_length]; exact hlen) hBw).mono ?_
  rintro e w' ⟨he, h1, h2, h3⟩
  refine ⟨he, Or.inr ?_, h2, h3⟩
  have : Lib.byteCells (l ++ bl s) = Lib.byteCells l ++ Lib.strCells s := by
    rw [Lib.strCells_eq]; simp [Lib.byteCells, bl]
  rw [this]; exact h1
theorem kstring_walk (B b : Nat) (l : List UInt8) (w : World) (h : BldK w B b l) (hBw : B ≤ w.heap.size) :
    Calls Tryd.prog 42 #[.pointer (some ⟨b, 0, none⟩)] w fun e w' => e = .returned (.string (ba l)) ∧ BldK w' B b l ∧ Below B w w' ∧ Kept b w w' :=
  Any.Builder_String_any_k (ρ := Tryd.lays169_ren) Tryd.lays169 Tryd.Builder_Extra_169 B b l w h hBw
theorem klen_walk (B b : Nat) (l : List UInt8) (w : World) (h : BldK w B b l) :
    Calls Tryd.prog 38 #[.pointer (some ⟨b, 0, none⟩)] w fun e w' => e = .returned (.int .i64 l.length) ∧ w = w' := by
  refine (Any.Builder_Len_f (ρ := Tryd.lays170_ren) Tryd.lays170 B b (Lib.byteCells l) w h).mono ?_
  rintro e w' ⟨he, hw⟩
  exact ⟨by rw [he, Lib.byteCells_length], hw.symm⟩
theorem rep_blank (n : Nat) : (⟨(Lib.repeatL (⟨#[32]⟩ : ByteArray).data.toList n).toArray⟩ : ByteArray) = ba (List.replicate n 32) := by
  have : Lib.repeatL [(32 : UInt8)] n = List.replicate n 32 := by
    induction n with
    | zero => rfl
    | succ n ih => rw [List.replicate_succ, ← ih]; rfl
  show (⟨(Lib.repeatL [(32 : UInt8)] n).toArray⟩ : ByteArray) = _
  rw [this]; rfl
theorem blanks_walk (c : Nat) (i : Int) (w : World) (hi : i = (c : Int)) (hc : c ≤ 140737488355328) :
    Calls Tryd.prog 41 #[.string ⟨#[32]⟩, .int .i64 i] w fun e w' => e = .returned (.string (ba (List.replicate c 32))) ∧ Below w.heap.size w w' := by
  subst hi
  rw [← rep_blank]
  exact Tryd.strings_Repeat ⟨#[32]⟩ c w (by omega) (by show 1 * c ≤ _; omega)

theorem full_walk (n : Int) (bb : Nat) (l : List UInt8) (w : World) (h : BldK w bb bb l) (hl : l.length ≤ 16384) (b : Bool) (hb : decide (16384 - (l.length : Int) < n) = b) :
    Calls Tryd.prog 37 #[.int .i64 n, .pointer (some ⟨bb, 0, none⟩)] w fun e w' => e = .returned (.bool b) ∧ w = w' := by
  subst hb
  go_enter Tryd.func37, Tryd.ntmps37
  go_wp2_with (go_at_call 38; refine (klen_walk _ _ _ _ h).mono ?_; rintro e w' ⟨rfl, rfl⟩)
  go_ret
  exact ⟨rfl, rfl⟩

theorem cell_full (i W n0 m : Nat) (s : ByteArray) (last : Bool) (tw tf bb g wc : Nat) (l : List UInt8) (w : World) (hw : w.cell? ⟨tw, 0, none⟩ = some (.slice (some ⟨g, 0, none⟩) n0 wc)) (hg : w.cell? ⟨g, i, none⟩ = some (iv W)) (hi : i < n0)
    (hf : w.cell? ⟨tf, 0, none⟩ = some (.func (.func 37) #[] #[.pointer (some ⟨bb, 0, none⟩)])) (h : BldK w bb bb l) (hl : l.length ≤ 16384) (hW : W ≤ 140737488351232) (hs : s.size ≤ 140737488351232)
    (hm : m = if last then s.size else W + 2) (hbig : 16384 < l.length + m) :
    Calls Tryd.prog 39 #[.int .i64 i, .string s, .bool last, .pointer (some ⟨tw, 0, none⟩), .pointer (some ⟨tf, 0, none⟩), .pointer (some ⟨bb, 0, none⟩)] w fun e w' => e = .returned (.bool false) ∧ w = w' := by
  have hi' : (i : Int) < (n0 : Int) := by omega
  cases last with
  | true =>
    simp only [if_true] at hm
    subst hm
    go_enter Tryd.func39, Tryd.ntmps39
    go_wp2_with (go_at_call 37; refine (full_walk _ _ _ _ h hl true (decide_eq_true (by omega))).mono ?_; rintro e w' ⟨rfl, rfl⟩)
    go_ret
    exact ⟨rfl, rfl⟩
  | false =>
    simp at hm
    subst hm
    go_enter Tryd.func39, Tryd.ntmps39
    go_wp2_with (go_at_call 37; refine (full_walk _ _ _ _ h hl true (decide_eq_true (by omega))).mono ?_; rintro e w' ⟨rfl, rfl⟩)
    go_ret
    exact ⟨rfl, rfl⟩

theorem cell_put (i W n0 m : Nat) (s : ByteArray) (last : Bool) (tw tf bb g wc : Nat) (l : List UInt8) (w : World) (hw : w.cell? ⟨tw, 0, none⟩ = some (.slice (some ⟨g, 0, none⟩) n0 wc)) (hg : w.cell? ⟨g, i, none⟩ = some (iv W)) (hi : i < n0)
    (hf : w.cell? ⟨tf, 0, none⟩ = some (.func (.func 37) #[] #[.pointer (some ⟨bb, 0, none⟩)])) (h : BldK w bb bb l) (hl : l.length ≤ 16384) (hW : W ≤ 140737488351232) (hs : s.size ≤ W) (hbw : bb ≤ w.heap.size)
    (hm : m = if last then s.size else W + 2) (hbig : ¬ 16384 < l.length + m) :
    Calls Tryd.prog 39 #[.int .i64 i, .string s, .bool last, .pointer (some ⟨tw, 0, none⟩), .pointer (some ⟨tf, 0, none⟩), .pointer (some ⟨bb, 0, none⟩)] w fun e w' => e = .returned (.bool true) ∧ BldK w' bb bb (l ++ (bl s ++ List.replicate (m - s.size) 32)) ∧ Below bb w w' ∧ Kept bb w w' := by
  have hi' : (i : Int) < (n0 : Int) := by omega
  obtain ⟨x, hX⟩ : ∃ x, ba (List.replicate (m - s.size) 32) = x := ⟨_, rfl⟩
  have hxs : x.size = m - s.size := by rw [← hX, ba_size, List.length_replicate]
  have hss : (s ++ x).size = s.size + x.size := ByteArray.size_append ..
  have hbb : bl (s ++ x) = bl s ++ List.replicate (m - s.size) 32 := by rw [bl_append, ← hX, bl_ba]
  have hsm : s.size ≤ m := by cases last <;> simp at hm <;> omega
  have HR := Lib.hid (fun (i : Int) w (hi : i = ((m - s.size : Nat) : Int)) => (show Calls Tryd.prog 41 #[.string ⟨#[32]⟩, .int .i64 i] w fun e w' => e = .returned (.string x) ∧ Below w.heap.size w w' from hX ▸ blanks_walk (m - s.size) i w hi (by cases last <;> simp at hm <;> omega)))
  have HB := Lib.hid hbb
  clear hX
  have kb : ∀ w', Below w.heap.size w w' → Kept bb w w' := fun w' hb k o hk _ _ => (hb.block k (Array.getElem?_eq_some_iff.1 hk).1).trans hk
  have HK := Lib.hid kb
  clear hbb kb
  cases last with
  | true =>
    simp only [if_true] at hm
    subst hm
    go_enter Tryd.func39, Tryd.ntmps39
    go_wp2_with (go_at_call 37; refine (full_walk _ _ _ _ h hl false (decide_eq_false (by omega))).mono ?_; rintro e w' ⟨rfl, rfl⟩)
    refine (HR.out _ _ (by omega)).mono ?_
    rintro e w1 ⟨rfl, hb1⟩
    have h1 := bldk_below h hb1
    go_wp2_with fail
    refine (kwstr_walk bb bb l _ _ h1 (by rw [hss]; omega) (by have := hb1.size; omega)).mono ?_
    rintro e w2 ⟨rfl, h2, hb2, hk2⟩
    go_wp2_with fail
    go_ret
    exact ⟨rfl, by rw [← HB.out]; exact h2, (hb1.mono hbw).trans hb2, (HK.out _ hb1).trans hk2⟩
  | false =>
    simp at hm
    subst hm
    go_enter Tryd.func39, Tryd.ntmps39
    go_wp2_with (go_at_call 37; refine (full_walk _ _ _ _ h hl false (decide_eq_false (by omega))).mono ?_; rintro e w' ⟨rfl, rfl⟩)
    refine (HR.out _ _ (by omega)).mono ?_
    rintro e w1 ⟨rfl, hb1⟩
    have h1 := bldk_below h hb1
    go_wp2_with fail
    refine (kwstr_walk bb bb l _ _ h1 (by rw [hss]; omega) (by have := hb1.size; omega)).mono ?_
    rintro e w2 ⟨rfl, h2, hb2, hk2⟩
    go_wp2_with fail
    go_ret
    exact ⟨rfl, by rw [← HB.out]; exact h2, (hb1.mono hbw).trans hb2, (HK.out _ hb1).trans hk2⟩
end Go.Proofs.YtefkhjbgkaknmaaDoor
