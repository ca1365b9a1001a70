/- AL: what walks need: lists of things as slices, wrapping, ends of rounds. -/
import Derived.Test.YtnhfbabenifbkaaGreatDoorAlSw
set_option linter.unusedVariables false
set_option linter.unusedSimpArgs false
namespace Go.Proofs.YtnhfbabenifbkaaGreatDoor
theorem wrap_nat {n : Nat} (h : n < 9223372036854775808) : IntKind.i64.wrap (n : Int) = n := by
  have : Nat.blt n (limN .i64) = true := Nat.ble_eq_true_of_le h
  exact wrap_pos this
theorem wrap_i64 {n : Int} (h1 : -9223372036854775808 ≤ n) (h2 : n < 9223372036854775808) : IntKind.i64.wrap n = n := by
  cases n with
  | ofNat m => exact wrap_nat (by have : ((m : Nat) : Int) < _ := h2; omega)
  | negSucc m =>
    have h3 : m < 9223372036854775808 := by rw [Int.negSucc_eq] at h1; omega
    have : Nat.blt m (negN .i64) = true := Nat.ble_eq_true_of_le h3
    exact wrap_neg this
theorem wrap_succ {j : Nat} (h : j < 9223372036854775807) : IntKind.i64.wrap ((j : Int) + 1) = (j : Int) + 1 := wrap_i64 (by omega) (by omega)
theorem wrap_pred {j : Nat} (h : j < 9223372036854775807) : IntKind.i64.wrap ((j : Int) - 1) = (j : Int) - 1 := wrap_i64 (by omega) (by omega)
/-- A slice of things: each is a row of cells. -/
def tl {α : Type} (f : α → List V) (s : Nat) (l : List α) (c : Option Nat) : V := .lst s (l.map f) c
section
variable {α : Type} {f : α → List V} {s : Nat} {l : List α} {c : Option Nat} {i : Nat} {x : α}
theorem lenQ_tl : lenQ (tl f s l c) = some (.int .i64 l.length) := by simp [lenQ, tl]
theorem iaQ_tl (h : i < l.length) : iaQ s (tl f s l c) i = some (.iptr s (l.map f) i 0) := by simp [iaQ, tl, h]
theorem row_tl : (l.map f)[i]? = (l[i]?).map f := List.getElem?_map
theorem closed_tl : V.closed (tl f s l c) = true := rfl
theorem sliceV_hi {n : Nat} (hs : s ≠ 0 ∧ s ≠ 1000003) (h : n ≤ l.length) : sliceV s (tl f s l c) (some none) (some (some n)) (some none) = some (tl f s (l.take n) (c.map (· - 0))) := by
  unfold sliceV tl
  simp [hs, h, List.map_take]
theorem sliceV_lo {n : Nat} (hs : s ≠ 0 ∧ s ≠ 1000003) (h : n ≤ l.length) : sliceV s (tl f s l c) (some (some n)) (some none) (some none) = some (tl f s (l.drop n) (c.map (· - n))) := by
  unfold sliceV tl
  have : ((l.map f).drop n).take ((l.map f).length - n) = (l.drop n).map f := by rw [List.take_of_length_le (by simp), List.map_drop]
  simp only [Option.getD_none, Option.getD_some, this]
  simp [hs, h]
theorem one_ok : (1 : Nat) ≠ 0 ∧ (1 : Nat) ≠ 1000003 := ⟨by decide, by decide⟩
theorem isVal_tl : V.isVal (tl f s l c) = true := rfl
theorem cells_tl : V.cells (tl f s l c) = [tl f s l c] := rfl
theorem bind_some' {β γ : Type} {a : β} {g : β → Option γ} : (some a).bind g = g a := rfl
theorem ite_self' {β : Sort _} {p : Prop} [Decidable p] {a : β} : (if p then a else a) = a := by split <;> rfl
end
attribute [push_cast] lenQ_tl row_tl isVal_tl cells_tl bind_some'
/-- Several registers set. -/
def Env.sets : Env → List (Nat × V) → Env
  | E, [] => E
  | E, p :: r => Env.sets (E.set p.1 p.2) r
theorem sets_nil {E : Env} : E.sets [] = E := rfl
theorem sets_cons {E : Env} {t : Nat} {v : V} {r : List (Nat × V)} : E.sets ((t, v) :: r) = (E.set t v).sets r := rfl
attribute [push_cast] sets_nil sets_cons
section
variable {L : Lib} {n0 N : Nat} {Q : Exit → Env → Heap → Prop} {E : Env} {H : Heap} {c : AC}
/-- A counted loop: besides the counter r, the registers rs and the memory HS hang on the round. -/
theorem wCntH (h : c.tag = 6) (r n : Nat) (rs : Nat → List (Nat × V)) (HS : Nat → Heap) (I : Nat → Prop) (hE : E = (E.set r (.int .i64 0)).sets (rs 0)) (hH : H = HS 0) (h0 : I 0)
    (round : ∀ j, j < n → I j → SWP L n0 N c.l (qR n0 ((E.set r (.int .i64 ((j + 1 : Nat) : Int))).sets (rs (j + 1))) (HS (j + 1)) (I (j + 1)) Q) ((E.set r (.int .i64 (j : Int))).sets (rs j)) (HS j))
    (last : I n → SWP L n0 N c.l (qR n0 [] [] False Q) ((E.set r (.int .i64 (n : Int))).sets (rs n)) (HS n)) : SWP L n0 N c Q E H :=
  wUp h n (fun j => (E.set r (.int .i64 (j : Int))).sets (rs j)) HS I hE hH h0 round last
theorem wCnt (h : c.tag = 6) (r n : Nat) (rs : Nat → List (Nat × V)) (I : Nat → Prop) (hE : E = (E.set r (.int .i64 0)).sets (rs 0)) (h0 : I 0)
    (round : ∀ j, j < n → I j → SWP L n0 N c.l (qR n0 ((E.set r (.int .i64 ((j + 1 : Nat) : Int))).sets (rs (j + 1))) H (I (j + 1)) Q) ((E.set r (.int .i64 (j : Int))).sets (rs j)) H)
    (last : I n → SWP L n0 N c.l (qR n0 [] [] False Q) ((E.set r (.int .i64 (n : Int))).sets (rs n)) H) : SWP L n0 N c Q E H :=
  wUp h n (fun j => (E.set r (.int .i64 (j : Int))).sets (rs j)) (fun _ => H) I hE rfl h0 round last
/-- Where a round of a loop ends, the states being numbered by σ. -/
def qW {σ : Type} (n0 : Nat) (ES : σ → Env) (HS : σ → Heap) (P : σ → Prop) (Q : Exit → Env → Heap → Prop) : Exit → Env → Heap → Prop
  | .normal, E, H => ∃ s, (E = ES s ∧ H = HS s ∨ ∃ src fz, okSh n0 src = true ∧ E.sh (sgOf H src fz) = ES s ∧ H.sh src fz = HS s) ∧ P s
  | e, E, H => Q e E H
theorem qW_e {σ : Type} {ES : σ → Env} {HS : σ → Heap} {P : σ → Prop} {i : Nat} : qW n0 ES HS P Q (.exit i) E H = Q (.exit i) E H := rfl
theorem qW_r {σ : Type} {ES : σ → Env} {HS : σ → Heap} {P : σ → Prop} : qW n0 ES HS P Q .ret E H = Q .ret E H := rfl
theorem qW_n {σ : Type} {ES : σ → Env} {HS : σ → Heap} {P : σ → Prop} (s : σ) (hE : E = ES s) (hH : H = HS s) (hP : P s) : qW n0 ES HS P Q .normal E H := ⟨s, .inl ⟨hE, hH⟩, hP⟩
theorem qW_s {σ : Type} {ES : σ → Env} {HS : σ → Heap} {P : σ → Prop} (s : σ) (src : List (Option Nat)) (fz : List Nat) (ho : okSh n0 src = true) (hE : E.sh (sgOf H src fz) = ES s) (hH : H.sh src fz = HS s) (hP : P s) : qW n0 ES HS P Q .normal E H := ⟨s, .inr ⟨src, fz, ho, hE, hH⟩, hP⟩
/-- A loop with a state and a measure. -/
theorem wWhile {σ : Type} (h : c.tag = 6) (ES : σ → Env) (HS : σ → Heap) (μ : σ → Nat) (I : σ → Prop) (s0 : σ) (hE : E = ES s0) (hH : H = HS s0) (h0 : I s0)
    (round : ∀ s, I s → SWP L n0 N c.l (qW n0 ES HS (fun s' => μ s' < μ s ∧ I s') Q) (ES s) (HS s)) : SWP L n0 N c Q E H := by
  refine wLoop h (fun m E H => ∃ s, μ s = m ∧ E = ES s ∧ H = HS s ∧ I s) (μ s0) ⟨s0, rfl, hE, hH, h0⟩ ?_
  rintro m _ _ ⟨s, rfl, rfl, rfl, hI⟩
  refine SWP.mono (round s hI) ?_
  intro e E' H' hq
  cases e with
  | normal =>
    obtain ⟨s', hq, hm, hI'⟩ := hq
    refine ⟨μ s', hm, ?_⟩
    rcases hq with ⟨h1, h2⟩ | ⟨src, fz, ho, h1, h2⟩
    · exact .inl ⟨s', rfl, h1, h2, hI'⟩
    · exact .inr ⟨src, fz, ho, s', rfl, h1, h2, hI'⟩
  | _ => exact hq
/-- Memory with places kept free. -/
theorem wPad (src : List (Option Nat)) {H1 : Heap} (ho : okSh n0 src = true) (hE : E.sh (sgOf H src []) = E) (hH : H.sh src [] = H1) (k : SWP L n0 N c Q E H1) : SWP L n0 N c Q E H := by
  refine SWP.shift src [] ho ?_
  rw [hE, hH]; exact k
theorem wShift (src : List (Option Nat)) (fz : List Nat) {E1 : Env} {H1 : Heap} (ho : okSh n0 src = true) (hE : E.sh (sgOf H src fz) = E1) (hH : H.sh src fz = H1) (k : SWP L n0 N c Q E1 H1) : SWP L n0 N c Q E H := by
  refine SWP.shift src fz ho ?_
  rw [hE, hH]; exact k
end
attribute [push_cast] qW_e qW_r
/-- A list that is nil where it is empty has no rows' size. -/
theorem size_of {s n : Nat} {α : Type} {l : List α} (h : s = n ∨ l = []) {i : Nat} (hi : i < l.length) : s = n := by
  rcases h with h | h
  · exact h
  · subst h; simp at hi
theorem get_of {α : Type} {l : List α} {i : Nat} (h : i < l.length) : ∃ x, l[i]? = some x ∧ x ∈ l := ⟨l[i], List.getElem?_eq_getElem h, List.getElem_mem h⟩
theorem take_snoc {α : Type} {l : List α} {j : Nat} {x : α} (h : l[j]? = some x) : l.take (j + 1) = l.take j ++ [x] := by rw [List.take_add_one, h]; rfl
theorem take_all {α : Type} {l : List α} : l.take l.length = l := List.take_length
theorem ne_both {α : Type} {a b : α} (h : a ≠ b) : (a = b ↔ False) ∧ (b = a ↔ False) := ⟨⟨h, False.elim⟩, ⟨fun e => h e.symm, False.elim⟩⟩
theorem len_lit {n : Nat} (h : 1 ≤ n) : ((n : Int) < 1 ↔ False) := ⟨fun _ => by omega, False.elim⟩
def mrow (m : Int) : List V := [.int .i64 m]
def brow (b : Bool) : List V := [.bool b]
theorem brow_eq (b : Bool) : brow b = [.bool b] := rfl
attribute [push_cast] brow_eq
theorem mrow_eq (m : Int) : mrow m = [.int .i64 m] := rfl
theorem mrow_snoc {r : List Int} {x : Int} : r.map mrow ++ [[.int .i64 x]] = (r ++ [x]).map mrow := by rw [List.map_append]; rfl
theorem ren_row {r : List V} (h : r.all V.closed = true) (σ : Nat → Sg) : r.map (V.ren σ) = r := by
  induction r with
  | nil => rfl
  | cons v r ih =>
    simp only [List.all_cons, Bool.and_eq_true] at h
    rw [List.map_cons, V.ren_closed σ h.1, ih h.2]
theorem ren_tl {α : Type} {f : α → List V} (hf : ∀ x, (f x).all V.closed = true) {σ : Nat → Sg} {n : Nat} {l : List α} : Blk.ren σ (.arr n (l.map f)) = .arr n (l.map f) := by
  unfold Blk.ren
  dsimp only
  rw [List.map_map]
  congr 1
  exact List.map_congr_left fun x _ => ren_row (hf x) σ
theorem closed_mrow (x : Int) : (mrow x).all V.closed = true := rfl
/-- Memory renumbered, block by block. -/
theorem sh_n {F : Option Nat → Option Blk} : List.map F [] = [] := rfl
theorem sh_c {F : Option Nat → Option Blk} {o : Option Nat} {b : Option Blk} {src : List (Option Nat)} {bs : List (Option Blk)} (h1 : F o = b) (h2 : src.map F = bs) : List.map F (o :: src) = b :: bs := by rw [List.map_cons, h1, h2]
theorem sh_b {α : Type} {f : α → List V} (hf : ∀ x, (f x).all V.closed = true) {H : Heap} {σ : Nat → Sg} {a n : Nat} {l : List α} (h : H.get a = some (.arr n (l.map f))) : ((some a).bind fun a => (H.get a).map (Blk.ren σ)) = some (.arr n (l.map f)) := by
  show (H.get a).map (Blk.ren σ) = _
  rw [h, Option.map_some, ren_tl hf]
theorem closeds_tl {α : Type} {f : α → List V} (hf : ∀ x, (f x).all V.closed = true) {n : Nat} {l : List α} : (Blk.arr n (l.map f)).closed = true := by
  unfold Blk.closed
  exact List.all_eq_true.2 fun row h => by
    obtain ⟨x, _, rfl⟩ := List.mem_map.1 h
    exact hf x
/-- A block of one's own, frozen where nothing else is kept. -/
theorem frz_ref {α : Type} {f : α → List V} (hf : ∀ x, (f x).all V.closed = true) {H : Heap} {fz : List Nat} {a n : Nat} {l : List α} {c : Option Nat} (hn : 0 < n) (ha : fz.contains a = true) (h : H.get a = some (.arr n (l.map f))) : V.ren (sgOf H [] fz) (.ref a n 0 l.length c) = tl f n l c := by
  have e : sgOf H [] fz a = .frz n (l.map f) := by
    unfold sgOf
    simp only [posIn, ha, h, closeds_tl hf, cond_true]
  rw [V.ren, e]
  simp only [true_and, hn, Nat.zero_add, List.length_map, Nat.le_refl, and_self, if_true, List.drop_zero]
  rw [List.take_of_length_le (by simp)]; rfl
theorem FnQ.frz {F : AFunc} {E : Env} {H : Heap} {r0 r : V} (fz : List Nat) (h : resV E.get H.get F.results = some r0) (hr : r0.ren (sgOf H [] fz) = r) : FnQ F 0 (fun r' H' => r' = r ∧ H' = []) .ret E H := by
  have : ResP F.results 0 (fun r' H' => r' = r ∧ H' = []) E H := by
    unfold ResP
    rw [h]
    exact .inr ⟨[], fz, rfl, hr, rfl⟩
  exact this
/-- A list being built by appending: nothing at first, then a block (at a). -/
def accV {α : Type} (a n : Nat) (r : List α) : V := if r = [] then .lst 0 [] (some 0) else .ref a n 0 r.length none
def accB {α : Type} (f : α → List V) (n : Nat) (r : List α) : Option Blk := if r = [] then none else some (.arr n (r.map f))
section
variable {α : Type} {a n : Nat} {r : List α} {f : α → List V} {x : α}
theorem accV_nil : accV a n ([] : List α) = .lst 0 [] (some 0) := rfl
theorem accV_cons (h : r ≠ []) : accV a n r = .ref a n 0 r.length none := if_neg h
theorem accB_nil : accB f n ([] : List α) = none := rfl
theorem accB_cons (h : r ≠ []) : accB f n r = some (.arr n (r.map f)) := if_neg h
theorem accV_one : accV a n [x] = .ref a n 0 1 none := rfl
theorem accB_one : accB f n [x] = some (.arr n [f x]) := rfl
theorem accV_snoc : accV a n (r ++ [x]) = .ref a n 0 (r.length + 1) none := by rw [accV_cons (by simp), List.length_append]; rfl
theorem accB_snoc : accB f n (r ++ [x]) = some (.arr n ((r ++ [x]).map f)) := accB_cons (by simp)
theorem isVal_acc : V.isVal (accV a n r) = true := by unfold accV; split <;> rfl
theorem cells_acc : V.cells (accV a n r) = [accV a n r] := by unfold accV; split <;> rfl
end
/-- Frozen: a list. -/
theorem frz_acc {α : Type} {f : α → List V} (hf : ∀ x, (f x).all V.closed = true) {H : Heap} {fz : List Nat} {a n : Nat} {r : List α} (hn : 0 < n) (ha : fz.contains a = true) (h : H.get a = accB f n r) : ∃ s c, (s = n ∨ r = []) ∧ V.ren (sgOf H [] fz) (accV a n r) = tl f s r c := by
  by_cases hr : r = []
  · subst hr; exact ⟨0, some 0, .inr rfl, rfl⟩
  · rw [accB_cons hr] at h
    exact ⟨n, none, .inl rfl, by rw [accV_cons hr]; exact frz_ref hf hn ha h⟩
theorem roomOk_eq {n b : Nat} : roomOk n b = decide (n * b ≤ 140737488355328) := rfl
theorem nat?_add {k : IntKind} {n m : Nat} : V.nat? (.int k ((n : Int) + (m : Int))) = some (n + m) := by
  simp [V.nat?]; omega
theorem nat?_add1 {k : IntKind} {n : Nat} : V.nat? (.int k ((n : Int) + 1)) = some (n + 1) := nat?_add (m := 1)
theorem nat?_l0 {k : IntKind} : V.nat? (.int k 0) = some 0 := rfl
theorem nat?_l1 {k : IntKind} : V.nat? (.int k 1) = some 1 := rfl
theorem nat?_l2 {k : IntKind} : V.nat? (.int k 2) = some 2 := rfl
theorem nat?_l3 {k : IntKind} : V.nat? (.int k 3) = some 3 := rfl
theorem nat?_l4 {k : IntKind} : V.nat? (.int k 4) = some 4 := rfl
theorem nat?_l5 {k : IntKind} : V.nat? (.int k 5) = some 5 := rfl
theorem nat?_l6 {k : IntKind} : V.nat? (.int k 6) = some 6 := rfl
theorem nat?_l7 {k : IntKind} : V.nat? (.int k 7) = some 7 := rfl
theorem nat?_l8 {k : IntKind} : V.nat? (.int k 8) = some 8 := rfl
theorem nat?_l9 {k : IntKind} : V.nat? (.int k 9) = some 9 := rfl
theorem nat?_l10 {k : IntKind} : V.nat? (.int k 10) = some 10 := rfl
theorem nat?_l11 {k : IntKind} : V.nat? (.int k 11) = some 11 := rfl
theorem nat?_l12 {k : IntKind} : V.nat? (.int k 12) = some 12 := rfl
theorem nat?_l13 {k : IntKind} : V.nat? (.int k 13) = some 13 := rfl
theorem nat?_l14 {k : IntKind} : V.nat? (.int k 14) = some 14 := rfl
theorem nat?_l15 {k : IntKind} : V.nat? (.int k 15) = some 15 := rfl
theorem nat?_l16 {k : IntKind} : V.nat? (.int k 16) = some 16 := rfl
theorem add_sub1 {a : Int} : a + 1 - 1 = a := by omega
attribute [push_cast] isVal_acc cells_acc mrow_snoc roomOk_eq or_true true_or or_false false_or List.length_map gt_iff_lt ge_iff_le eq_self nat?_add nat?_add1 nat?_l0 nat?_l1 nat?_l2 nat?_l3 nat?_l4 nat?_l5 nat?_l6 nat?_l7 nat?_l8 nat?_l9 nat?_l10 nat?_l11 nat?_l12 nat?_l13 nat?_l14 nat?_l15 nat?_l16 add_sub1 mrow_eq Int.ofNat_lt Int.ofNat_le Int.ofNat_inj Nat.lt_irrefl Nat.le_refl
end Go.Proofs.YtnhfbabenifbkaaGreatDoor
