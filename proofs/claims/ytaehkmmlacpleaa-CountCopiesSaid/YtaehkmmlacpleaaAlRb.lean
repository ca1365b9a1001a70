/- AL: reasoning by simplification: memory, calls, ends. -/
import Derived.Test.YtaehkmmlacpleaaAlRa
set_option linter.unusedVariables false
set_option linter.unusedSimpArgs false
namespace Go.Proofs.Ytaehkmmlacpleaa
section
variable {L : Lib} {l : List AI} {K : Env → Heap → Prop} {E : Env} {H : Heap} {d : Option Nat} {anc : List Nat}
theorem Heap.app_new (H : Heap) (v : V) (nd : List Nat) (b : Blk) : H.app { v := v, need := nd, new := [b] } = H ++ [some b] := by simp [Heap.app, Heap.upds]
theorem opsP_box_iff {x : AOpd} : opsP L (⟨d, .box x, none, anc⟩ :: l) K E H ↔ ∃ v, opval L.G E.get x = some v ∧ v.isVal = true ∧ opsP L l K (E.put d (.ptr H.length v.cells.length 0 0)) (H ++ [some (.arr v.cells.length [v.cells])]) := by
  rw [opsP_eff rfl]
  show (∃ e, ((opval L.G E.get x).bind fun v => if v.isVal then some ({ v := .ptr H.length v.cells.length 0 0, new := [.arr v.cells.length [v.cells]] } : Eff) else none) = some e ∧ _ ∧ _) ↔ _
  cases opval L.G E.get x with
  | none => simp
  | some v => by_cases h : v.isVal = true <;> simp [h, Heap.app_new]
theorem opsP_alloc_iff {z : List V} : opsP L (⟨d, .alloc z, none, anc⟩ :: l) K E H ↔ opsP L l K (E.put d (.ptr H.length z.length 0 0)) (H ++ [some (.arr z.length [z])]) := by
  rw [opsP_eff rfl]
  show (∃ e, some ({ v := .ptr H.length z.length 0 0, new := [.arr z.length [z]] } : Eff) = some e ∧ _ ∧ _) ↔ _
  simp [Heap.app_new]
def faQ (off : Nat) : V → Option V
  | .ptr a size i o => some (.ptr a size i (o + off))
  | .iptr size rows i o => some (.iptr size rows i (o + off))
  | _ => none
theorem faQ_ptr {off a s i o : Nat} : faQ off (.ptr a s i o) = some (.ptr a s i (o + off)) := rfl
theorem faQ_iptr {off s i o : Nat} {rows : List (List V)} : faQ off (.iptr s rows i o) = some (.iptr s rows i (o + off)) := rfl
theorem opsP_fa_iff {x : AOpd} {off : Nat} : opsP L (⟨d, .fa x off, none, anc⟩ :: l) K E H ↔ ∃ a, opval L.G E.get x = some a ∧ ∃ v, faQ off a = some v ∧ opsP L l K (E.put d v) H := by
  rw [opsP_val (g := (opval L.G E.get x).bind (faQ off)) rfl]
  · simp only [Option.bind_eq_some_iff]
    constructor
    · rintro ⟨v, ⟨a, ha, hv⟩, h⟩; exact ⟨a, ha, v, hv, h⟩
    · rintro ⟨a, ha, v, hv, h⟩; exact ⟨v, ⟨a, ha, hv⟩, h⟩
  · show ((opval L.G E.get x).bind fun x => match x with | .ptr a size i o => some ({ v := .ptr a size i (o + off) } : Eff) | .iptr size rows i o => some { v := .iptr size rows i (o + off) } | _ => none) = _
    cases opval L.G E.get x with
    | none => rfl
    | some v => cases v <;> rfl
def lenQ : V → Option V
  | .ref _ _ _ ln _ => some (.int .i64 ln)
  | .lst _ rows _ => some (.int .i64 rows.length)
  | _ => none
theorem lenQ_ref {a s o n : Nat} {c : Option Nat} : lenQ (.ref a s o n c) = some (.int .i64 n) := rfl
theorem lenQ_lst {s : Nat} {rows : List (List V)} {c : Option Nat} : lenQ (.lst s rows c) = some (.int .i64 rows.length) := rfl
theorem opsP_len_iff {x : AOpd} : opsP L (⟨d, .len x, none, anc⟩ :: l) K E H ↔ ∃ a, opval L.G E.get x = some a ∧ ∃ v, lenQ a = some v ∧ opsP L l K (E.put d v) H := by
  rw [opsP_val (g := (opval L.G E.get x).bind lenQ) rfl]
  · simp only [Option.bind_eq_some_iff]
    constructor
    · rintro ⟨v, ⟨a, ha, hv⟩, h⟩; exact ⟨a, ha, v, hv, h⟩
    · rintro ⟨a, ha, v, hv, h⟩; exact ⟨v, ⟨a, ha, hv⟩, h⟩
  · show ((opval L.G E.get x).bind fun x => match x with | .ref _ _ _ ln _ => some ({ v := .int .i64 ln } : Eff) | .lst _ rows _ => some { v := .int .i64 rows.length } | _ => none) = _
    cases opval L.G E.get x with
    | none => rfl
    | some v => cases v <;> rfl
theorem nat?_ofNat {k : IntKind} {n : Nat} : V.nat? (.int k (n : Int)) = some n := by simp [V.nat?]
/-- A place in a slice. -/
def iaQ (size : Nat) : V → Nat → Option V
  | .ref a size' off ln _, i => if size' = size ∧ i < ln then some (.ptr a size (off + i) 0) else none
  | .lst size' rows _, i => if size' = size ∧ i < rows.length then some (.iptr size rows i 0) else none
  | _, _ => none
theorem iaQ_lst {size s i : Nat} {rows : List (List V)} {c : Option Nat} : iaQ size (.lst s rows c) i = if s = size ∧ i < rows.length then some (.iptr size rows i 0) else none := rfl
theorem iaQ_ref {size s i a o n : Nat} {c : Option Nat} : iaQ size (.ref a s o n c) i = if s = size ∧ i < n then some (.ptr a size (o + i) 0) else none := rfl
theorem opsP_ia_iff {size : Nat} {x y : AOpd} : opsP L (⟨d, .ia size x y, none, anc⟩ :: l) K E H ↔ ∃ a, opval L.G E.get x = some a ∧ ∃ b, opval L.G E.get y = some b ∧ ∃ i, b.nat? = some i ∧ ∃ v, iaQ size a i = some v ∧ opsP L l K (E.put d v) H := by
  rw [opsP_val (g := (opval L.G E.get x).bind fun a => ((opval L.G E.get y).bind V.nat?).bind fun i => iaQ size a i) rfl]
  · simp only [Option.bind_eq_some_iff]
    constructor
    · rintro ⟨v, ⟨a, ha, i, ⟨b, hb, hi⟩, hv⟩, h⟩; exact ⟨a, ha, b, hb, i, hi, v, hv, h⟩
    · rintro ⟨a, ha, b, hb, i, hi, v, hv, h⟩; exact ⟨v, ⟨a, ha, i, ⟨b, hb, hi⟩, hv⟩, h⟩
  · show ((opval L.G E.get x).bind fun x => ((opval L.G E.get y).bind V.nat?).bind fun i => match x with
      | .ref a size' off ln _ => if size' = size ∧ i < ln then some ({ v := .ptr a size (off + i) 0 } : Eff) else none
      | .lst size' rows _ => if size' = size ∧ i < rows.length then some { v := .iptr size rows i 0 } else none
      | _ => none) = _
    cases opval L.G E.get x with
    | none => rfl
    | some v =>
      show (((opval L.G E.get y).bind V.nat?).bind _) = (((opval L.G E.get y).bind V.nat?).bind _).bind _
      cases (opval L.G E.get y).bind V.nat? with
      | none => rfl
      | some i =>
        cases v with
        | ref a s o n c => show (if _ then _ else _) = (if _ then _ else _ : Option V).bind _; by_cases h : s = size ∧ i < n <;> simp [h]
        | lst s rows c => show (if _ then _ else _) = (if _ then _ else _ : Option V).bind _; by_cases h : s = size ∧ i < rows.length <;> simp [h]
        | _ => rfl
theorem opsP_iaa_iff {size ln : Nat} {x y : AOpd} : opsP L (⟨d, .iaa size ln x y, none, anc⟩ :: l) K E H ↔ ∃ a, opval L.G E.get x = some a ∧ ∃ b, opval L.G E.get y = some b ∧ ∃ i, b.nat? = some i ∧ i < ln ∧ ∃ v, faQ (i * size) a = some v ∧ opsP L l K (E.put d v) H := by
  rw [opsP_val (g := (opval L.G E.get x).bind fun a => ((opval L.G E.get y).bind V.nat?).bind fun i => if i < ln then faQ (i * size) a else none) rfl]
  · simp only [Option.bind_eq_some_iff, Option.ite_none_right_eq_some]
    constructor
    · rintro ⟨v, ⟨a, ha, i, ⟨b, hb, hi⟩, hl, hv⟩, h⟩; exact ⟨a, ha, b, hb, i, hi, hl, v, hv, h⟩
    · rintro ⟨a, ha, b, hb, i, hi, hl, v, hv, h⟩; exact ⟨v, ⟨a, ha, i, ⟨b, hb, hi⟩, hl, hv⟩, h⟩
  · show ((opval L.G E.get x).bind fun x => ((opval L.G E.get y).bind V.nat?).bind fun i => if i < ln then (match x with | .ptr a size' j o => some ({ v := .ptr a size' j (o + i * size) } : Eff) | .iptr size' rows j o => some { v := .iptr size' rows j (o + i * size) } | _ => none) else none) = _
    cases opval L.G E.get x with
    | none => rfl
    | some v =>
      show (((opval L.G E.get y).bind V.nat?).bind _) = (((opval L.G E.get y).bind V.nat?).bind _).bind _
      cases (opval L.G E.get y).bind V.nat? with
      | none => rfl
      | some i =>
        show (if i < ln then _ else _) = (if i < ln then _ else _ : Option V).bind _
        by_cases h : i < ln
        · rw [if_pos h, if_pos h]; cases v <;> rfl
        · rw [if_neg h, if_neg h]; rfl
/-- What lies at a place. -/
def loadB (b : Option Blk) (s i o n : Nat) (leaf : Bool) : Option V := match b.map (Blk.shape s) with | some (.arr s' rows) => if s = s' then (rows[i]?).bind fun row => takeCells row o n leaf else none | _ => none
def loadQ (get : Nat → Option Blk) (n : Nat) (leaf : Bool) : V → Option V
  | .ptr a s i o => loadB (get a) s i o n leaf
  | .iptr _ rows i o => (rows[i]?).bind fun row => takeCells row o n leaf
  | _ => none
theorem loadQ_iptr {get : Nat → Option Blk} {n s i o : Nat} {leaf : Bool} {rows : List (List V)} : loadQ get n leaf (.iptr s rows i o) = (rows[i]?).bind fun row => takeCells row o n leaf := rfl
theorem loadQ_ptr {get : Nat → Option Blk} {n a s i o : Nat} {leaf : Bool} : loadQ get n leaf (.ptr a s i o) = loadB (get a) s i o n leaf := rfl
theorem shape_same {s : Nat} {rows : List (List V)} : Blk.shape s (.arr s rows) = .arr s rows := by
  unfold Blk.shape
  dsimp only
  rw [if_pos rfl]
theorem loadB_arr {s i o n : Nat} {leaf : Bool} {rows : List (List V)} : loadB (some (.arr s rows)) s i o n leaf = (rows[i]?).bind fun row => takeCells row o n leaf := by
  unfold loadB
  simp only [Option.map_some, shape_same, if_true]
theorem loadV_loadQ {get : Nat → Option Blk} {k : Nat} {leaf : Bool} (a : V) : ∃ nd, loadV (shG a.psz get) k leaf a = (loadQ get k leaf a).map fun v => { v := v, need := nd } := by
  cases a with
  | ptr a s i o =>
    refine ⟨[a], ?_⟩
    unfold loadV loadQ loadB shG
    dsimp only [V.psz]
    cases (get a).map (Blk.shape s) with
    | none => rfl
    | some b =>
      cases b with
      | arr s' rows =>
        dsimp only
        by_cases h : s = s'
        · rw [if_pos h, if_pos h]
          cases rows[i]? with
          | none => rfl
          | some row => cases hq : takeCells row o k leaf <;> simp [hq]
        · rw [if_neg h, if_neg h]; rfl
      | _ => rfl
  | iptr s rows i o =>
    refine ⟨[], ?_⟩
    unfold loadV loadQ
    dsimp only
    cases rows[i]? with
    | none => rfl
    | some row => cases hq : takeCells row o k leaf <;> simp [hq]
  | _ => exact ⟨[], rfl⟩
theorem opsP_load_iff {k : Nat} {leaf : Bool} {p : AOpd} : opsP L (⟨d, .load k leaf p, none, anc⟩ :: l) K E H ↔ ∃ a, opval L.G E.get p = some a ∧ ∃ v, loadQ H.get k leaf a = some v ∧ opsP L l K (E.put d v) H := by
  rw [opsP_eff rfl]
  show (∃ e, (opval L.G E.get p).bind (loadV (shG (((opval L.G E.get p).map V.psz).getD 0) H.get) k leaf) = some e ∧ _ ∧ _) ↔ _
  cases opval L.G E.get p with
  | none => simp
  | some a =>
    show (∃ e, loadV (shG a.psz H.get) k leaf a = some e ∧ _ ∧ _) ↔ _
    obtain ⟨nd, hnd⟩ := loadV_loadQ (get := H.get) (k := k) (leaf := leaf) a
    rw [hnd]
    cases hq : loadQ H.get k leaf a with
    | none => simp [hq]
    | some v => simp [hq, Heap.app_v]
/-- A place, written. -/
def storeB (b : Option Blk) (s i o n : Nat) (x : V) : Option (List (List V)) := match b.map (Blk.shape s) with | some (.arr s' rows) => if s = s' ∧ x.cells.length = n ∧ x.isVal = true then (rows[i]?).bind fun row => if o + n ≤ row.length then some (rows.set i (row.take o ++ x.cells ++ row.drop (o + n))) else none else none | _ => none
theorem storeB_arr {s i o n : Nat} {x : V} {rows : List (List V)} : storeB (some (.arr s rows)) s i o n x = if x.cells.length = n ∧ x.isVal = true then (rows[i]?).bind fun row => if o + n ≤ row.length then some (rows.set i (row.take o ++ x.cells ++ row.drop (o + n))) else none else none := by
  unfold storeB
  simp only [Option.map_some, shape_same, true_and]
def ptrQ : V → Option (Nat × Nat × Nat × Nat)
  | .ptr a s i o => some (a, s, i, o)
  | _ => none
theorem ptrQ_ptr {a s i o : Nat} : ptrQ (.ptr a s i o) = some (a, s, i, o) := rfl
theorem opsP_store_iff {k : Nat} {p y : AOpd} : opsP L (⟨d, .store k p y, none, anc⟩ :: l) K E H ↔ ∃ a, opval L.G E.get p = some a ∧ ∃ x, opval L.G E.get y = some x ∧ ∃ q, ptrQ a = some q ∧ ∃ rows, storeB (H.get q.1) q.2.1 q.2.2.1 q.2.2.2 k x = some rows ∧ q.1 < H.length ∧ opsP L l K (E.put d (.tup [])) (H.set q.1 (some (.arr q.2.1 rows))) := by
  rw [opsP_eff rfl]
  show (∃ e, ((opval L.G E.get p).bind fun p' => (opval L.G E.get y).bind fun x => storeV (shG (((opval L.G E.get p).map V.psz).getD 0) H.get) k p' x) = some e ∧ _ ∧ _) ↔ _
  cases opval L.G E.get p with
  | none => simp
  | some a =>
    cases opval L.G E.get y with
    | none => simp
    | some x =>
      show (∃ e, storeV (shG a.psz H.get) k a x = some e ∧ _ ∧ _) ↔ _
      simp only [Option.some.injEq, exists_eq_left']
      cases a with
      | ptr a s i o =>
        simp only [ptrQ, Option.some.injEq, exists_eq_left']
        unfold storeV storeB shG
        dsimp only [V.psz]
        cases (H.get a).map (Blk.shape s) with
        | none => simp
        | some b =>
          cases b with
          | arr s' rows =>
            dsimp only
            by_cases h : s = s' ∧ x.cells.length = k ∧ x.isVal = true
            · rw [if_pos h, if_pos h]
              cases rows[i]? with
              | none => simp
              | some row =>
                simp only [Option.bind]
                by_cases h2 : o + k ≤ row.length
                · rw [if_pos h2, if_pos h2]
                  simp only [Option.some.injEq, exists_eq_left']
                  constructor
                  · rintro ⟨h3, h4⟩
                    refine ⟨by simpa using h3, ?_⟩
                    simpa [Heap.app, Heap.upds] using h4
                  · rintro ⟨h3, h4⟩
                    refine ⟨by simpa using h3, ?_⟩
                    simpa [Heap.app, Heap.upds] using h4
                · rw [if_neg h2, if_neg h2]; simp
            · rw [if_neg h, if_neg h]; simp
          | _ => simp
      | _ => simp [ptrQ, storeV]
theorem opsP_box {x : AOpd} : opsP L (⟨d, .box x, none, anc⟩ :: l) K E H = bP (opval L.G E.get x) fun v => aP (v.isVal = true) (opsP L l K (E.put d (.ptr H.length v.cells.length 0 0)) (H ++ [some (.arr v.cells.length [v.cells])])) := propext opsP_box_iff
theorem opsP_alloc {z : List V} : opsP L (⟨d, .alloc z, none, anc⟩ :: l) K E H = opsP L l K (E.put d (.ptr H.length z.length 0 0)) (H ++ [some (.arr z.length [z])]) := propext opsP_alloc_iff
theorem opsP_fa {x : AOpd} {off : Nat} : opsP L (⟨d, .fa x off, none, anc⟩ :: l) K E H = bP (opval L.G E.get x) fun a => bP (faQ off a) fun v => opsP L l K (E.put d v) H := propext opsP_fa_iff
theorem opsP_len {x : AOpd} : opsP L (⟨d, .len x, none, anc⟩ :: l) K E H = bP (opval L.G E.get x) fun a => bP (lenQ a) fun v => opsP L l K (E.put d v) H := propext opsP_len_iff
theorem opsP_ia {size : Nat} {x y : AOpd} : opsP L (⟨d, .ia size x y, none, anc⟩ :: l) K E H = bP (opval L.G E.get x) fun a => bP (opval L.G E.get y) fun b => bP b.nat? fun i => bP (iaQ size a i) fun v => opsP L l K (E.put d v) H := propext opsP_ia_iff
theorem opsP_iaa {size ln : Nat} {x y : AOpd} : opsP L (⟨d, .iaa size ln x y, none, anc⟩ :: l) K E H = bP (opval L.G E.get x) fun a => bP (opval L.G E.get y) fun b => bP b.nat? fun i => aP (i < ln) (bP (faQ (i * size) a) fun v => opsP L l K (E.put d v) H) := propext opsP_iaa_iff
theorem opsP_load {k : Nat} {leaf : Bool} {p : AOpd} : opsP L (⟨d, .load k leaf p, none, anc⟩ :: l) K E H = bP (opval L.G E.get p) fun a => bP (loadQ H.get k leaf a) fun v => opsP L l K (E.put d v) H := propext opsP_load_iff
theorem opsP_store {k : Nat} {p y : AOpd} : opsP L (⟨d, .store k p y, none, anc⟩ :: l) K E H = bP (opval L.G E.get p) fun a => bP (opval L.G E.get y) fun x => bP (ptrQ a) fun q => bP (storeB (H.get q.1) q.2.1 q.2.2.1 q.2.2.2 k x) fun rows => aP (q.1 < H.length) (opsP L l K (E.put d (.tup [])) (H.set q.1 (some (.arr q.2.1 rows)))) := propext opsP_store_iff
theorem takeCells_one {row : List V} {o : Nat} : takeCells row o 1 true = row[o]? := by
  unfold takeCells
  simp only [if_true]
  by_cases h : o < row.length
  · rw [List.drop_eq_getElem_cons h, List.getElem?_eq_getElem h]; rfl
  · rw [List.drop_eq_nil_of_le (by omega), List.getElem?_eq_none (by omega)]; rfl
theorem Heap.get_cons0 (o : Option Blk) (H : Heap) : Heap.get (o :: H) 0 = o := rfl
theorem Heap.get_consS (o : Option Blk) (H : Heap) (n : Nat) : Heap.get (o :: H) (n + 1) = Heap.get H n := rfl

/-! Calls of functions of values. -/
mutual
theorem V.ren_closed (σ : Nat → Sg) : ∀ {v : V}, v.closed = true → v.ren σ = v
  | .agg cs, h => by rw [V.ren, V.rens_closed σ h]
  | .tup cs, h => by rw [V.ren, V.rens_closed σ h]
  | .fn f a b, h => by
    simp only [V.closed, Bool.and_eq_true] at h
    rw [V.ren, V.rens_closed σ h.1, V.rens_closed σ h.2]
  | .iface t v, h => by rw [V.ren, V.ren_closed σ (v := v) h]
  | .ref .., h => by cases h
  | .ptr .., h => by cases h
  | .int .., _ => rfl
  | .bool _, _ => rfl
  | .str _, _ => rfl
  | .lst .., _ => rfl
  | .iptr .., _ => rfl
  | .nilp, _ => rfl
  | .nilf, _ => rfl
  | .nili, _ => rfl
  | .bot, _ => rfl
  | .yld _, h => by cases h
  | .mapp _, h => by cases h
  | .nilm, _ => rfl
theorem V.rens_closed (σ : Nat → Sg) : ∀ {l : List V}, V.closeds l = true → V.rens σ l = l
  | [], _ => rfl
  | v :: r, h => by
    simp only [V.closeds, Bool.and_eq_true] at h
    rw [V.rens, V.ren_closed σ h.1, V.rens_closed σ h.2]
end
/-- From these values it yields that value, whatever lies in memory, and leaves memory as it is. -/
def VFn (L : Lib) (k : Nat) (vs : List V) (r : V) : Prop := V.closeds vs = true ∧ r.closed = true ∧ AFn L (.fn k) vs [] (fun r' H' => r' = r ∧ H' = [])
theorem VFn.at {k : Nat} {vs : List V} {r : V} (h : VFn L k vs r) (H : Heap) : AFn L (.fn k) vs H (fun r' H' => r' = r ∧ H' = H) := by
  have e1 : vs.map (V.ren (sgOf H ([].map some) [])) = vs := by rw [← V.rens_map]; exact V.rens_closed _ h.1
  refine AFn.frame (k' := .fn k) [] [] rfl rfl rfl ?_
  rw [e1]
  refine AFn.mono (show AFn L (.fn k) vs [] _ from h.2.2) ?_
  rintro r' H' ⟨rfl, rfl⟩
  refine ⟨rfl, V.ren_closed _ h.2.1, ?_⟩
  simp [Heap.back, Heap.upds]
theorem opsP_call {k : Nat} {args : List AOpd} {vs : List V} {r : V} (hv : evals (opval L.G E.get) args = some vs) (hf : VFn L k vs r) (h : opsP L l K (E.put d r) H) : opsP L (⟨d, .call (.fn k) args, none, anc⟩ :: l) K E H := by
  show stepP L ⟨d, .call (.fn k) args, none, anc⟩ (opsP L l K) E H
  unfold stepP AI.goes
  show CallP L E.get H (.fn k) args _
  unfold CallP callee
  rw [hv]
  show AFn L (.fn k) vs H _
  refine (hf.at H).mono ?_
  rintro r' H' ⟨rfl, rfl⟩
  exact h
theorem VFn.of_body {k : Nat} {F : AFunc} {vs : List V} {r : V} (hT : L.T k = some F) (hn : vs.length = F.nargs) (hvs : V.closeds vs = true) (hr : r.closed = true) (h : SWP L 0 F.ntmps F.body (FnQ F 0 (fun r' H' => r' = r ∧ H' = [])) (argE vs 0) []) : VFn L k vs r :=
  ⟨hvs, hr, AFn.of_body hT hn h⟩
theorem ResP.of {rs : List ARes} {E : Env} {H : Heap} {r : V} (h : resV E.get H.get rs = some r) (hc : r.closed = true) : ResP rs 0 (fun r' H' => r' = r ∧ H' = []) E H := by
  unfold ResP
  rw [h]
  exact .inr ⟨[], [], rfl, V.ren_closed _ hc, rfl⟩
theorem FnQ.ret {F : AFunc} {E : Env} {H : Heap} {r : V} (h : resV E.get H.get F.results = some r) (hc : r.closed = true) : FnQ F 0 (fun r' H' => r' = r ∧ H' = []) .ret E H := ResP.of h hc
theorem FnQ.normal {F : AFunc} {E : Env} {H : Heap} {r : V} (h : resV E.get H.get F.results = some r) (hc : r.closed = true) : FnQ F 0 (fun r' H' => r' = r ∧ H' = []) .normal E H := ResP.of h hc
theorem cells_agg {cs : List V} : V.cells (.agg cs) = cs := rfl
theorem cells_int {k : IntKind} {n : Int} : V.cells (.int k n) = [.int k n] := rfl
theorem cells_bool {b : Bool} : V.cells (.bool b) = [.bool b] := rfl
theorem cells_str {b : List UInt8} : V.cells (.str b) = [.str b] := rfl
theorem cells_lst {s : Nat} {r : List (List V)} {c : Option Nat} : V.cells (.lst s r c) = [.lst s r c] := rfl
theorem cells_ref {a s o n : Nat} {c : Option Nat} : V.cells (.ref a s o n c) = [.ref a s o n c] := rfl
theorem cells_ptr {a s i o : Nat} : V.cells (.ptr a s i o) = [.ptr a s i o] := rfl
theorem takeCells_agg {row : List V} {o n : Nat} : takeCells row o n false = if ((row.drop o).take n).length = n then some (.agg ((row.drop o).take n)) else none := rfl
end
theorem stepP.mono {L : Lib} {i : AI} {K K' : Env → Heap → Prop} {E : Env} {H : Heap} (h : stepP L i K E H) (hk : ∀ E H, K E H → K' E H) : stepP L i K' E H := by
  obtain ⟨d, op, g, anc⟩ := i
  unfold stepP at h ⊢
  split at h
  · exact hk _ _ h
  · dsimp only at h ⊢
    split at h
    · rename_i c args
      unfold CallP at h ⊢
      split at h
      · rename_i hc
        exact AFn.mono h (fun r H' hr => hk _ _ hr)
      · exact h.elim
    · rename_i x
      split at h
      · exact fun e he => ⟨(h e he).1, hk _ _ (h e he).2⟩
      · exact h.elim
    · split at h
      · exact ⟨h.1, hk _ _ h.2⟩
      · exact h.elim
  · exact h.elim
theorem opsP.mono {L : Lib} {K K' : Env → Heap → Prop} (hk : ∀ E H, K E H → K' E H) : ∀ {l : List AI} {E : Env} {H : Heap}, opsP L l K E H → opsP L l K' E H
  | [], E, H, h => hk _ _ h
  | i :: l, E, H, h => stepP.mono (K := opsP L l K) (K' := opsP L l K') h (fun E H h => opsP.mono hk h)
/-- A region whose end is known. -/
theorem opsP.out {L : Lib} {l : List AI} {ks : List Nat} {E E' : Env} {H H' : Heap} {Q : Exit → Env → Heap → Prop} (h : opsP L l (fun E1 H1 => E1.kill ks = E' ∧ H1 = H') E H) (k : Q .normal E' H') : opsP L l (fun E1 H1 => Q .normal (E1.kill ks) H1) E H := by
  refine opsP.mono (fun E1 H1 h1 => ?_) h
  rw [h1.1, h1.2]; exact k
theorem isVal_int {k : IntKind} {n : Int} : V.isVal (.int k n) = true := rfl
theorem isVal_bool {b : Bool} : V.isVal (.bool b) = true := rfl
theorem isVal_agg {cs : List V} : V.isVal (.agg cs) = true := rfl
theorem isVal_lst {s : Nat} {r : List (List V)} {c : Option Nat} : V.isVal (.lst s r c) = true := rfl
theorem isVal_str {b : List UInt8} : V.isVal (.str b) = true := rfl
theorem isVal_ref {a s o n : Nat} {c : Option Nat} : V.isVal (.ref a s o n c) = true := rfl
theorem isVal_ptr {a s i o : Nat} : V.isVal (.ptr a s i o) = true := rfl
attribute [push_cast] opsP_box opsP_alloc opsP_fa opsP_len opsP_ia opsP_iaa opsP_load opsP_store faQ_ptr faQ_iptr lenQ_ref lenQ_lst iaQ_lst iaQ_ref nat?_ofNat loadQ_ptr loadQ_iptr loadB_arr storeB_arr ptrQ_ptr takeCells_one takeCells_agg cells_agg cells_int cells_bool cells_str cells_lst cells_ref cells_ptr Heap.get_cons0 Heap.get_consS List.length_cons List.length_nil List.cons_append List.nil_append List.append_nil List.getElem?_cons_zero List.getElem?_cons_succ List.set_cons_zero List.set_cons_succ List.drop_zero List.drop_succ_cons List.take_zero List.take_succ_cons List.drop_nil List.take_nil Option.bind_some Option.bind_none and_self and_true true_and Nat.add_zero Nat.lt_add_one
attribute [push_cast] isVal_int isVal_bool isVal_agg isVal_lst isVal_str isVal_ref isVal_ptr
end Go.Proofs.Ytaehkmmlacpleaa
