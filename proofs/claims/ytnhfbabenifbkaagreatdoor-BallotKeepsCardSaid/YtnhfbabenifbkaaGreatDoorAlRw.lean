/- AL: the equations for regions whose calls are of functions of values (printed by a program from those for the others). -/
import Derived.Test.YtnhfbabenifbkaaGreatDoorAlRv
set_option linter.unusedVariables false
set_option linter.unusedSimpArgs false
namespace Go.Proofs.YtnhfbabenifbkaaGreatDoor
section
variable {mk : List Nat} {L : Lib} {l : List AI} {K : Env → Heap → Prop} {E : Env} {H : Heap} {d : Option Nat} {anc : List Nat}
theorem opsV_nil : opsV mk L [] K E H ↔ K E H := Iff.rfl
theorem opsV_eff {op : AOp} (hc : op.isCall = false) : opsV mk L (⟨d, op, none, anc⟩ :: l) K E H ↔ ∃ e, op.exec H.length H.get (opval L.G E.get) = some e ∧ (e.upd.all fun p => Nat.blt p.1 H.length) = true ∧ opsV mk L l K (E.put d e.v) (H.app e) := by
  show stepV mk L ⟨d, op, none, anc⟩ (opsV mk L l K) E H ↔ _
  unfold stepV AI.goes
  dsimp only
  have key : ∀ op' : AOp, (match AOp.exec H.length H.get (opval L.G E.get) op' with | some e => (e.upd.all fun p => Nat.blt p.1 H.length) = true ∧ opsV mk L l K (E.put d e.v) (H.app e) | none => False) ↔ ∃ e, op'.exec H.length H.get (opval L.G E.get) = some e ∧ (e.upd.all fun p => Nat.blt p.1 H.length) = true ∧ opsV mk L l K (E.put d e.v) (H.app e) := fun op' => opt_iff
  cases op <;> first | exact key _ | exact key (.alloc _) | exact key .no | exact opt_iff (P := fun e => (e.upd.all fun p => Nat.blt p.1 H.length) = true ∧ opsV mk L l K (E.put d e.v) (H.app e)) | (simp [AOp.isCall] at hc; done)
theorem opsV_val {op : AOp} (hc : op.isCall = false) {g : Option V} (hg : op.exec H.length H.get (opval L.G E.get) = g.bind fun v => some ({ v := v } : Eff)) : opsV mk L (⟨d, op, none, anc⟩ :: l) K E H ↔ ∃ v, g = some v ∧ opsV mk L l K (E.put d v) H := by
  rw [opsV_eff hc, hg]
  cases g with
  | none => simp
  | some v => simp [Heap.app_v]
theorem opsV_mov_iff {x : AOpd} : opsV mk L (⟨d, .mov x, none, anc⟩ :: l) K E H ↔ ∃ v, opval L.G E.get x = some v ∧ opsV mk L l K (E.put d v) H := opsV_val rfl rfl
theorem opsV_pick_iff {c a b : AOpd} : opsV mk L (⟨d, .pick c a b, none, anc⟩ :: l) K E H ↔ ∃ t, opval L.G E.get c = some (.bool t) ∧ ∃ v, opval L.G E.get (if t then a else b) = some v ∧ opsV mk L l K (E.put d v) H := by
  rw [opsV_eff rfl]
  show (∃ e, ((opval L.G E.get c).bind fun v => match v with | .bool true => (opval L.G E.get a).bind fun v => some ({ v := v } : Eff) | .bool false => (opval L.G E.get b).bind fun v => some ({ v := v } : Eff) | _ => none) = some e ∧ _) ↔ _
  cases opval L.G E.get c with
  | none => simp
  | some v =>
    cases v with
    | bool t =>
      cases t
      · cases hb : opval L.G E.get b <;> simp [Heap.app_v, hb]
      · cases ha : opval L.G E.get a <;> simp [Heap.app_v, ha]
    | _ => simp
theorem opsV_bin_iff {op : BinOp} {x y : AOpd} : opsV mk L (⟨d, .bin op x y, none, anc⟩ :: l) K E H ↔ ∃ a, opval L.G E.get x = some a ∧ ∃ b, opval L.G E.get y = some b ∧ ∃ v, binV op a b = some v ∧ opsV mk L l K (E.put d v) H := by
  rw [opsV_val (g := (opval L.G E.get x).bind fun a => (opval L.G E.get y).bind fun b => binV op a b) rfl]
  · simp only [Option.bind_eq_some_iff]
    constructor
    · rintro ⟨v, ⟨a, ha, b, hb, hv⟩, h⟩; exact ⟨a, ha, b, hb, v, hv, h⟩
    · rintro ⟨a, ha, b, hb, v, hv, h⟩; exact ⟨v, ⟨a, ha, b, hb, hv⟩, h⟩
  · show ((opval L.G E.get x).bind fun a => (opval L.G E.get y).bind fun b => (binV op a b).bind fun v => some ({ v := v } : Eff)) = _
    cases opval L.G E.get x with
    | none => rfl
    | some a => cases opval L.G E.get y <;> rfl
theorem opsV_un_iff {op : UnOp} {x : AOpd} : opsV mk L (⟨d, .un op x, none, anc⟩ :: l) K E H ↔ ∃ a, opval L.G E.get x = some a ∧ ∃ v, unV op a = some v ∧ opsV mk L l K (E.put d v) H := by
  rw [opsV_val (g := (opval L.G E.get x).bind fun a => unV op a) rfl]
  · simp only [Option.bind_eq_some_iff]
    constructor
    · rintro ⟨v, ⟨a, ha, hv⟩, h⟩; exact ⟨a, ha, v, hv, h⟩
    · rintro ⟨a, ha, v, hv, h⟩; exact ⟨v, ⟨a, ha, hv⟩, h⟩
  · show ((opval L.G E.get x).bind fun a => (unV op a).bind fun v => some ({ v := v } : Eff)) = _
    cases opval L.G E.get x <;> rfl
theorem opsV_goes {op : AOp} {t : Nat} {w b : Bool} (h : (⟨d, op, some (t, w), anc⟩ : AI).goes E.get = some b) : opsV mk L (⟨d, op, some (t, w), anc⟩ :: l) K E H = (if b then opsV mk L (⟨d, op, none, anc⟩ :: l) K E H else opsV mk L l K (E.put d (.tup [])) H) := by
  show stepV mk L ⟨d, op, some (t, w), anc⟩ (opsV mk L l K) E H = _
  unfold stepV
  rw [h]
  cases b <;> rfl
theorem opsV_gtt {op : AOp} {t : Nat} (h : E.get t = some (.bool true)) : opsV mk L (⟨d, op, some (t, true), anc⟩ :: l) K E H = opsV mk L (⟨d, op, none, anc⟩ :: l) K E H := opsV_goes (b := true) (by unfold AI.goes; simp only [h]; rfl)
theorem opsV_gff {op : AOp} {t : Nat} (h : E.get t = some (.bool false)) : opsV mk L (⟨d, op, some (t, false), anc⟩ :: l) K E H = opsV mk L (⟨d, op, none, anc⟩ :: l) K E H := opsV_goes (b := true) (by unfold AI.goes; simp only [h]; rfl)
theorem opsV_gtf {op : AOp} {t : Nat} (h : E.get t = some (.bool false)) : opsV mk L (⟨d, op, some (t, true), anc⟩ :: l) K E H = opsV mk L l K (E.put d (.tup [])) H := opsV_goes (b := false) (by unfold AI.goes; simp only [h]; rfl)
theorem opsV_gft {op : AOp} {t : Nat} (h : E.get t = some (.bool true)) : opsV mk L (⟨d, op, some (t, false), anc⟩ :: l) K E H = opsV mk L l K (E.put d (.tup [])) H := opsV_goes (b := false) (by unfold AI.goes; simp only [h]; rfl)
theorem opsV_gu {op : AOp} {t : Nat} {w : Bool} (h : E.get t = some (.tup [])) : opsV mk L (⟨d, op, some (t, w), anc⟩ :: l) K E H = opsV mk L l K (E.put d (.tup [])) H := opsV_goes (b := false) (by unfold AI.goes; simp only [h])
theorem opsV_mov {x : AOpd} : opsV mk L (⟨d, .mov x, none, anc⟩ :: l) K E H = bP (opval L.G E.get x) fun v => opsV mk L l K (E.put d v) H := propext opsV_mov_iff
theorem opsV_pick {c a b : AOpd} : opsV mk L (⟨d, .pick c a b, none, anc⟩ :: l) K E H = bP (opval L.G E.get c) fun x => bP (boolQ x) fun t => bP (opval L.G E.get (pickQ t a b)) fun v => opsV mk L l K (E.put d v) H := by
  refine propext (opsV_pick_iff.trans ?_)
  constructor
  · rintro ⟨t, h1, v, h2, h3⟩; exact ⟨_, h1, t, rfl, v, h2, h3⟩
  · rintro ⟨x, h1, t, h2, v, h3, h4⟩
    cases x <;> cases h2
    exact ⟨_, h1, v, h3, h4⟩
theorem opsV_bin {op : BinOp} {x y : AOpd} : opsV mk L (⟨d, .bin op x y, none, anc⟩ :: l) K E H = bP (opval L.G E.get x) fun a => bP (opval L.G E.get y) fun b => bP (binV op a b) fun v => opsV mk L l K (E.put d v) H := propext opsV_bin_iff
theorem opsV_un {op : UnOp} {x : AOpd} : opsV mk L (⟨d, .un op x, none, anc⟩ :: l) K E H = bP (opval L.G E.get x) fun a => bP (unV op a) fun v => opsV mk L l K (E.put d v) H := propext opsV_un_iff
theorem opsV_box_iff {x : AOpd} : opsV mk L (⟨d, .box x, none, anc⟩ :: l) K E H ↔ ∃ v, opval L.G E.get x = some v ∧ v.isVal = true ∧ opsV mk L l K (E.put d (.ptr H.length v.cells.length 0 0)) (H ++ [some (.arr v.cells.length [v.cells])]) := by
  rw [opsV_eff rfl]
  show (∃ e, ((opval L.G E.get x).bind fun v => if v.isVal then some ({ v := .ptr H.length v.cells.length 0 0, new := [.arr v.cells.length [v.cells]] } : Eff) else none) = some e ∧ _ ∧ _) ↔ _
  cases opval L.G E.get x with
  | none => simp
  | some v => by_cases h : v.isVal = true <;> simp [h, Heap.app_new]
theorem opsV_alloc_iff {z : List V} : opsV mk L (⟨d, .alloc z, none, anc⟩ :: l) K E H ↔ opsV mk L l K (E.put d (.ptr H.length z.length 0 0)) (H ++ [some (.arr z.length [z])]) := by
  rw [opsV_eff rfl]
  show (∃ e, some ({ v := .ptr H.length z.length 0 0, new := [.arr z.length [z]] } : Eff) = some e ∧ _ ∧ _) ↔ _
  simp [Heap.app_new]
theorem opsV_fa_iff {x : AOpd} {off : Nat} : opsV mk L (⟨d, .fa x off, none, anc⟩ :: l) K E H ↔ ∃ a, opval L.G E.get x = some a ∧ ∃ v, faQ off a = some v ∧ opsV mk L l K (E.put d v) H := by
  rw [opsV_val (g := (opval L.G E.get x).bind (faQ off)) rfl]
  · simp only [Option.bind_eq_some_iff]
    constructor
    · rintro ⟨v, ⟨a, ha, hv⟩, h⟩; exact ⟨a, ha, v, hv, h⟩
    · rintro ⟨a, ha, v, hv, h⟩; exact ⟨v, ⟨a, ha, hv⟩, h⟩
  · show ((opval L.G E.get x).bind fun x => match x with | .ptr a size i o => some ({ v := .ptr a size i (o + off) } : Eff) | .iptr size rows i o => some { v := .iptr size rows i (o + off) } | _ => none) = _
    cases opval L.G E.get x with
    | none => rfl
    | some v => cases v <;> rfl
theorem opsV_len_iff {x : AOpd} : opsV mk L (⟨d, .len x, none, anc⟩ :: l) K E H ↔ ∃ a, opval L.G E.get x = some a ∧ ∃ v, lenQ a = some v ∧ opsV mk L l K (E.put d v) H := by
  rw [opsV_val (g := (opval L.G E.get x).bind lenQ) rfl]
  · simp only [Option.bind_eq_some_iff]
    constructor
    · rintro ⟨v, ⟨a, ha, hv⟩, h⟩; exact ⟨a, ha, v, hv, h⟩
    · rintro ⟨a, ha, v, hv, h⟩; exact ⟨v, ⟨a, ha, hv⟩, h⟩
  · show ((opval L.G E.get x).bind fun x => match x with | .ref _ _ _ ln _ => some ({ v := .int .i64 ln } : Eff) | .lst _ rows _ => some { v := .int .i64 rows.length } | _ => none) = _
    cases opval L.G E.get x with
    | none => rfl
    | some v => cases v <;> rfl
theorem opsV_ia_iff {size : Nat} {x y : AOpd} : opsV mk L (⟨d, .ia size x y, none, anc⟩ :: l) K E H ↔ ∃ a, opval L.G E.get x = some a ∧ ∃ b, opval L.G E.get y = some b ∧ ∃ i, b.nat? = some i ∧ ∃ v, iaQ size a i = some v ∧ opsV mk L l K (E.put d v) H := by
  rw [opsV_val (g := (opval L.G E.get x).bind fun a => ((opval L.G E.get y).bind V.nat?).bind fun i => iaQ size a i) rfl]
  · simp only [Option.bind_eq_some_iff]
    constructor
    · rintro ⟨v, ⟨a, ha, i, ⟨b, hb, hi⟩, hv⟩, h⟩; exact ⟨a, ha, b, hb, i, hi, v, hv, h⟩
    · rintro ⟨a, ha, b, hb, i, hi, v, hv, h⟩; exact ⟨v, ⟨a, ha, i, ⟨b, hb, hi⟩, hv⟩, h⟩
  · show ((opval L.G E.get x).bind fun x => ((opval L.G E.get y).bind V.nat?).bind fun i => match x with
      | .ref a size' off ln _ => if size' = size ∧ i < ln then some ({ v := .ptr a size (off + i) 0 } : Eff) else none
      | .lst size' rows _ => if size' = size ∧ i < rows.length then some { v := .iptr size rows i 0 } else none
      | _ => none) = _
    cases opval L.G E.get x with
    | none => rfl
    | some v =>
      show (((opval L.G E.get y).bind V.nat?).bind _) = (((opval L.G E.get y).bind V.nat?).bind _).bind _
      cases (opval L.G E.get y).bind V.nat? with
      | none => rfl
      | some i =>
        cases v with
        | ref a s o n c => show (if _ then _ else _) = (if _ then _ else _ : Option V).bind _; by_cases h : s = size ∧ i < n <;> simp [h]
        | lst s rows c => show (if _ then _ else _) = (if _ then _ else _ : Option V).bind _; by_cases h : s = size ∧ i < rows.length <;> simp [h]
        | _ => rfl
theorem opsV_iaa_iff {size ln : Nat} {x y : AOpd} : opsV mk L (⟨d, .iaa size ln x y, none, anc⟩ :: l) K E H ↔ ∃ a, opval L.G E.get x = some a ∧ ∃ b, opval L.G E.get y = some b ∧ ∃ i, b.nat? = some i ∧ i < ln ∧ ∃ v, faQ (i * size) a = some v ∧ opsV mk L l K (E.put d v) H := by
  rw [opsV_val (g := (opval L.G E.get x).bind fun a => ((opval L.G E.get y).bind V.nat?).bind fun i => if i < ln then faQ (i * size) a else none) rfl]
  · simp only [Option.bind_eq_some_iff, Option.ite_none_right_eq_some]
    constructor
    · rintro ⟨v, ⟨a, ha, i, ⟨b, hb, hi⟩, hl, hv⟩, h⟩; exact ⟨a, ha, b, hb, i, hi, hl, v, hv, h⟩
    · rintro ⟨a, ha, b, hb, i, hi, hl, v, hv, h⟩; exact ⟨v, ⟨a, ha, i, ⟨b, hb, hi⟩, hl, hv⟩, h⟩
  · show ((opval L.G E.get x).bind fun x => ((opval L.G E.get y).bind V.nat?).bind fun i => if i < ln then (match x with | .ptr a size' j o => some ({ v := .ptr a size' j (o + i * size) } : Eff) | .iptr size' rows j o => some { v := .iptr size' rows j (o + i * size) } | _ => none) else none) = _
    cases opval L.G E.get x with
    | none => rfl
    | some v =>
      show (((opval L.G E.get y).bind V.nat?).bind _) = (((opval L.G E.get y).bind V.nat?).bind _).bind _
      cases (opval L.G E.get y).bind V.nat? with
      | none => rfl
      | some i =>
        show (if i < ln then _ else _) = (if i < ln then _ else _ : Option V).bind _
        by_cases h : i < ln
        · rw [if_pos h, if_pos h]; cases v <;> rfl
        · rw [if_neg h, if_neg h]; rfl
theorem opsV_load_iff {k : Nat} {leaf : Bool} {p : AOpd} : opsV mk L (⟨d, .load k leaf p, none, anc⟩ :: l) K E H ↔ ∃ a, opval L.G E.get p = some a ∧ ∃ v, loadQ H.get k leaf a = some v ∧ opsV mk L l K (E.put d v) H := by
  rw [opsV_eff rfl]
  show (∃ e, (opval L.G E.get p).bind (loadV (shG (((opval L.G E.get p).map V.psz).getD 0) H.get) k leaf) = some e ∧ _ ∧ _) ↔ _
  cases opval L.G E.get p with
  | none => simp
  | some a =>
    show (∃ e, loadV (shG a.psz H.get) k leaf a = some e ∧ _ ∧ _) ↔ _
    obtain ⟨nd, hnd⟩ := loadV_loadQ (get := H.get) (k := k) (leaf := leaf) a
    rw [hnd]
    cases hq : loadQ H.get k leaf a with
    | none => simp [hq]
    | some v => simp [hq, Heap.app_v]
theorem opsV_store_iff {k : Nat} {p y : AOpd} : opsV mk L (⟨d, .store k p y, none, anc⟩ :: l) K E H ↔ ∃ a, opval L.G E.get p = some a ∧ ∃ x, opval L.G E.get y = some x ∧ ∃ q, ptrQ a = some q ∧ ∃ rows, storeB (H.get q.1) q.2.1 q.2.2.1 q.2.2.2 k x = some rows ∧ q.1 < H.length ∧ opsV mk L l K (E.put d (.tup [])) (H.set q.1 (some (.arr q.2.1 rows))) := by
  rw [opsV_eff rfl]
  show (∃ e, ((opval L.G E.get p).bind fun p' => (opval L.G E.get y).bind fun x => storeV (shG (((opval L.G E.get p).map V.psz).getD 0) H.get) k p' x) = some e ∧ _ ∧ _) ↔ _
  cases opval L.G E.get p with
  | none => simp
  | some a =>
    cases opval L.G E.get y with
    | none => simp
    | some x =>
      show (∃ e, storeV (shG a.psz H.get) k a x = some e ∧ _ ∧ _) ↔ _
      simp only [Option.some.injEq, exists_eq_left']
      cases a with
      | ptr a s i o =>
        simp only [ptrQ, Option.some.injEq, exists_eq_left']
        unfold storeV storeB shG
        dsimp only [V.psz]
        cases (H.get a).map (Blk.shape s) with
        | none => simp
        | some b =>
          cases b with
          | arr s' rows =>
            dsimp only
            by_cases h : s = s' ∧ x.cells.length = k ∧ x.isVal = true
            · rw [if_pos h, if_pos h]
              cases rows[i]? with
              | none => simp
              | some row =>
                simp only [Option.bind]
                by_cases h2 : o + k ≤ row.length
                · rw [if_pos h2, if_pos h2]
                  simp only [Option.some.injEq, exists_eq_left']
                  constructor
                  · rintro ⟨h3, h4⟩
                    refine ⟨by simpa using h3, ?_⟩
                    simpa [Heap.app, Heap.upds] using h4
                  · rintro ⟨h3, h4⟩
                    refine ⟨by simpa using h3, ?_⟩
                    simpa [Heap.app, Heap.upds] using h4
                · rw [if_neg h2, if_neg h2]; simp
            · rw [if_neg h, if_neg h]; simp
          | _ => simp
      | _ => simp [ptrQ, storeV]
theorem opsV_box {x : AOpd} : opsV mk L (⟨d, .box x, none, anc⟩ :: l) K E H = bP (opval L.G E.get x) fun v => aP (v.isVal = true) (opsV mk L l K (E.put d (.ptr H.length v.cells.length 0 0)) (H ++ [some (.arr v.cells.length [v.cells])])) := propext opsV_box_iff
theorem opsV_alloc {z : List V} : opsV mk L (⟨d, .alloc z, none, anc⟩ :: l) K E H = opsV mk L l K (E.put d (.ptr H.length z.length 0 0)) (H ++ [some (.arr z.length [z])]) := propext opsV_alloc_iff
theorem opsV_fa {x : AOpd} {off : Nat} : opsV mk L (⟨d, .fa x off, none, anc⟩ :: l) K E H = bP (opval L.G E.get x) fun a => bP (faQ off a) fun v => opsV mk L l K (E.put d v) H := propext opsV_fa_iff
theorem opsV_len {x : AOpd} : opsV mk L (⟨d, .len x, none, anc⟩ :: l) K E H = bP (opval L.G E.get x) fun a => bP (lenQ a) fun v => opsV mk L l K (E.put d v) H := propext opsV_len_iff
theorem opsV_ia {size : Nat} {x y : AOpd} : opsV mk L (⟨d, .ia size x y, none, anc⟩ :: l) K E H = bP (opval L.G E.get x) fun a => bP (opval L.G E.get y) fun b => bP b.nat? fun i => bP (iaQ size a i) fun v => opsV mk L l K (E.put d v) H := propext opsV_ia_iff
theorem opsV_iaa {size ln : Nat} {x y : AOpd} : opsV mk L (⟨d, .iaa size ln x y, none, anc⟩ :: l) K E H = bP (opval L.G E.get x) fun a => bP (opval L.G E.get y) fun b => bP b.nat? fun i => aP (i < ln) (bP (faQ (i * size) a) fun v => opsV mk L l K (E.put d v) H) := propext opsV_iaa_iff
theorem opsV_load {k : Nat} {leaf : Bool} {p : AOpd} : opsV mk L (⟨d, .load k leaf p, none, anc⟩ :: l) K E H = bP (opval L.G E.get p) fun a => bP (loadQ H.get k leaf a) fun v => opsV mk L l K (E.put d v) H := propext opsV_load_iff
theorem opsV_store {k : Nat} {p y : AOpd} : opsV mk L (⟨d, .store k p y, none, anc⟩ :: l) K E H = bP (opval L.G E.get p) fun a => bP (opval L.G E.get y) fun x => bP (ptrQ a) fun q => bP (storeB (H.get q.1) q.2.1 q.2.2.1 q.2.2.2 k x) fun rows => aP (q.1 < H.length) (opsV mk L l K (E.put d (.tup [])) (H.set q.1 (some (.arr q.2.1 rows)))) := propext opsV_store_iff
theorem stepV.mono {mk : List Nat} {L : Lib} {i : AI} {K K' : Env → Heap → Prop} {E : Env} {H : Heap} (h : stepV mk L i K E H) (hk : ∀ E H, K E H → K' E H) : stepV mk L i K' E H := by
  obtain ⟨d, op, g, anc⟩ := i
  unfold stepV at h ⊢
  split at h
  · exact hk _ _ h
  · dsimp only at h ⊢
    split at h
    · split at h
      · rename_i h0
        obtain ⟨vs, r, h1, h2, h3⟩ := h
        exact ⟨vs, r, h1, h2, hk _ _ h3⟩
      · rename_i h0
        obtain ⟨vs, r, h', h1, h2, h3⟩ := h
        exact ⟨vs, r, h', h1, h2, hk _ _ h3⟩
    · exact h.elim
    · split at h
      · exact ⟨h.1, hk _ _ h.2⟩
      · exact h.elim
  · exact h.elim
theorem opsV.mono {L : Lib} {K K' : Env → Heap → Prop} (hk : ∀ E H, K E H → K' E H) : ∀ {l : List AI} {E : Env} {H : Heap}, opsV mk L l K E H → opsV mk L l K' E H
  | [], E, H, h => hk _ _ h
  | i :: l, E, H, h => stepV.mono (K := opsV mk L l K) (K' := opsV mk L l K') h (fun E H h => opsV.mono hk h)
theorem opsV.out {L : Lib} {l : List AI} {ks : List Nat} {E E' : Env} {H H' : Heap} {Q : Exit → Env → Heap → Prop} (h : opsV mk L l (fun E1 H1 => E1.kill ks = E' ∧ H1 = H') E H) (k : Q .normal E' H') : opsV mk L l (fun E1 H1 => Q .normal (E1.kill ks) H1) E H := by
  refine opsV.mono (fun E1 H1 h1 => ?_) h
  rw [h1.1, h1.2]; exact k
theorem opsV_q {op : AOp} (hc : op.isCall = false) {α : Type} {o : Option α} {g : α → Option V} (h : ∀ a, o = some a → ∃ nd, op.exec H.length H.get (opval L.G E.get) = (g a).map fun v => ({ v := v, need := nd } : Eff)) (hn : o = none → op.exec H.length H.get (opval L.G E.get) = none) : opsV mk L (⟨d, op, none, anc⟩ :: l) K E H = bP o fun a => bP (g a) fun v => opsV mk L l K (E.put d v) H := by
  refine propext ((opsV_eff hc).trans ?_)
  cases o with
  | none => rw [hn rfl]; simp [bP]
  | some a =>
    obtain ⟨nd, hnd⟩ := h a rfl
    rw [hnd, bP_some]
    cases g a with
    | none => simp [bP]
    | some v => simp [bP, Heap.app_v]
theorem opsV_nw {op : AOp} (hc : op.isCall = false) {α : Type} {o : Option α} {g : α → V × Blk} (h : op.exec H.length H.get (opval L.G E.get) = o.map fun a => ({ v := (g a).1, new := [(g a).2] } : Eff)) : opsV mk L (⟨d, op, none, anc⟩ :: l) K E H = bP o fun a => opsV mk L l K (E.put d (g a).1) (H ++ [some (g a).2]) := by
  refine propext ((opsV_eff hc).trans ?_)
  rw [h]
  cases o with
  | none => simp [bP]
  | some a => simp [bP, Heap.app_new]
theorem opsV_conv {k : IntKind} {x : AOpd} : opsV mk L (⟨d, .conv k x, none, anc⟩ :: l) K E H = bP (opval L.G E.get x) fun a => bP (convQ k a) fun v => opsV mk L l K (E.put d v) H :=
  opsV_q rfl (fun a h => ⟨[], by show (opval L.G E.get x).bind _ = _; rw [h]; cases a <;> rfl⟩) (fun h => by show (opval L.G E.get x).bind _ = _; rw [h]; rfl)
theorem opsV_same {x : AOpd} : opsV mk L (⟨d, .same x, none, anc⟩ :: l) K E H = bP (opval L.G E.get x) fun a => bP (sameQ a) fun v => opsV mk L l K (E.put d v) H :=
  opsV_q rfl (fun a h => ⟨[], by show (opval L.G E.get x).bind _ = _; rw [h]; cases a <;> rfl⟩) (fun h => by show (opval L.G E.get x).bind _ = _; rw [h]; rfl)
theorem opsV_slen {x : AOpd} : opsV mk L (⟨d, .slen x, none, anc⟩ :: l) K E H = bP (opval L.G E.get x) fun a => bP (slenQ a) fun v => opsV mk L l K (E.put d v) H :=
  opsV_q rfl (fun a h => ⟨[], by show (opval L.G E.get x).bind _ = _; rw [h]; cases a <;> rfl⟩) (fun h => by show (opval L.G E.get x).bind _ = _; rw [h]; rfl)
theorem opsV_cap {x : AOpd} : opsV mk L (⟨d, .cap x, none, anc⟩ :: l) K E H = bP (opval L.G E.get x) fun a => bP (capQ a) fun v => opsV mk L l K (E.put d v) H :=
  opsV_q rfl (fun a h => ⟨[], by
    show (opval L.G E.get x).bind _ = _
    rw [h]
    cases a with
    | ref _ _ _ _ c => cases c <;> rfl
    | lst _ _ c => cases c <;> rfl
    | _ => rfl⟩) (fun h => by show (opval L.G E.get x).bind _ = _; rw [h]; rfl)
theorem opsV_nilchk {x : AOpd} : opsV mk L (⟨d, .nilchk x, none, anc⟩ :: l) K E H = bP (opval L.G E.get x) fun a => bP (nilchkQ a) fun v => opsV mk L l K (E.put d v) H :=
  opsV_q rfl (fun a h => ⟨[], by show (opval L.G E.get x).bind _ = _; rw [h]; cases a <;> rfl⟩) (fun h => by show (opval L.G E.get x).bind _ = _; rw [h]; rfl)
theorem opsV_mkiface {t : Nat} {x : AOpd} : opsV mk L (⟨d, .mkiface t x, none, anc⟩ :: l) K E H = bP (opval L.G E.get x) fun a => opsV mk L l K (E.put d (.iface t a)) H := by
  rw [opsV_q (g := fun a => some (.iface t a)) rfl (o := opval L.G E.get x) (fun a h => ⟨[], by show (opval L.G E.get x).bind _ = _; rw [h]; rfl⟩) (fun h => by show (opval L.G E.get x).bind _ = _; rw [h]; rfl)]
  simp only [bP_some]
theorem opsV_fld {off k : Nat} {leaf : Bool} {x : AOpd} : opsV mk L (⟨d, .fld x off k leaf, none, anc⟩ :: l) K E H = bP (opval L.G E.get x) fun a => bP (fldQ off k leaf a) fun v => opsV mk L l K (E.put d v) H :=
  opsV_q rfl (fun a h => ⟨[], by
    show (opval L.G E.get x).bind _ = _
    rw [h]
    cases a with
    | agg cs => show (takeCells cs off k leaf).bind _ = (takeCells cs off k leaf).map _; cases takeCells cs off k leaf <;> rfl
    | _ => rfl⟩) (fun h => by show (opval L.G E.get x).bind _ = _; rw [h]; rfl)
theorem opsV_ext {i : Nat} {x : AOpd} : opsV mk L (⟨d, .ext x i, none, anc⟩ :: l) K E H = bP (opval L.G E.get x) fun a => bP (extQ i a) fun v => opsV mk L l K (E.put d v) H :=
  opsV_q rfl (fun a h => ⟨[], by
    show (opval L.G E.get x).bind _ = _
    rw [h]
    cases a with
    | tup vs => show (vs[i]?).bind _ = (vs[i]?).map _; cases vs[i]? <;> rfl
    | _ => rfl⟩) (fun h => by show (opval L.G E.get x).bind _ = _; rw [h]; rfl)
theorem opsV_isnil {c : Nat} {neg : Bool} {x : AOpd} : opsV mk L (⟨d, .isnil c neg x, none, anc⟩ :: l) K E H = bP (opval L.G E.get x) fun a => bP (isnilQ c neg a) fun v => opsV mk L l K (E.put d v) H :=
  opsV_q rfl (fun a h => ⟨[], by
    show (opval L.G E.get x).bind _ = _
    rw [h]
    show (isnilV c a).bind _ = ((isnilV c a).map _).map _
    cases isnilV c a <;> rfl⟩) (fun h => by show (opval L.G E.get x).bind _ = _; rw [h]; rfl)
theorem opsV_string {x : AOpd} : opsV mk L (⟨d, .string x, none, anc⟩ :: l) K E H = bP (opval L.G E.get x) fun a => bP (strQ H.get a) fun v => opsV mk L l K (E.put d v) H :=
  opsV_q rfl (fun a h => by
    have key : (∀ s, a ≠ .str s) → ∃ nd, AOp.exec H.length H.get (opval L.G E.get) (.string x) = (strQ H.get a).map fun v => ({ v := v, need := nd } : Eff) := by
      intro hns
      have e1 : AOp.exec H.length H.get (opval L.G E.get) (.string x) = (rowsOf 1 (shG 1 H.get) a).bind fun p => (p.1.foldr unRow (some [])).bind fun s => some { v := .str s, need := p.2 } := by
        show (opval L.G E.get x).bind _ = _
        rw [h]
        cases a with
        | str s => exact absurd rfl (hns s)
        | _ => rfl
      have e2 : strQ H.get a = (rowsOf 1 (shG 1 H.get) a).bind fun p => (p.1.foldr unRow (some [])).map .str := by
        cases a with
        | str s => exact absurd rfl (hns s)
        | _ => rfl
      rw [e1, e2]
      cases rowsOf 1 (shG 1 H.get) a with
      | none => exact ⟨[], rfl⟩
      | some p =>
        refine ⟨p.2, ?_⟩
        show (p.1.foldr unRow (some [])).bind _ = ((p.1.foldr unRow (some [])).map _).map _
        cases p.1.foldr unRow (some []) <;> rfl
    cases a with
    | str s => exact ⟨[], by show (opval L.G E.get x).bind _ = _; rw [h]; rfl⟩
    | _ => exact key (fun s e => by cases e)) (fun h => by show (opval L.G E.get x).bind _ = _; rw [h]; rfl)
theorem opsV_q2 {op : AOp} (hc : op.isCall = false) {x y : AOpd} {g : V → V → Option V} (h : op.exec H.length H.get (opval L.G E.get) = (opval L.G E.get x).bind fun a => (opval L.G E.get y).bind fun b => (g a b).bind fun v => some ({ v := v } : Eff)) : opsV mk L (⟨d, op, none, anc⟩ :: l) K E H = bP (opval L.G E.get x) fun a => bP (opval L.G E.get y) fun b => bP (g a b) fun v => opsV mk L l K (E.put d v) H := by
  refine propext ((opsV_eff hc).trans ?_)
  rw [h]
  cases opval L.G E.get x with
  | none => simp [bP]
  | some a =>
    cases opval L.G E.get y with
    | none => simp [bP]
    | some b =>
      simp only [bP_some]
      cases hg : g a b with
      | none => simp [bP, hg]
      | some v => simp [bP, Heap.app_v, hg]
theorem opsV_beq {neg : Bool} {x y : AOpd} : opsV mk L (⟨d, .beq neg x y, none, anc⟩ :: l) K E H = bP (opval L.G E.get x) fun a => bP (opval L.G E.get y) fun b => bP (beqQ neg a b) fun v => opsV mk L l K (E.put d v) H :=
  opsV_q2 rfl (by
    show ((opval L.G E.get x).bind fun x => (opval L.G E.get y).bind fun y => match x, y with | .bool a, .bool b => some ({ v := .bool (if neg then !(a == b) else a == b) } : Eff) | _, _ => none) = _
    cases opval L.G E.get x with
    | none => rfl
    | some a =>
      cases opval L.G E.get y with
      | none => rfl
      | some b => cases a <;> cases b <;> rfl)
theorem opsV_acmp {s : Shp} {neg : Bool} {x y : AOpd} : opsV mk L (⟨d, .acmp s neg x y, none, anc⟩ :: l) K E H = bP (opval L.G E.get x) fun a => bP (opval L.G E.get y) fun b => bP (acmpQ s neg a b) fun v => opsV mk L l K (E.put d v) H :=
  opsV_q2 rfl (by
    show ((opval L.G E.get x).bind fun x => (opval L.G E.get y).bind fun y => (eqS s x y).bind fun b => some ({ v := .bool (if neg then !b else b) } : Eff)) = _
    cases opval L.G E.get x with
    | none => rfl
    | some a =>
      cases opval L.G E.get y with
      | none => rfl
      | some b => show (eqS s a b).bind _ = ((eqS s a b).map _).bind _; cases eqS s a b <;> rfl)
theorem opsV_chr {x y : AOpd} : opsV mk L (⟨d, .chr x y, none, anc⟩ :: l) K E H = bP (opval L.G E.get x) fun a => bP (opval L.G E.get y) fun b => bP (chrQ a b) fun v => opsV mk L l K (E.put d v) H :=
  opsV_q2 rfl (by
    show ((opval L.G E.get x).bind fun x => ((opval L.G E.get y).bind V.nat?).bind fun i => match x with | .str s => (s[i]?).bind fun b => some ({ v := .int .u8 b.toNat } : Eff) | _ => none) = _
    cases opval L.G E.get x with
    | none => rfl
    | some a =>
      cases opval L.G E.get y with
      | none => rfl
      | some b =>
        show (b.nat?).bind _ = (chrQ a b).bind _
        cases a with
        | str s =>
          show _ = ((b.nat?).bind _).bind _
          cases b.nat? with
          | none => rfl
          | some i => show (s[i]?).bind _ = ((s[i]?).map _).bind _; cases s[i]? <;> rfl
        | _ => cases b.nat? <;> rfl)
theorem opsV_idx {size ln : Nat} {leaf : Bool} {x y : AOpd} : opsV mk L (⟨d, .idx size ln leaf x y, none, anc⟩ :: l) K E H = bP (opval L.G E.get x) fun a => bP (opval L.G E.get y) fun b => bP (idxQ size ln leaf a b) fun v => opsV mk L l K (E.put d v) H :=
  opsV_q2 rfl (by
    show ((opval L.G E.get x).bind fun x => ((opval L.G E.get y).bind V.nat?).bind fun i => match x with | .agg cs => if i < ln then (takeCells cs (i * size) size leaf).bind fun v => some ({ v := v } : Eff) else none | _ => none) = _
    cases opval L.G E.get x with
    | none => rfl
    | some a =>
      cases opval L.G E.get y with
      | none => rfl
      | some b =>
        show (b.nat?).bind _ = (idxQ size ln leaf a b).bind _
        cases a with
        | agg cs =>
          show _ = ((b.nat?).bind _).bind _
          cases b.nat? with
          | none => rfl
          | some i =>
            show (if i < ln then _ else _) = (if i < ln then _ else _ : Option V).bind _
            by_cases h : i < ln
            · rw [if_pos h, if_pos h]
            · rw [if_neg h, if_neg h]; rfl
        | _ => cases b.nat? <;> rfl)
theorem opsV_xfn {k : Nat} {x y : AOpd} : opsV mk L (⟨d, .xfn k x y, none, anc⟩ :: l) K E H = bP (opval L.G E.get x) fun a => bP (opval L.G E.get y) fun b => bP (xfnV k a b) fun v => opsV mk L l K (E.put d v) H := opsV_q2 rfl rfl
/-! Several operands. -/
theorem opsV_build {z : List V} {ps : List (Nat × Nat × AOpd)} : opsV mk L (⟨d, .build z ps, none, anc⟩ :: l) K E H = bP (evalParts (opval L.G E.get) ps) fun a => bP ((fillCells z a).map .agg) fun v => opsV mk L l K (E.put d v) H :=
  opsV_q rfl (fun a h => ⟨[], by show (evalParts (opval L.G E.get) ps).bind _ = _; rw [h]; show (fillCells z a).bind _ = ((fillCells z a).map _).map _; cases fillCells z a <;> rfl⟩) (fun h => by show (evalParts (opval L.G E.get) ps).bind _ = _; rw [h]; rfl)
theorem opsV_mkfn {f : Nat} {a c : List AOpd} : opsV mk L (⟨d, .mkfn f a c, none, anc⟩ :: l) K E H = bP (evals (opval L.G E.get) a) fun fs => bP ((evals (opval L.G E.get) c).map (.fn f fs)) fun v => opsV mk L l K (E.put d v) H :=
  opsV_q rfl (fun fs h => ⟨[], by show (evals (opval L.G E.get) a).bind _ = _; rw [h]; show (evals (opval L.G E.get) c).bind _ = ((evals (opval L.G E.get) c).map _).map _; cases evals (opval L.G E.get) c <;> rfl⟩) (fun h => by show (evals (opval L.G E.get) a).bind _ = _; rw [h]; rfl)
theorem opsV_min {xs : List AOpd} : opsV mk L (⟨d, .min xs, none, anc⟩ :: l) K E H = bP (evals (opval L.G E.get) xs) fun vs => bP (minQ vs) fun v => opsV mk L l K (E.put d v) H :=
  opsV_q rfl (fun a h => ⟨[], by
    show (evals (opval L.G E.get) xs).bind _ = _
    rw [h]
    cases a with
    | nil => rfl
    | cons v r => show (foldInts _ v r).bind _ = (foldInts _ v r).map _; cases foldInts (fun x y => if y < x then y else x) v r <;> rfl⟩) (fun h => by show (evals (opval L.G E.get) xs).bind _ = _; rw [h]; rfl)
theorem opsV_max {xs : List AOpd} : opsV mk L (⟨d, .max xs, none, anc⟩ :: l) K E H = bP (evals (opval L.G E.get) xs) fun vs => bP (maxQ vs) fun v => opsV mk L l K (E.put d v) H :=
  opsV_q rfl (fun a h => ⟨[], by
    show (evals (opval L.G E.get) xs).bind _ = _
    rw [h]
    cases a with
    | nil => rfl
    | cons v r => show (foldInts _ v r).bind _ = (foldInts _ v r).map _; cases foldInts (fun x y => if y > x then y else x) v r <;> rfl⟩) (fun h => by show (evals (opval L.G E.get) xs).bind _ = _; rw [h]; rfl)
theorem opsV_slice {size : Nat} {x : AOpd} {lo hi mx : Option AOpd} : opsV mk L (⟨d, .slice size x lo hi mx, none, anc⟩ :: l) K E H = bP (opval L.G E.get x) fun a => bP (sliceV size a (optNat? (opval L.G E.get) lo) (optNat? (opval L.G E.get) hi) (optNat? (opval L.G E.get) mx)) fun v => opsV mk L l K (E.put d v) H :=
  opsV_q rfl (fun a h => ⟨[], by show (opval L.G E.get x).bind _ = _; rw [h]; show (sliceV size a _ _ _).bind _ = (sliceV size a _ _ _).map _; cases sliceV size a (optNat? (opval L.G E.get) lo) (optNat? (opval L.G E.get) hi) (optNat? (opval L.G E.get) mx) <;> rfl⟩) (fun h => by show (opval L.G E.get x).bind _ = _; rw [h]; rfl)
theorem opsV_substr {x : AOpd} {lo hi : Option AOpd} : opsV mk L (⟨d, .substr x lo hi, none, anc⟩ :: l) K E H = bP (opval L.G E.get x) fun a => bP (subQ (opval L.G E.get) lo hi a) fun v => opsV mk L l K (E.put d v) H :=
  opsV_q rfl (fun a h => ⟨[], by
    show (opval L.G E.get x).bind _ = _
    rw [h]
    cases a with
    | str s =>
      show ((optNat (opval L.G E.get) 0 lo).bind fun l => (optNat (opval L.G E.get) s.length hi).bind fun h => if l ≤ h ∧ h ≤ s.length then some ({ v := .str ((s.drop l).take (h - l)) } : Eff) else none) = ((optNat (opval L.G E.get) 0 lo).bind _).map _
      cases optNat (opval L.G E.get) 0 lo with
      | none => rfl
      | some a =>
        show ((optNat (opval L.G E.get) s.length hi).bind _) = ((optNat (opval L.G E.get) s.length hi).bind _).map _
        cases optNat (opval L.G E.get) s.length hi with
        | none => rfl
        | some b =>
          show (if a ≤ b ∧ b ≤ s.length then _ else _) = (if a ≤ b ∧ b ≤ s.length then _ else _ : Option V).map _
          by_cases h : a ≤ b ∧ b ≤ s.length
          · rw [if_pos h, if_pos h]; rfl
          · rw [if_neg h, if_neg h]; rfl
    | _ => rfl⟩) (fun h => by show (opval L.G E.get x).bind _ = _; rw [h]; rfl)
/-! Operations that make blocks, or write. -/
theorem opsV_bslice {size ln : Nat} {z : List V} {ps : List (Nat × AOpd)} : opsV mk L (⟨d, .bslice size z ln ps, none, anc⟩ :: l) K E H = bP (evalParts1 (opval L.G E.get) ps) fun a => bP (fillRows size (List.replicate ln z) a) fun rows => opsV mk L l K (E.put d (.ref H.length size 0 ln (some ln))) (H ++ [some (.arr size rows)]) := by
  rw [opsV_nw (o := (evalParts1 (opval L.G E.get) ps).bind fun a => fillRows size (List.replicate ln z) a) (g := fun rows => (.ref H.length size 0 ln (some ln), .arr size rows)) rfl]
  · cases evalParts1 (opval L.G E.get) ps with
    | none => simp [bP]
    | some a => simp only [bP_some]; rfl
  · show (evalParts1 (opval L.G E.get) ps).bind _ = _
    cases evalParts1 (opval L.G E.get) ps with
    | none => rfl
    | some a => show (fillRows size (List.replicate ln z) a).bind _ = (fillRows size (List.replicate ln z) a).map _; cases fillRows size (List.replicate ln z) a <;> rfl
theorem opsV_mkslice {size bts : Nat} {z : List V} {x y : AOpd} : opsV mk L (⟨d, .mkslice size bts z x y, none, anc⟩ :: l) K E H = bP (opval L.G E.get x) fun a => bP a.nat? fun n => bP (opval L.G E.get y) fun b => bP b.nat? fun c => aP (n ≤ c ∧ c * bts ≤ 140737488355328 ∧ c < 9223372036854775808 ∧ z.length = size) (opsV mk L l K (E.put d (.ref H.length size 0 n (some c))) (H ++ [some (.arr size (List.replicate c z))])) := by
  rw [opsV_nw (o := ((opval L.G E.get x).bind V.nat?).bind fun n => ((opval L.G E.get y).bind V.nat?).bind fun c => if n ≤ c ∧ c * bts ≤ 140737488355328 ∧ c < 9223372036854775808 ∧ z.length = size then some (n, c) else none) (g := fun p => (.ref H.length size 0 p.1 (some p.2), .arr size (List.replicate p.2 z))) rfl]
  · cases opval L.G E.get x with
    | none => simp [bP]
    | some a =>
      cases ha : a.nat? with
      | none => simp [bP, ha]
      | some n =>
        cases opval L.G E.get y with
        | none => simp [bP, ha]
        | some b =>
          cases hb : b.nat? with
          | none => simp [bP, hb, ha]
          | some c =>
            simp only [bP_some, Option.bind_some, ha, hb]
            by_cases h : n ≤ c ∧ c * bts ≤ 140737488355328 ∧ c < 9223372036854775808 ∧ z.length = size
            · rw [if_pos h]; simp [bP, aP, h]
            · rw [if_neg h]; simp only [bP, aP, h, false_and, eq_iff_iff, iff_false, reduceCtorEq, exists_const, not_false_eq_true]
  · show (((opval L.G E.get x).bind V.nat?).bind _) = _
    cases (opval L.G E.get x).bind V.nat? with
    | none => rfl
    | some n =>
      show (((opval L.G E.get y).bind V.nat?).bind _) = (((opval L.G E.get y).bind V.nat?).bind _).map _
      cases (opval L.G E.get y).bind V.nat? with
      | none => rfl
      | some c =>
        show (if _ then _ else _) = (if _ then _ else _ : Option (Nat × Nat)).map _
        by_cases h : n ≤ c ∧ c * bts ≤ 140737488355328 ∧ c < 9223372036854775808 ∧ z.length = size
        · rw [if_pos h, if_pos h]; rfl
        · rw [if_neg h, if_neg h]; rfl
theorem opsV_bytes {x : AOpd} : opsV mk L (⟨d, .bytes x, none, anc⟩ :: l) K E H = bP (opval L.G E.get x) fun a => bP (bytesQ a) fun s => opsV mk L l K (E.put d (.ref H.length 1 0 s.length none)) (H ++ [some (.arr 1 (s.map fun b => [.int .u8 b.toNat]))]) := by
  rw [opsV_nw (o := (opval L.G E.get x).bind bytesQ) (g := fun s => (.ref H.length 1 0 s.length none, .arr 1 (s.map fun b => [.int .u8 b.toNat]))) rfl]
  · cases opval L.G E.get x with
    | none => simp [bP]
    | some a => simp only [bP_some, Option.bind_some]
  · show (opval L.G E.get x).bind _ = _
    cases opval L.G E.get x with
    | none => rfl
    | some a => cases a <;> rfl
theorem opsV_m {op : AOp} (hc : op.isCall = false) : opsV mk L (⟨d, op, none, anc⟩ :: l) K E H = bP (op.exec H.length H.get (opval L.G E.get)) fun e => aP ((e.upd.all fun p => Nat.blt p.1 H.length) = true) (opsV mk L l K (E.put d e.v) (H.app e)) := propext (opsV_eff hc)
theorem opsV_append {size bts : Nat} {x y : AOpd} : opsV mk L (⟨d, .append size bts x y, none, anc⟩ :: l) K E H = bP (opval L.G E.get x) fun a => bP (opval L.G E.get y) fun b => bP (appendV H.length size bts (shG size H.get) a b) fun e => aP ((e.upd.all fun p => Nat.blt p.1 H.length) = true) (opsV mk L l K (E.put d e.v) (H.app e)) := by
  rw [opsV_m rfl]
  show bP ((opval L.G E.get x).bind fun x => (opval L.G E.get y).bind fun y => appendV H.length size bts (shG size H.get) x y) _ = _
  simp only [bind_bP]
theorem opsV_copy {size : Nat} {x y : AOpd} : opsV mk L (⟨d, .copy size x y, none, anc⟩ :: l) K E H = bP (opval L.G E.get x) fun a => bP (opval L.G E.get y) fun b => bP (copyV size (shG size H.get) a b) fun e => aP ((e.upd.all fun p => Nat.blt p.1 H.length) = true) (opsV mk L l K (E.put d e.v) (H.app e)) := by
  rw [opsV_m rfl]
  show bP ((opval L.G E.get x).bind fun x => (opval L.G E.get y).bind fun y => copyV size (shG size H.get) x y) _ = _
  simp only [bind_bP]
theorem opsV_clr {size : Nat} {z : List V} {x : AOpd} : opsV mk L (⟨d, .clr size z x, none, anc⟩ :: l) K E H = bP (opval L.G E.get x) fun a => bP (clrV size z (shG size H.get) a) fun e => aP ((e.upd.all fun p => Nat.blt p.1 H.length) = true) (opsV mk L l K (E.put d e.v) (H.app e)) := by
  rw [opsV_m rfl]
  show bP ((opval L.G E.get x).bind fun x => clrV size z (shG size H.get) x) _ = _
  simp only [bind_bP]
theorem opsV_slicea {size m : Nat} {x : AOpd} {lo hi mx : Option AOpd} : opsV mk L (⟨d, .slicea size m x lo hi mx, none, anc⟩ :: l) K E H = bP (opval L.G E.get x) fun a => bP (sliceaV (shG size H.get) size m a (optNat? (opval L.G E.get) lo) (optNat? (opval L.G E.get) hi) (optNat? (opval L.G E.get) mx)) fun e => aP ((e.upd.all fun p => Nat.blt p.1 H.length) = true) (opsV mk L l K (E.put d e.v) (H.app e)) := by
  rw [opsV_m rfl]
  show bP ((opval L.G E.get x).bind fun x => sliceaV (shG size H.get) size m x (optNat? (opval L.G E.get) lo) (optNat? (opval L.G E.get) hi) (optNat? (opval L.G E.get) mx)) _ = _
  simp only [bind_bP]
theorem opsV_mkmap {r : Option AOpd} (hr : r = none) : opsV mk L (⟨d, .mkmap r, none, anc⟩ :: l) K E H = opsV mk L l K (E.put d (.mapp H.length)) (H ++ [some (.map [])]) := by
  subst hr
  rw [opsV_nw (o := some ()) (g := fun _ => (.mapp H.length, .map [])) rfl]
  · simp only [bP_some]
  · rfl
theorem opsV_mkmap0 : opsV mk L (⟨d, .mkmap none, none, anc⟩ :: l) K E H = opsV mk L l K (E.put d (.mapp H.length)) (H ++ [some (.map [])]) := opsV_mkmap rfl
theorem opsV_mget {kc : Nat} {z : V} {ok : Bool} {x y : AOpd} : opsV mk L (⟨d, .mget kc z ok x y, none, anc⟩ :: l) K E H = bP (opval L.G E.get x) fun a => bP (opval L.G E.get y) fun b => bP (mgetV (shG 0 H.get) kc z ok a b) fun e => aP ((e.upd.all fun p => Nat.blt p.1 H.length) = true) (opsV mk L l K (E.put d e.v) (H.app e)) := by
  rw [opsV_m rfl]
  show bP ((opval L.G E.get x).bind fun x => (opval L.G E.get y).bind fun y => mgetV (shG 0 H.get) kc z ok x y) _ = _
  simp only [bind_bP]
theorem opsV_mset {kc : Nat} {x y u : AOpd} : opsV mk L (⟨d, .mset kc x y u, none, anc⟩ :: l) K E H = bP (opval L.G E.get x) fun a => bP (opval L.G E.get y) fun b => bP (opval L.G E.get u) fun c => bP (msetV (shG 0 H.get) kc a b c) fun e => aP ((e.upd.all fun p => Nat.blt p.1 H.length) = true) (opsV mk L l K (E.put d e.v) (H.app e)) := by
  rw [opsV_m rfl]
  show bP ((opval L.G E.get x).bind fun x => (opval L.G E.get y).bind fun y => (opval L.G E.get u).bind fun u => msetV (shG 0 H.get) kc x y u) _ = _
  simp only [bind_bP]
theorem opsV_mdel {kc : Nat} {x y : AOpd} : opsV mk L (⟨d, .mdel kc x y, none, anc⟩ :: l) K E H = bP (opval L.G E.get x) fun a => bP (opval L.G E.get y) fun b => bP (mdelV (shG 0 H.get) kc a b) fun e => aP ((e.upd.all fun p => Nat.blt p.1 H.length) = true) (opsV mk L l K (E.put d e.v) (H.app e)) := by
  rw [opsV_m rfl]
  show bP ((opval L.G E.get x).bind fun x => (opval L.G E.get y).bind fun y => mdelV (shG 0 H.get) kc x y) _ = _
  simp only [bind_bP]
theorem opsV_mlen {x : AOpd} : opsV mk L (⟨d, .mlen x, none, anc⟩ :: l) K E H = bP (opval L.G E.get x) fun a => bP (mlenQ H.get a) fun v => opsV mk L l K (E.put d v) H :=
  opsV_q rfl (fun a h => by
    have e1 : AOp.exec H.length H.get (opval L.G E.get) (.mlen x) = (mapOf (shG 0 H.get) a).bind fun p => some { v := .int .i64 p.1.length, need := p.2 } := by
      show (opval L.G E.get x).bind _ = _
      rw [h]; rfl
    rw [e1]
    unfold mlenQ
    cases mapOf (shG 0 H.get) a with
    | none => exact ⟨[], rfl⟩
    | some p => exact ⟨p.2, rfl⟩) (fun h => by show (opval L.G E.get x).bind _ = _; rw [h]; rfl)
theorem opsV_call {k : Nat} {args : List AOpd} {vs : List V} {r : V} (hm : mk.contains k = false) (hv : evals (opval L.G E.get) args = some vs) (hf : VFn L k vs r) (h : opsV mk L l K (E.put d r) H) : opsV mk L (⟨d, .call (.fn k) args, none, anc⟩ :: l) K E H := by
  show stepV mk L ⟨d, .call (.fn k) args, none, anc⟩ (opsV mk L l K) E H
  show (match mk.contains k with | false => _ | true => _)
  rw [hm]
  exact ⟨vs, r, hv, hf, h⟩
theorem opsV_make {k : Nat} {args : List AOpd} {vs : List V} {r : V} {h' : Heap} (hm : mk.contains k = true) (hv : evals (opval L.G E.get) args = some vs) (hf : MFn L k vs r h') (h : opsV mk L l K (E.put d (r.ren (upσ H.length))) (H ++ h'.map (Option.map (Blk.ren (upσ H.length))))) : opsV mk L (⟨d, .call (.fn k) args, none, anc⟩ :: l) K E H := by
  show stepV mk L ⟨d, .call (.fn k) args, none, anc⟩ (opsV mk L l K) E H
  show (match mk.contains k with | false => _ | true => _)
  rw [hm]
  exact ⟨vs, r, h', hv, hf, h⟩
end
attribute [push_cast] opsV_nil opsV_gtt opsV_gff opsV_gtf opsV_gft opsV_gu opsV_mov opsV_pick opsV_bin opsV_un opsV_box opsV_alloc opsV_fa opsV_len opsV_ia opsV_iaa opsV_load opsV_store opsV_conv opsV_same opsV_slen opsV_cap opsV_nilchk opsV_mkiface opsV_fld opsV_ext opsV_isnil opsV_string opsV_beq opsV_acmp opsV_chr opsV_idx opsV_xfn opsV_build opsV_mkfn opsV_min opsV_max opsV_slice opsV_substr opsV_bslice opsV_mkslice opsV_bytes opsV_append opsV_copy opsV_clr opsV_slicea opsV_mkmap0 opsV_mget opsV_mset opsV_mdel opsV_mlen
end Go.Proofs.YtnhfbabenifbkaaGreatDoor
