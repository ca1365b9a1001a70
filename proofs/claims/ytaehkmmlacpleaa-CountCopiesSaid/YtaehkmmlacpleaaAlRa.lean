/- AL: reasoning by simplification: one operation at a time. -/
import Derived.Test.YtaehkmmlacpleaaAlV
set_option linter.unusedVariables false
set_option linter.unusedSimpArgs false
namespace Go.Proofs.Ytaehkmmlacpleaa
section
variable {L : Lib} {l : List AI} {K : Env → Heap → Prop} {E : Env} {H : Heap} {d : Option Nat} {anc : List Nat}
theorem Heap.app_v (H : Heap) (v : V) (nd : List Nat) : H.app { v := v, need := nd } = H := by simp [Heap.app, Heap.upds]
theorem opsP_nil : opsP L [] K E H ↔ K E H := Iff.rfl
theorem opt_iff {o : Option Eff} {P : Eff → Prop} : (match o with | some e => P e | none => False) ↔ ∃ e, o = some e ∧ P e := by cases o <;> simp
/-- Neither a call nor a step of a range over a map. -/
def AOp.odd : AOp → Bool
  | .call _ _ | .mnext _ => true
  | _ => false
theorem opsP_eff {op : AOp} (hc : op.odd = false) : opsP L (⟨d, op, none, anc⟩ :: l) K E H ↔ ∃ e, op.exec H.length H.get (opval L.G E.get) = some e ∧ (e.upd.all fun p => Nat.blt p.1 H.length) = true ∧ opsP L l K (E.put d e.v) (H.app e) := by
  show stepP L ⟨d, op, none, anc⟩ (opsP L l K) E H ↔ _
  unfold stepP AI.goes
  dsimp only
  have key : ∀ op' : AOp, (match AOp.exec H.length H.get (opval L.G E.get) op' with | some e => (e.upd.all fun p => Nat.blt p.1 H.length) = true ∧ opsP L l K (E.put d e.v) (H.app e) | none => False) ↔ ∃ e, op'.exec H.length H.get (opval L.G E.get) = some e ∧ (e.upd.all fun p => Nat.blt p.1 H.length) = true ∧ opsP L l K (E.put d e.v) (H.app e) := fun op' => opt_iff
  cases op <;> first | exact key _ | exact key (.alloc _) | exact key .no | exact opt_iff (P := fun e => (e.upd.all fun p => Nat.blt p.1 H.length) = true ∧ opsP L l K (E.put d e.v) (H.app e)) | (simp [AOp.odd] at hc; done)
/-- Operations that yield a value alone. -/
theorem opsP_val {op : AOp} (hc : op.odd = false) {g : Option V} (hg : op.exec H.length H.get (opval L.G E.get) = g.bind fun v => some ({ v := v } : Eff)) : opsP L (⟨d, op, none, anc⟩ :: l) K E H ↔ ∃ v, g = some v ∧ opsP L l K (E.put d v) H := by
  rw [opsP_eff hc, hg]
  cases g with
  | none => simp
  | some v => simp [Heap.app_v]
theorem opsP_mov_iff {x : AOpd} : opsP L (⟨d, .mov x, none, anc⟩ :: l) K E H ↔ ∃ v, opval L.G E.get x = some v ∧ opsP L l K (E.put d v) H := opsP_val rfl rfl
theorem opsP_pick_iff {c a b : AOpd} : opsP L (⟨d, .pick c a b, none, anc⟩ :: l) K E H ↔ ∃ t, opval L.G E.get c = some (.bool t) ∧ ∃ v, opval L.G E.get (if t then a else b) = some v ∧ opsP L l K (E.put d v) H := by
  rw [opsP_eff rfl]
  show (∃ e, ((opval L.G E.get c).bind fun v => match v with | .bool true => (opval L.G E.get a).bind fun v => some ({ v := v } : Eff) | .bool false => (opval L.G E.get b).bind fun v => some ({ v := v } : Eff) | _ => none) = some e ∧ _) ↔ _
  cases opval L.G E.get c with
  | none => simp
  | some v =>
    cases v with
    | bool t =>
      cases t
      · cases hb : opval L.G E.get b <;> simp [Heap.app_v, hb]
      · cases ha : opval L.G E.get a <;> simp [Heap.app_v, ha]
    | _ => simp
theorem opsP_bin_iff {op : BinOp} {x y : AOpd} : opsP L (⟨d, .bin op x y, none, anc⟩ :: l) K E H ↔ ∃ a, opval L.G E.get x = some a ∧ ∃ b, opval L.G E.get y = some b ∧ ∃ v, binV op a b = some v ∧ opsP L l K (E.put d v) H := by
  rw [opsP_val (g := (opval L.G E.get x).bind fun a => (opval L.G E.get y).bind fun b => binV op a b) rfl]
  · simp only [Option.bind_eq_some_iff]
    constructor
    · rintro ⟨v, ⟨a, ha, b, hb, hv⟩, h⟩; exact ⟨a, ha, b, hb, v, hv, h⟩
    · rintro ⟨a, ha, b, hb, v, hv, h⟩; exact ⟨v, ⟨a, ha, b, hb, hv⟩, h⟩
  · show ((opval L.G E.get x).bind fun a => (opval L.G E.get y).bind fun b => (binV op a b).bind fun v => some ({ v := v } : Eff)) = _
    cases opval L.G E.get x with
    | none => rfl
    | some a => cases opval L.G E.get y <;> rfl
theorem opsP_un_iff {op : UnOp} {x : AOpd} : opsP L (⟨d, .un op x, none, anc⟩ :: l) K E H ↔ ∃ a, opval L.G E.get x = some a ∧ ∃ v, unV op a = some v ∧ opsP L l K (E.put d v) H := by
  rw [opsP_val (g := (opval L.G E.get x).bind fun a => unV op a) rfl]
  · simp only [Option.bind_eq_some_iff]
    constructor
    · rintro ⟨v, ⟨a, ha, hv⟩, h⟩; exact ⟨a, ha, v, hv, h⟩
    · rintro ⟨a, ha, v, hv, h⟩; exact ⟨v, ⟨a, ha, hv⟩, h⟩
  · show ((opval L.G E.get x).bind fun a => (unV op a).bind fun v => some ({ v := v } : Eff)) = _
    cases opval L.G E.get x <;> rfl
/-- A value, and on with it. -/
def bP {α : Type} (o : Option α) (f : α → Prop) : Prop := ∃ v, o = some v ∧ f v
@[congr] theorem bP_congr {α : Type} {o o' : Option α} {f : α → Prop} (h : o = o') : bP o f = bP o' f := by rw [h]
theorem bP_some {α : Type} {v : α} {f : α → Prop} : bP (some v) f = f v := by simp [bP]
def aP (c P : Prop) : Prop := c ∧ P
@[congr] theorem aP_congr {c c' P : Prop} (h : c = c') : aP c P = aP c' P := by rw [h]
theorem aP_true {P : Prop} : aP True P = P := by simp [aP]
theorem opsP_goes {op : AOp} {t : Nat} {w b : Bool} (h : (⟨d, op, some (t, w), anc⟩ : AI).goes E.get = some b) : opsP L (⟨d, op, some (t, w), anc⟩ :: l) K E H = (if b then opsP L (⟨d, op, none, anc⟩ :: l) K E H else opsP L l K (E.put d (.tup [])) H) := by
  show stepP L ⟨d, op, some (t, w), anc⟩ (opsP L l K) E H = _
  unfold stepP
  rw [h]
  cases b <;> rfl
theorem opsP_gtt {op : AOp} {t : Nat} (h : E.get t = some (.bool true)) : opsP L (⟨d, op, some (t, true), anc⟩ :: l) K E H = opsP L (⟨d, op, none, anc⟩ :: l) K E H := opsP_goes (b := true) (by unfold AI.goes; simp only [h]; rfl)
theorem opsP_gff {op : AOp} {t : Nat} (h : E.get t = some (.bool false)) : opsP L (⟨d, op, some (t, false), anc⟩ :: l) K E H = opsP L (⟨d, op, none, anc⟩ :: l) K E H := opsP_goes (b := true) (by unfold AI.goes; simp only [h]; rfl)
theorem opsP_gtf {op : AOp} {t : Nat} (h : E.get t = some (.bool false)) : opsP L (⟨d, op, some (t, true), anc⟩ :: l) K E H = opsP L l K (E.put d (.tup [])) H := opsP_goes (b := false) (by unfold AI.goes; simp only [h]; rfl)
theorem opsP_gft {op : AOp} {t : Nat} (h : E.get t = some (.bool true)) : opsP L (⟨d, op, some (t, false), anc⟩ :: l) K E H = opsP L l K (E.put d (.tup [])) H := opsP_goes (b := false) (by unfold AI.goes; simp only [h]; rfl)
theorem opsP_gu {op : AOp} {t : Nat} {w : Bool} (h : E.get t = some (.tup [])) : opsP L (⟨d, op, some (t, w), anc⟩ :: l) K E H = opsP L l K (E.put d (.tup [])) H := opsP_goes (b := false) (by unfold AI.goes; simp only [h])
theorem opsP_mov {x : AOpd} : opsP L (⟨d, .mov x, none, anc⟩ :: l) K E H = bP (opval L.G E.get x) fun v => opsP L l K (E.put d v) H := propext opsP_mov_iff
def boolQ : V → Option Bool
  | .bool b => some b
  | _ => none
theorem boolQ_bool {b : Bool} : boolQ (.bool b) = some b := rfl
def pickQ (t : Bool) (a b : AOpd) : AOpd := if t then a else b
theorem pickQ_t {a b : AOpd} : pickQ true a b = a := rfl
theorem pickQ_f {a b : AOpd} : pickQ false a b = b := rfl
theorem opsP_pick {c a b : AOpd} : opsP L (⟨d, .pick c a b, none, anc⟩ :: l) K E H = bP (opval L.G E.get c) fun x => bP (boolQ x) fun t => bP (opval L.G E.get (pickQ t a b)) fun v => opsP L l K (E.put d v) H := by
  refine propext (opsP_pick_iff.trans ?_)
  constructor
  · rintro ⟨t, h1, v, h2, h3⟩; exact ⟨_, h1, t, rfl, v, h2, h3⟩
  · rintro ⟨x, h1, t, h2, v, h3, h4⟩
    cases x <;> cases h2
    exact ⟨_, h1, v, h3, h4⟩
theorem opsP_bin {op : BinOp} {x y : AOpd} : opsP L (⟨d, .bin op x y, none, anc⟩ :: l) K E H = bP (opval L.G E.get x) fun a => bP (opval L.G E.get y) fun b => bP (binV op a b) fun v => opsP L l K (E.put d v) H := propext opsP_bin_iff
theorem opsP_un {op : UnOp} {x : AOpd} : opsP L (⟨d, .un op x, none, anc⟩ :: l) K E H = bP (opval L.G E.get x) fun a => bP (unV op a) fun v => opsP L l K (E.put d v) H := propext opsP_un_iff
theorem binV_int {op : BinOp} {k : IntKind} {a b : Int} (h1 : op ≠ .shl) (h2 : op ≠ .shr) : binV op (.int k a) (.int k b) = binInt op k a b := by
  cases op <;> simp_all [binV]
theorem binV_add {k : IntKind} {a b : Int} : binV .add (.int k a) (.int k b) = some (.int k (k.wrap (a + b))) := by simp [binV, binInt]
theorem binV_sub {k : IntKind} {a b : Int} : binV .sub (.int k a) (.int k b) = some (.int k (k.wrap (a - b))) := by simp [binV, binInt]
theorem binV_mul {k : IntKind} {a b : Int} : binV .mul (.int k a) (.int k b) = some (.int k (k.wrap (a * b))) := by simp [binV, binInt]
theorem binV_eql {k : IntKind} {a b : Int} : binV .eql (.int k a) (.int k b) = some (.bool (decide (a = b))) := by simp [binV, binInt]; rfl
theorem binV_neq {k : IntKind} {a b : Int} : binV .neq (.int k a) (.int k b) = some (.bool (decide (a ≠ b))) := by
  simp only [binV, binInt, if_true, Option.some.injEq, V.bool.injEq]
  by_cases h : a = b <;> simp [h]
theorem binV_lss {k : IntKind} {a b : Int} : binV .lss (.int k a) (.int k b) = some (.bool (decide (a < b))) := by simp [binV, binInt]
theorem binV_leq {k : IntKind} {a b : Int} : binV .leq (.int k a) (.int k b) = some (.bool (decide (a ≤ b))) := by simp [binV, binInt]
theorem binV_gtr {k : IntKind} {a b : Int} : binV .gtr (.int k a) (.int k b) = some (.bool (decide (b < a))) := by simp [binV, binInt]
theorem binV_geq {k : IntKind} {a b : Int} : binV .geq (.int k a) (.int k b) = some (.bool (decide (b ≤ a))) := by simp [binV, binInt]
theorem unV_not {b : Bool} : unV .not (.bool b) = some (.bool (!b)) := rfl
theorem Env.get_nil (t : Nat) : Env.get [] t = none := rfl
theorem Env.get_cons (k t : Nat) (v : V) (r : Env) : Env.get ((k, v) :: r) t = if k = t then some v else Env.get r t := by
  show (bif k == t then some v else Env.get r t) = _
  by_cases h : k = t
  · simp [h]
  · have hb : (k == t) = false := by simp [h]
    rw [hb, if_neg h]; rfl
theorem Env.set_nil (t : Nat) (v : V) : Env.set [] t v = [(t, v)] := rfl
theorem Env.set_cons (k t : Nat) (w v : V) (r : Env) : Env.set ((k, w) :: r) t v = if k = t then (t, v) :: r else if t < k then (t, v) :: (k, w) :: r else (k, w) :: Env.set r t v := by
  show (bif k == t then (t, v) :: r else bif t.blt k then (t, v) :: (k, w) :: r else (k, w) :: Env.set r t v) = _
  by_cases h : k = t
  · simp [h]
  · have hb : (k == t) = false := by simp [h]
    rw [hb, if_neg h, cond_false]
    by_cases h2 : t < k
    · rw [if_pos h2, show t.blt k = true from Nat.ble_eq_true_of_le h2]; rfl
    · rw [if_neg h2]
      have : t.blt k = false := by
        cases hh : t.blt k with
        | false => rfl
        | true => exact absurd (Nat.le_of_ble_eq_true hh) h2
      rw [this]; rfl
theorem Env.put_some (E : Env) (t : Nat) (v : V) : Env.put E (some t) v = E.set t v := rfl
theorem Env.put_none (E : Env) (v : V) : Env.put E none v = E := rfl
theorem Env.kill_nil (ts : List Nat) : Env.kill [] ts = [] := rfl
theorem Env.kill_cons (k : Nat) (v : V) (r : Env) (ts : List Nat) : Env.kill ((k, v) :: r) ts = if ts.contains k = true then Env.kill r ts else (k, v) :: Env.kill r ts := by
  unfold Env.kill
  rw [List.filter_cons]
  cases h : ts.contains k <;> simp
theorem opval_t (G : Nat → Option V) (E : Nat → Option V) (t : Nat) : opval G E (.t t) = E t := rfl
theorem opval_c (G : Nat → Option V) (E : Nat → Option V) (v : V) : opval G E (.c v) = some v := rfl
end
theorem AX.then_n {next : Env → Heap → Prop} {Q : Exit → Env → Heap → Prop} {E : Env} {H : Heap} : AX.then next Q .normal E H = next E H := rfl
theorem AX.then_e {next : Env → Heap → Prop} {Q : Exit → Env → Heap → Prop} {E : Env} {H : Heap} {i : Nat} : AX.then next Q (.exit i) E H = Q (.exit i) E H := rfl
theorem AX.then_r {next : Env → Heap → Prop} {Q : Exit → Env → Heap → Prop} {E : Env} {H : Heap} : AX.then next Q .ret E H = Q .ret E H := rfl
theorem AX.inBlock_n {id : Nat} {Q : Exit → Env → Heap → Prop} {E : Env} {H : Heap} : AX.inBlock id Q .normal E H = Q .normal E H := rfl
theorem AX.inBlock_r {id : Nat} {Q : Exit → Env → Heap → Prop} {E : Env} {H : Heap} : AX.inBlock id Q .ret E H = Q .ret E H := rfl
theorem AX.inBlock_e {id i : Nat} {Q : Exit → Env → Heap → Prop} {E : Env} {H : Heap} : AX.inBlock id Q (.exit i) E H = if i = id then Q .normal E H else Q (.exit i) E H := rfl
-- what a region's run is rewritten with
attribute [push_cast] opsP_nil opsP_gu opsP_gtt opsP_gff opsP_gtf opsP_gft opsP_mov opsP_pick opsP_bin opsP_un binV_add binV_sub binV_mul binV_eql binV_neq binV_lss binV_leq binV_gtr binV_geq unV_not opval_t opval_c Env.get_nil Env.get_cons Env.set_nil Env.set_cons Env.put_some Env.put_none Env.kill_nil Env.kill_cons List.contains_cons List.contains_nil Bool.or_false Bool.or_true Bool.false_or Bool.true_or Bool.false_and Bool.true_and Bool.and_true Bool.and_false Bool.not_true Bool.not_false decide_true decide_false if_true if_false Option.some.injEq V.bool.injEq V.int.injEq boolQ_bool not_true_eq_false not_false_eq_true ne_eq decide_not pickQ_t pickQ_f Bool.false_eq_true Bool.true_eq_false Nat.zero_add
attribute [push_cast] AX.then_n AX.then_e AX.then_r AX.inBlock_n AX.inBlock_r AX.inBlock_e
end Go.Proofs.Ytaehkmmlacpleaa
