/- AL: the runner for the kernel: memory, steps, code, functions. -/
import Derived.Test.YtmkaekblmbjhpaaGreatAlZ
set_option linter.unusedVariables false
namespace Go.Proofs.YtmkaekblmbjhpaaGreat
noncomputable section
theorem effK_eq {β : Type} (d : Bool) (e : Eff) (T : Tri Blk) (n : Nat) (k : V → Tri Blk → Nat → Option β) : effK d e T n k = match updOk n e.upd && Nat.blt (n + e.new.length) big with | true => k e.v (newT e.new n (updT e.upd T)) (n + e.new.length) | false => none := by
  unfold effK
  simp only [updK_eq, newK_eq, V.gK_eq]
  cases updOk n e.upd && Nat.blt (n + e.new.length) big <;> rfl

/-! Rows. -/
def cellF (cs : List V) (o : Nat) : Option V := List.rec (motive := fun _ => Nat → Option V) (fun _ => none) (fun c _ ih o => Nat.rec (motive := fun _ => Option V) (some c) (fun p _ => ih p) o) cs o
theorem cellF_eq : ∀ (cs : List V) (o : Nat), cellF cs o = cs[o]?
  | [], o => rfl
  | c :: r, 0 => rfl
  | c :: r, o + 1 => cellF_eq r o
theorem takeCells_leaf (cs : List V) (o : Nat) : takeCells cs o 1 true = cs[o]? := by
  unfold takeCells
  simp only [if_true]
  by_cases h : o < cs.length
  · rw [List.drop_eq_getElem_cons h, List.getElem?_eq_getElem h]; rfl
  · rw [List.drop_eq_nil_of_le (by omega), List.getElem?_eq_none (by omega)]; rfl
def takeF (cs : List V) (o k : Nat) (leaf : Bool) (K : V → RR) : RR :=
  Bool.rec (motive := fun _ => RR) (oV (takeCells cs o k leaf) fun v => V.sK v K) (Bool.rec (motive := fun _ => RR) (oV (takeCells cs o k leaf) fun v => V.sK v K) (oV (cellF cs o) K) (Nat.beq k 1)) leaf
theorem takeF_eq (cs : List V) (o k : Nat) (leaf : Bool) (K : V → RR) : takeF cs o k leaf K = (takeCells cs o k leaf).bind K := by
  have hs : (oV (takeCells cs o k leaf) fun v => V.sK v K) = (takeCells cs o k leaf).bind K := by
    rw [oV_bind]; congr 1; funext v; exact V.sK_eq v K
  cases leaf with
  | false => exact hs
  | true =>
    show (Bool.rec (oV (takeCells cs o k true) fun v => V.sK v K) (oV (cellF cs o) K) (Nat.beq k 1) : RR) = _
    cases hk : Nat.beq k 1 with
    | false => exact hs
    | true =>
      rw [Nat.eq_of_beq_eq_true hk, takeCells_leaf, ← cellF_eq]
      exact oV_bind _ _
def setCellF (row : List V) (o : Nat) (x : V) (k : List V → RR) : RR :=
  List.rec (motive := fun _ => Nat → (List V → RR) → RR) (fun _ _ => none) (fun c r ih o k => Nat.rec (motive := fun _ => RR) (k (x :: r)) (fun p _ => ih p fun r' => k (c :: r')) o) row o k
theorem setCellF_eq : ∀ (row : List V) (o : Nat) (x : V) (k : List V → RR), setCellF row o x k = if o + 1 ≤ row.length then k (row.take o ++ [x] ++ row.drop (o + 1)) else none
  | [], o, x, k => by rw [if_neg (by simp)]; rfl
  | c :: r, 0, x, k => by rw [if_pos (by simp)]; rfl
  | c :: r, o + 1, x, k => by
    show setCellF r o x (fun r' => k (c :: r')) = _
    rw [setCellF_eq r o x]
    by_cases h : o + 1 ≤ r.length
    · rw [if_pos h, if_pos (by simp; omega)]; rfl
    · rw [if_neg h, if_neg (by simp; omega)]
def setRowF (rows : List (List V)) (i o : Nat) (x : V) (k : List (List V) → RR) : RR :=
  List.rec (motive := fun _ => Nat → (List (List V) → RR) → RR) (fun _ _ => none) (fun row r ih i k => Nat.rec (motive := fun _ => RR) (setCellF row o x fun row => k (row :: r)) (fun p _ => ih p fun r' => k (row :: r')) i) rows i k
theorem setRowF_eq : ∀ (rows : List (List V)) (i o : Nat) (x : V) (k : List (List V) → RR), setRowF rows i o x k = (rows[i]?).bind fun row => if o + 1 ≤ row.length then k (rows.set i (row.take o ++ [x] ++ row.drop (o + 1))) else none
  | [], i, o, x, k => rfl
  | row :: r, 0, o, x, k => setCellF_eq row o x _
  | row :: r, i + 1, o, x, k => setRowF_eq r i o x _
def rowF (rows : List (List V)) (i : Nat) : Option (List V) := List.rec (motive := fun _ => Nat → Option (List V)) (fun _ => none) (fun c _ ih o => Nat.rec (motive := fun _ => Option (List V)) (some c) (fun p _ => ih p) o) rows i
theorem rowF_eq : ∀ (rows : List (List V)) (i : Nat), rowF rows i = rows[i]?
  | [], o => rfl
  | c :: r, 0 => rfl
  | c :: r, o + 1 => rowF_eq r o

/-! Operations. -/
def placeS (size : Nat) (x : V) (m : Nat) : Option V := match x with
  | .ptr a size' j o => some (.ptr a size' j (o + m * size))
  | .iptr size' rows j o => some (.iptr size' rows j (o + m * size))
  | _ => none
theorem blt_iff (a b : Nat) : Nat.blt a b = decide (a < b) := by
  cases h : Nat.blt a b with
  | true => exact (decide_eq_true (blt_lt h)).symm
  | false => rw [blt_ble] at h; have : b ≤ a := by simpa using h
             exact (decide_eq_false (by omega)).symm
def natOf (i : V) (f : Nat → RR) : RR := i.onInt (fun _ z => Int.rec (motive := fun _ => RR) f (fun _ => none) z) none
theorem natOf_eq (i : V) (f : Nat → RR) : natOf i f = i.nat?.bind f := by
  unfold natOf
  cases i with
  | int k z =>
    cases z with
    | ofNat m => show f m = (if (0 : Int) ≤ (m : Int) then some (m : Int).toNat else none).bind f; rw [if_pos (by omega)]; rfl
    | negSucc m => show none = (if (0 : Int) ≤ Int.negSucc m then some (Int.negSucc m).toNat else none).bind f; rw [if_neg (by rw [Int.negSucc_eq]; omega)]; rfl
  | _ => rfl
def iaaF (size ln : Nat) (x i : AOpd) (ρ : AOpd → Option V) (k : V → RR) : RR := oV (ρ x) fun x => oV (ρ i) fun i => natOf i fun m => Bool.rec (motive := fun _ => RR) none (x.onPtr (fun a s j o => natF (Nat.add o (Nat.mul m size)) fun o => k (.ptr a s j o)) ((placeS size x m).bind k)) (Nat.blt m ln)
theorem iaaM_eq (size ln : Nat) (x i : AOpd) : pureM (iaaF size ln x i) = slowM (.iaa size ln x i) := by
  funext ρ T n K
  refine pureM_eq ((ρ x).bind fun x => ((ρ i).bind V.nat?).bind fun m => if m < ln then placeS size x m else none) ?_ (fun k => ?_)
  · show ((ρ x).bind fun x => ((ρ i).bind V.nat?).bind fun i => if i < ln then (match x with | .ptr a size' j o => some ({ v := .ptr a size' j (o + i * size) } : Eff) | .iptr size' rows j o => some { v := .iptr size' rows j (o + i * size) } | _ => none) else none) = _
    cases ρ x with
    | none => rfl
    | some xv =>
      show (((ρ i).bind V.nat?).bind _) = (((ρ i).bind V.nat?).bind _).bind _
      cases (ρ i).bind V.nat? with
      | none => rfl
      | some m =>
        show (if m < ln then _ else none) = (if m < ln then placeS size xv m else none).bind _
        by_cases h : m < ln
        · rw [if_pos h, if_pos h]; cases xv <;> rfl
        · rw [if_neg h, if_neg h]; rfl
  · unfold iaaF
    rw [oV_bind]
    cases ρ x with
    | none => rfl
    | some xv =>
      show oV (ρ i) _ = (((ρ i).bind V.nat?).bind _).bind k
      rw [oV_bind]
      cases ρ i with
      | none => rfl
      | some iv =>
        show natOf iv _ = ((iv.nat?).bind _).bind k
        rw [natOf_eq]
        cases iv.nat? with
        | none => rfl
        | some m =>
          show (Bool.rec none _ (Nat.blt m ln) : RR) = (if m < ln then placeS size xv m else none).bind k
          rw [blt_iff]
          by_cases h : m < ln
          · rw [decide_eq_true h, if_pos h]
            refine V.onPtr_of rfl (fun a s j o hx => ?_)
            subst hx
            exact natF_eq _ _
          · rw [decide_eq_false h, if_neg h]; rfl
def idxF (size ln : Nat) (leaf : Bool) (x i : AOpd) (ρ : AOpd → Option V) (k : V → RR) : RR := oV (ρ x) fun x => oV (ρ i) fun i => natOf i fun m => x.onAgg (fun cs => Bool.rec (motive := fun _ => RR) none (takeF cs (Nat.mul m size) size leaf k) (Nat.blt m ln)) none
theorem idxM_eq (size ln : Nat) (leaf : Bool) (x i : AOpd) : pureM (idxF size ln leaf x i) = slowM (.idx size ln leaf x i) := by
  funext ρ T n K
  refine pureM_eq ((ρ x).bind fun x => ((ρ i).bind V.nat?).bind fun m => match x with | .agg cs => if m < ln then takeCells cs (m * size) size leaf else none | _ => none) ?_ (fun k => ?_)
  · show ((ρ x).bind fun x => ((ρ i).bind V.nat?).bind fun i => match x with | .agg cs => if i < ln then (takeCells cs (i * size) size leaf).bind fun v => some ({ v := v } : Eff) else none | _ => none) = _
    cases ρ x with
    | none => rfl
    | some xv =>
      show (((ρ i).bind V.nat?).bind _) = (((ρ i).bind V.nat?).bind _).bind _
      cases (ρ i).bind V.nat? with
      | none => rfl
      | some m =>
        cases xv with
        | agg cs =>
          show (if m < ln then _ else none) = (if m < ln then takeCells cs (m * size) size leaf else none).bind _
          by_cases h : m < ln
          · rw [if_pos h, if_pos h]
          · rw [if_neg h, if_neg h]; rfl
        | _ => rfl
  · unfold idxF
    rw [oV_bind]
    cases ρ x with
    | none => rfl
    | some xv =>
      show oV (ρ i) _ = (((ρ i).bind V.nat?).bind _).bind k
      rw [oV_bind]
      cases ρ i with
      | none => rfl
      | some iv =>
        show natOf iv _ = ((iv.nat?).bind _).bind k
        rw [natOf_eq]
        cases iv.nat? with
        | none => rfl
        | some m =>
          cases xv with
          | agg cs =>
            show (Bool.rec none (takeF cs (m * size) size leaf k) (Nat.blt m ln) : RR) = (if m < ln then takeCells cs (m * size) size leaf else none).bind k
            rw [blt_iff]
            by_cases h : m < ln
            · rw [decide_eq_true h, if_pos h]; exact takeF_eq _ _ _ _ _
            · rw [decide_eq_false h, if_neg h]; rfl
          | _ => rfl
/-- A block of rows of that size. -/
def arrF (T : Tri Blk) (a size : Nat) (f : List (List V) → RR) (d : RR) : RR :=
  Option.rec (motive := fun _ => RR) d (fun b => Blk.rec (motive := fun _ => RR) (fun s rows => Bool.rec (motive := fun _ => RR) d (f rows) (Nat.beq s size)) (fun _ _ _ _ _ => d) (fun _ => d) (fun _ _ _ => d) (fun _ _ _ _ => d) (fun _ _ => d) d b) (T.getF a)
theorem arrF_of {T : Tri Blk} {a size : Nat} {f : List (List V) → RR} {d x : RR} (hd : d = x) (hf : ∀ rows, T.get a = some (.arr size rows) → f rows = x) : arrF T a size f d = x := by
  unfold arrF
  rw [Tri.getF_eq]
  cases h : T.get a with
  | none => exact hd
  | some b =>
    cases b with
    | arr s rows =>
      show (Bool.rec d (f rows) (Nat.beq s size) : RR) = x
      cases hb : Nat.beq s size with
      | false => exact hd
      | true => have := Nat.eq_of_beq_eq_true hb; subst this; exact hf rows h
    | _ => exact hd
theorem shG_same {get : Nat → Option Blk} {a size : Nat} {rows : List (List V)} (h : get a = some (.arr size rows)) : shG size get a = some (.arr size rows) := by
  unfold shG
  rw [h]
  show some (Blk.shape size (.arr size rows)) = _
  unfold Blk.shape
  dsimp only
  rw [if_pos rfl]
def loadM (k : Nat) (leaf : Bool) (p : AOpd) : OpF := fun ρ T n K => oV (ρ p) fun v => v.onPtr (fun a size i o => arrF T a size (fun rows => Bool.rec (motive := fun _ => RR) none (Option.rec (motive := fun _ => RR) none (fun row => takeF row o k leaf fun v => K v T n) (rowF rows i)) (Nat.blt n big)) (slowM (.load k leaf p) ρ T n K)) (slowM (.load k leaf p) ρ T n K)
theorem loadM_eq (k : Nat) (leaf : Bool) (p : AOpd) : loadM k leaf p = slowM (.load k leaf p) := by
  funext ρ T n K
  unfold loadM
  rw [oV_bind]
  cases hp : ρ p with
  | none => unfold slowM; show none = match ((ρ p).bind _ : Option Eff) with | some e => effK _ e T n K | none => none; rw [hp]; rfl
  | some v =>
    show v.onPtr _ _ = _
    refine V.onPtr_of rfl (fun a size i o hv => arrF_of rfl (fun rows hr => ?_))
    subst hv
    have he : (AOp.load k leaf p).exec n T.get ρ = (rows[i]?).bind fun row => (takeCells row o k leaf).bind fun v => some { v, need := [a] } := by
      show (ρ p).bind (loadV (shG (((ρ p).map V.psz).getD 0) T.get) k leaf) = _
      rw [hp]
      show loadV (shG size T.get) k leaf (.ptr a size i o) = _
      unfold loadV
      simp only [shG_same hr, if_true]
    unfold slowM
    rw [he, rowF_eq]
    cases rows[i]? with
    | none => show (Bool.rec none none (Nat.blt n big) : RR) = none; cases Nat.blt n big <;> rfl
    | some row =>
      show (Bool.rec none (takeF row o k leaf fun v => K v T n) (Nat.blt n big) : RR) = match ((takeCells row o k leaf).bind fun v => some ({ v, need := [a] } : Eff)) with | some e => effK _ e T n K | none => none
      rw [takeF_eq]
      cases takeCells row o k leaf with
      | none => show (Bool.rec none none (Nat.blt n big) : RR) = none; cases Nat.blt n big <;> rfl
      | some v =>
        show (Bool.rec none (K v T n) (Nat.blt n big) : RR) = effK _ { v, need := [a] } T n K
        rw [effK_eq]
        show _ = match true && Nat.blt n big with | true => K v T n | false => none
        cases Nat.blt n big <;> rfl
/-- A value of one cell. -/
def V.onOne (v : V) (f d : RR) : RR := VV.rec (motive := fun _ => RR) (fun _ _ => f) (fun _ => f) (fun _ => d) (fun _ _ _ _ _ => f) (fun _ _ _ _ => f) d v.view
theorem V.onOne_of {v : V} {f d x : RR} (hd : d = x) (hf : v.cells = [v] → v.isVal = true → f = x) : v.onOne f d = x := by
  cases v <;> first | exact hd | exact hf rfl rfl
def storeM (k : Nat) (p y : AOpd) : OpF := fun ρ T n K => oV (ρ p) fun v => oV (ρ y) fun w => v.onPtr (fun a size i o => w.onOne (arrF T a size (fun rows => Bool.rec (motive := fun _ => RR) (slowM (.store k p y) ρ T n K) (Bool.rec (motive := fun _ => RR) (slowM (.store k p y) ρ T n K) (setRowF rows i o w fun rows => Tri.setK FU T a (some (.arr size rows)) fun T => K (.tup []) T n) (Nat.beq k 1)) (Bool.rec (motive := fun _ => Bool) false (Nat.blt n big) (Nat.blt a n))) (slowM (.store k p y) ρ T n K)) (slowM (.store k p y) ρ T n K)) (slowM (.store k p y) ρ T n K)
theorem storeM_eq (k : Nat) (p y : AOpd) : storeM k p y = slowM (.store k p y) := by
  funext ρ T n K
  unfold storeM
  rw [oV_bind]
  cases hp : ρ p with
  | none => unfold slowM; show none = match ((ρ p).bind _ : Option Eff) with | some e => effK _ e T n K | none => none; rw [hp]; rfl
  | some v =>
    show oV (ρ y) _ = _
    rw [oV_bind]
    cases hy : ρ y with
    | none => unfold slowM; show none = match ((ρ p).bind fun p => (ρ y).bind fun x => storeV _ k p x : Option Eff) with | some e => effK _ e T n K | none => none; rw [hp, hy]; rfl
    | some w =>
      show v.onPtr _ _ = _
      refine V.onPtr_of rfl (fun a size i o hv => V.onOne_of rfl (fun h1 h2 => arrF_of rfl (fun rows hr => ?_)))
      subst hv
      cases hb : (Bool.rec false (Nat.blt n big) (Nat.blt a n) : Bool) with
      | false => rfl
      | true =>
        cases hk : Nat.beq k 1 with
        | false => rfl
        | true =>
          have hk1 := Nat.eq_of_beq_eq_true hk
          subst hk1
          show setRowF rows i o w _ = _
          have he : (AOp.store 1 p y).exec n T.get ρ = (rows[i]?).bind fun row => if o + 1 ≤ row.length then some { v := .tup [], need := [a], upd := [(a, some (.arr size (rows.set i (row.take o ++ [w] ++ row.drop (o + 1)))))] } else none := by
            show ((ρ p).bind fun p' => (ρ y).bind fun x => storeV (shG (((ρ p).map V.psz).getD 0) T.get) 1 p' x) = _
            rw [hp, hy]
            show storeV (shG size T.get) 1 (.ptr a size i o) w = _
            unfold storeV
            simp only [shG_same hr, h1, h2, List.length_singleton, and_self, if_true]
          unfold slowM
          rw [he, setRowF_eq]
          cases rows[i]? with
          | none => rfl
          | some row =>
            show (if o + 1 ≤ row.length then _ else none) = match (if o + 1 ≤ row.length then _ else none : Option Eff) with | some e => effK _ e T n K | none => none
            by_cases hl : o + 1 ≤ row.length
            · rw [if_pos hl, if_pos hl]
              show _ = effK _ _ T n K
              rw [effK_eq, Tri.setK_eq]
              show _ = match (Nat.blt a n && true) && Nat.blt n big with | true => K (.tup []) _ n | false => none
              have : (Nat.blt a n && true && Nat.blt n big) = true := by
                cases h1 : Nat.blt a n <;> rw [h1] at hb
                · cases hb
                · rw [show Nat.blt n big = true from hb]; rfl
              rw [this]; rfl
            · rw [if_neg hl, if_neg hl]

inductive Fast where
  | call (c : ACallee) (args : List AOpd)
  | mem (f : OpF)
def AOp.fast (o : AOp) : Fast := AOp.rec (motive := fun _ => Fast)
  (fun x => .mem (pureM (movF x)))
  (fun c a b => .mem (pureM (pickF c a b)))
  (fun x => .mem (slowM (.box x)))
  (fun x => .mem (slowM (.alloc x)))
  (fun x y => .mem (slowM (.build x y)))
  (fun a b c d => .mem (slowM (.bslice a b c d)))
  (fun a b c => .mem (loadM a b c))
  (fun a b c => .mem (storeM a b c))
  (fun a => .mem (slowM (.nilchk a)))
  (fun a b c => .mem (pureM (binF a b c)))
  (fun a b c => .mem (slowM (.beq a b c)))
  (fun a b c => .mem (slowM (.isnil a b c)))
  (fun a b c d => .mem (slowM (.acmp a b c d)))
  (fun a b => .mem (pureM (unF a b)))
  (fun a b => .mem (slowM (.conv a b)))
  (fun a => .mem (slowM (.same a)))
  (fun a => .mem (slowM (.bytes a)))
  (fun a => .mem (slowM (.string a)))
  (fun a b => .mem (slowM (.mkiface a b)))
  (fun a b c => .mem (slowM (.mkfn a b c)))
  (fun a b c d e => .mem (slowM (.mkslice a b c d e)))
  (fun a b c d e => .mem (slowM (.slice a b c d e)))
  (fun a b c d e f => .mem (slowM (.slicea a b c d e f)))
  (fun a b c => .mem (slowM (.substr a b c)))
  (fun a b => .mem (slowM (.fa a b)))
  (fun a b c d => .mem (slowM (.fld a b c d)))
  (fun a b c => .mem (slowM (.ia a b c)))
  (fun a b c d => .mem (pureM (iaaF a b c d)))
  (fun a b => .mem (slowM (.chr a b)))
  (fun a b c d e => .mem (pureM (idxF a b c d e)))
  (fun a b => .mem (slowM (.ext a b)))
  (fun a => .mem (slowM (.len a)))
  (fun a => .mem (slowM (.slen a)))
  (fun a => .mem (slowM (.cap a)))
  (fun a b c d => .mem (slowM (.append a b c d)))
  (fun a b c => .mem (slowM (.copy a b c)))
  (fun a b c => .mem (slowM (.clr a b c)))
  (fun a => .mem (slowM (.min a)))
  (fun a => .mem (slowM (.max a)))
  (fun a => .mem (slowM (.mkmap a)))
  (fun a b c d e => .mem (slowM (.mget a b c d e)))
  (fun a b c d => .mem (slowM (.mset a b c d)))
  (fun a b c => .mem (slowM (.mdel a b c)))
  (fun a => .mem (slowM (.mlen a)))
  (fun a => .mem (slowM (.mrange a)))
  (fun a => .mem (slowM (.srange a)))
  (fun a => .mem (slowM (.mnext a)))
  (fun a => .mem (slowM (.snext a)))
  (fun a => .mem (slowM (.mentry a)))
  (fun a b c d => .mem (slowM (.mapent a b c d)))
  (fun a b c => .mem (slowM (.entstore a b c)))
  (fun a b c => .mem (slowM (.xfn a b c)))
  (fun c args => .call c args)
  (.mem (slowM .no)) o
theorem AOp.fast_eq (o : AOp) : o.fast = match callOf o with | some (c, args) => .call c args | none => .mem (slowM o) := by
  cases o <;> first
    | rfl
    | exact congrArg Fast.mem (movM_eq _)
    | exact congrArg Fast.mem (pickM_eq _ _ _)
    | exact congrArg Fast.mem (binM_eq _ _ _)
    | exact congrArg Fast.mem (unM_eq _ _)
    | exact congrArg Fast.mem (iaaM_eq _ _ _ _)
    | exact congrArg Fast.mem (idxM_eq _ _ _ _ _)
    | exact congrArg Fast.mem (loadM_eq _ _ _)
    | exact congrArg Fast.mem (storeM_eq _ _ _)

/-! Regions that draw their order, where it is seen beforehand that none matters. -/
def AOp.quiet : AOp → Bool
  | .mov _ | .pick _ _ _ | .bin _ _ _ | .un _ _ | .iaa _ _ _ _ | .idx _ _ _ _ _ | .load _ _ _ | .min _ | .max _ | .fa _ _ | .ia _ _ _ | .len _ | .slen _ | .ext _ _ | .beq _ _ _ | .conv _ _ | .chr _ _ | .fld _ _ _ _ | .isnil _ _ _ | .slice _ _ _ _ _ | .substr _ _ _ | .build _ _ | .mkfn _ _ _ | .mkiface _ _ | .cap _ | .same _ | .nilchk _ | .acmp _ _ _ _ | .mget _ _ _ _ _ | .mlen _ | .string _ | .xfn _ _ _ => true
  | _ => false
def Qt (o : Option Eff) : Prop := ∀ e, o = some e → e.upd = [] ∧ e.new = []
theorem Qt.none : Qt none := fun e h => by cases h
theorem Qt.some (v : V) (nd : List Nat) : Qt (some { v := v, need := nd }) := fun e h => by cases h; exact ⟨rfl, rfl⟩
theorem Qt.bind {α : Type} {o : Option α} {f : α → Option Eff} (h : ∀ x, Qt (f x)) : Qt (o.bind f) := by
  cases o with
  | none => exact Qt.none
  | some x => exact h x
theorem quiet_ok {o : AOp} (h : o.quiet = true) (n : Nat) (get : Nat → Option Blk) (ρ : AOpd → Option V) : Qt (o.exec n get ρ) := by
  cases o <;> simp only [AOp.quiet, Bool.false_eq_true] at h <;> unfold AOp.exec AOp.exec0 <;> (try refine Qt.bind fun _ => ?_) <;> (try unfold loadV) <;> (try unfold mgetV) <;> repeat' (first | exact Qt.none | exact Qt.some _ _ | refine Qt.bind fun _ => ?_ | split)
structure SR where
  dst : Option Nat
  looks : List Nat
  quiet : Bool
def apartS (r s : SR) : Bool :=
  ((match r.dst with | some d => !s.looks.contains d && (match s.dst with | some d' => !(d == d') | none => true) | none => true) &&
  (match s.dst with | some d => !r.looks.contains d | none => true)) && (r.quiet && s.quiet)
def indS (m : Nat) (r : SR) : Nat → List SR → Bool
  | _, [] => true
  | i, s :: l => (m.testBit i || apartS s r) && indS m r (i + 1) l
def AI.sr (i : AI) : SR := ⟨i.dst, i.looks, i.op.quiet⟩
def safeD : List AI → List SR → List Nat → Bool
  | [], _, _ => true
  | i :: l, ss, ms => (callOf i.op).isNone && (indS (ancM ms i.anc) i.sr 0 ss && safeD l (ss ++ [i.sr]) (ms ++ [ancM ms i.anc]))
def Mat (r : Rec) (s : SR) : Prop := r.dst = s.dst ∧ r.looks = s.looks ∧ (s.quiet = true → r.eff = [])
def Mats : List Rec → List SR → Prop
  | [], [] => True
  | r :: rs, s :: ss => Mat r s ∧ Mats rs ss
  | _, _ => False
theorem Mats.snoc : ∀ {rs : List Rec} {ss : List SR} {r : Rec} {s : SR}, Mats rs ss → Mat r s → Mats (rs ++ [r]) (ss ++ [s])
  | [], [], r, s, _, h => ⟨h, trivial⟩
  | r :: rs, s :: ss, _, _, ⟨h1, h2⟩, h => ⟨h1, h2.snoc h⟩
  | [], _ :: _, _, _, h, _ => h.elim
  | _ :: _, [], _, _, h, _ => h.elim
theorem apartS_ok {r q : Rec} {s t : SR} (hr : Mat r s) (hq : Mat q t) (h : apartS s t = true) : apartB r q = true := by
  unfold apartS at h
  simp only [Bool.and_eq_true] at h
  obtain ⟨⟨h1, h2⟩, h3, h4⟩ := h
  obtain ⟨d1, l1, e1⟩ := hr
  obtain ⟨d2, l2, e2⟩ := hq
  unfold apartB Rec.keys
  rw [e1 h3, e2 h4, d1, d2, l1, l2]
  simp only [Bool.and_eq_true]
  exact ⟨⟨⟨h1, h2⟩, rfl⟩, rfl⟩
theorem indS_ok {m : Nat} {r : Rec} {s : SR} (hr : Mat r s) : ∀ {rs : List Rec} {ss : List SR} {i : Nat}, Mats rs ss → indS m s i ss = true → indB m r i rs = true
  | [], [], i, _, _ => rfl
  | q :: rs, t :: ss, i, ⟨h1, h2⟩, h => by
    simp only [indS, Bool.and_eq_true, Bool.or_eq_true] at h
    simp only [indB, Bool.and_eq_true, Bool.or_eq_true]
    exact ⟨h.1.imp id (apartS_ok h1 hr), indS_ok hr h2 h.2⟩
  | [], _ :: _, _, h, _ => h.elim
  | _ :: _, [], _, h, _ => h.elim
section
variable (L : Lib) (call : Callf)
theorem dstep_eq {i : AI} (hc : callOf i.op = none) (E : Env) (T : Tri Blk) (n : Nat) (k : Rec → Env → Tri Blk → Nat → RR) :
    (stepR L call i E T n = none ∧ dstepR L call i E T n k = none) ∨ ∃ r s, Mat r i.sr ∧ stepR L call i E T n = some s ∧ dstepR L call i E T n k = k r s.1 s.2.1 s.2.2 := by
  unfold stepR dstepR
  cases goesR i.guard E with
  | none => exact .inl ⟨rfl, rfl⟩
  | some b =>
    cases b with
    | false =>
      dsimp only
      rw [Env.putK_eq, Env.putK_eq]
      exact .inr ⟨_, (E.put i.dst (.tup []), T, n), ⟨rfl, rfl, fun _ => rfl⟩, rfl, rfl⟩
    | true =>
      dsimp only
      rw [hc]
      dsimp only
      cases he : i.op.exec n T.get (opvalR L.G E) with
      | none => exact .inl ⟨rfl, rfl⟩
      | some e =>
        dsimp only
        rw [effK_eq, effK_eq]
        cases updOk n e.upd && Nat.blt (n + e.new.length) big with
        | false => exact .inl ⟨rfl, rfl⟩
        | true =>
          dsimp only
          rw [Env.putK_eq, Env.putK_eq]
          refine .inr ⟨_, (E.put i.dst e.v, newT e.new n (updT e.upd T), n + e.new.length), ⟨rfl, rfl, fun hq => ?_⟩, rfl, rfl⟩
          obtain ⟨h1, h2⟩ := quiet_ok hq n T.get (opvalR L.G E) e he
          show e.all n = []
          unfold Eff.all
          rw [h1, h2]; rfl
theorem dopsR_safe : ∀ (l : List AI) {rs : List Rec} {ss : List SR} {ms : List Nat} (E : Env) (T : Tri Blk) (n : Nat), Mats rs ss → safeD l ss ms = true → dopsR L call l rs ms E T n = opsR L call l E T n
  | [], rs, ss, ms, E, T, n, _, _ => rfl
  | i :: l, rs, ss, ms, E, T, n, hm, h => by
    simp only [safeD, Bool.and_eq_true, Option.isNone_iff_eq_none] at h
    obtain ⟨hc, h1, h2⟩ := h
    unfold dopsR opsR
    rcases dstep_eq L call hc E T n (fun r E T n => natK (ancM ms i.anc) fun m => match indB m r 0 rs with | true => dopsR L call l (rs ++ [r]) (ms ++ [m]) E T n | false => none) with ⟨e1, e2⟩ | ⟨r, s, hr, e1, e2⟩
    · rw [e1]; exact e2
    · rw [e1]
      refine Eq.trans e2 ?_
      rw [natK_eq, indS_ok hr hm h1]
      exact dopsR_safe l _ _ _ (hm.snoc hr) h2
end

/-! Steps. -/
abbrev KS := Env → Tri Blk → Nat → RR
def opvalF (G : Nat → Option V) (E : Env) (x : AOpd) : Option V := AOpd.rec (motive := fun _ => Option V) (fun t => Env.fgetF E t) (fun v => some v) (fun k => some (.fn k [] [])) (fun k => G k) x
theorem opvalF_eq (G : Nat → Option V) (E : Env) : opvalF G E = opvalR G E := by
  funext x
  cases x with
  | t t => exact Env.fgetF_eq E t
  | _ => rfl
def undF (v : V) (no : RR) : RR := match v with | .tup [] => no | _ => none
def goF (guard : Option (Nat × Bool)) (E : Env) (yes no : RR) : RR := Option.rec (motive := fun _ => RR) yes (fun p => Prod.rec (motive := fun _ => RR) (fun t w => oV (E.fgetF t) fun v => v.onBool (fun b => Bool.rec (motive := fun _ => RR) (Bool.rec (motive := fun _ => RR) yes no w) (Bool.rec (motive := fun _ => RR) no yes w) b) (undF v no)) p) guard
theorem goF_eq (guard : Option (Nat × Bool)) (E : Env) (yes no : RR) : goF guard E yes no = match goesR guard E with | some true => yes | some false => no | none => none := by
  cases guard with
  | none => rfl
  | some p =>
    obtain ⟨t, w⟩ := p
    show oV (E.fgetF t) _ = _
    unfold goesR
    rw [Env.fgetF_eq, oV_bind]
    dsimp only
    cases E.fget t with
    | none => rfl
    | some v =>
      cases v with
      | bool b => cases b <;> cases w <;> rfl
      | tup cs => cases cs <;> rfl
      | _ => rfl
section
variable (L : Lib) (call : Callf)
def callF (dst : Option Nat) (c : ACallee) (args : List AOpd) (E : Env) (T : Tri Blk) (n : Nat) (K : KS) : RR :=
  match calleeR L.G E c args with
  | some (t, vs) => spK vs fun vs => match call t vs T n with | some (r, T, n) => Env.putF E dst r fun E => K E T n | none => none
  | none => none
def stepF (i : AI) (E : Env) (T : Tri Blk) (n : Nat) (K : KS) : RR :=
  AI.rec (motive := fun _ => RR) (fun dst op guard anc => goF guard E
    (Fast.rec (motive := fun _ => RR) (fun c args => callF L call dst c args E T n K) (fun f => f (opvalF L.G E) T n fun v T n => Env.putF E dst v fun E => K E T n) op.fast)
    (Env.putF E dst (.tup []) fun E => K E T n)) i
theorem slowM_bind (o : AOp) (ρ : AOpd → Option V) (T : Tri Blk) (n : Nat) (k : KF) (K : KS) : slowM o ρ T n (fun v T n => (k v T n).bind fun s => K s.1 s.2.1 s.2.2) = (slowM o ρ T n k).bind fun s => K s.1 s.2.1 s.2.2 := by
  unfold slowM
  cases o.exec n T.get ρ with
  | none => rfl
  | some e =>
    simp only [effK_eq]
    cases updOk n e.upd && Nat.blt (n + e.new.length) big <;> rfl
theorem stepF_eq (i : AI) (E : Env) (T : Tri Blk) (n : Nat) (K : KS) : stepF L call i E T n K = (stepR L call i E T n).bind fun s => K s.1 s.2.1 s.2.2 := by
  obtain ⟨dst, op, guard, anc⟩ := i
  show goF guard E _ _ = _
  rw [goF_eq]
  unfold stepR
  cases goesR guard E with
  | none => rfl
  | some b =>
    cases b with
    | false =>
      dsimp only
      rw [Env.putF_eq, Env.putK_eq, Env.putK_eq]
      rfl
    | true =>
      dsimp only
      rw [AOp.fast_eq]
      cases callOf op with
      | none =>
        show slowM op (opvalF L.G E) T n _ = _
        rw [opvalF_eq]
        have := slowM_bind op (opvalR L.G E) T n (fun v T n => Env.putK E dst v fun E => some (E, T, n)) K
        refine Eq.trans ?_ this
        congr 1
        funext v T n
        rw [Env.putF_eq, Env.putK_eq, Env.putK_eq]
        rfl
      | some p =>
        obtain ⟨c, args⟩ := p
        show callF L call dst c args E T n K = _
        unfold callF
        dsimp only
        cases calleeR L.G E c args with
        | none => rfl
        | some q =>
          obtain ⟨t, vs⟩ := q
          dsimp only
          rw [spK_eq, spK_eq]
          cases call t vs T n with
          | none => rfl
          | some s =>
            obtain ⟨r, T1, n1⟩ := s
            dsimp only
            rw [Env.putF_eq, Env.putK_eq, Env.putK_eq]
            rfl
def opsF (l : List AI) (E : Env) (T : Tri Blk) (n : Nat) : RR := List.rec (motive := fun _ => KS) (fun E T n => some (E, T, n)) (fun i _ ih E T n => stepF L call i E T n ih) l E T n
theorem opsF_eq : ∀ (l : List AI) (E : Env) (T : Tri Blk) (n : Nat), opsF L call l E T n = opsR L call l E T n
  | [], E, T, n => rfl
  | i :: l, E, T, n => by
    show stepF L call i E T n (opsF L call l) = _
    rw [stepF_eq]
    unfold opsR
    cases stepR L call i E T n with
    | none => rfl
    | some s => exact opsF_eq l _ _ _

/-! Code. -/
abbrev KX := Env → Tri Blk → Nat → Option StX
def endF (ks : List Nat) (o : RR) : Option StX := Option.rec (motive := fun _ => Option StX) none (fun s => Prod.rec (motive := fun _ => Option StX) (fun E s => Prod.rec (motive := fun _ => Option StX) (fun T n => Env.kilF E ks fun E => some (.normal, E, T, n)) s) s) o
theorem endF_eq (ks : List Nat) (o : RR) : endF ks o = match o with | some (E, T, n) => Env.killK E ks fun E => some (.normal, E, T, n) | none => none := by
  cases o with
  | none => rfl
  | some s => obtain ⟨E, T, n⟩ := s; exact Env.kilF_eq (β := Option StX) E ks (fun E => some (Exit.normal, E, T, n))
/-- On from a normal end. -/
def nextF (o : Option StX) (k : KX) : Option StX := Option.rec (motive := fun _ => Option StX) none (fun s => Prod.rec (motive := fun _ => Option StX) (fun e s => Exit.rec (motive := fun _ => Option StX) (Prod.rec (motive := fun _ => Option StX) (fun E s => Prod.rec (motive := fun _ => Option StX) (fun T n => k E T n) s) s) (fun i => some (.exit i, s)) (fun i => some (.goto i, s)) (some (.ret, s)) (fun c => some (.panic c, s)) (some (.outgrown, s)) e) s) o
theorem nextF_eq (o : Option StX) (k : KX) : nextF o k = match o with | some (.normal, E, T, n) => k E T n | r => r := by
  cases o with
  | none => rfl
  | some s => obtain ⟨e, E, T, n⟩ := s; cases e <;> rfl
/-- A block's end. -/
def blockF (id : Nat) (o : Option StX) : Option StX := Option.rec (motive := fun _ => Option StX) none (fun s => Prod.rec (motive := fun _ => Option StX) (fun e s => Exit.rec (motive := fun _ => Option StX) (some (.normal, s)) (fun i => Bool.rec (motive := fun _ => Option StX) (some (.exit i, s)) (some (.normal, s)) (Nat.beq i id)) (fun i => some (.goto i, s)) (some (.ret, s)) (fun c => some (.panic c, s)) (some (.outgrown, s)) e) s) o
theorem blockF_eq (id : Nat) (o : Option StX) : blockF id o = match o with | some (.exit id', E, T, n) => (match Nat.beq id' id with | true => some (.normal, E, T, n) | false => some (.exit id', E, T, n)) | r => r := by
  cases o with
  | none => rfl
  | some s =>
    obtain ⟨e, E, T, n⟩ := s
    cases e with
    | exit i => show (Bool.rec _ _ (Nat.beq i id) : Option StX) = _; dsimp only; cases Nat.beq i id <;> rfl
    | _ => rfl
def loopF (body : KX) (fuel : Nat) : KX := Nat.rec (motive := fun _ => KX) (fun _ _ _ => none) (fun _ ih E T n => nextF (body E T n) ih) fuel
theorem loopF_eq (body : KX) : ∀ (fuel : Nat) (E : Env) (T : Tri Blk) (n : Nat), loopF body fuel E T n = loopR body fuel E T n
  | 0, E, T, n => rfl
  | f + 1, E, T, n => by
    show nextF (body E T n) (loopF body f) = _
    rw [nextF_eq]
    unfold loopR
    cases body E T n with
    | none => rfl
    | some s =>
      obtain ⟨e, E1, T1, n1⟩ := s
      cases e with
      | normal => exact loopF_eq body f _ _ _
      | _ => rfl
def bothF (o : Option V) (a b : Option StX) : Option StX := Option.rec (motive := fun _ => Option StX) none (fun v => VV.rec (motive := fun _ => Option StX) (fun _ _ => none) (fun t => Bool.rec (motive := fun _ => Option StX) b a t) (fun _ => none) (fun _ _ _ _ _ => none) (fun _ _ _ _ => none) none v.view) o
theorem bothF_eq (o : Option V) (a b : Option StX) : bothF o a b = match o with | some (.bool true) => a | some (.bool false) => b | _ => none := by
  cases o with
  | none => rfl
  | some v =>
    cases v with
    | bool t => cases t <;> rfl
    | _ => rfl
def dropsF (l : List AI) (ks : List Nat) (E : Env) (T : Tri Blk) (n : Nat) : Option StX := match dopsR L call l [] [] E T n with | some (E, T, n) => Env.killK E ks fun E => some (.normal, E, T, n) | none => none
def codeF (fuel N : Nat) (c : AC) : KX := AC.rec (motive := fun _ => KX)
  (fun E T n => some (.normal, E, T, n))
  (fun d l ks E T n => Bool.rec (motive := fun _ => Option StX) (endF ks (opsF L call l E T n)) (Bool.rec (motive := fun _ => Option StX) (dropsF L call l ks E T n) (endF ks (opsF L call l E T n)) (safeD l [] [])) d)
  (fun _ _ ia ib E T n => nextF (ia E T n) ib)
  (fun c _ _ ia ib E T n => bothF (opvalF L.G E c) (ia E T n) (ib E T n))
  (fun id _ ia E T n => blockF id (ia E T n))
  (fun _ ia E T n => loopF ia fuel E T n)
  (fun g ps ad body _ _ E T n => codeR L call fuel N (.range g ps ad body) E T n)
  (fun id E T n => some (.exit id, E, T, n))
  (fun E T n => some (.ret, E, T, n))
  (fun _ _ _ => none) c
theorem codeF_eq (fuel N : Nat) : ∀ (c : AC) (E : Env) (T : Tri Blk) (n : Nat), codeF L call fuel N c E T n = codeR L call fuel N c E T n
  | .skip, E, T, n => rfl
  | .ops false l ks, E, T, n => by
    show endF ks (opsF L call l E T n) = _
    rw [endF_eq, opsF_eq, codeR]
    cases opsR L call l E T n <;> rfl
  | .ops true l ks, E, T, n => by
    show (Bool.rec (dropsF L call l ks E T n) (endF ks (opsF L call l E T n)) (safeD l [] []) : Option StX) = _
    rw [codeR]
    cases hs : safeD l [] [] with
    | false => rfl
    | true =>
      show endF ks (opsF L call l E T n) = _
      rw [endF_eq, opsF_eq, dopsR_safe L call l (rs := []) (ss := []) E T n trivial hs]
      cases opsR L call l E T n <;> rfl
  | .seq a b, E, T, n => by
    show nextF (codeF L call fuel N a E T n) (codeF L call fuel N b) = _
    rw [nextF_eq, codeF_eq fuel N a, codeR, show codeF L call fuel N b = codeR L call fuel N b from by funext E T n; exact codeF_eq fuel N b E T n]
    rfl
  | .cond c a b, E, T, n => by
    show bothF (opvalF L.G E c) (codeF L call fuel N a E T n) (codeF L call fuel N b E T n) = _
    rw [bothF_eq, codeF_eq fuel N a, codeF_eq fuel N b, codeR, opvalF_eq]
    rfl
  | .block id a, E, T, n => by
    show blockF id (codeF L call fuel N a E T n) = _
    rw [blockF_eq, codeF_eq fuel N a, codeR]
    rfl
  | .loop a, E, T, n => by
    show loopF (codeF L call fuel N a) fuel E T n = _
    rw [loopF_eq, codeR, show codeF L call fuel N a = codeR L call fuel N a from by funext E T n; exact codeF_eq fuel N a E T n]
  | .exit id, E, T, n => rfl
  | .ret, E, T, n => rfl
  | .range g ps ad body, E, T, n => rfl
  | .no, _, _, _ => rfl
end

/-! Functions. -/
def doneF (F : AFunc) (o : Option StX) : Option (V × Tri Blk × Nat) :=
  match o with
  | some (.normal, E, T, n) => match resV E.fget T.get F.results with | some v => V.sK v fun v => some (v, T, n) | none => none
  | some (.ret, E, T, n) => match resV E.fget T.get F.results with | some v => V.sK v fun v => some (v, T, n) | none => none
  | _ => none
def funF (L : Lib) (call : Callf) (k : Nat) (args : List V) (T : Tri Blk) (n : Nat) : Option (V × Tri Blk × Nat) :=
  match L.X k args with
  | some r => some (r, T, n)
  | none => match L.T k with
    | some F => match Nat.beq args.length F.nargs with
      | true => doneF F (codeF L call 1000000 F.ntmps F.body (argE args 0) T n)
      | false => none
    | none => none
def yldF (L : Lib) (call : Callf) (a : Nat) (args : List V) (T : Tri Blk) (n : Nat) : Option (V × Tri Blk × Nat) :=
  match T.get a with
  | some (.loop nt E ps ad body) => match (Nat.beq args.length ps.length && allBlt nt ps) && (Nat.blt a n && Nat.blt n big) with
    | true => Tri.setK FU T a none fun T0 =>
      match codeF L call 1000000 nt ad (putArgs E ps args) T0 n with
      | some (.normal, E1, T1, n1) => match codeF L call 1000000 nt body E1 T1 n1 with
        | some (e, E2, T2, n2) => match T2.get a, Nat.ble n n2, e with
          | none, true, .normal => Tri.setK FU T2 a (some (.loop nt E ps ad body)) fun T2 => some (.bool true, T2, n2)
          | none, true, .ret => Tri.setK FU T2 a (some (.stop .ret)) fun T2 => some (.bool false, T2, n2)
          | none, true, .exit id => Tri.setK FU T2 a (some (.stop (.exit id))) fun T2 => some (.bool false, T2, n2)
          | _, _, _ => none
        | none => none
      | _ => none
    | false => none
  | _ => none
def funcF (L : Lib) (f : Nat) : Callf := Nat.rec (motive := fun _ => Callf) (fun _ _ _ _ => none) (fun _ ih t args T n => Tgt.rec (motive := fun _ => Option (V × Tri Blk × Nat)) (fun k => funF L ih k args T n) (fun a => yldF L ih a args T n) t) f
theorem funcF_eq (L : Lib) : ∀ f, funcF L f = funcR L f
  | 0 => by funext t args T n; cases t <;> rfl
  | f + 1 => by
    have ih := funcF_eq L f
    funext t args T n
    cases t with
    | fn k =>
      show funF L (funcF L f) k args T n = _
      unfold funF funcR
      simp only [ih, codeF_eq]
      rfl
    | yl a =>
      show yldF L (funcF L f) a args T n = _
      unfold yldF funcR
      simp only [ih, codeF_eq]
      rfl
end
end Go.Proofs.YtmkaekblmbjhpaaGreat
