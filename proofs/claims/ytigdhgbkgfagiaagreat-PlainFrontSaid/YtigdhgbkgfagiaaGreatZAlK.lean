/- AL: states, functions' contracts, single operations in their place. -/
import Derived.Test.YtigdhgbkgfagiaaGreatZAlJs
import Derived.RangeFuncLeaves
import Derived.OrdersIn
import Derived.TacticsIn
set_option linter.unusedVariables false
namespace Go.Proofs.YtigdhgbkgfagiaaGreat
structure Lib where
 T : Nat → Option AFunc
 G : Nat → Option V
 X : Nat → List V → Option V
 Y : Nat → List V → Heap → (V → Heap → Prop) → Prop := fun _ _ _ _ => False
 R : Nat → List V → (Nat → Option Blk) → Option V := fun _ _ _ => none
 nd : Nat → Bool := fun _ => false
def FW (r : Option Nat) : Fence := { Fence.wide with round := r }
inductive Tgt where
 | fn (k : Nat)
 | yl (a : Nat)
def YieldsTo (P : Program) (l : Nat) (xs : Array Value) (w : World) (R : Ending → World → Prop) : Prop :=
 ∃ fn tmps assign body, (Instr.yield l xs).run P w = .ok (.round l fn tmps assign body) w ∧ RoundIn Fence.wide 0 P l fn tmps assign body w R
theorem YieldsTo.mono {P : Program} {l : Nat} {xs : Array Value} {w : World} {R R' : Ending → World → Prop} (h : YieldsTo P l xs w R) (hr : ∀ e w, R e w → R' e w) : YieldsTo P l xs w R' :=
 let ⟨fn, tmps, assign, body, h1, h2⟩ := h; ⟨fn, tmps, assign, body, h1, h2.mono hr⟩
def RunAt (C : Ctx) (β : Nat → Option Nat) (t : Tgt) (xs : Array Value) (w : World) (R : Ending → World → Prop) : Prop :=
 match t with
 | .fn k => ∀ fid, C.N.ν k = some fid → Calls C.T.P fid xs w R
 | .yl a => ∀ l, β a = some l → YieldsTo C.T.P l xs w R
theorem RunAt.mono {C : Ctx} {β : Nat → Option Nat} {t : Tgt} {xs : Array Value} {w : World} {R R' : Ending → World → Prop} (h : RunAt C β t xs w R) (hr : ∀ e w, R e w → R' e w) : RunAt C β t xs w R' := by
 cases t with
 | fn k => exact fun fid hf => (h fid hf).mono hr
 | yl a => exact fun l hl => (h l hl).mono hr
def RArgs (C : Ctx) (w : World) (S : Nat → Prop) (β : Nat → Option Nat) (args : List V) (vs : Array Value) : Prop :=
 vs.size = args.length ∧ ∀ (i : Nat) (v : V) (x : Value), args[i]? = some v → vs[i]? = some x → Rel C.N w S β v x
def GlobR (A : Nat → Prop) (C : Ctx) (w : World) (β : Nat → Option Nat) (h : Nat → Option Blk) : Prop :=
 ∀ (g k : Nat) (v : V), C.T.gls g = some k → C.G k = some v → Rel C.N w (Imm A w β h) (fun _ => none) v (.pointer (some ⟨g, 0, none⟩))
structure Ok (L : Lib) (C : Ctx) : Prop where
 fn : ∀ k fid F, C.N.ν k = some fid → L.T k = some F → ∃ f, C.T.P.funcs[fid]? = some f ∧ C.T.func F.kills f = some F
 gl : C.G = L.G
 body : ∀ k fid, C.N.ν k = some fid → ∃ f, C.T.P.funcs[fid]? = some f ∧ f.body.isNone = false ∧ (f.name == "runtime.NumGoroutine") = false
 ext : ∀ k fid args r, C.N.ν k = some fid → L.X k args = some r → ∀ (A : Nat → Prop) (w : World) (β : Nat → Option Nat) (h : Nat → Option Blk) (vs : Array Value), HeapR A C.N w β h → GlobR A C w β h → RArgs C w (Imm A w β h) β args vs → (∀ b, w.heap.size ≤ b → A b) →
  Calls C.T.P fid vs w fun e w' => ∃ v, e = .returned v ∧ Frm (fun _ => False) w w' ∧ Rel C.N w' (Imm A w' β h) β r v
 extr : ∀ k fid args h r, C.N.ν k = some fid → L.R k args h = some r → ∀ (A : Nat → Prop) (w : World) (β : Nat → Option Nat) (vs : Array Value), HeapR A C.N w β h → GlobR A C w β h → RArgs C w (Imm A w β h) β args vs → (∀ b, w.heap.size ≤ b → A b) →
  Calls C.T.P fid vs w fun e w' => ∃ v, e = .returned v ∧ Frm (fun _ => False) w w' ∧ Rel C.N w' (Imm A w' β h) β r v
 exty : ∀ k fid args H Post, C.N.ν k = some fid → L.Y k args H Post → ∀ (A : Nat → Prop) (w : World) (β : Nat → Option Nat) (vs : Array Value), (∀ b, w.heap.size ≤ b ∨ Live β H.get b → A b) → (∀ a, H.length ≤ a → β a = none) → HeapR A C.N w β H.get → GlobR A C w β H.get → RArgs C w (Imm A w β H.get) β args vs →
  Calls C.T.P fid vs w fun e w' => ∃ v r H' β', e = .returned v ∧ Post r H' ∧ H.length ≤ H'.length ∧ (∀ a, H'.length ≤ a → β' a = none) ∧ (∀ a, a < H.length → β' a = β a) ∧ HeapR A C.N w' β' H'.get ∧ Rel C.N w' (Imm A w' β' H'.get) β' r v ∧
   (∀ b, Live β' H'.get b → w.heap.size ≤ b ∨ Live β H.get b) ∧ Frm (Live β H.get) w w'
def AFn (L : Lib) (k : Tgt) (args : List V) (H : Heap) (Post : V → Heap → Prop) : Prop :=
 ∀ (C : Ctx), Ok L C → ∀ (A : Nat → Prop) (w : World) (β : Nat → Option Nat) (vs : Array Value), (∀ b, w.heap.size ≤ b ∨ Live β H.get b → A b) → (∀ a, H.length ≤ a → β a = none) → HeapR A C.N w β H.get → GlobR A C w β H.get → RArgs C w (Imm A w β H.get) β args vs →
  RunAt C β k vs w fun e w' => ∃ v r H' β', e = .returned v ∧ Post r H' ∧ H.length ≤ H'.length ∧ (∀ a, H'.length ≤ a → β' a = none) ∧ (∀ a, a < H.length → β' a = β a) ∧ HeapR A C.N w' β' H'.get ∧ Rel C.N w' (Imm A w' β' H'.get) β' r v ∧
   (∀ b, Live β' H'.get b → w.heap.size ≤ b ∨ Live β H.get b) ∧ Frm (Live β H.get) w w'
theorem AFn.mono {L : Lib} {k : Tgt} {args : List V} {H : Heap} {Post Post' : V → Heap → Prop} (h : AFn L k args H Post) (hp : ∀ r H', Post r H' → Post' r H') : AFn L k args H Post' :=
 fun C hC A w β vs hA hd hh hg ha => (h C hC A w β vs hA hd hh hg ha).mono fun e w' ⟨v, r, H', β', h1, h2, h3⟩ => ⟨v, r, H', β', h1, hp _ _ h2, h3⟩
structure Base where
 w0 : World
 L0 : Nat → Prop
 β0 : Nat → Option Nat
 n0 : Nat
 A : Nat → Prop
 hA : ∀ b, w0.heap.size ≤ b ∨ L0 b → A b
 rd : Option (Nat × Loop)
abbrev Base.fw (B : Base) : Fence := FW (B.rd.map Prod.fst)
def MarksOk (lo : Nat) (w : World) (ds : List Deferred) : Prop :=
 ∃ rs : List Nat, ds.map (·.target) = rs.map Target.collected ∧ rs.Nodup ∧ ∀ r ∈ rs, lo ≤ r ∧ w.heap[r]? = some (.deferred (some []))
theorem MarksOk.nil (lo : Nat) (w : World) : MarksOk lo w [] := ⟨[], rfl, List.nodup_nil, fun r h => by cases h⟩
theorem HeapR.not_live {A : Nat → Prop} {N : Nums} {w : World} {β : Nat → Option Nat} {h : Nat → Option Blk} (hh : HeapR A N w β h) {r : Nat} {d : Option (List Deferred)} (hr : w.heap[r]? = some (.deferred d)) : ¬ Live β h r := fun ⟨a, h1, h2⟩ => by
 obtain ⟨k, hk⟩ := Option.ne_none_iff_exists'.1 h1
 obtain ⟨b, h3, _, h4⟩ := hh.at' a k hk
 rw [h2] at h3; cases h3
 obtain ⟨o, h5, h6⟩ := h4.obj
 rw [hr] at h5; cases h5; exact h6 d rfl
theorem MarksOk.frm {A : Nat → Prop} {N : Nums} {w w' : World} {β : Nat → Option Nat} {h : Nat → Option Blk} (hh : HeapR A N w β h) {lo : Nat} {ds : List Deferred} (hm : MarksOk lo w ds) (hf : Frm (Live β h) w w') : MarksOk lo w' ds := by
 obtain ⟨rs, h1, h2, h3⟩ := hm
 exact ⟨rs, h1, h2, fun r hr => ⟨(h3 r hr).1, (hf.block r (Array.getElem?_eq_some_iff.1 (h3 r hr).2).1 (hh.not_live (h3 r hr).2)).trans (h3 r hr).2⟩⟩
structure RS (C : Ctx) (B : Base) (N : Nat) (E : Nat → Option V) (h : Nat → Option Blk) (β : Nat → Option Nat) (a : Act) (w : World) : Prop where
 size : a.tmps.size = N
 defers : MarksOk B.w0.heap.size w a.defers
 env : ∀ t v, E t = some v → ∃ x, a.tmps[t]? = some x ∧ Rel C.N w (Imm B.A w β h) β v x
 heap : HeapR B.A C.N w β h
 frm : Frm B.L0 B.w0 w
 own : ∀ b, Live β h b → B.w0.heap.size ≤ b ∨ B.L0 b
 keep : ∀ a, a < B.n0 → β a = B.β0 a
 glob : GlobR B.A C w β h
 rnd : ∀ l rec, B.rd = some (l, rec) → w.heap[l]? = some (.loop rec) ∧ ¬ Live β h l
section
variable {L : Lib} {C : Ctx} {B : Base} {N : Nat} {E : Nat → Option V} {h : Nat → Option Blk} {β : Nat → Option Nat} {a : Act} {w : World}
theorem RS.opd (hC : Ok L C) (r : RS C B N E h β a w) : OpdOk C w (Imm B.A w β h) β (opval L.G E) a := by
 intro x y v hx hy
 cases x with
 | tmp t =>
  simp [Tr.opd] at hx; subst hx
  obtain ⟨z, hz, hr⟩ := r.env t v hy
  simp only [Act.eval]
  rw [Array.getD_eq_getD_getElem?, hz]; exact hr
 | const c =>
  simp only [Tr.opd, Option.map_eq_some_iff] at hx
  obtain ⟨u, hu, rfl⟩ := hx
  simp [opval] at hy; subst hy
  exact V.of_rel c u hu
 | func f =>
  simp only [Tr.opd, Option.map_eq_some_iff] at hx
  obtain ⟨k, hk, rfl⟩ := hx
  simp [opval] at hy; subst hy
  exact .fn _ k f (C.fns f k hk) [] [] #[] #[] rfl rfl (fun i c y hc => by simp at hc) (fun i c y hc => by simp at hc)
 | global g =>
  simp only [Tr.opd, Option.map_eq_some_iff] at hx
  obtain ⟨k, hk, rfl⟩ := hx
  simp only [opval] at hy
  exact (r.glob g k v hk (by rw [hC.gl]; exact hy)).mono (fun _ h => h) (fun _ _ => rfl) (fun _ _ h => h) (fun _ _ h => by cases h)
theorem imm_frame {A : Nat → Prop} {β β' : Nat → Option Nat} {h h' : Nat → Option Blk} {w w' : World} (hf : Frm (Live β h) w w') (hl : ∀ b, Live β' h' b → w.heap.size ≤ b ∨ Live β h b) (b : Nat) (hb : Imm A w β h b) : Imm A w' β' h' b ∧ w'.heap[b]? = w.heap[b]? :=
 ⟨⟨Nat.lt_of_lt_of_le hb.lt hf.size, fun hl' => (hl b hl').elim (fun h1 => by have := hb.lt; omega) hb.free, hb.al, by rw [hf.block b hb.lt hb.free]; exact hb.arr⟩, hf.block b hb.lt hb.free⟩
theorem GlobR.step {A : Nat → Prop} {β β' : Nat → Option Nat} {h h' : Nat → Option Blk} {w w' : World} (hg : GlobR A C w β h) (hf : Frm (Live β h) w w') (hl : ∀ b, Live β' h' b → w.heap.size ≤ b ∨ Live β h b) : GlobR A C w' β' h' := fun g k v h1 h2 =>
 (hg g k v h1 h2).mono (fun b hb => (imm_frame hf hl b hb).1) (fun b hb => (imm_frame hf hl b hb).2) hf.room (fun _ _ h => h)
theorem RS.step (r : RS C B N E h β a w) {β' : Nat → Option Nat} {h' : Nat → Option Blk} {w' : World} (hβ : ∀ a b, β a = some b → β' a = some b) (hk : ∀ a, a < B.n0 → β' a = β a) (hh : HeapR B.A C.N w' β' h') (hl : ∀ b, Live β' h' b → w.heap.size ≤ b ∨ Live β h b) (hf : Frm (Live β h) w w')
    {dst : Option Nat} {v : Option V} {x : Value} (hv : ∀ v', v = some v' → Rel C.N w' (Imm B.A w' β' h') β' v' x) (hd : ∀ d, dst = some d → d < N) :
    RS C B N (fun t => if dst = some t then v else E t) h' β' (a.put dst x) w' := by
 refine ⟨?_, ?_, fun t u ht => ?_, hh, r.frm.trans hf r.own, fun b hb => ?_, fun i hi => (hk i hi).trans (r.keep i hi), r.glob.step hf hl, fun l rec hrd => ?_⟩
 ·cases dst with
  | none => exact r.size
  | some d => simp [Act.put, r.size]
 ·cases dst <;> exact r.defers.frm r.heap hf
 ·by_cases hdt : dst = some t
  ·rw [if_pos hdt] at ht
   subst hdt
   refine ⟨x, ?_, hv u ht⟩
   have := hd t rfl
   rw [← r.size] at this
   simp [Act.put, this]
  ·rw [if_neg hdt] at ht
   obtain ⟨y, hy, hr⟩ := r.env t u ht
   refine ⟨y, ?_, hr.mono (fun b hb => (imm_frame hf hl b hb).1) (fun b hb => (imm_frame hf hl b hb).2) hf.room hβ⟩
   cases dst with
   | none => exact hy
   | some d =>
    simp only [Act.put]
    rw [Array.getElem?_setIfInBounds_ne (fun e => hdt (by rw [e]))]; exact hy
 ·rcases hl b hb with h1 | h1
  ·left; exact Nat.le_trans r.frm.size h1
  ·exact r.own b h1
 ·obtain ⟨h1, h2⟩ := r.rnd l rec hrd
  have hlt := (Array.getElem?_eq_some_iff.1 h1).1
  exact ⟨(hf.block l hlt h2).trans h1, fun h3 => (hl l h3).elim (fun h4 => by omega) h2⟩
theorem HeapR.move {A : Nat → Prop} {N : Nums} {w w' : World} {β : Nat → Option Nat} {h : Nat → Option Blk} (hh : HeapR A N w β h) (X : Nat → Prop) (hX : ∀ b, X b → ¬ Live β h b ∧ ∀ c T f, w.heap[b]? ≠ some (.cells c T f))
    (hsame : ∀ b, b < w.heap.size → ¬ X b → w'.heap[b]? = w.heap[b]?) (hsz : w.heap.size ≤ w'.heap.size) :
    (∀ b, Imm A w β h b → Imm A w' β h b ∧ w'.heap[b]? = w.heap[b]?) ∧ (∀ b m, Room w b m → Room w' b m) ∧ HeapR A N w' β h := by
 have himm : ∀ b, Imm A w β h b → Imm A w' β h b ∧ w'.heap[b]? = w.heap[b]? := fun b hb => by
  have hx : ¬ X b := fun hx => by
   obtain ⟨c, T, f, hc⟩ := hb.arr
   exact (hX b hx).2 c T f hc
  have e := hsame b hb.lt hx
  exact ⟨⟨Nat.lt_of_lt_of_le hb.lt hsz, hb.free, hb.al, by rw [e]; exact hb.arr⟩, e⟩
 have hroom : ∀ b m, Room w b m → Room w' b m := fun b m ⟨cells, T, fz, h1, h2⟩ => by
  refine ⟨cells, T, fz, ?_, h2⟩
  rw [hsame b (Array.getElem?_eq_some_iff.1 h1).1 (fun hx => (hX b hx).2 _ _ _ h1)]; exact h1
 refine ⟨himm, hroom, ⟨fun a k hk => ?_, hh.inj⟩⟩
 obtain ⟨b, h1, h2, h3⟩ := hh.at' a k hk
 exact ⟨b, h1, Nat.lt_of_lt_of_le h2 hsz, h3.mono (hsame b h2 (fun hx => (hX b hx).1 ⟨a, by rw [hk]; simp, h1⟩)) (fun b hb => (himm b hb).1) (fun b hb => (himm b hb).2) hroom (fun _ _ h => h)⟩
theorem RS.move (r : RS C B N E h β a w) {w' : World} (X : Nat → Prop) (hX : ∀ b, X b → ¬ Live β h b ∧ ∀ c T f, w.heap[b]? ≠ some (.cells c T f))
    (hsame : ∀ b, b < w.heap.size → ¬ X b → w'.heap[b]? = w.heap[b]?) (hsz : w.heap.size ≤ w'.heap.size) (hX0 : ∀ b, X b → B.w0.heap.size ≤ b ∨ B.L0 b) (hXr : ∀ l rec, B.rd = some (l, rec) → ¬ X l)
    (ho : w'.os = w.os) (ht : w'.tape = w.tape) (hp : w'.output = w.output) {a' : Act} (ha : a'.tmps = a.tmps) (hd : MarksOk B.w0.heap.size w' a'.defers) : RS C B N E h β a' w' := by
 obtain ⟨himm, hroom, hh⟩ := r.heap.move X hX hsame hsz
 refine ⟨by rw [ha]; exact r.size, hd, fun t v hv => ?_, hh, ⟨ho.trans r.frm.os, ht.trans r.frm.tape, hp.trans r.frm.output, Nat.le_trans r.frm.size hsz, fun b hb hl => ?_, fun b m hm => hroom b m (r.frm.room b m hm)⟩, r.own, r.keep, fun g k v h1 h2 => ?_, fun l rec hrd => ?_⟩
 ·obtain ⟨x, hx, hr⟩ := r.env t v hv
  exact ⟨x, by rw [ha]; exact hx, hr.mono (fun b hb => (himm b hb).1) (fun b hb => (himm b hb).2) hroom (fun _ _ h => h)⟩
 ·rw [hsame b (Nat.lt_of_lt_of_le hb r.frm.size) (fun hx => (hX0 b hx).elim (fun h => by omega) hl)]
  exact r.frm.block b hb hl
 ·exact (r.glob g k v h1 h2).mono (fun b hb => (himm b hb).1) (fun b hb => (himm b hb).2) hroom (fun _ _ h => h)
 ·obtain ⟨h1, h2⟩ := r.rnd l rec hrd
  exact ⟨(hsame l (Array.getElem?_eq_some_iff.1 h1).1 (hXr l rec hrd)).trans h1, h2⟩
theorem HeapR.forget {A : Nat → Prop} {N : Nums} {w : World} {β : Nat → Option Nat} {h : Nat → Option Blk} (hh : HeapR A N w β h) (n : Nat) :
    (∀ b, Imm A w β h b → Imm A w β (fun a => if a = n then none else h a) b) ∧ HeapR A N w β (fun a => if a = n then none else h a) := by
 have hl : ∀ b, Live β (fun a => if a = n then none else h a) b → Live β h b := fun b ⟨a, h1, h2⟩ => by
  by_cases e : a = n
  ·simp [e] at h1
  ·simp only [e, if_false] at h1; exact ⟨a, h1, h2⟩
 have himm : ∀ b, Imm A w β h b → Imm A w β (fun a => if a = n then none else h a) b := fun b hb => ⟨hb.lt, fun h => hb.free (hl b h), hb.al, hb.arr⟩
 refine ⟨himm, ⟨fun a k hk => ?_, fun a a' b h1 h2 h3 h4 => ?_⟩⟩
 ·by_cases e : a = n
  ·simp [e] at hk
  ·simp only [e, if_false] at hk
   obtain ⟨b, h1, h2, h3⟩ := hh.at' a k hk
   exact ⟨b, h1, h2, h3.mono rfl himm (fun _ _ => rfl) (fun _ _ h => h) (fun _ _ h => h)⟩
 ·by_cases e : a = n
  ·simp [e] at h1
  ·by_cases e' : a' = n
   ·simp [e'] at h2
   ·simp only [e, e', if_false] at h1 h2; exact hh.inj a a' b h1 h2 h3 h4
theorem RS.forget (r : RS C B N E h β a w) (n : Nat) : RS C B N E (fun a => if a = n then none else h a) β a w := by
 obtain ⟨himm, hh⟩ := r.heap.forget n
 have hl : ∀ b, Live β (fun a => if a = n then none else h a) b → Live β h b := fun b ⟨a, h1, h2⟩ => by
  by_cases e : a = n
  ·simp [e] at h1
  ·simp only [e, if_false] at h1; exact ⟨a, h1, h2⟩
 exact ⟨r.size, r.defers, fun t v hv => let ⟨x, hx, hr⟩ := r.env t v hv; ⟨x, hx, hr.mono himm (fun _ _ => rfl) (fun _ _ h => h) (fun _ _ h => h)⟩, hh, r.frm, fun b hb => r.own b (hl b hb), r.keep,
  fun g k v h1 h2 => (r.glob g k v h1 h2).mono himm (fun _ _ => rfl) (fun _ _ h => h) (fun _ _ h => h), fun l rec hrd => ⟨(r.rnd l rec hrd).1, fun h => (r.rnd l rec hrd).2 (hl l h)⟩⟩
structure Rec where
 dst : Option Nat
 looks : List Nat
 v : Option V
 need : List Nat
 eff : List (Nat × Option Blk)
 slot : Nat
 k : Nat
def Rec.env (r : Rec) (E : Nat → Option V) (t : Nat) : Option V := if r.dst = some t then r.v else E t
def Rec.heap (r : Rec) (h : Nat → Option Blk) (a : Nat) : Option Blk := match r.eff.find? (fun p => p.1 == a) with | some p => p.2 | none => h a
def RecOk (C : Ctx) (N : Nat) (ops : Array Oper) (o : Oper) (r : Rec) (E0 : Nat → Option V) (h0 : Nat → Option Blk) : Prop :=
 ∀ (B : Base) (E : Nat → Option V) (h : Nat → Option Blk) (β : Nat → Option Nat) (a : Act) (w : World), (∀ t ∈ r.looks, E t = E0 t) → (∀ a ∈ r.need, h a = h0 a) → (∀ i, r.slot ≤ i → i < r.slot + r.k → β i = none) → B.n0 ≤ r.slot → RS C B N E h β a w →
  ∀ (K : Act → World → Prop) (Q : Exit → Act → World → Prop), (∀ a' w' β', (∀ i, ¬ (r.slot ≤ i ∧ i < r.slot + r.k) → β' i = β i) → RS C B N (r.env E) (r.heap h) β' a' w' → K a' w') →
   if Region.wanted o (yielded ops a.tmps) then o.wpIn B.fw 0 C.T.P a w K Q else K (a.put o.dst undef) w
def AI.looks (i : AI) : List Nat := i.op.opds.flatMap AOpd.tmps ++ (match i.guard with | some (t, _) => [t] | none => [])
def AI.goes (i : AI) (E : Nat → Option V) : Option Bool :=
 match i.guard with
 | none => some true
 | some (t, want) => match E t with | some (.bool b) => some (b == want) | some (.tup []) => some false | _ => none
def Eff.all (e : Eff) (n : Nat) : List (Nat × Option Blk) := (e.new.zipIdx.map fun p => (n + p.2, some p.1)) ++ e.upd
theorem find_zip (l : List Blk) (n a : Nat) : ∀ st, ((l.zipIdx st).map fun p => (n + p.2, some p.1)).find? (fun p => p.1 == a) = if n + st ≤ a ∧ a < n + st + l.length then (l[a - (n + st)]?).map (fun k => (a, some k)) else none := by
 induction l with
 | nil => intro st; simp
 | cons x l ih =>
  intro st
  rw [List.zipIdx_cons, List.map_cons, List.find?_cons]
  by_cases h1 : n + st = a
  ·subst h1
   simp
  ·have : (((n + (x, st).2, some (x, st).1) : Nat × Option Blk).1 == a) = false := by simp [h1]
   rw [this, ih (st + 1)]
   simp only [List.length_cons]
   by_cases h2 : n + (st + 1) ≤ a ∧ a < n + (st + 1) + l.length
   ·rw [if_pos h2, if_pos (by omega), show a - (n + st) = a - (n + (st + 1)) + 1 by omega]; simp
   ·rw [if_neg h2]
    by_cases h3 : n + st ≤ a ∧ a < n + st + (l.length + 1)
    ·omega
    ·rw [if_neg h3]
theorem Eff.all_heap (e : Eff) (n : Nat) (h : Nat → Option Blk) (a : Nat) : (match (e.all n).find? (fun p => p.1 == a) with | some p => p.2 | none => h a) = e.heap n h a := by
 unfold Eff.all Eff.heap
 rw [List.find?_append, find_zip e.new n a 0]
 by_cases h1 : n ≤ a ∧ a < n + e.new.length
 ·have h2 : n + 0 ≤ a ∧ a < n + 0 + e.new.length := by omega
  rw [if_pos h1, if_pos h2]
  have h3 : e.new[a - n]? = some (e.new[a - n]'(by omega)) := List.getElem?_eq_getElem (by omega)
  rw [Nat.add_zero, h3]; rfl
 ·have h2 : ¬ (n + 0 ≤ a ∧ a < n + 0 + e.new.length) := by omega
  rw [if_neg h1, if_neg h2]; rfl
theorem Tr.oper_spec {T : Tr} {nt : Nat} {ops : Array Oper} {draw : Bool} {i : Nat} {o : Oper} {ai : AI} (h : T.oper nt ops draw i o = some ai) :
    (ai.op ≠ .no → T.op o.op = some ai.op ∨ T.xop o.op = some ai.op) ∧ ai.dst = o.dst ∧ (∀ d, o.dst = some d → d < nt) ∧ (draw = true → ai.anc = Tr.deps o) ∧ (∀ d ∈ Tr.deps o, d < i) ∧
     (match o.guard with | none => ai.guard = none | some (j, want) => ∃ t, (ops[j]?).bind (·.dst) = some t ∧ ai.guard = some (t, want)) ∧ (ai.op.isCall = true → Tr.isFnCall o.op = true) := by
 obtain ⟨dst, op, ty, pos, aft, g⟩ := o
 unfold Tr.oper at h
 simp only [Option.bind_eq_some_iff] at h
 obtain ⟨op', hop, g', hg, h⟩ := h
 simp only [Option.some.injEq] at hop
 rw [Option.ite_none_right_eq_some] at h
 obtain ⟨hc, h⟩ := h
 simp only [Option.some.injEq] at h
 subst h
 rw [Bool.and_eq_true, Bool.and_eq_true, List.all_eq_true] at hc
 obtain ⟨hc, hcall⟩ := hc
 refine ⟨fun hne => ?_, rfl, fun d hd => ?_, fun hd => by simp [hd], fun d hd => by simpa using hc.2 d hd, ?_, fun hi => ?_⟩
 ·cases hq : T.op op with
  | some a => rw [hq] at hop; simp at hop; rw [hop]; exact .inl rfl
  | none =>
   rw [hq] at hop
   right
   cases hx : T.xop op with
   | some a => rw [hx] at hop; simp at hop; rw [hop]
   | none => rw [hx] at hop; simp at hop; exact absurd hop.symm hne
 ·simp only at hd
  subst hd
  simpa using hc.1
 ·cases g with
  | none => simp at hg; simp [hg]
  | some jw =>
   obtain ⟨j, want⟩ := jw
   simp only [Option.map_eq_some_iff] at hg
   obtain ⟨t, ht, rfl⟩ := hg
   exact ⟨t, ht, rfl⟩
 ·simp only at hi
  rw [hi] at hcall
  simpa using hcall
theorem goes_wanted {nt : Nat} {ops : Array Oper} {draw : Bool} {i : Nat} {o : Oper} {ai : AI} (hai : C.T.oper nt ops draw i o = some ai) (r : RS C B N E h β a w) {b : Bool} (hb : ai.goes E = some b) : Region.wanted o (yielded ops a.tmps) = b := by
 obtain ⟨_, _, _, _, _, hg, _⟩ := Tr.oper_spec hai
 unfold AI.goes at hb
 unfold Region.wanted
 cases hq : o.guard with
 | none => rw [hq] at hg; simp only at hg; rw [hg] at hb; simpa using hb
 | some jw =>
  obtain ⟨j, want⟩ := jw
  rw [hq] at hg
  obtain ⟨t, ht, hgt⟩ := hg
  rw [hgt] at hb
  simp only at hb
  split at hb
  ·rename_i b' hE
   simp only [Option.some.injEq] at hb
   obtain ⟨x, hx, hr⟩ := r.env t _ hE
   cases hr
   have : yielded ops a.tmps j = some b' := by
    unfold yielded
    rw [ht, Option.bind_some, hx]
   simp only [this]
   rw [← hb]
   cases b' <;> cases want <;> rfl
  ·rename_i hE
   simp only [Option.some.injEq] at hb
   obtain ⟨x, hx, hr⟩ := r.env t _ hE
   cases hr
   have : yielded ops a.tmps j = none := by
    unfold yielded
    rw [ht, Option.bind_some, hx]
   simp only [this]
   rw [← hb]
   rfl
  ·cases hb
theorem xkind_run {P : Program} {fn : Func} {k f : Nat} (hf : P.funcs[f]? = some fn) (hk : Tr.xkind fn = some k) (s : ByteArray) (c : Int) {r : V} (hr : xfnV k (.str s.data.toList) (.int .u8 c) = some r) (w : World) : ∃ z : Int, r = .int .i64 z ∧ (callFunc f #[.string s, .int .u8 c]).run P w = .ok (.value (.int .i64 z)) w := by
 unfold Tr.xkind at hk
 split at hk
 ·rename_i hb
  rw [Bool.and_eq_true] at hb
  obtain ⟨hb, ho⟩ := hb
  have ho : fn.origin = "" := by simpa using ho
  split at hk
  ·rename_i hn
   have hn : fn.name = "internal/bytealg.CountString" := by simpa using hn
   cases hk
   cases hr
   refine ⟨_, rfl, ?_⟩
   rw [run_callFunc_extern hf (by rw [hn]; rfl) hb (e := Extern.BytealgCount.count) (by unfold Extern.findNext; rw [hn, ho]; rfl) (by unfold Extern.find; rw [hn, ho]; rfl), Lib.run_countString]
   rfl
  ·split at hk
   ·rename_i hn
    have hn : fn.name = "internal/bytealg.IndexByteString" := by simpa using hn
    cases hk
    cases hr
    refine ⟨_, rfl, ?_⟩
    rw [run_callFunc_extern hf (by rw [hn]; rfl) hb (e := Extern.BytealgIndexByte.indexByte) (by unfold Extern.findNext; rw [hn, ho]; rfl) (by unfold Extern.find; rw [hn, ho]; rfl), Lib.run_indexByteString]
    rfl
   ·cases hk
 ·cases hk
theorem exec_soundX {A : Nat → Prop} {w : World} {β : Nat → Option Nat} {h : Nat → Option Blk} {a : Act} {n : Nat} {ρ : AOpd → Option V} (hh : HeapR A C.N w β h) (ho : OpdOk C w (Imm A w β h) β ρ a) {o : Oper} {ao : AOp} (hop : C.T.op o.op = some ao ∨ C.T.xop o.op = some ao) {e : Eff} (he : ao.exec n h ρ = some e) (hn : e.new ≠ [] → β n = none) (hhn : e.new ≠ [] → h n = none) : Runs A C w β h n e (execOp a.eval o) := by
 rcases hop with hop | hop
 ·exact exec_sound hh ho hop he hn hhn
 ·unfold Tr.xop at hop
  split at hop
  ·rename_i c hc
   split at hop
   ·rename_i f x y hcal hargs
    simp only [Option.bind_eq_some_iff, Option.map_eq_some_iff] at hop
    obtain ⟨k, hxk, ax, hax, ay, hay, rfl⟩ := hop
    obtain ⟨fn, hfn, hk⟩ := C.xks f k hxk
    unfold AOp.exec AOp.exec0 at he
    obtain ⟨vx, hvx, he⟩ := Option.bind_eq_some_iff.1 he
    obtain ⟨vy, hvy, he⟩ := Option.bind_eq_some_iff.1 he
    obtain ⟨v, hv, he⟩ := Option.bind_eq_some_iff.1 he
    cases he
    have hx := ho x ax vx hax hvx
    have hy := ho y ay vy hay hvy
    have hform : ∃ s c, vx = .str s ∧ vy = .int .u8 c := by
     unfold xfnV at hv
     split at hv <;> first | exact ⟨_, _, rfl, rfl⟩ | cases hv
    obtain ⟨s, c', rfl, rfl⟩ := hform
    generalize hX : a.eval x = X at hx
    generalize hY : a.eval y = Y at hy
    cases hx
    cases hy
    rename_i bs
    obtain ⟨z, rfl, hrun⟩ := xkind_run hfn hk _ _ hv w
    have hargs' : c.args = #[x, y] := by apply Array.ext'; simp [hargs]
    refine ⟨.int .i64 z, w, .inl ?_, effOk_same hh rfl rfl rfl rfl rfl rfl (.int _ _ _)⟩
    unfold execOp
    rw [hc]
    dsimp only
    unfold resolve
    rw [hcal, hargs']
    simp only [List.map_toArray, List.map_cons, List.map_nil, hX, hY]
    exact hrun
   ·cases hop
  ·cases hop
def AI.plain (G : Nat → Option V) (i : AI) (slot : Nat) (E : Nat → Option V) (h : Nat → Option Blk) : Option Rec :=
 match i.goes E with
 | some false => some { dst := i.dst, looks := i.looks, v := some (.tup []), need := [], eff := [], slot, k := 0 }
 | some true => (i.op.exec slot h (opval G E)).map fun e => { dst := i.dst, looks := i.looks, v := some e.v, need := e.need, eff := e.all slot, slot, k := e.new.length }
 | none => none
theorem looks_opd {ai : AI} {E E0 : Nat → Option V} (G : Nat → Option V) (h : ∀ t ∈ ai.looks, E t = E0 t) : ∀ x ∈ ai.op.opds, opval G E x = opval G E0 x := fun x hx => by
 cases x with
 | t n => exact h n (List.mem_append_left _ (List.mem_flatMap.2 ⟨_, hx, by simp [AOpd.tmps]⟩))
 | _ => rfl
theorem looks_goes {ai : AI} {E E0 : Nat → Option V} (h : ∀ t ∈ ai.looks, E t = E0 t) : ai.goes E = ai.goes E0 := by
 unfold AI.goes
 cases hq : ai.guard with
 | none => rfl
 | some tw =>
  obtain ⟨t, want⟩ := tw
  have : E t = E0 t := h t (List.mem_append_right _ (by rw [hq]; simp))
  simp only [this]
theorem plain_ok (hC : Ok L C) {nt : Nat} {ops : Array Oper} {draw : Bool} {i : Nat} {o : Oper} {ai : AI} (hai : C.T.oper nt ops draw i o = some ai) {slot : Nat} {E0 : Nat → Option V} {h0 : Nat → Option Blk} {r : Rec} (hr : ai.plain L.G slot E0 h0 = some r) : RecOk C nt ops o r E0 h0 := by
 intro B E h β a w hE hh hs hn0 rs K Q hK
 obtain ⟨hop, hdst, hdn, _, _, _, _⟩ := Tr.oper_spec hai
 unfold AI.plain at hr
 split at hr
 ·rename_i hg
  simp only [Option.some.injEq] at hr
  subst hr
  have hg' : ai.goes E = some false := by rw [looks_goes hE]; exact hg
  rw [goes_wanted hai rs hg']
  simp only [Bool.false_eq_true, if_false]
  refine hK _ _ β (fun _ _ => rfl) ?_
  rw [← hdst]
  have := rs.step (β' := β) (h' := h) (w' := w) (dst := ai.dst) (v := some (.tup [])) (x := undef) (fun _ _ h => h) (fun _ _ => rfl) rs.heap (fun _ h => .inr h) (Frm.refl _ _) (fun v' hv => by cases hv; exact .tup β [] #[] rfl (fun i c y hc => by simp at hc)) (fun d hd => hdn d (by rw [← hdst]; exact hd))
  exact this
 ·rename_i hg
  simp only [Option.map_eq_some_iff] at hr
  obtain ⟨e, he, rfl⟩ := hr
  have hg' : ai.goes E = some true := by rw [looks_goes hE]; exact hg
  rw [goes_wanted hai rs hg']
  simp only [if_true]
  have he' : ai.op.exec slot h (opval L.G E) = some e := by
   have h1 := exec_rho slot h0 ai.op (looks_opd L.G hE)
   exact exec_get (by rw [h1]; exact he) hh
  have hnone : ∀ i, slot ≤ i → i < slot + e.new.length → β i = none ∧ h i = none := fun i h1 h2 => by
   have h3 := hs i h1 h2
   refine ⟨h3, ?_⟩
   cases hq : h i with
   | none => rfl
   | some k => obtain ⟨b, hb, _⟩ := rs.heap.at' i k hq; rw [h3] at hb; cases hb
  have hne : e.new ≠ [] → slot < slot + e.new.length := fun hne => by
   have := List.length_pos_iff.2 hne; omega
  have hop := hop (fun hno => by rw [hno] at he'; simp [AOp.exec, AOp.exec0] at he')
  obtain ⟨x, w', hrun, β', g1, g2, g3, g4, g5⟩ := exec_soundX rs.heap (rs.opd hC) hop he' (fun hne' => (hnone slot (Nat.le_refl _) (hne hne')).1) (fun hne' => (hnone slot (Nat.le_refl _) (hne hne')).2)
  have hheap : ({ dst := ai.dst, looks := ai.looks, v := some e.v, need := e.need, eff := e.all slot, slot := slot, k := e.new.length } : Rec).heap h = e.heap slot h := by
   funext q; exact Eff.all_heap e slot h q
  have hfin : K (a.put o.dst x) w' := by
   refine hK _ _ β' (fun i hi => g1 i hi) ?_
   rw [hheap, ← hdst]
   exact rs.step (v := some e.v) (fun q b hq => by
    by_cases hin : slot ≤ q ∧ q < slot + e.new.length
    ·rw [(hnone q hin.1 hin.2).1] at hq; cases hq
    ·rw [g1 q hin]; exact hq) (fun q hq => g1 q (by have : B.n0 ≤ slot := hn0; omega)) g2 g4 g5 (fun v' hv' => by cases hv'; exact g3) (fun d hd => hdn d (by rw [← hdst]; exact hd))
  unfold Oper.wpIn
  refine ⟨fun _ _ => trivial, ?_⟩
  rw [Oper.semAt_eq _ _ _ (fun c hc => by rw [hc] at hop; simp [Tr.op, Tr.xop] at hop)]
  rcases hrun with hrun | ⟨hrun, hx⟩
  ·rw [hrun]; exact hfin
  ·rw [hrun]; rw [hx] at hfin; exact hfin
 ·cases hr
end
end Go.Proofs.YtigdhgbkgfagiaaGreat
