/- AL: regions whose order is the text's; calls. -/
import Derived.Test.YtigdhgbkgfagiaaGreatZAlK
set_option linter.unusedVariables false
namespace Go.Proofs.YtigdhgbkgfagiaaGreat
theorem Env.get_set (E : Env) (t : Nat) (v : V) (t' : Nat) : (E.set t v).get t' = if t = t' then some v else E.get t' := by
 induction E with
 | nil =>
  simp only [Env.set, Env.get]
  by_cases h : t = t'
  ·simp [h]
  ·have : (t == t') = false := by simp [h]
   simp [h, this]
 | cons p r ih =>
  obtain ⟨k, u⟩ := p
  simp only [Env.set]
  by_cases h1 : k = t
  ·subst h1
   simp only [beq_self_eq_true, cond_true, Env.get]
   by_cases h : k = t'
   ·simp [h]
   ·have : (k == t') = false := by simp [h]
    simp [h, this]
  ·have e1 : (k == t) = false := by simp [h1]
   rw [e1, cond_false]
   cases h2 : t.blt k with
   | true =>
    simp only [cond_true, Env.get]
    by_cases h : t = t'
    ·simp [h]
    ·have : (t == t') = false := by simp [h]
     simp [h, this]
   | false =>
    simp only [cond_false, Env.get, ih]
    by_cases h : k = t'
    ·subst h
     have : ¬ t = k := fun e => h1 e.symm
     simp [this]
    ·have : (k == t') = false := by simp [h]
     rw [this, cond_false, cond_false]
theorem Env.get_kill (E : Env) (ks : List Nat) (t : Nat) : (E.kill ks).get t = if ks.contains t then none else E.get t := by
 induction E with
 | nil => simp [Env.kill, Env.get]
 | cons p r ih =>
  obtain ⟨k, u⟩ := p
  unfold Env.kill at ih ⊢
  rw [List.filter_cons]
  by_cases h1 : ks.contains k = true
  ·simp only [h1, Bool.not_true, Bool.false_eq_true, if_false, ih, Env.get]
   by_cases h : k = t
   ·subst h; rw [if_pos h1, if_pos h1]
   ·have : (k == t) = false := by simp [h]
    rw [this, cond_false]
  ·simp only [h1, Bool.not_false, if_true, Env.get, ih]
   by_cases h : k = t
   ·subst h
    simp only [beq_self_eq_true, cond_true]
    rw [if_neg h1]
   ·have : (k == t) = false := by simp [h]
    rw [this, cond_false, cond_false]
theorem Env.get_put (E : Env) (d : Option Nat) (v : V) (t : Nat) : (E.put d v).get t = if d = some t then some v else E.get t := by
 cases d with
 | none => rfl
 | some d => simp only [Env.put, Env.get_set, Option.some.injEq]
def Heap.upds (H : Heap) : List (Nat × Option Blk) → Heap
 | [] => H
 | (a, k) :: r => (Heap.upds H r).set a k
def Heap.app (H : Heap) (e : Eff) : Heap := Heap.upds H e.upd ++ e.new.map some
theorem Heap.upds_length (H : Heap) : ∀ u, (Heap.upds H u).length = H.length
 | [] => rfl
 | (a, k) :: r => by simp [Heap.upds, Heap.upds_length H r]
theorem Heap.upds_get (H : Heap) : ∀ (u : List (Nat × Option Blk)), (∀ p ∈ u, p.1 < H.length) → ∀ a, (Heap.upds H u).get a = match u.find? (fun p => p.1 == a) with | some p => p.2 | none => H.get a
 | [], _, a => rfl
 | (b, k) :: r, h, a => by
  have ih := Heap.upds_get H r (fun p hp => h p (by simp [hp])) a
  have hb : b < H.length := h (b, k) (by simp)
  unfold Heap.get at ih ⊢
  simp only [Heap.upds, List.getElem?_set, Heap.upds_length]
  rw [List.find?_cons]
  by_cases e : b = a
  ·subst e; simp [hb]
  ·have : (b == a) = false := by simp [e]
   simp only [this, e, if_false]
   exact ih
theorem Heap.app_get (H : Heap) (e : Eff) (h : ∀ p ∈ e.upd, p.1 < H.length) : (H.app e).get = e.heap H.length H.get := by
 funext a
 have h1 := Heap.upds_get H e.upd h a
 unfold Heap.app Eff.heap
 unfold Heap.get at h1 ⊢
 by_cases h2 : H.length ≤ a ∧ a < H.length + e.new.length
 ·rw [if_pos h2, List.getElem?_append_right (by rw [Heap.upds_length]; exact h2.1), Heap.upds_length, List.getElem?_map]
  have : e.new[a - H.length]? = some (e.new[a - H.length]'(by omega)) := List.getElem?_eq_getElem (by omega)
  rw [this]; rfl
 ·rw [if_neg h2]
  by_cases h3 : a < H.length
  ·rw [List.getElem?_append_left (by rw [Heap.upds_length]; exact h3)]; exact h1
  ·have hlen : (Heap.upds H e.upd ++ e.new.map some).length ≤ a := by
     rw [List.length_append, Heap.upds_length, List.length_map]; omega
   rw [List.getElem?_eq_none hlen]
   rw [List.getElem?_eq_none (by rw [Heap.upds_length]; omega)] at h1
   exact h1
theorem Heap.app_length (H : Heap) (e : Eff) : (H.app e).length = H.length + e.new.length := by simp [Heap.app, Heap.upds_length]
structure RSL (C : Ctx) (B : Base) (N : Nat) (E : Env) (H : Heap) (β : Nat → Option Nat) (a : Act) (w : World) : Prop where
 rs : RS C B N E.get H.get β a w
 dom : ∀ i, H.length ≤ i → β i = none
 n0 : B.n0 ≤ H.length
def RSx (C : Ctx) (B : Base) (N : Nat) (E : Env) (H : Heap) (a : Act) (w : World) : Prop := ∃ β, RSL C B N E H β a w
section
variable {L : Lib} {C : Ctx} {B : Base} {N : Nat}
theorem RSL.sub {E E' : Env} {H : Heap} {β : Nat → Option Nat} {a : Act} {w : World} (r : RSL C B N E H β a w) (h : ∀ t v, E'.get t = some v → E.get t = some v) : RSL C B N E' H β a w :=
 ⟨⟨r.rs.size, r.rs.defers, fun t v hv => r.rs.env t v (h t v hv), r.rs.heap, r.rs.frm, r.rs.own, r.rs.keep, r.rs.glob, r.rs.rnd⟩, r.dom, r.n0⟩
def callee (G : Nat → Option V) (E : Nat → Option V) (c : ACallee) (args : List AOpd) : Option (Tgt × List V) :=
 (evals (opval G E) args).bind fun vs =>
 match c with
 | .fn k => some (.fn k, vs)
 | .dyn x => match opval G E x with | some (.fn k fs cs) => some (.fn k, fs ++ vs ++ cs) | some (.yld a) => some (.yl a, vs) | _ => none
 | .meth x tab => match opval G E x with | some (.iface t v) => (lookN tab t).map fun k => (.fn k, v :: vs) | _ => none
def CallP (L : Lib) (E : Nat → Option V) (H : Heap) (c : ACallee) (args : List AOpd) (Post : V → Heap → Prop) : Prop :=
 match callee L.G E c args with
 | some (k, vs) => AFn L k vs H Post
 | none => False
def stepP (L : Lib) (i : AI) (K : Env → Heap → Prop) (E : Env) (H : Heap) : Prop :=
 match i.goes E.get with
 | some false => K (E.put i.dst (.tup [])) H
 | some true =>
  match i.op with
  | .call c args => CallP L E.get H c args (fun r H' => K (E.put i.dst r) H')
  | .mnext x => match (opval L.G E.get x).bind (nextE H.get) with | some l => ∀ e ∈ l, (e.upd.all fun p => Nat.blt p.1 H.length) = true ∧ K (E.put i.dst e.v) (H.app e) | none => False
  | op => match op.exec H.length H.get (opval L.G E.get) with | some e => (e.upd.all fun p => Nat.blt p.1 H.length) = true ∧ K (E.put i.dst e.v) (H.app e) | none => False
 | none => False
def opsP (L : Lib) : List AI → (Env → Heap → Prop) → Env → Heap → Prop
 | [], K, E, H => K E H
 | i :: l, K, E, H => stepP L i (opsP L l K) E H
theorem rargs_of {E : Nat → Option V} {h : Nat → Option Blk} {β : Nat → Option Nat} {a : Act} {w : World} (hC : Ok L C) (r : RS C B N E h β a w) {xs : List Operand} {ys : List AOpd} {vs : List V} (h1 : C.T.opds xs = some ys) (h2 : evals (opval L.G E) ys = some vs) : RArgs C w (Imm B.A w β h) β vs (xs.map a.eval).toArray := by
 obtain ⟨g1, g2⟩ := evals_rel (r.opd hC) h1 h2
 exact ⟨by simp [g1], fun i v x hv hx => g2 i v x hv (by simpa using hx)⟩
theorem run_callFunc (hC : Ok L C) {k : Nat} {fid : FuncId} (hk : C.N.ν k = some fid) (vs : Array Value) (w : World) : (callFunc fid vs).run C.T.P w = .ok (.enter fid vs) w := by
 obtain ⟨f, h1, h2, h3⟩ := hC.body k fid hk
 have h4 : ¬ (f.name = "runtime.NumGoroutine") := by simpa using h3
 cases hb : f.body with
 | none => rw [hb] at h2; cases h2
 | some _ => simp [callFunc, h1, hb, h4]
theorem lookN_mem : ∀ {l : List (Nat × Nat)} {t k : Nat}, lookN l t = some k → (t, k) ∈ l
 | [], t, k, h => by simp [lookN] at h
 | p :: r, t, k, h => by
  simp only [lookN] at h
  cases hb : Nat.beq p.1 t with
  | true =>
   rw [hb, cond_true] at h
   simp at h
   have := Nat.eq_of_beq_eq_true hb
   subst this; subst h; simp
  | false => rw [hb, cond_false] at h; exact List.mem_cons_of_mem _ (lookN_mem h)
theorem run_method {T : Tr} {t : TypeId} {name : String} {k : Nat} (h : T.methOf t name = some k) : ∃ f, T.fns f = some k ∧ ∀ (n : Nat) (v : Value) (w : World), (Go.method (n + 1) t v name).run T.P w = .ok (f, v) w := by
 unfold Tr.methOf at h
 simp only [Option.bind_eq_some_iff] at h
 obtain ⟨i, hi, m, hm, h⟩ := h
 split at h
 ·rename_i f e hp hf hu
  refine ⟨f, h, fun n v w => ?_⟩
  unfold Go.method
  rw [Sem.run_bind, run_info' hi w, Result.andThen_ok]
  simp only [hm, hp]
  simp [follow, hf, receiverAt, run_underlying hu, Place.get, Sem.run_bind]
 ·cases h
 ·rename_i f d hneg hp hf hu
  refine ⟨f, h, fun n v w => ?_⟩
  unfold Go.method
  rw [Sem.run_bind, run_info' hi w, Result.andThen_ok]
  simp only [hm, hp]
  cases d <;> first | (exact (hneg _ rfl).elim) | simp [follow, hf, receiverAt, run_underlying hu, Place.get, Sem.run_bind]
 ·cases h
def Enters (C : Ctx) (β : Nat → Option Nat) (t : Tgt) (xs : Array Value) (o : Oper) (a : Act) (w : World) : Prop :=
 match t with
 | .fn k => ∃ fid, C.N.ν k = some fid ∧ (execOp a.eval o).run C.T.P w = .ok (.enter fid xs) w
 | .yl q => ∃ l, β q = some l ∧ (execOp a.eval o).run C.T.P w = (Instr.yield l xs).run C.T.P w
theorem call_resolves (hC : Ok L C) {E : Nat → Option V} {h : Nat → Option Blk} {β : Nat → Option Nat} {a : Act} {w : World} (r : RS C B N E h β a w) {o : Oper} {c : ACallee} {args : List AOpd} (hop : C.T.op o.op = some (.call c args)) (hfc : Tr.isFnCall o.op = true) {t : Tgt} {vs : List V} (hP : callee L.G E c args = some (t, vs)) :
    ∃ (xs : Array Value), RArgs C w (Imm B.A w β h) β vs xs ∧ Enters C β t xs o a w := by
 cases hq : o.op with
 | call cl =>
  rw [hq] at hop
  simp only [Tr.op] at hop
  have hexec : execOp a.eval o = (do let d ← resolve a.eval cl o.type; invoke d.target d.args) := by unfold execOp; rw [hq]
  unfold callee at hP
  simp only [Option.bind_eq_some_iff] at hP
  obtain ⟨vs', hvs, hP⟩ := hP
  split at hop
  ·rename_i b hcal
   rw [hq] at hfc
   simp [Tr.isFnCall, hcal] at hfc
  ·rename_i f hcal
   simp only [Option.bind_eq_some_iff, Option.map_eq_some_iff] at hop
   obtain ⟨k', hk, ys, hys, hop⟩ := hop
   injection hop with e1 e2
   subst e1; subst e2
   simp only [Option.some.injEq, Prod.mk.injEq] at hP
   obtain ⟨rfl, rfl⟩ := hP
   have hra := rargs_of hC r hys hvs
   have e3 : (cl.args.toList.map a.eval).toArray = cl.args.map a.eval := by apply Array.ext'; simp
   rw [e3] at hra
   refine ⟨_, hra, f, C.fns f k' hk, ?_⟩
   have : (resolve a.eval cl o.type) = pure { target := .fn (.func f) #[], args := #[] ++ cl.args.map a.eval } := by
    unfold resolve; rw [hcal]; rfl
   rw [hexec, this, pure_bind]
   simp only [invoke, Array.append_empty, Array.empty_append]
   exact run_callFunc hC (C.fns f k' hk) _ w
  ·rename_i f hnf hcal
   simp only [Option.bind_eq_some_iff, Option.map_eq_some_iff] at hop
   obtain ⟨x, hx, ys, hys, hop⟩ := hop
   injection hop with e1 e2
   subst e1; subst e2
   simp only at hP
   split at hP
   ·rename_i k' fs cs hfv
    simp only [Option.some.injEq, Prod.mk.injEq] at hP
    obtain ⟨rfl, rfl⟩ := hP
    have hra := rargs_of hC r hys hvs
    have e3 : (cl.args.toList.map a.eval).toArray = cl.args.map a.eval := by apply Array.ext'; simp
    rw [e3] at hra
    have hfr := r.opd hC f x _ hx hfv
    generalize hfe : a.eval f = q at hfr
    cases hfr with
    | fn _ _ fid hf _ _ ys zs h1 h2 hy hz =>
     refine ⟨ys ++ cl.args.map a.eval ++ zs, ?_, fid, hf, ?_⟩
     ·refine ⟨by simp [h1, h2, hra.1], fun i v y hv hx => ?_⟩
      have hlen := hra.1
      rw [List.getElem?_append] at hv
      rw [Array.getElem?_append] at hx
      simp only [List.length_append, Array.size_append] at hv hx
      by_cases c1 : i < fs.length + vs'.length
      ·rw [if_pos c1] at hv
       rw [if_pos (by omega)] at hx
       rw [List.getElem?_append] at hv
       rw [Array.getElem?_append] at hx
       by_cases c2 : i < fs.length
       ·rw [if_pos c2] at hv
        rw [if_pos (by omega)] at hx
        exact hy i v y hv hx
       ·rw [if_neg c2] at hv
        rw [if_neg (by omega), h1] at hx
        exact hra.2 _ v y hv hx
      ·rw [if_neg c1] at hv
       rw [if_neg (by omega), h1, hlen] at hx
       exact hz _ v y hv hx
     ·have : (resolve a.eval cl o.type) = pure { target := .fn (.func fid) zs, args := ys ++ cl.args.map a.eval } := by
        unfold resolve; rw [hcal]; simp only [hfe]; rfl
      rw [hexec, this, pure_bind]
      simp only [invoke]
      exact run_callFunc hC hf _ w
   ·rename_i q hfv
    simp only [Option.some.injEq, Prod.mk.injEq] at hP
    obtain ⟨rfl, rfl⟩ := hP
    have hra := rargs_of hC r hys hvs
    have e3 : (cl.args.toList.map a.eval).toArray = cl.args.map a.eval := by apply Array.ext'; simp
    rw [e3] at hra
    have hfr := r.opd hC f x _ hx hfv
    generalize hfe : a.eval f = q' at hfr
    cases hfr with
    | yld _ _ l hl =>
     refine ⟨cl.args.map a.eval, hra, l, hl, ?_⟩
     have : (resolve a.eval cl o.type) = pure { target := .fn (.yield l) #[], args := #[] ++ cl.args.map a.eval } := by
      unfold resolve; rw [hcal]; simp only [hfe]; rfl
     rw [hexec, this, pure_bind]
     simp only [invoke, Array.empty_append]
   ·cases hP
  ·rename_i rcv name hcal
   simp only [Option.bind_eq_some_iff, Option.map_eq_some_iff] at hop
   obtain ⟨x, hx, ys, hys, hop⟩ := hop
   injection hop with e1 e2
   subst e1; subst e2
   simp only at hP
   split at hP
   ·rename_i ti v hfv
    simp only [Option.map_eq_some_iff] at hP
    obtain ⟨k', hk', hP⟩ := hP
    simp only [Prod.mk.injEq] at hP
    obtain ⟨rfl, rfl⟩ := hP
    have hmem := lookN_mem hk'
    unfold Tr.meths at hmem
    rw [List.mem_filterMap] at hmem
    obtain ⟨t0, _, ht0⟩ := hmem
    simp only [Option.bind_eq_some_iff, Option.map_eq_some_iff, Prod.mk.injEq] at ht0
    obtain ⟨k1, hk1, f1, hf1, rfl, rfl⟩ := ht0
    obtain ⟨f, hff, hrunm⟩ := run_method hf1
    have hra := rargs_of hC r hys hvs
    have e3 : (cl.args.toList.map a.eval).toArray = cl.args.map a.eval := by apply Array.ext'; simp
    rw [e3] at hra
    have hfr := r.opd hC rcv x _ hx hfv
    generalize hfe : a.eval rcv = q at hfr
    cases hfr with
    | iface _ _ T' hT _ y hv =>
     have hTT : T' = t0 := by
      have := C.tys t0 _ hk1
      rw [hT] at this; cases this; rfl
     subst hTT
     refine ⟨#[y] ++ cl.args.map a.eval, ⟨by simp [hra.1]; omega, fun i u z hu hz => ?_⟩, f, C.fns f _ hff, ?_⟩
     ·cases i with
      | zero =>
       have hz' : y = z := by rw [Array.getElem?_append_left (by simp)] at hz; simpa using hz
       have hu' : v = u := by simpa using hu
       rw [← hu', ← hz']; exact hv
      | succ i =>
       refine hra.2 i u z (by simpa using hu) ?_
       rw [Array.getElem?_append] at hz
       rw [if_neg (by simp)] at hz
       simpa using hz
     ·have hres : (resolve a.eval cl o.type) = pure { target := .fn (.method name) #[], args := #[.iface T' y] ++ cl.args.map a.eval } := by
        unfold resolve; rw [hcal, ← hfe]
      rw [hexec, hres, pure_bind]
      have h0 : (#[Value.iface T' y] ++ cl.args.map a.eval)[0]? = some (.iface T' y) := by rw [Array.getElem?_append_left (by simp)]; rfl
      have h1 : (#[Value.iface T' y] ++ cl.args.map a.eval).extract 1 (#[Value.iface T' y] ++ cl.args.map a.eval).size = cl.args.map a.eval := by
       apply Array.ext'; simp
       exact List.take_of_length_le (by simp)
      simp only [invoke, h0, h1, callMethod]
      rw [Sem.run_bind, run_program, Result.andThen_ok, Sem.run_bind]
      have hm := hrunm (C.T.P.types.size + 99) y w
      have hd : C.T.P.types.size + Made.depth = C.T.P.types.size + 99 + 1 := rfl
      rw [hd, hm, Result.andThen_ok]
      exact run_callFunc hC (C.fns f _ hff) _ w
   ·cases hP
 | _ => rw [hq] at hfc; simp [Tr.isFnCall] at hfc
theorem enter_wp {β : Nat → Option Nat} {h : Nat → Option Blk} {a : Act} {w : World} {o : Oper} (hnd : ∀ c, o.op ≠ .defer c) {t : Tgt} {xs : Array Value} (h4 : Enters C β t xs o a w) {R : Ending → World → Prop} (hR : RunAt C β t xs w R) {K : Act → World → Prop} {Q : Exit → Act → World → Prop}
    (hr : ∀ e w', R e w' → ∃ v, e = .returned v ∧ K (a.put o.dst v) w') : o.wpIn B.fw 0 C.T.P a w K Q := by
 unfold Oper.wpIn
 refine ⟨fun _ _ => trivial, ?_⟩
 rw [Oper.semAt_eq _ _ _ hnd]
 cases t with
 | fn k =>
  obtain ⟨fid, h1, h2⟩ := h4
  rw [h2]
  refine ⟨(fun h => by cases h), ?_⟩
  refine (callsIn_wide (n := 0)).2 ((hR fid h1).mono ?_)
  intro e w' he
  obtain ⟨v, rfl, hk⟩ := hr e w' he
  exact hk
 | yl q =>
  obtain ⟨l, h1, h2⟩ := h4
  obtain ⟨fn, tmps, assign, body, h3, h5⟩ := hR l h1
  rw [h2, h3]
  refine ⟨(fun h => by cases h), ?_⟩
  exact h5.mono (fun e w' he => by
   obtain ⟨v, rfl, hk⟩ := hr e w' he
   exact hk)
theorem xop_call {T : Tr} {p : Op} {c : ACallee} {args : List AOpd} (hx : T.xop p = some (.call c args)) : False := by
 unfold Tr.xop at hx
 split at hx
 ·split at hx
  ·simp only [Option.bind_eq_some_iff, Option.map_eq_some_iff] at hx
   obtain ⟨_, _, _, _, _, _, he⟩ := hx
   cases he
  ·cases hx
 ·cases hx
theorem call_wp (hC : Ok L C) {E : Env} {H : Heap} {β : Nat → Option Nat} {a : Act} {w : World} (r : RSL C B N E H β a w) {nt : Nat} {ops : Array Oper} {draw : Bool} {i : Nat} {o : Oper} {ai : AI} (hai : C.T.oper nt ops draw i o = some ai) (hN : nt = N) {c : ACallee} {args : List AOpd} (hc : ai.op = .call c args)
    {K : Env → Heap → Prop} (hP : CallP L E.get H c args (fun r H' => K (E.put ai.dst r) H')) {K' : Act → World → Prop} {Q : Exit → Act → World → Prop} (hK : ∀ a' w' E' H', K E' H' → RSx C B N E' H' a' w' → K' a' w') : o.wpIn B.fw 0 C.T.P a w K' Q := by
 obtain ⟨hop, hdst, hdn, _, _, _, hcall⟩ := Tr.oper_spec hai
 have hop : C.T.op o.op = some ai.op := (hop (by rw [hc]; simp)).resolve_right (fun hx => by rw [hc] at hx; exact xop_call hx)
 rw [hc] at hop hcall
 unfold CallP at hP
 split at hP
 case h_2 => exact hP.elim
 rename_i k vs hcl
 obtain ⟨xs, h2, h4⟩ := call_resolves hC r.rs hop (hcall rfl) hcl
 refine enter_wp (h := H.get) (β := β) (fun c hc => by rw [hc] at hop; simp [Tr.op] at hop) h4 (hP C hC B.A w β xs (fun b hb => B.hA b ?_) r.dom r.rs.heap r.rs.glob h2) ?_
 ·rcases hb with hb | hb
  ·left; exact Nat.le_trans r.rs.frm.size hb
  ·exact r.rs.own b hb
 ·rintro e w' ⟨v, rr, H', β', rfl, hp, g1, g2, g3, g4, g5, g6, g7⟩
  refine ⟨v, rfl, ?_⟩
  refine hK _ _ _ _ hp ⟨β', ?_, g2, Nat.le_trans r.n0 g1⟩
  have hst := r.rs.step (β' := β') (h' := H'.get) (w' := w') (dst := o.dst) (v := some rr) (x := v) (fun q b hq => by
   by_cases hlt : q < H.length
   ·rw [g3 q hlt]; exact hq
   ·rw [r.dom q (by omega)] at hq; cases hq) (fun q hq => g3 q (by have := r.n0; omega)) g4 g6 g7 (fun v' hv' => by cases hv'; exact g5) (fun d hd => by rw [← hN]; exact hdn d hd)
  have he : (fun t => if o.dst = some t then some rr else E.get t) = (E.put ai.dst rr).get := by
   funext t; rw [Env.get_put, hdst]
  rw [he] at hst
  exact hst
theorem builtin_mnext {T : Tr} {b : Builtin} {ts : List TypeId} {xs : List Operand} {x : AOpd} (h : T.builtin b ts xs = some (.mnext x)) : False := by
 unfold Tr.builtin at h
 repeat' split at h
 all_goals first | cases h | (simp [Option.bind_eq_some_iff, Option.map_eq_some_iff] at h)
theorem op_mnext {T : Tr} {p : Op} {x : AOpd} (h : T.op p = some (.mnext x)) : ∃ y, p = .next y false ∧ T.opd y = some x := by
 unfold Tr.op at h
 repeat' split at h
 all_goals first | cases h | exact (builtin_mnext h).elim | (simp [Option.bind_eq_some_iff, Option.map_eq_some_iff] at h; done) | skip
 all_goals (simp only [Option.map_eq_some_iff] at h; obtain ⟨y, hy, he⟩ := h; cases he; exact ⟨_, rfl, hy⟩)
theorem xop_mnext {T : Tr} {p : Op} {x : AOpd} (hx : T.xop p = some (.mnext x)) : False := by
 unfold Tr.xop at hx
 split at hx
 ·split at hx
  ·simp only [Option.bind_eq_some_iff, Option.map_eq_some_iff] at hx
   obtain ⟨_, _, _, _, _, _, he⟩ := hx
   cases he
  ·cases hx
 ·cases hx
theorem nextE_new {get : Nat → Option Blk} {v : V} {l : List Eff} (h : nextE get v = some l) : ∀ e ∈ l, e.new = [] := by
 intro e he
 unfold nextE at h
 split at h
 case h_2 => cases h
 split at h
 ·simp only [Option.some.injEq] at h; subst h
  rw [List.mem_singleton] at he; rw [he]
 ·split at h
  case h_2 => cases h
  split at h
  case isFalse => cases h
  split at h
  ·simp only [Option.some.injEq] at h; subst h
   rw [List.mem_singleton] at he; rw [he]
  ·simp only [Option.some.injEq] at h; subst h
   obtain ⟨c, _, rfl⟩ := List.mem_map.1 he; rfl
 ·cases h
theorem next_wp (hC : Ok L C) {E : Env} {H : Heap} {β : Nat → Option Nat} {a : Act} {w : World} (r : RSL C B N E H β a w) {ops : Array Oper} {draw : Bool} {i : Nat} {o : Oper} {ai : AI} (hai : C.T.oper N ops draw i o = some ai) {x : AOpd} (hc : ai.op = .mnext x) {v : V} (hv : opval L.G E.get x = some v) {l : List Eff} (hl : nextE H.get v = some l)
    {K : Env → Heap → Prop} (hP : ∀ e ∈ l, (e.upd.all fun p => Nat.blt p.1 H.length) = true ∧ K (E.put ai.dst e.v) (H.app e)) {K' : Act → World → Prop} {Q : Exit → Act → World → Prop} (hK : ∀ a' w' E' H', K E' H' → RSx C B N E' H' a' w' → K' a' w') : o.wpIn B.fw 0 C.T.P a w K' Q := by
 obtain ⟨hop, hdst, hdn, _, _, _, _⟩ := Tr.oper_spec hai
 have hop : C.T.op o.op = some ai.op := (hop (by rw [hc]; simp)).resolve_right (fun hx => by rw [hc] at hx; exact xop_mnext hx)
 rw [hc] at hop
 obtain ⟨y, hy1, hy2⟩ := op_mnext hop
 obtain ⟨e, he, x', w', hrun, β', g1, g2, g3, g4, g5⟩ := nextE_runs (n := H.length) (ty := o.type) r.rs.heap (r.rs.opd hC y x v hy2 hv) hl
 have hnew := nextE_new hl e he
 obtain ⟨hall, hk⟩ := hP e he
 have hlt : ∀ p ∈ e.upd, p.1 < H.length := fun p hp => by simpa using List.all_eq_true.1 hall p hp
 have hβ : β' = β := by
  funext q
  exact g1 q (by rw [hnew]; simp)
 subst hβ
 have hfin : K' (a.put o.dst x') w' := by
  refine hK _ _ _ _ hk ⟨β', ?_, fun q hq => ?_, ?_⟩
  ·rw [Heap.app_get H e hlt]
   have hst := r.rs.step (dst := o.dst) (v := some e.v) (x := x') (fun _ _ h => h) (fun _ _ => rfl) g2 g4 g5 (fun v' hv' => by cases hv'; exact g3) hdn
   have he : (fun t => if o.dst = some t then some e.v else E.get t) = (E.put ai.dst e.v).get := by
    funext t; rw [Env.get_put, hdst]
   rw [he] at hst
   exact hst
  ·rw [Heap.app_length, hnew] at hq; exact r.dom q hq
  ·rw [Heap.app_length, hnew]; exact r.n0
 have hexec : execOp a.eval o = (do pure (.value (← Instr.next (a.eval y) false o.type))) := by unfold execOp; rw [hy1]
 unfold Oper.wpIn
 refine ⟨fun _ _ => trivial, ?_⟩
 rw [Oper.semAt_eq _ _ _ (fun c hc => by rw [hy1] at hc; cases hc), hexec]
 rcases hrun with hrun | ⟨hrun, hx⟩
 ·rw [hrun]; exact hfin
 ·rw [hrun]; rw [hx] at hfin; exact hfin
theorem step_wp (hC : Ok L C) {E : Env} {H : Heap} {β : Nat → Option Nat} {a : Act} {w : World} (r : RSL C B N E H β a w) {ops : Array Oper} {draw : Bool} {i : Nat} {o : Oper} {ai : AI} (hai : C.T.oper N ops draw i o = some ai)
    {K : Env → Heap → Prop} (hP : stepP L ai K E H) {K' : Act → World → Prop} {Q : Exit → Act → World → Prop} (hK : ∀ a' w' E' H', K E' H' → RSx C B N E' H' a' w' → K' a' w') :
    if Region.wanted o (yielded ops a.tmps) then o.wpIn B.fw 0 C.T.P a w K' Q else K' (a.put o.dst undef) w := by
 obtain ⟨hop, hdst, hdn, _, _, _, hcall⟩ := Tr.oper_spec hai
 have hplain : ∀ {r' : Rec} {E' : Env} {H' : Heap}, ai.plain L.G H.length E.get H.get = some r' → K E' H' → E'.get = r'.env E.get → H'.get = r'.heap H.get → H.length + r'.k = H'.length → r'.slot = H.length → if Region.wanted o (yielded ops a.tmps) then o.wpIn B.fw 0 C.T.P a w K' Q else K' (a.put o.dst undef) w := fun {r' E' H'} hr hk e1 e2 e3 e4 => by
  refine plain_ok hC hai hr B E.get H.get β a w (fun _ _ => rfl) (fun _ _ => rfl) (fun q hq _ => r.dom q (by omega)) (by rw [e4]; exact r.n0) r.rs K' Q (fun a' w' β' hβ' rs' => hK _ _ _ _ hk ⟨β', ?_, fun q hq => ?_, ?_⟩)
  ·rw [e1, e2]; exact rs'
  ·rw [hβ' q (by omega)]; exact r.dom q (by omega)
  ·have := r.n0; omega
 unfold stepP at hP
 split at hP
 ·rename_i hg
  exact hplain (r' := { dst := ai.dst, looks := ai.looks, v := some (.tup []), need := [], eff := [], slot := H.length, k := 0 }) (by unfold AI.plain; rw [hg]) hP (by funext t; rw [Env.get_put]; rfl) rfl rfl rfl
 ·rename_i hg
  split at hP
  ·rename_i c args hc
   have hw := goes_wanted hai r.rs hg
   rw [hw, if_pos rfl]
   exact call_wp hC r hai rfl hc hP hK
  ·rename_i x hc
   have hw := goes_wanted hai r.rs hg
   rw [hw, if_pos rfl]
   split at hP
   ·rename_i l hl
    obtain ⟨v, hv, hl⟩ := Option.bind_eq_some_iff.1 hl
    exact next_wp hC r hai hc hv hl hP hK
   ·exact hP.elim
  ·split at hP
   ·rename_i e he
    obtain ⟨hall, hk⟩ := hP
    have hlt : ∀ p ∈ e.upd, p.1 < H.length := fun p hp => by simpa using List.all_eq_true.1 hall p hp
    exact hplain (r' := { dst := ai.dst, looks := ai.looks, v := some e.v, need := e.need, eff := e.all H.length, slot := H.length, k := e.new.length }) (by unfold AI.plain; rw [hg]; simp only; rw [he]; rfl) hk
     (by funext t; rw [Env.get_put]; rfl) (by rw [Heap.app_get H e hlt]; funext q; exact (Eff.all_heap e _ _ q).symm) (by rw [Heap.app_length]) rfl
   ·exact hP.elim
 ·exact hP.elim
theorem ops_wp (hC : Ok L C) {ops : Array Oper} {draw : Bool} {Q : Exit → Act → World → Prop} {K : Env → Heap → Prop} (hK : ∀ a' w' E' H', K E' H' → RSx C B N E' H' a' w' → Q .normal a' w') : ∀ (l : List Oper) (i : Nat) (ais : List AI), C.T.opers N ops draw i l = some ais → ∀ {E : Env} {H : Heap} {a : Act} {w : World}, RSx C B N E H a w → opsP L ais K E H → wpListIn B.fw 0 C.T.P ops Q l a w
 | [], i, ais, h, E, H, a, w, r, hP => by
  simp [Tr.opers] at h; subst h
  exact hK _ _ _ _ hP r
 | o :: l, i, ais, h, E, H, a, w, ⟨β, r⟩, hP => by
  simp only [Tr.opers, Option.bind_eq_some_iff] at h
  obtain ⟨ai, hai, ais', hais, h⟩ := h
  simp only [Option.some.injEq] at h
  subst h
  have := step_wp hC r hai (K' := wpListIn B.fw 0 C.T.P ops Q l) (Q := Q) hP (fun a' w' E' H' hk hr => ops_wp hC hK l (i + 1) ais' hais hr hk)
  unfold wpListIn
  split
  ·rename_i hw; rw [if_pos hw] at this; exact this
  ·rename_i hw; rw [if_neg hw] at this; exact ⟨fun _ _ => trivial, this⟩
end
end Go.Proofs.YtigdhgbkgfagiaaGreat
