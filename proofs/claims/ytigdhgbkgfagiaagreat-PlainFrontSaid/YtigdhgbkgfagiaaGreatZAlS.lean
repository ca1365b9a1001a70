/- AL: a range over a function; a round of it. -/
import Derived.Test.YtigdhgbkgfagiaaGreatZAlR
import Derived.RangeFuncNested
set_option linter.unusedVariables false
namespace Go.Proofs.YtigdhgbkgfagiaaGreat
theorem al_new (w : World) (o : Obj) : (w.alloc o).heap[w.heap.size]? = some o := by
 show (w.heap.push o)[w.heap.size]? = _
 simp
theorem al_old (w : World) (o : Obj) {k : Nat} (h : k < w.heap.size) : (w.alloc o).heap[k]? = w.heap[k]? := by
 show (w.heap.push o)[k]? = _
 rw [Array.getElem?_push, if_neg (by omega)]
theorem al_size (w : World) (o : Obj) : (w.alloc o).heap.size = w.heap.size + 1 := by
 show (w.heap.push o).size = _
 simp
theorem Heap.get_set (H : Heap) (n : Nat) (o : Option Blk) (hn : n < H.length) (a : Nat) : Heap.get (H.set n o) a = if a = n then o else H.get a := by
 unfold Heap.get
 rw [List.getElem?_set]
 by_cases h : n = a
 ·subst h; simp [hn]
 ·have : ¬ a = n := fun e => h e.symm
  simp [h, this]
theorem Heap.get_set_none (H : Heap) (n : Nat) : Heap.get (H.set n none) = fun a => if a = n then none else H.get a := by
 funext a
 by_cases hn : n < H.length
 ·exact Heap.get_set H n none hn a
 ·rw [List.set_eq_of_length_le (by omega)]
  by_cases h : a = n
  ·subst h; simp [Heap.get, List.getElem?_eq_none (show H.length ≤ a by omega)]
  ·simp [h]
theorem Heap.get_snoc (H : Heap) (o : Option Blk) (a : Nat) : Heap.get (H ++ [o]) a = if a = H.length then o else H.get a := by
 unfold Heap.get
 rw [List.getElem?_append]
 by_cases h : a < H.length
 ·have : ¬ a = H.length := by omega
  simp [h, this]
 ·by_cases h2 : a = H.length
  ·subst h2; simp
  ·have h3 : H[a]? = none := List.getElem?_eq_none (by omega)
   have h4 : ([o] : List (Option Blk))[a - H.length]? = none := List.getElem?_eq_none (by simp; omega)
   simp [h, h2, h4]
theorem run_fn {C : Ctx} {β : Nat → Option Nat} {k fid : Nat} {xs : Array Value} {w : World} {R : Ending → World → Prop} (hf : C.N.ν k = some fid) (h : RunAt C β (.fn k) xs w R) : Calls C.T.P fid xs w R := h fid hf
theorem callsIn_fw {P : Program} {f : FuncId} {args : Array Value} {w : World} {R : Ending → World → Prop} (r : Option Nat) (n : Nat) (h : Calls P f args w R) : CallsIn (FW r) n P f args w R := by
 have := (callsIn_wide (n := n)).2 h
 exact ⟨trivial, this.2⟩
theorem range_wp {P : Program} {r : Option Nat} {g : Operand} {ps : Array Tmp} {as bd : Code} {Q : Exit → Act → World → Prop} {a : Act} {w : World}
    (h : ∀ fn : FuncId, ∃ (l : Nat) (mark : List Deferred) (w1 : World) (d : Deferred) (fid : FuncId) (args : Array Value) (R : Ending → World → Prop), (Instr.enterLoop fn a.tmps ps as bd r).run P w = .ok (l, mark) w1 ∧ (resolve a.eval (rangeCall g l) 0).run P w1 = .ok d w1 ∧
     (invoke d.target d.args).run P w1 = .ok (.enter fid args) w1 ∧ Calls P fid args w1 R ∧ ∀ e w', R e w' → rangePost (FW r) 0 P l Q { a with defers := mark ++ a.defers } e w') : (Code.rangeFunc g ps as bd).wpIn (FW r) 0 P Q a w := by
 refine wpIn_rangeFunc (fun fn _ => ?_)
 obtain ⟨l, mark, w1, d, fid, args, R, h1, h2, h3, h4, h5⟩ := h fn
 exact ⟨l, mark, w1, d, w1, fid, args, w1, h1, h2, (fun _ _ => trivial), h3, (fun hd => by cases hd), callsIn_fw r 0 (Calls.mono h4 h5)⟩
def RangeP (n : Nat) (Q : Exit → Env → Heap → Prop) (E : Env) (H' : Heap) : Prop :=
 match H'.get n with
 | some (.loop _ _ _ _ _) => Q .normal E (H'.set n none)
 | some (.stop .ret) => Q .ret E (H'.set n none)
 | some (.stop (.exit id)) => Q (.exit id) E (H'.set n none)
 | _ => False
section
variable {L : Lib} {n0 N : Nat} {Q : Exit → Env → Heap → Prop} {E : Env} {H : Heap}
theorem enter_loop {C : Ctx} {B : Base} {β : Nat → Option Nat} {a : Act} {w : World} {E : Nat → Option V} {h : Nat → Option Blk} (r : RS C B N E h β a w) (fn : FuncId) (ps : Array Tmp) (assign body : Code) :
    ∃ (wm : World) (mark : List Deferred) (D : Nat), (Instr.enterLoop fn a.tmps ps assign body B.fw.round).run C.T.P w = .ok (wm.heap.size, mark) (wm.alloc (.loop { state := .ready, pending := none, fn, tmps := a.tmps, params := ps, assign, body, defers := D })) ∧
     RS C B N E h β { a with defers := mark ++ a.defers } wm := by
 cases hrd : B.rd with
 | some lr =>
  obtain ⟨l0, rec0⟩ := lr
  have e : B.fw.round = some l0 := by simp [Base.fw, FW, hrd]
  rw [e]
  exact ⟨w, [], _, run_enterLoop_inner (r.rnd l0 rec0 hrd).1 _ _ _ _ _, r⟩
 | none =>
  have e : B.fw.round = none := by simp [Base.fw, FW, hrd]
  rw [e]
  refine ⟨w.alloc (.deferred (some [])), _, _, by rw [al_size]; exact run_enterLoop_outer _ _ _ _ _, ?_⟩
  obtain ⟨rs, h1, h2, h3⟩ := r.defers
  refine r.move (fun _ => False) (fun _ h => h.elim) (fun b hb _ => al_old w _ hb) (by rw [al_size]; omega) (fun _ h => h.elim) (fun _ _ _ h => h) rfl rfl rfl rfl ⟨w.heap.size :: rs, by simp [h1], List.nodup_cons.2 ⟨fun hm => ?_, h2⟩, fun q hq => ?_⟩
  ·have := (Array.getElem?_eq_some_iff.1 (h3 _ hm).2).1; omega
  ·rcases List.mem_cons.1 hq with rfl | hq
   ·exact ⟨r.frm.size, al_new w _⟩
   ·exact ⟨(h3 q hq).1, (al_old w _ (Array.getElem?_eq_some_iff.1 (h3 q hq).2).1).trans (h3 q hq).2⟩
theorem SWP.range {g : AOpd} {ps : List Nat} {ad body : AC} {k : Nat} {fs cs : List V} (hg : opval L.G E.get g = some (.fn k fs cs))
    (h : AFn L (.fn k) (fs ++ [.yld H.length] ++ cs) (H ++ [some (.loop N E ps ad body)]) (fun _ H' => RangeP H.length Q E H')) : SWP L n0 N (.range g ps ad body) Q E H := SWP.of_bare fun C B hC hB kills code hns hc a w r => by
 cases code with
 | rangeFunc g' ps' as bd =>
  simp only [Tr.code, Option.bind_eq_some_iff, Option.map_eq_some_iff] at hc
  obtain ⟨g'', hg', ad', had, bd', hbd, he⟩ := hc
  injection he with e1 e2 e3 e4
  subst e1; subst e3; subst e4
  obtain ⟨β, r⟩ := r
  have hfr := r.rs.opd hC g' g'' _ hg' hg
  generalize hfe : a.eval g' = q at hfr
  cases hfr with
  | fn _ _ fid hf _ _ ys zs h1 h2 hy hz =>
  refine range_wp ?_
  intro fn
  obtain ⟨wm, mark, D, hrun, rm⟩ := enter_loop r.rs fn ps' as bd
  obtain ⟨rec, hrec⟩ : ∃ rec : Loop, rec = { state := .ready, pending := none, fn, tmps := a.tmps, params := ps', assign := as, body := bd, defers := D } := ⟨_, rfl⟩
  rw [← hrec] at hrun
  have hnone : β H.length = none := r.dom _ (Nat.le_refl _)
  have hgn : H.get H.length = none := by simp [Heap.get]
  obtain ⟨β1, hβ1, hh1, hr1, hl1, hf1⟩ := effOk_new (A := B.A) (N := C.N) (w := wm) (β := β) (h := H.get) (n := H.length) (e := { v := .yld H.length, new := [.loop N E ps ad' bd'] }) (x := .func (.yield wm.heap.size) #[] #[]) (w' := wm.alloc (.loop rec)) (o := .loop rec) (k := .loop N E ps ad' bd')
   rm.heap hnone hgn rfl rfl rfl rfl rfl rfl (fun β' S hβ hb hS => by
    refine ⟨rec, al_new wm _, by rw [hrec], by rw [hrec], by rw [hrec]; exact (C.codes _ _ _).2 ⟨kills, had⟩, by rw [hrec]; exact (C.codes _ _ _).2 ⟨kills, hbd⟩, by rw [hrec]; exact e2.symm ▸ rfl, by rw [hrec]; exact rm.size, fun t v hv => ?_⟩
    obtain ⟨x, hx, hxr⟩ := rm.env t v hv
    refine ⟨x, by rw [hrec]; exact hx, hxr.mono hS (fun b hb => al_old wm _ hb.lt) (fun b m ⟨cells, T, fz, q1, q2⟩ => ⟨cells, T, fz, ?_, q2⟩) hβ⟩
    rw [al_old wm _ (Array.getElem?_eq_some_iff.1 q1).1]; exact q1) (fun β' S hβ hb hS => .yld _ _ _ hb)
  have hβl : β1 H.length = some wm.heap.size := by cases hr1 with | yld _ _ _ hb => exact hb
  have hheap : (Eff.heap { v := .yld H.length, new := [.loop N E ps ad' bd'] } H.length H.get) = Heap.get (H ++ [some (.loop N E ps ad' bd')]) := by
   funext q
   rw [Heap.get_snoc]
   unfold Eff.heap
   by_cases hq : q = H.length
   ·subst hq; simp
   ·rw [if_neg (by simp; omega), if_neg hq]; rfl
  rw [hheap] at hh1 hr1 hl1
  have hsub : ∀ a b, β a = some b → β1 a = some b := fun q b hq => by
   rw [hβ1 q (fun hin => by
    have : q = H.length := by simp at hin; omega
    rw [this, hnone] at hq; cases hq)]; exact hq
  have hkeep : ∀ q, q < B.n0 → β1 q = β q := fun q hq => hβ1 q (fun hin => by have := r.n0; omega)
  have r1 := rm.step (dst := none) (v := none) (x := undef) hsub hkeep hh1 hl1 hf1 (fun v' hv' => by cases hv') (fun d hd => by cases hd)
  have hstep : ∀ {v : V} {x : Value}, Rel C.N w (Imm B.A w β H.get) β v x → True := fun _ => trivial
  have hfr1 := r1.opd hC g' g'' (.fn k fs cs) hg' (by simpa using hg)
  have hev : (Act.put { tmps := a.tmps, defers := mark ++ a.defers } none undef).eval g' = a.eval g' := by
   cases g' <;> rfl
  rw [hev, hfe] at hfr1
  have hargs : RArgs C (wm.alloc (.loop rec)) (Imm B.A (wm.alloc (.loop rec)) β1 (Heap.get (H ++ [some (.loop N E ps ad' bd')]))) β1 (fs ++ [.yld H.length] ++ cs) (ys ++ #[.func (.yield wm.heap.size) #[] #[]] ++ zs) := by
   cases hfr1 with
   | fn _ _ fid' hf' _ _ _ _ g1 g2 gy gz =>
    refine ⟨by simp [g1, g2]; omega, fun i v y hv hx => ?_⟩
    rw [List.getElem?_append] at hv
    rw [Array.getElem?_append] at hx
    simp only [List.length_append, Array.size_append, List.length_cons, List.length_nil, List.size_toArray] at hv hx
    by_cases c1 : i < fs.length + (0 + 1)
    ·rw [if_pos c1] at hv
     rw [if_pos (by omega)] at hx
     rw [List.getElem?_append] at hv
     rw [Array.getElem?_append] at hx
     by_cases c2 : i < fs.length
     ·rw [if_pos c2] at hv
      rw [if_pos (by omega)] at hx
      exact gy i v y hv hx
     ·rw [if_neg c2] at hv
      rw [if_neg (by omega)] at hx
      have e0 : i - fs.length = 0 := by omega
      have e0' : i - ys.size = 0 := by omega
      rw [e0] at hv
      rw [e0'] at hx
      simp at hv hx
      rw [← hv, ← hx]
      exact hr1
    ·rw [if_neg c1] at hv
     rw [if_neg (by omega)] at hx
     rw [show i - (ys.size + (0 + 1)) = i - (fs.length + (0 + 1)) by omega] at hx
     exact gz _ v y hv hx
  have hdom1 : ∀ i, (H ++ [some (Blk.loop N E ps ad' bd')]).length ≤ i → β1 i = none := fun i hi => by
   rw [List.length_append, List.length_singleton] at hi
   rw [hβ1 i (fun hin => by simp at hin; omega)]
   exact r.dom i (by omega)
  have hcall0 : RunAt C β1 (.fn k) (ys ++ #[.func (.yield wm.heap.size) #[] #[]] ++ zs) (wm.alloc (.loop rec)) _ := h C hC B.A (wm.alloc (.loop rec)) β1 _ (fun b hb => B.hA b (by
   rcases hb with hb | hb
   ·left; exact Nat.le_trans r1.frm.size hb
   ·exact r1.own b hb)) hdom1 hh1 r1.glob hargs
  have hcall := run_fn hf hcall0
  clear hcall0 hargs hfr1
  have e1 : (resolve a.eval (rangeCall g' wm.heap.size) 0).run C.T.P (wm.alloc (.loop rec)) = .ok { target := .fn (.func fid) zs, args := ys ++ #[.func (.yield wm.heap.size) #[] #[]] } (wm.alloc (.loop rec)) := by
   have : (resolve a.eval (rangeCall g' wm.heap.size) 0) = pure { target := .fn (.func fid) zs, args := ys ++ #[.func (.yield wm.heap.size) #[] #[]] } := by
    unfold resolve; simp only [hfe]; simp [Deferred.ofValue, Act.eval]
   rw [this]; rfl
  refine ⟨wm.heap.size, mark, wm.alloc (.loop rec), { target := .fn (.func fid) zs, args := ys ++ #[.func (.yield wm.heap.size) #[] #[]] }, fid, ?_⟩
  refine ⟨ys ++ #[.func (.yield wm.heap.size) #[] #[]] ++ zs, ?_⟩
  refine ⟨_, hrun, e1, ?_, hcall, fun e w' he => ?_⟩
  ·simp only [invoke]
   exact run_callFunc hC hf _ _
  ·obtain ⟨v, rr, H', β', rfl, hp, g1, g2, g3, g4, g5, g6, g7⟩ := he
   rw [List.length_append, List.length_singleton] at g1 g3
   have hβ' : β' H.length = some wm.heap.size := by rw [g3 _ (by omega)]; exact hβl
   have r2 := r1.step (dst := none) (v := none) (x := undef) (β' := β') (h' := H'.get) (fun q b hq => by
    by_cases hlt : q < H.length + 1
    ·rw [g3 q hlt]; exact hq
    ·rw [hdom1 q (by rw [List.length_append, List.length_singleton]; omega)] at hq; cases hq) (fun q hq => g3 q (by have := r.n0; omega)) g4 g6 g7 (fun v' hv' => by cases hv') (fun d hd => by cases hd)
   have r3 := r2.forget H.length
   rw [← Heap.get_set_none] at r3
   have hlen : H.length < H'.length := by omega
   have key : ∀ (rec' : Loop), w'.heap[wm.heap.size]? = some (.loop rec') → H'.get H.length ≠ none →
       RSx C B N E (H'.set H.length none) { a with defers := mark ++ a.defers } (w'.putObj wm.heap.size (.loop { rec' with state := .exhausted })) := fun rec' hrec' hne => by
    have hnl : ¬ Live β' (Heap.get (H'.set H.length none)) wm.heap.size := fun ⟨q, h1, h2⟩ => by
     rw [Heap.get_set _ _ _ hlen] at h1
     by_cases e : q = H.length
     ·simp [e] at h1
     ·simp only [e, if_false] at h1
      exact e (g4.inj q H.length _ h1 hne h2 hβ')
    have hown : B.w0.heap.size ≤ wm.heap.size := rm.frm.size
    have r4 := r3.move (w' := w'.putObj wm.heap.size (.loop { rec' with state := .exhausted })) (fun b => b = wm.heap.size) (fun b hb => by
     subst hb; exact ⟨hnl, fun c T f e => by rw [hrec'] at e; cases e⟩) (fun b _ hb => World.putObj_heap_other hb) (by simp) (fun b hb => .inl (by rw [hb]; exact hown)) (fun l rec0 hrd hl => ?_) rfl rfl rfl (a' := { a with defers := mark ++ a.defers }) rfl ?_
    ·refine ⟨β', ?_, fun i hi => g2 i (by simpa using hi), by have := r.n0; simp; omega⟩
     exact ⟨r4.size, r4.defers, fun t v hv => r4.env t v (by simpa using hv), r4.heap, r4.frm, r4.own, r4.keep, r4.glob, r4.rnd⟩
    ·obtain ⟨h1, h2⟩ := rm.rnd l rec0 hrd
     have := (Array.getElem?_eq_some_iff.1 h1).1; omega
    ·obtain ⟨rs, q1, q2, q3⟩ := r3.defers
     refine ⟨rs, q1, q2, fun q hq => ⟨(q3 q hq).1, ?_⟩⟩
     rw [World.putObj_heap_other (fun e => by have := (q3 q hq).2; rw [e, hrec'] at this; cases this)]
     exact (q3 q hq).2
   unfold RangeP at hp
   split at hp
   ·rename_i nt' E' ps'' ad'' bd'' hk
    obtain ⟨b, q1, q2, q3⟩ := g4.at' _ _ hk
    rw [hβ'] at q1; cases q1
    obtain ⟨rec', p1, p2, p3, _⟩ := q3
    exact ⟨none, _, (run_endLoop (P := C.T.P) p1 (by rw [p2]; simp)).trans (by rw [p3]), trivial, _, _, hp, key rec' p1 (by rw [hk]; simp)⟩
   ·rename_i hk
    obtain ⟨b, q1, q2, q3⟩ := g4.at' _ _ hk
    rw [hβ'] at q1; cases q1
    obtain ⟨rec', p1, p2, c, p3, rfl⟩ := q3
    exact ⟨some .ret, _, (run_endLoop (P := C.T.P) p1 (by rw [p2]; simp)).trans (by rw [p3]), wpIn_ret ⟨trivial, _, _, hp, key rec' p1 (by rw [hk]; simp)⟩⟩
   ·rename_i id hk
    obtain ⟨b, q1, q2, q3⟩ := g4.at' _ _ hk
    rw [hβ'] at q1; cases q1
    obtain ⟨rec', p1, p2, c, p3, rfl⟩ := q3
    exact ⟨some (.exit id), _, (run_endLoop (P := C.T.P) p1 (by rw [p2]; simp)).trans (by rw [p3]), wpIn_exit ⟨trivial, _, _, hp, key rec' p1 (by rw [hk]; simp)⟩⟩
   ·exact hp.elim
 | scope p => exact (hns p rfl).elim
 | _ => simp [Tr.code, Option.bind_eq_some_iff] at hc
end
def putArgs (E : Env) : List Nat → List V → Env
 | p :: ps, v :: vs => putArgs (E.set p v) ps vs
 | _, _ => E
def RoundQ (a nt : Nat) (E : Env) (ps : List Nat) (ad body : AC) (Post : V → Heap → Prop) : Exit → Env → Heap → Prop
 | .normal, _, H => H.get a = none ∧ Post (.bool true) (H.set a (some (.loop nt E ps ad body)))
 | .ret, _, H => H.get a = none ∧ Post (.bool false) (H.set a (some (.stop .ret)))
 | .exit id, _, H => H.get a = none ∧ Post (.bool false) (H.set a (some (.stop (.exit id))))
 | _, _, _ => False
def RoundA (L : Lib) (n0 nt : Nat) (body : AC) (Q : Exit → Env → Heap → Prop) : Exit → Env → Heap → Prop
 | .normal, E, H => SWP L n0 nt body Q E H
 | _, _, _ => False
theorem put_args {N : Nums} {w : World} {S : Nat → Prop} {β : Nat → Option Nat} {nt : Nat} : ∀ (ps : List Nat) (vs : List V) (xs : List Value) (E : Env) (tmps : Array Value), tmps.size = nt → (∀ p ∈ ps, p < nt) → vs.length = xs.length → vs.length = ps.length →
    (∀ (i : Nat) (v : V) (x : Value), vs[i]? = some v → xs[i]? = some x → Rel N w S β v x) → (∀ t v, E.get t = some v → ∃ x, tmps[t]? = some x ∧ Rel N w S β v x) →
    ((ps.zip xs).foldl (fun (t : Array Value) (p : Nat × Value) => t.setIfInBounds p.1 p.2) tmps).size = nt ∧ ∀ t v, (putArgs E ps vs).get t = some v → ∃ x, ((ps.zip xs).foldl (fun (t : Array Value) (p : Nat × Value) => t.setIfInBounds p.1 p.2) tmps)[t]? = some x ∧ Rel N w S β v x
 | [], vs, xs, E, tmps, hs, hp, h1, h2, hr, he => by
  refine ⟨hs, fun t v hv => ?_⟩
  simp only [putArgs] at hv
  exact he t v hv
 | p :: ps, [], xs, E, tmps, hs, hp, h1, h2, hr, he => by simp at h2
 | p :: ps, v :: vs, [], E, tmps, hs, hp, h1, h2, hr, he => by simp at h1
 | p :: ps, v :: vs, x :: xs, E, tmps, hs, hp, h1, h2, hr, he => by
  simp only [List.zip_cons_cons, List.foldl_cons, putArgs]
  refine put_args ps vs xs (E.set p v) (tmps.setIfInBounds p x) (by simpa using hs) (fun q hq => hp q (by simp [hq])) (by simpa using h1) (by simpa using h2) (fun i u y hu hy => hr (i + 1) u y (by simpa using hu) (by simpa using hy)) (fun t u hu => ?_)
  rw [Env.get_set] at hu
  by_cases e : p = t
  ·subst e
   rw [if_pos rfl] at hu
   cases hu
   exact ⟨x, by rw [Array.getElem?_setIfInBounds_self_of_lt (by rw [hs]; exact hp p (by simp))], hr 0 _ x rfl rfl⟩
  ·rw [if_neg e] at hu
   obtain ⟨y, hy, hyr⟩ := he t u hu
   exact ⟨y, by rw [Array.getElem?_setIfInBounds_ne e]; exact hy, hyr⟩
theorem AFn.of_round {L : Lib} {H : Heap} {a nt : Nat} {E : Env} {ps : List Nat} {ad body : AC} {args : List V} {Post : V → Heap → Prop} (hg : H.get a = some (.loop nt E ps ad body)) (hn : args.length = ps.length) (hps : (ps.all fun p => Nat.blt p nt) = true)
    (h : SWP L H.length nt ad (RoundA L H.length nt body (RoundQ a nt E ps ad body Post)) (putArgs E ps args) (H.set a none)) : AFn L (.yl a) args H Post := by
 intro C hC A w β vs hA hd hh hgl ha l hl
 obtain ⟨l', e1, hlt, hblk⟩ := hh.at' a _ hg
 rw [hl] at e1; cases e1
 have halt : a < H.length := by
  rcases Nat.lt_or_ge a H.length with h | h
  ·exact h
  ·rw [hd a h] at hl; cases hl
 obtain ⟨rec, hb1, hb2, hb3, hb4, hb5, hb6, hb7, hb8⟩ := hblk
 obtain ⟨k1, hk1⟩ := (C.codes _ _ _).1 hb4
 obtain ⟨k2, hk2⟩ := (C.codes _ _ _).1 hb5
 have hlive : Live β H.get l := ⟨a, by rw [hg]; simp, hl⟩
 have hpsz : vs.size = rec.params.size := by rw [ha.1, hn, ← hb6]; simp
 refine ⟨rec.fn, _, rec.assign, rec.body, run_yield hb1 hpsz, roundIn_of_wpIn trivial ?_⟩
 obtain ⟨himm, hh'⟩ := hh.forget a
 rw [← Heap.get_set_none] at himm hh'
 have hnl : ∀ (β' : Nat → Option Nat) (H' : Heap), HeapR A C.N w β H.get → True := fun _ _ _ => trivial
 have hnl0 : ¬ Live β (Heap.get (H.set a none)) l := fun ⟨q, h1, h2⟩ => by
  rw [Heap.get_set _ _ _ halt] at h1
  by_cases e : q = a
  ·simp [e] at h1
  ·simp only [e, if_false] at h1
   exact e (hh.inj q a _ h1 (by rw [hg]; simp) h2 hl)
 have hsubl : ∀ b, Live β (Heap.get (H.set a none)) b → Live β H.get b := fun b ⟨q, h1, h2⟩ => by
  rw [Heap.get_set _ _ _ halt] at h1
  by_cases e : q = a
  ·simp [e] at h1
  ·simp only [e, if_false] at h1; exact ⟨q, h1, h2⟩
 have hpa := put_args (N := C.N) (w := w) (S := Imm A w β (Heap.get (H.set a none))) (β := β) (nt := nt) ps args vs.toList E rec.tmps hb7 (fun p hp => by simpa using List.all_eq_true.1 hps p hp) (by simpa using ha.1.symm) hn
  (fun i v x hv hx => (ha.2 i v x hv (by simpa using hx)).mono himm (fun _ _ => rfl) (fun _ _ h => h) (fun _ _ h => h)) (fun t v hv => let ⟨x, hx, hxr⟩ := hb8 t v hv; ⟨x, hx, hxr.mono himm (fun _ _ => rfl) (fun _ _ h => h) (fun _ _ h => h)⟩)
 have htm : ((rec.params.zip vs).foldl (fun tmps (t, a) => tmps.setIfInBounds t a) rec.tmps) = (ps.zip vs.toList).foldl (fun (t : Array Value) (p : Nat × Value) => t.setIfInBounds p.1 p.2) rec.tmps := by
  rw [← hb6, ← Array.foldl_toList, Array.toList_zip]
 rw [htm]
 let B1 : Base := { w0 := w, L0 := Live β H.get, β0 := β, n0 := H.length, A := A, hA := hA, rd := some (l, rec) }
 have r1 : RSL C B1 nt (putArgs E ps args) (H.set a none) β { tmps := (ps.zip vs.toList).foldl (fun (t : Array Value) (p : Nat × Value) => t.setIfInBounds p.1 p.2) rec.tmps, defers := [] } w :=
  ⟨⟨hpa.1, MarksOk.nil _ _, hpa.2, hh', Frm.refl _ _, fun b hb => .inr (hsubl b hb), fun _ _ => rfl, fun g k v h1 h2 => (hgl g k v h1 h2).mono himm (fun _ _ => rfl) (fun _ _ h => h) (fun _ _ h => h), fun l' rec' e => by cases e; exact ⟨hb1, hnl0⟩⟩,
   fun i hi => hd i (by simpa using hi), by simp [B1]⟩
 have hw1 := h C B1 hC rfl k1 rec.assign hk1 _ w ⟨β, r1⟩
 refine Code.wpIn_mono (fun e a1 w1 ⟨g1, E1, H1, hq, β1, r2⟩ => ?_) hw1
 cases e with
 | normal =>
  obtain ⟨hl1, hnl1⟩ := r2.rs.rnd l rec rfl
  refine ⟨_, run_beginRound hl1 hb2, ?_⟩
  let rec2 : Loop := { rec with state := .busy }
  let B2 : Base := { w0 := w, L0 := Live β H.get, β0 := β, n0 := H.length, A := A, hA := hA, rd := some (l, rec2) }
  have hlt1 := (Array.getElem?_eq_some_iff.1 hl1).1
  have hX : ∀ b, b = l → ¬ Live β1 H1.get b ∧ ∀ c T f, w1.heap[b]? ≠ some (.cells c T f) := fun b hb => by
   subst hb; exact ⟨hnl1, fun c T f e => by rw [hl1] at e; cases e⟩
  have r3 : RS C B2 nt E1.get H1.get β1 a1 (w1.putObj l (.loop rec2)) := by
   have r20 : RS C { B1 with rd := none } nt E1.get H1.get β1 a1 w1 := ⟨r2.rs.size, r2.rs.defers, r2.rs.env, r2.rs.heap, r2.rs.frm, r2.rs.own, r2.rs.keep, r2.rs.glob, fun _ _ e => by cases e⟩
   have r21 := r20.move (w' := w1.putObj l (.loop rec2)) (fun b => b = l) hX (fun b _ hb => World.putObj_heap_other hb) (by simp) (fun b hb => .inr (by rw [hb]; exact hlive)) (fun _ _ e => by cases e) rfl rfl rfl (a' := a1) rfl (by
    obtain ⟨rs, q1, q2, q3⟩ := r2.rs.defers
    refine ⟨rs, q1, q2, fun q hq => ⟨(q3 q hq).1, ?_⟩⟩
    rw [World.putObj_heap_other (fun e => by have := (q3 q hq).2; rw [e, hl1] at this; cases this)]
    exact (q3 q hq).2)
   exact ⟨r21.size, r21.defers, r21.env, r21.heap, r21.frm, r21.own, r21.keep, r21.glob, fun l' rec' e => by cases e; exact ⟨World.putObj_heap_same hlt1, hnl1⟩⟩
  have hw2 := hq C B2 hC rfl k2 rec.body hk2 _ _ ⟨β1, r3, r2.dom, r2.n0⟩
  refine Code.wpIn_mono (fun e a3 w3 ⟨g3, E3, H3, hq3, β3, r4⟩ => ?_) hw2
  obtain ⟨hl3, hnl3⟩ := r4.rs.rnd l rec2 rfl
  have hlt3 := (Array.getElem?_eq_some_iff.1 hl3).1
  have hn3 : H.length ≤ H3.length := r4.n0
  have hβ3 : ∀ q, q < H.length → β3 q = β q := fun q hq => r4.rs.keep q hq
  have hfin : ∀ (rec4 : Loop) (k : Blk) (r : V) (v : Value) (Rv : ∀ w' S β', Rel C.N w' S β' r v), H3.get a = none →
      (∀ (w' : World) (S : Nat → Prop), w'.heap[l]? = some (.loop rec4) → (∀ b, Imm A w β H.get b → S b ∧ w'.heap[b]? = w.heap[b]?) → (∀ b m, Room w b m → Room w' b m) → BlkR C.N w' S β3 k l) → Post r (H3.set a (some k)) →
      ∃ v' r' H' β', (Ending.returned v) = .returned v' ∧ Post r' H' ∧ H.length ≤ H'.length ∧ (∀ a, H'.length ≤ a → β' a = none) ∧ (∀ a, a < H.length → β' a = β a) ∧ HeapR A C.N (w3.putObj l (.loop rec4)) β' H'.get ∧ Rel C.N (w3.putObj l (.loop rec4)) (Imm A (w3.putObj l (.loop rec4)) β' H'.get) β' r' v' ∧
       (∀ b, Live β' H'.get b → w.heap.size ≤ b ∨ Live β H.get b) ∧ Frm (Live β H.get) w (w3.putObj l (.loop rec4)) := fun rec4 k r v Rv hnone hk hpost => by
   have hget : Heap.get (H3.set a (some k)) = fun q => if q = a then some k else H3.get q := by
    funext q; exact Heap.get_set _ _ _ (by omega) q
   have hX3 : ∀ b, b = l → ¬ Live β3 H3.get b ∧ ∀ c T f, w3.heap[b]? ≠ some (.cells c T f) := fun b hb => by
    subst hb; exact ⟨hnl3, fun c T f e => by rw [hl3] at e; cases e⟩
   obtain ⟨m1, m2, m3⟩ := r4.rs.heap.move (w' := w3.putObj l (.loop rec4)) (fun b => b = l) hX3 (fun b _ hb => World.putObj_heap_other hb) (by simp)
   have hl4 : (w3.putObj l (.loop rec4)).heap[l]? = some (.loop rec4) := World.putObj_heap_same hlt3
   have hlv : ∀ b, Live β3 (Heap.get (H3.set a (some k))) b → b = l ∨ Live β3 H3.get b := fun b ⟨q, h1, h2⟩ => by
    rw [hget] at h1
    by_cases e : q = a
    ·subst e; rw [hβ3 _ halt, hl] at h2; cases h2; exact .inl rfl
    ·simp only [e, if_false] at h1; exact .inr ⟨q, h1, h2⟩
   have himm4 : ∀ b, Imm A (w3.putObj l (.loop rec4)) β3 H3.get b → Imm A (w3.putObj l (.loop rec4)) β3 (Heap.get (H3.set a (some k))) b := fun b hb => by
    refine ⟨hb.lt, fun hlv' => ?_, hb.al, hb.arr⟩
    rcases hlv b hlv' with e | h
    ·obtain ⟨c, T, f, hc⟩ := hb.arr
     rw [e, hl4] at hc; cases hc
    ·exact hb.free h
   have hfrm : Frm (Live β H.get) w (w3.putObj l (.loop rec4)) := by
    have hf := r4.rs.frm
    refine ⟨hf.os, hf.tape, hf.output, by have := hf.size; simpa using this, fun b hb hnb => ?_, fun b m hm => m2 b m (hf.room b m hm)⟩
    rw [World.putObj_heap_other (fun e => hnb (by rw [e]; exact hlive))]
    exact hf.block b hb hnb
   have hown : ∀ b, Live β3 (Heap.get (H3.set a (some k))) b → w.heap.size ≤ b ∨ Live β H.get b := fun b hb => by
    rcases hlv b hb with e | h
    ·exact .inr (by rw [e]; exact hlive)
    ·exact r4.rs.own b h
   refine ⟨v, r, _, β3, rfl, hpost, by simpa using hn3, fun i hi => r4.dom i (by simpa using hi), hβ3, ⟨fun q k' hk' => ?_, fun q q' b h1 h2 h3 h4 => ?_⟩, Rv _ _ _, hown, hfrm⟩
   ·rw [hget] at hk'
    by_cases e : q = a
    ·subst e
     simp at hk'; subst hk'
     refine ⟨l, by rw [hβ3 _ halt]; exact hl, by simpa using hlt3, hk _ _ hl4 (fun b hb => ?_) (fun b m hm => m2 b m (r4.rs.frm.room b m hm))⟩
     have hbl : b ≠ l := fun e => by
      obtain ⟨c, T, f, hc⟩ := hb.arr
      rw [e, hb1] at hc; cases hc
     have e1 : (w3.putObj l (.loop rec4)).heap[b]? = w.heap[b]? := by
      rw [World.putObj_heap_other hbl]; exact r4.rs.frm.block b hb.lt hb.free
     refine ⟨⟨by have := r4.rs.frm.size; have h1 : w.heap.size ≤ w3.heap.size := this; have := hb.lt; simp; omega, fun hlv' => ?_, hb.al, by rw [e1]; exact hb.arr⟩, e1⟩
     rcases hown b hlv' with h | h
     ·have := hb.lt; omega
     ·exact hb.free h
    ·simp only [e, if_false] at hk'
     obtain ⟨b, p1, p2, p3⟩ := m3.at' q k' hk'
     exact ⟨b, p1, p2, p3.mono rfl himm4 (fun _ _ => rfl) (fun _ _ h => h) (fun _ _ h => h)⟩
   ·rw [hget] at h1 h2
    by_cases e : q = a <;> by_cases e' : q' = a
    ·rw [e, e']
    ·simp only [e', if_false] at h2
     rw [e, hβ3 _ halt, hl] at h3; cases h3
     exact absurd ⟨q', h2, h4⟩ hnl3
    ·simp only [e, if_false] at h1
     rw [e', hβ3 _ halt, hl] at h4; cases h4
     exact absurd ⟨q, h1, h3⟩ hnl3
    ·simp only [e, e', if_false] at h1 h2
     exact r4.rs.heap.inj q q' b h1 h2 h3 h4
  have hsub : ∀ q b, β q = some b → β3 q = some b := fun q b hq => by
   rcases Nat.lt_or_ge q H.length with h | h
   ·rw [hβ3 q h]; exact hq
   ·rw [hd q h] at hq; cases hq
  cases e with
  | normal =>
   obtain ⟨q1, q2⟩ := hq3
   have := run_endRound (P := C.T.P) none hl3
   refine ⟨_, _, this, ?_⟩
   refine hfin _ (.loop nt E ps ad body) (.bool true) _ (fun _ _ _ => .bool _ _) q1 (fun w' S hw' hS hroom => ?_) q2
   refine ⟨_, hw', rfl, rfl, hb4, hb5, hb6, hb7, fun t v hv => ?_⟩
   obtain ⟨x, hx, hxr⟩ := hb8 t v hv
   exact ⟨x, hx, hxr.mono (fun b hb => (hS b hb).1) (fun b hb => (hS b hb).2) hroom hsub⟩
  | ret =>
   obtain ⟨q1, q2⟩ := hq3
   have := run_endRound (P := C.T.P) (some .ret) hl3
   refine ⟨_, _, this, ?_⟩
   exact hfin _ (.stop .ret) (.bool false) _ (fun _ _ _ => .bool _ _) q1 (fun w' S hw' hS hroom => ⟨_, hw', rfl, _, rfl, rfl⟩) q2
  | exit id =>
   obtain ⟨q1, q2⟩ := hq3
   have := run_endRound (P := C.T.P) (some (.exit id)) hl3
   refine ⟨_, _, this, ?_⟩
   exact hfin _ (.stop (.exit id)) (.bool false) _ (fun _ _ _ => .bool _ _) q1 (fun w' S hw' hS hroom => ⟨_, hw', rfl, _, rfl, rfl⟩) q2
  | _ => exact hq3.elim
 | _ => exact hq.elim
end Go.Proofs.YtigdhgbkgfagiaaGreat
