/- AL: code, and functions. -/
import Derived.Test.YtigdhgbkgfagiaaGreatZAlQ
import Derived.RangeFuncRecord
set_option linter.unusedVariables false
namespace Go.Proofs.YtigdhgbkgfagiaaGreat
def AX.then (next : Env → Heap → Prop) (Q : Exit → Env → Heap → Prop) : Exit → Env → Heap → Prop
 | .normal, E, H => next E H
 | e, E, H => Q e E H
def AX.inBlock (id : Nat) (Q : Exit → Env → Heap → Prop) : Exit → Env → Heap → Prop
 | .exit id', E, H => if id' = id then Q .normal E H else Q (.exit id') E H
 | e, E, H => Q e E H
def noG : Exit → Prop
 | .goto _ => False
 | _ => True
def QX (C : Ctx) (B : Base) (N : Nat) (Q : Exit → Env → Heap → Prop) (e : Exit) (a : Act) (w : World) : Prop := noG e ∧ ∃ E H, Q e E H ∧ RSx C B N E H a w
section
variable {P : Program} {F : Fence} {n : Nat} {b : Frame} {a : Act} {k : List Item} {cs : List Frame} {w : World} {Q : Exit → Act → World → Prop}
theorem stepR_scope {c : Code} : step P (lone (b.atR a (.code (.scope c) :: k)) cs w) = .next (lone (b.atR a (.code c :: .inScope c :: k)) cs w) :=
 step_lone_go (by simp [stepG, stepG.exec, Frame.atR])
theorem stepR_inScope {c : Code} : step P (lone (b.atR a (.inScope c :: k)) cs w) = .next (lone (b.atR a k) cs w) :=
 step_lone_go (by simp [stepG, stepG.exec, Frame.atR])
theorem wpIn_scope {c : Code} (hg : ∀ e a w, Q e a w → noG e) (h : c.wpIn F n P Q a w) : (Code.scope c).wpIn F n P Q a w := by
 intro b k cs hro hb hr
 have h0 : (lone (b.atR a (.code (.scope c) :: k)) cs w).fenced P F := fenced_calm hb hr rfl
 obtain ⟨e, a₁, w₁, hq, harr⟩ := h b (.inScope c :: k) cs hro hb hr
 cases e with
 | normal => exact ⟨.normal, a₁, w₁, hq, .head h0 stepR_scope (StepsIn.trans harr (.one (fenced_calm hb hr rfl) stepR_inScope))⟩
 | exit id' =>
  have hx : exitTo id' (.inScope c :: k) = exitTo id' k := by simp [exitTo]
  exact ⟨.exit id', a₁, w₁, hq, fun k' hk => .head h0 stepR_scope (harr.1 k' (by rw [hx]; exact hk)),
   fun hr' hk => let ⟨k₁, h1, h2⟩ := harr.2 hr' (by rw [hx]; exact hk); ⟨k₁, h1, .head h0 stepR_scope h2⟩⟩
 | goto l => exact (hg _ _ _ hq).elim
 | ret => exact ⟨_, a₁, w₁, hq, .of_steps (.one h0 stepR_scope) harr⟩
 | panic ch => exact ⟨_, a₁, w₁, hq, .of_steps (.one h0 stepR_scope) harr⟩
 | outgrown => exact ⟨_, a₁, w₁, hq, .of_steps (.one h0 stepR_scope) harr⟩
end
def SWP (L : Lib) (n0 N : Nat) (c : AC) (Q : Exit → Env → Heap → Prop) (E : Env) (H : Heap) : Prop :=
 ∀ (C : Ctx) (B : Base), Ok L C → B.n0 = n0 → ∀ (kills : List (List Nat)) (code : Code), C.T.code N kills code = some c → ∀ (a : Act) (w : World), RSx C B N E H a w → code.wpIn B.fw 0 C.T.P (QX C B N Q) a w
section
variable {L : Lib} {n0 N : Nat} {Q Q' : Exit → Env → Heap → Prop} {E E' : Env} {H : Heap}
theorem SWP.mono {c : AC} (h : SWP L n0 N c Q' E H) (hq : ∀ e E H, Q' e E H → Q e E H) : SWP L n0 N c Q E H :=
 fun C B hC hB kills code hc a w r => Code.wpIn_mono (fun e a w ⟨g, E, H, h1, h2⟩ => ⟨g, E, H, hq _ _ _ h1, h2⟩) (h C B hC hB kills code hc a w r)
theorem SWP.forget {c : AC} (he : ∀ t v, E'.get t = some v → E.get t = some v) (h : SWP L n0 N c Q E' H) : SWP L n0 N c Q E H :=
 fun C B hC hB kills code hc a w ⟨β, r⟩ => h C B hC hB kills code hc a w ⟨β, r.sub he⟩
theorem SWP.shift {c : AC} (src : List (Option Nat)) (fz : List Nat) (hok : okSh n0 src = true) (h : SWP L n0 N c Q (E.sh (sgOf H src fz)) (H.sh src fz)) : SWP L n0 N c Q E H :=
 fun C B hC hB kills code hc a w ⟨β, r⟩ => h C B hC hB kills code hc a w (r.shift src fz (by rw [hB]; exact hok))
theorem SWP.of_bare {c : AC} (h : ∀ (C : Ctx) (B : Base), Ok L C → B.n0 = n0 → ∀ (kills : List (List Nat)) (code : Code), (∀ p, code ≠ .scope p) → C.T.code N kills code = some c → ∀ (a : Act) (w : World), RSx C B N E H a w → code.wpIn B.fw 0 C.T.P (QX C B N Q) a w) : SWP L n0 N c Q E H := by
 intro C B hC hB kills code
 induction code with
 | scope p ih => exact fun hc a w r => wpIn_scope (fun _ _ _ h => h.1) (ih hc a w r)
 | _ => exact fun hc a w r => h C B hC hB kills _ (by intro p e; cases e) hc a w r
theorem code_skip {T : Tr} {kills : List (List Nat)} {code : Code} (hns : ∀ p, code ≠ .scope p) (h : T.code N kills code = some .skip) : code = .skip ∨ ∃ l, code = .label l := by
 cases code with
 | skip => exact .inl rfl
 | label l => exact .inr ⟨l, rfl⟩
 | scope p => exact (hns p rfl).elim
 | _ => simp [Tr.code, Option.bind_eq_some_iff] at h
theorem SWP.skip (h : Q .normal E H) : SWP L n0 N .skip Q E H := SWP.of_bare fun C B hC hB kills code hns hc a w r => by
 rcases code_skip hns hc with rfl | ⟨l, rfl⟩
 ·exact wpIn_skip ⟨trivial, E, H, h, r⟩
 ·exact wpIn_label ⟨trivial, E, H, h, r⟩
theorem SWP.exit {id : Nat} (h : Q (.exit id) E H) : SWP L n0 N (.exit id) Q E H := SWP.of_bare fun C B hC hB kills code hns hc a w r => by
 cases code with
 | exit id' =>
  simp only [Tr.code, Option.some.injEq] at hc
  injection hc with hc
  subst hc; exact wpIn_exit ⟨trivial, E, H, h, r⟩
 | scope p => exact (hns p rfl).elim
 | _ => simp [Tr.code, Option.bind_eq_some_iff] at hc
theorem SWP.ret (h : Q .ret E H) : SWP L n0 N .ret Q E H := SWP.of_bare fun C B hC hB kills code hns hc a w r => by
 cases code with
 | ret => exact wpIn_ret ⟨trivial, E, H, h, r⟩
 | scope p => exact (hns p rfl).elim
 | _ => simp [Tr.code, Option.bind_eq_some_iff] at hc
theorem Env.kill_sub {ks : List Nat} (t : Nat) (v : V) (h : (E.kill ks).get t = some v) : E.get t = some v := by
 rw [Env.get_kill] at h
 split at h
 ·cases h
 ·exact h
theorem SWP.ops {l : List AI} {ks : List Nat} (h : opsP L l (fun E H => Q .normal (E.kill ks) H) E H) : SWP L n0 N (.ops false l ks) Q E H := SWP.of_bare fun C B hC hB kills code hns hc a w r => by
 cases code with
 | region id ops draw =>
  simp only [Tr.code, Option.map_eq_some_iff] at hc
  obtain ⟨l', hl, he⟩ := hc
  injection he with e1 e2 e3
  subst e1; subst e2; subst e3
  exact wpIn_region_list (ops_wp hC (fun a' w' E' H' hk ⟨β, hr⟩ => ⟨trivial, _, _, hk, β, hr.sub Env.kill_sub⟩) ops.toList 0 l' hl r h)
 | scope p => exact (hns p rfl).elim
 | _ => simp [Tr.code, Option.bind_eq_some_iff] at hc
theorem SWP.draw {l : List AI} {ks : List Nat} (h : dopsP L l [] [] (fun E H => Q .normal (E.kill ks) H) E H) : SWP L n0 N (.ops true l ks) Q E H := SWP.of_bare fun C B hC hB kills code hns hc a w r => by
 cases code with
 | region id ops draw =>
  simp only [Tr.code, Option.map_eq_some_iff] at hc
  obtain ⟨l', hl, he⟩ := hc
  injection he with e1 e2 e3
  subst e1; subst e2; subst e3
  exact draw_wp hC hl r h (fun a' w' E' H' hk ⟨β, hr⟩ => ⟨trivial, _, _, hk, β, hr.sub Env.kill_sub⟩)
 | scope p => exact (hns p rfl).elim
 | _ => simp [Tr.code, Option.bind_eq_some_iff] at hc
theorem SWP.drawS {l : List AI} {ks : List Nat} (h : dopsS L l [] [] [] (fun E H => Q .normal (E.kill ks) H) E H) : SWP L n0 N (.ops true l ks) Q E H := SWP.of_bare fun C B hC hB kills code hns hc a w r => by
 cases code with
 | region id ops draw =>
  simp only [Tr.code, Option.map_eq_some_iff] at hc
  obtain ⟨l', hl, he⟩ := hc
  injection he with e1 e2 e3
  subst e1; subst e2; subst e3
  exact draw_wpS hC hl r h (fun a' w' E' H' hk ⟨β, hr⟩ => ⟨trivial, _, _, hk, β, hr.sub Env.kill_sub⟩)
 | scope p => exact (hns p rfl).elim
 | _ => simp [Tr.code, Option.bind_eq_some_iff] at hc
theorem SWP.seq {x y : AC} (h : SWP L n0 N x (AX.then (SWP L n0 N y Q) Q) E H) : SWP L n0 N (.seq x y) Q E H := SWP.of_bare fun C B hC hB kills code hns hc a w r => by
 cases code with
 | seq p q =>
  simp only [Tr.code, Option.bind_eq_some_iff, Option.map_eq_some_iff] at hc
  obtain ⟨x', hx, y', hy, he⟩ := hc
  injection he with e1 e2
  subst e1; subst e2
  refine wpIn_seq (Code.wpIn_mono (fun e a w ⟨g, E, H, h1, h2⟩ => ?_) (h C B hC hB kills p hx a w r))
  cases e with
  | normal => exact h1 C B hC hB kills q hy a w h2
  | _ => exact ⟨g, E, H, h1, h2⟩
 | scope p => exact (hns p rfl).elim
 | _ => simp [Tr.code, Option.bind_eq_some_iff] at hc
theorem SWP.cond {c : AOpd} {x y : AC} {t : Bool} (ht : opval L.G E.get c = some (.bool t)) (h : SWP L n0 N (if t then x else y) Q E H) : SWP L n0 N (.cond c x y) Q E H := SWP.of_bare fun C B hC hB kills code hns hc a w r => by
 cases code with
 | cond p x' y' =>
  simp only [Tr.code, Option.bind_eq_some_iff, Option.map_eq_some_iff] at hc
  obtain ⟨c', hc', x'', hx, y'', hy, he⟩ := hc
  injection he with e1 e2 e3
  subst e1; subst e2; subst e3
  obtain ⟨β, r'⟩ := r
  have hr := r'.rs.opd hC p c' _ hc' ht
  generalize hq : a.eval p = q at hr
  cases hr with
  | bool =>
   refine wpIn_cond hq ?_
   cases t with
   | true => exact h C B hC hB kills x' hx a w ⟨β, r'⟩
   | false => exact h C B hC hB kills y' hy a w ⟨β, r'⟩
 | scope p => exact (hns p rfl).elim
 | _ => simp [Tr.code, Option.bind_eq_some_iff] at hc
theorem SWP.block {id : Nat} {x : AC} (h : SWP L n0 N x (AX.inBlock id Q) E H) : SWP L n0 N (.block id x) Q E H := SWP.of_bare fun C B hC hB kills code hns hc a w r => by
 cases code with
 | block id' p =>
  simp only [Tr.code, Option.map_eq_some_iff] at hc
  obtain ⟨x', hx, he⟩ := hc
  injection he with e1 e2
  subst e1; subst e2
  refine wpIn_block (Code.wpIn_mono (fun e a w ⟨g, E, H, h1, h2⟩ => ?_) (h C B hC hB kills p hx a w r))
  cases e with
  | exit id =>
   simp only [AX.inBlock] at h1
   simp only [Exit.inBlock]
   by_cases c : id = id'
   ·rw [if_pos c] at h1 ⊢; exact ⟨trivial, E, H, h1, h2⟩
   ·rw [if_neg c] at h1 ⊢; exact ⟨trivial, E, H, h1, h2⟩
  | _ => exact ⟨g, E, H, h1, h2⟩
 | scope p => exact (hns p rfl).elim
 | _ => simp [Tr.code, Option.bind_eq_some_iff] at hc
theorem least {p : Nat → Prop} : ∀ {n : Nat}, p n → ∃ m, p m ∧ ∀ k, p k → m ≤ k := by
 intro n
 induction n using Nat.strongRecOn with
 | _ n ih =>
  intro h
  by_cases hex : ∃ k, k < n ∧ p k
  ·obtain ⟨k, hk, hp⟩ := hex; exact ih k hk hp
  ·exact ⟨n, h, fun k hk => Nat.le_of_not_lt fun hlt => hex ⟨k, hlt, hk⟩⟩
theorem SWP.loop {x : AC} (I : Nat → Env → Heap → Prop) {m0 : Nat} (h0 : I m0 E H)
    (round : ∀ m E H, I m E H → SWP L n0 N x (AX.then (fun E' H' => ∃ m', m' < m ∧ (I m' E' H' ∨ ∃ src fz, okSh n0 src = true ∧ I m' (E'.sh (sgOf H' src fz)) (H'.sh src fz))) Q) E H) : SWP L n0 N (.loop x) Q E H := SWP.of_bare fun C B hC hB kills code hns hc a w r => by
 cases code with
 | loop p =>
  simp only [Tr.code, Option.map_eq_some_iff] at hc
  obtain ⟨x', hx, he⟩ := hc
  injection he with e1
  subst e1
  let J : Act → World → Nat → Prop := fun a w m => ∃ E H, I m E H ∧ RSx C B N E H a w
  refine wpIn_loop (fun a w => ∃ m, J a w m) (fun a w => @dite _ (∃ m, J a w m) (Classical.propDecidable _) (fun h => (least h.choose_spec).choose) (fun _ => 0)) ⟨m0, E, H, h0, r⟩ (fun a w hJ => ?_)
  rw [dif_pos hJ]
  have hsp := (least hJ.choose_spec).choose_spec
  generalize (least hJ.choose_spec).choose = m at hsp ⊢
  obtain ⟨⟨E1, H1, hI, hr⟩, _⟩ := hsp
  refine Code.wpIn_mono (fun e a' w' ⟨g, E', H', h1, h2⟩ => ?_) (round m E1 H1 hI C B hC hB kills p hx a w hr)
  cases e with
  | normal =>
   obtain ⟨m', hm', h1⟩ := h1
   have hJ' : J a' w' m' := by
    rcases h1 with hI' | ⟨src, fz, hok, hI'⟩
    ·exact ⟨_, _, hI', h2⟩
    ·obtain ⟨β, r'⟩ := h2
     exact ⟨_, _, hI', r'.shift src fz (by rw [hB]; exact hok)⟩
   refine ⟨⟨m', hJ'⟩, ?_⟩
   rw [dif_pos ⟨m', hJ'⟩]
   have := (least (Exists.choose_spec (⟨m', hJ'⟩ : ∃ m, J a' w' m))).choose_spec.2 m' hJ'
   omega
  | _ => exact ⟨g, E', H', h1, h2⟩
 | scope p => exact (hns p rfl).elim
 | _ => simp [Tr.code, Option.bind_eq_some_iff] at hc
end
def resV1 (E : Nat → Option V) (h : Nat → Option Blk) : ARes → Option V
 | .t n => E n
 | .cell n size leaf => (E n).bind fun p => (loadV (shG p.psz h) size leaf p).map (·.v)
def resVs (E : Nat → Option V) (h : Nat → Option Blk) : List ARes → Option (List V)
 | [] => some []
 | r :: l => (resV1 E h r).bind fun v => (resVs E h l).bind fun vs => some (v :: vs)
def resV (E : Nat → Option V) (h : Nat → Option Blk) (l : List ARes) : Option V := (resVs E h l).map fun vs => match vs with | [v] => v | vs => .tup vs
def argE : List V → Nat → Env
 | [], _ => []
 | v :: r, i => (i, v) :: argE r (i + 1)
theorem argE_get : ∀ (l : List V) (i t : Nat), (argE l i).get t = if i ≤ t then l[t - i]? else none
 | [], i, t => by simp [argE, Env.get]
 | v :: r, i, t => by
  simp only [argE, Env.get]
  by_cases h : i = t
  ·subst h; simp
  ·have : (i == t) = false := by simp [h]
   rw [this, cond_false, argE_get r (i + 1) t]
   by_cases h2 : i ≤ t
   ·rw [if_pos (by omega), if_pos h2, show t - i = t - (i + 1) + 1 by omega]; simp
   ·rw [if_neg (by omega), if_neg h2]
section
variable {A : Nat → Prop} {C : Ctx} {w : World} {β : Nat → Option Nat} {h : Nat → Option Blk}
theorem loadV_at (hh : HeapR A C.N w β h) {t : TypeId} {k : Nat} {g : Bool} (hsz : C.T.size t = some k) (hag : C.T.isAgg t = some g) {p : V} {x : Value} (hp : Rel C.N w (Imm A w β h) β p x) {e : Eff} (he : loadV h k (!g) p = some e) :
    ∃ ad y, x = .pointer (some ad) ∧ (loadVar t ad).run C.T.P w = .ok y w ∧ Rel C.N w (Imm A w β h) β e.v y := by
 have key : ∀ (b o : Nat) (v : V), (∃ y, (Instr.loadAt t (.pointer (some ⟨b, o, none⟩))).run C.T.P w = .ok y w ∧ Rel C.N w (Imm A w β h) β v y) → ∃ ad y, Value.pointer (some ⟨b, o, none⟩) = .pointer (some ad) ∧ (loadVar t ad).run C.T.P w = .ok y w ∧ Rel C.N w (Imm A w β h) β v y := fun b o v ⟨y, h1, h2⟩ => by
  refine ⟨_, y, rfl, ?_, h2⟩
  simpa only [Instr.loadAt, Instr.sureAddr, Sem.run_bind, Sem.run_pure, Result.andThen_ok] using h1
 cases hp with
 | ptr _ a size i o b hb =>
  unfold loadV at he
  cases hk : h a with
  | none => simp only [hk] at he; cases he
  | some kk =>
   cases kk with
   | loop => simp only [hk] at he; cases he
   | stop => simp only [hk] at he; cases he
   | map => simp only [hk] at he; cases he
   | iter => simp only [hk] at he; cases he
   | siter => simp only [hk] at he; cases he
   | junk => simp only [hk] at he; cases he
   | arr size' rows =>
    simp only [hk] at he
    split at he
    ·rename_i hs
     subst hs
     simp only [Option.bind_eq_some_iff] at he
     obtain ⟨row, hrow, v, hv, he⟩ := he
     simp only [Option.some.injEq] at he
     subst he
     obtain ⟨b', h1, h2, h3⟩ := hh.at' a _ hk
     rw [hb] at h1; cases h1
     exact key _ _ _ (load_cells (w := w) (β := β) hsz hag (N := C.N) hv b (i * size) (fun j x hj => h3.cell hrow hj))
    ·cases he
 | iptr _ size rows i o b off ys hS hr hy hrel =>
  simp only [loadV, Option.bind_eq_some_iff] at he
  obtain ⟨row, hrow, v, hv, he⟩ := he
  simp only [Option.some.injEq] at he
  subst he
  exact key _ _ _ (load_cells (w := w) (β := β) hsz hag (N := C.N) (S := Imm A w β h) hv b (off + i * size) (fun j x hj => ⟨_, (hy i row j x hrow hj).1, (hy i row j x hrow hj).2, (hrel i row j x hrow hj).mono (fun _ h => h) (fun _ _ => rfl) (fun _ _ h => h) (fun _ _ h => by cases h)⟩))
 | _ => simp [loadV] at he
theorem ress_run {tmps : Array Value} {E : Nat → Option V} (hh : HeapR A C.N w β h) (henv : ∀ t v, E t = some v → ∃ x, tmps[t]? = some x ∧ Rel C.N w (Imm A w β h) β v x) : ∀ (rs : List ResultVar) (as : List ARes) (vs : List V), C.T.ress rs = some as → resVs E h as = some vs →
    ∃ xs : List Value, (rs.mapM fun r => (match r with | .tmp t => pure (tmps.getD t undef) | .cell a t => do loadVar t (← asAddr (tmps.getD a undef)) : Sem Value)).run C.T.P w = .ok xs w ∧ xs.length = vs.length ∧ ∀ (i : Nat) (v : V) (x : Value), vs[i]? = some v → xs[i]? = some x → Rel C.N w (Imm A w β h) β v x
 | [], as, vs, h1, h2 => by
  simp [Tr.ress] at h1; subst h1
  simp [resVs] at h2; subst h2
  exact ⟨[], by simp [Sem.run_pure], rfl, fun i v x h => by simp at h⟩
 | r :: rs, as, vs, h1, h2 => by
  simp only [Tr.ress, Option.bind_eq_some_iff] at h1
  obtain ⟨a, ha, as', has, he⟩ := h1
  simp only [Option.some.injEq] at he; subst he
  simp only [resVs, Option.bind_eq_some_iff] at h2
  obtain ⟨v, hv, vs', hvs, he⟩ := h2
  simp only [Option.some.injEq] at he; subst he
  obtain ⟨xs, g1, g2, g3⟩ := ress_run hh henv rs as' vs' has hvs
  have hone : ∃ y, (match r with | .tmp t => pure (tmps.getD t undef) | .cell a t => do loadVar t (← asAddr (tmps.getD a undef)) : Sem Value).run C.T.P w = .ok y w ∧ Rel C.N w (Imm A w β h) β v y := by
   cases r with
   | tmp t =>
    simp [Tr.res] at ha; subst ha
    obtain ⟨x, hx, hr⟩ := henv t v hv
    refine ⟨x, ?_, hr⟩
    simp only [Array.getD_eq_getD_getElem?, hx]; rfl
   | cell t ty =>
    simp only [Tr.res, Option.bind_eq_some_iff, Option.map_eq_some_iff] at ha
    obtain ⟨n, hn, g, hg, rfl⟩ := ha
    simp only [resV1, Option.bind_eq_some_iff, Option.map_eq_some_iff] at hv
    obtain ⟨p, hp, e, he, rfl⟩ := hv
    obtain ⟨x, hx, hr⟩ := henv t p hp
    have him : Imm A w β (shG p.psz h) = Imm A w β h := imm_sh (fun q => shG_none)
    obtain ⟨ad, y, rfl, h3, h4⟩ := loadV_at (hh.shape p.psz) hn hg (by rw [him]; exact hr) he
    rw [him] at h4
    refine ⟨y, ?_, h4⟩
    simp only
    rw [Array.getD_eq_getD_getElem?, hx]
    simp only [Option.getD_some, asAddr, Sem.run_bind, Sem.run_pure, Result.andThen_ok, h3]
  obtain ⟨y, g4, g5⟩ := hone
  refine ⟨y :: xs, ?_, by simp [g2], fun i v' x' hv' hx' => ?_⟩
  ·rw [List.mapM_cons, Sem.run_bind, g4, Result.andThen_ok, Sem.run_bind, g1, Result.andThen_ok]; rfl
  ·cases i with
   | zero => simp at hv' hx'; subst hv'; subst hx'; exact g5
   | succ i => simp at hv' hx'; exact g3 i v' x' hv' hx'
theorem results_rel {fn : Func} {tmps : Array Value} {E : Nat → Option V} (hh : HeapR A C.N w β h) (henv : ∀ t v, E t = some v → ∃ x, tmps[t]? = some x ∧ Rel C.N w (Imm A w β h) β v x) {as : List ARes} {v : V} (h1 : C.T.ress fn.results.toList = some as) (h2 : resV E h as = some v) :
    ∃ x, (results fn tmps).run C.T.P w = .ok x w ∧ Rel C.N w (Imm A w β h) β v x := by
 simp only [resV, Option.map_eq_some_iff] at h2
 obtain ⟨vs, hvs, rfl⟩ := h2
 obtain ⟨xs, g1, g2, g3⟩ := ress_run hh henv fn.results.toList as vs h1 hvs
 refine ⟨if h : xs.toArray.size = 1 then xs.toArray[0] else .tuple xs.toArray, ?_, ?_⟩
 ·unfold results
  rw [Array.mapM_eq_mapM_toList]
  simp only [bind_map_left, Sem.run_bind]
  exact (congrArg (fun r => Result.andThen r _) g1).trans rfl
 ·match vs, g2, g3 with
  | [v], g2, g3 =>
   match xs, g2 with
   | [x], _ => exact g3 0 v x rfl rfl
  | [], g2, g3 =>
   match xs, g2 with
   | [], _ => exact .tup _ [] _ rfl (fun i c y h => by simp at h)
  | v1 :: v2 :: vs, g2, g3 =>
   have : ¬ xs.toArray.size = 1 := by simp [g2]
   rw [dif_neg this]
   exact .tup _ _ _ (by simpa using g2) (fun i c y hc hy => g3 i c y hc (by simpa using hy))
end
def ResP (rs : List ARes) (n0 : Nat) (Post : V → Heap → Prop) (E : Env) (H : Heap) : Prop :=
 match resV E.get H.get rs with
 | some r => Post r H ∨ ∃ src fz, okSh n0 src = true ∧ Post (r.ren (sgOf H src fz)) (H.sh src fz)
 | none => False
def FnQ (F : AFunc) (n0 : Nat) (Post : V → Heap → Prop) : Exit → Env → Heap → Prop
 | .normal, E, H | .ret, E, H => ResP F.results n0 Post E H
 | _, _, _ => False
theorem RS.unmark {C : Ctx} {B : Base} {N : Nat} {E : Nat → Option V} {h : Nat → Option Blk} {β : Nat → Option Nat} {fn : Func} {R : Ending → World → Prop} : ∀ (ds : List Deferred) (a : Act) (w : World), a.defers = ds → RS C B N E h β a w →
    (∀ w', RS C B N E h β { a with defers := [] } w' → ∃ v, (results fn a.tmps).run C.T.P w' = .ok v w' ∧ R (.returned v) w') → LeavesInM Fence.wide 0 C.T.P fn a.tmps R ds .returning w
 | [], a, w, hd, r, hf => by
  have : ({ a with defers := [] } : Act) = a := by cases a; simp at hd; simp [hd]
  exact hf w (by rw [this]; exact r)
 | d :: ds, a, w, hd, r, hf => by
  obtain ⟨rs, h1, h2, h3⟩ := r.defers
  rw [hd] at h1
  cases rs with
  | nil => simp at h1
  | cons r0 rs =>
   simp only [List.map_cons, List.cons.injEq] at h1
   obtain ⟨h4, h5⟩ := h1
   rw [List.nodup_cons] at h2
   obtain ⟨h6, h7⟩ := h3 r0 (by simp)
   refine ⟨by simp, .inl ⟨r0, _, h4, run_takeDeferred h7, ?_⟩⟩
   have hX : ∀ b, b = r0 → ¬ Live β h b ∧ ∀ c T f, w.heap[b]? ≠ some (.cells c T f) := fun b hb => by
    subst hb
    exact ⟨r.heap.not_live h7, fun c T f e => by rw [h7] at e; cases e⟩
   have r' : RS C B N E h β { a with defers := ds } (w.putObj r0 (.deferred none)) := by
    refine r.move (fun b => b = r0) hX (fun b _ hb => World.putObj_heap_other hb) (by simp) (fun b hb => .inl (by rw [hb]; exact h6)) (fun l rec hrd hl => ?_) rfl rfl rfl rfl ⟨rs, h5, h2.2, fun q hq => ⟨(h3 q (by simp [hq])).1, ?_⟩⟩
    ·have := (r.rnd l rec hrd).1
     rw [hl, h7] at this; cases this
    ·exact (World.putObj_heap_other (fun e => h2.1 (by rw [← e]; exact hq))).trans (h3 q (by simp [hq])).2
   exact RS.unmark ds { a with defers := ds } _ rfl r' hf
theorem AFn.of_body {L : Lib} {k : Nat} {F : AFunc} {args : List V} {H : Heap} {Post : V → Heap → Prop} (hT : L.T k = some F) (hn : args.length = F.nargs) (h : SWP L H.length F.ntmps F.body (FnQ F H.length Post) (argE args 0) H) : AFn L (.fn k) args H Post := by
 intro C hC A w β vs hA hd hh hg ha fid hf
 obtain ⟨fn, hfn, hF⟩ := hC.fn k fid F hf hT
 unfold Tr.func at hF
 simp only [Option.bind_eq_some_iff] at hF
 obtain ⟨code, hcode, ac, hac, rs, hrs, hF⟩ := hF
 rw [Option.ite_none_right_eq_some] at hF
 obtain ⟨⟨hle, _⟩, hF⟩ := hF
 simp only [Option.some.injEq] at hF
 have e1 : F.ntmps = fn.ntmps := by rw [← hF]
 have e2 : F.nargs = fn.params.size + fn.nfree := by rw [← hF]
 have e3 : F.results = rs := by rw [← hF]
 have e4 : F.body = ac := by rw [← hF]
 refine (callsIn_wide (n := 0)).1 (callsIn_of_wp_marks hfn hcode trivial ?_)
 let B : Base := { w0 := w, L0 := Live β H.get, β0 := β, n0 := H.length, A := A, hA := hA, rd := none }
 have hargs := ha.1
 have hinit : RSL C B F.ntmps (argE args 0) H β { tmps := vs ++ Array.replicate (fn.ntmps - vs.size) undef, defers := [] } w := by
  refine ⟨⟨?_, MarksOk.nil _ _, fun t v hv => ?_, hh, Frm.refl _ _, fun b hb => .inr hb, fun _ _ => rfl, hg, fun l rec h => by cases h⟩, hd, Nat.le_refl _⟩
  ·simp only [Array.size_append, Array.size_replicate]; omega
  ·rw [argE_get, if_pos (Nat.zero_le _), Nat.sub_zero] at hv
   have hlt : t < vs.size := by rw [hargs]; exact (List.getElem?_eq_some_iff.1 hv).1
   refine ⟨vs[t], ?_, ha.2 t v _ hv (Array.getElem?_eq_getElem hlt)⟩
   rw [Array.getElem?_append_left hlt]
   exact Array.getElem?_eq_getElem hlt
 have hw := h C B hC rfl F.kills code (by rw [e1, e4]; exact hac) _ w ⟨β, hinit⟩
 let R : Ending → World → Prop := fun e w' => ∃ v r H' β', e = .returned v ∧ Post r H' ∧ H.length ≤ H'.length ∧ (∀ a, H'.length ≤ a → β' a = none) ∧ (∀ a, a < H.length → β' a = β a) ∧ HeapR A C.N w' β' H'.get ∧ Rel C.N w' (Imm A w' β' H'.get) β' r v ∧
     (∀ b, Live β' H'.get b → w.heap.size ≤ b ∨ Live β H.get b) ∧ Frm (Live β H.get) w w'
 have hend : ∀ (a : Act) (w' : World) (E' : Env) (H' : Heap), ResP F.results H.length Post E' H' → RSx C B F.ntmps E' H' a w' → LeavesInM Fence.wide 0 C.T.P fn a.tmps R a.defers .returning w' := fun a w' E' H' hres ⟨β1, r0⟩ => by
  unfold ResP at hres
  split at hres
  ·rename_i v0 hv0
   refine RS.unmark a.defers a w' rfl r0.rs (fun w'' rs => ?_)
   have r : RSL C B F.ntmps E' H' β1 { a with defers := [] } w'' := ⟨rs, r0.dom, r0.n0⟩
   obtain ⟨x, hx, hrel⟩ := results_rel r.rs.heap r.rs.env (as := F.results) (by rw [e3]; exact hrs) hv0
   rcases hres with hpost | ⟨src, fz, hok, hpost⟩
   ·exact ⟨x, hx, x, _, _, β1, rfl, hpost, r.n0, r.dom, fun q hq => r.rs.keep q hq, r.rs.heap, hrel, r.rs.own, r.rs.frm⟩
   have hsh : ∃ β2, RSL C B F.ntmps (E'.sh (sgOf H' src fz)) (H'.sh src fz) β2 { a with defers := [] } w'' ∧ Rel C.N w'' (Imm A w'' β2 (H'.sh src fz).get) β2 (v0.ren (sgOf H' src fz)) x := r.shift_rel src fz hok hrel
   obtain ⟨β2, r2, hrel2⟩ := hsh
   exact ⟨x, hx, x, _, _, β2, rfl, hpost, r2.n0, r2.dom, fun q hq => r2.rs.keep q hq, r2.rs.heap, hrel2, r2.rs.own, r2.rs.frm⟩
  ·exact hres.elim
 refine Code.wpIn_mono (fun e a w' ⟨g, E', H', h1, h2⟩ => ?_) hw
 cases e with
 | normal => exact hend a w' E' H' h1 h2
 | ret => exact hend a w' E' H' h1 h2
 | _ => exact h1.elim
end Go.Proofs.YtigdhgbkgfagiaaGreat
