/- AL: the theorem on one operation. -/
import Derived.Test.YtigdhgbkgfagiaaGreatZAlHm
import Derived.ChangeKeysEq
set_option linter.unusedVariables false
namespace Go.Proofs.YtigdhgbkgfagiaaGreat
section
variable {A : Nat → Prop} {C : Ctx} {w : World} {β : Nat → Option Nat} {h : Nat → Option Blk} {n : Nat} {ρ : AOpd → Option V} {a : Act}
theorem part_rel {S : Nat → Prop} {t : TypeId} {k : Nat} {g : Bool} (hk : C.T.size t = some k) (hg : C.T.isAgg t = some g) {cs : List V} {ys : Array Value} (hc : CellsR C.N w S β cs ys) {off : Nat} {v : V} (hv : takeCells cs off k (!g) = some v) :
    ∃ y, (part t ys off).run C.T.P w = .ok y w ∧ Rel C.N w S β v y := by
 rcases takeCells_spec hv with ⟨h1, h2⟩ | ⟨h1, h2, h3⟩ | ⟨h1, h2, h3⟩
 ·have hgf : g = false := by simpa using h1
  subst hgf
  obtain ⟨y, q1, q2, q3⟩ := hc.get h2
  refine ⟨y, ?_, q3⟩
  unfold part
  rw [Sem.run_bind, run_isAgg' hg w]
  simp [q1]
 ·have hgt : g = true := by simpa using h1
  subst hgt
  refine ⟨.agg (ys.extract off (off + k)), ?_, ?_⟩
  ·unfold part
   rw [Sem.run_bind, run_isAgg' hg w, Result.andThen_ok, if_pos rfl, Sem.run_bind, run_sizeOf' hk w]
   rfl
  ·rw [h2]
   have hsz := hc.1
   have hget : ∀ i, (ys.extract off (off + k))[i]? = if i < k then ys[off + i]? else none := fun i => by
    rw [Array.getElem?_extract]
    by_cases hi : i < k
    ·rw [if_pos (by omega), if_pos hi]
    ·rw [if_neg (by omega), if_neg hi]
   refine .agg _ _ _ (by simp; omega) (fun i y hy => ?_) (fun i c y hci hy => ?_)
   ·rw [hget] at hy
    split at hy
    ·exact hc.2.1 _ _ hy
    ·cases hy
   ·rw [hget] at hy
    rw [List.getElem?_take] at hci
    split at hy
    ·rename_i hi
     rw [if_pos hi, List.getElem?_drop] at hci
     exact hc.2.2 _ _ _ hci hy
    ·cases hy
 ·have hgt : g = true := by simpa using h1
  subst hgt
  subst h2; subst h3
  refine ⟨.agg (ys.extract off (off + 0)), ?_, ?_⟩
  ·unfold part
   rw [Sem.run_bind, run_isAgg' hg w, Result.andThen_ok, if_pos rfl, Sem.run_bind, run_sizeOf' hk w]
   rfl
  ·refine .agg _ _ _ (by simp; omega) (fun i y hy => ?_) (fun i c y hc => by simp at hc)
   rw [Array.getElem?_eq_none (by simp; omega)] at hy
   cases hy
theorem rel_agg {S : Nat → Prop} {cs : List V} {x : Value} (h : Rel C.N w S β (.agg cs) x) : ∃ ys, x = .agg ys ∧ CellsR C.N w S β cs ys := by
 cases h with
 | agg _ _ ys hl h1 h2 => exact ⟨ys, rfl, hl, h1, h2⟩
theorem cellsOf_size {T : Tr} {e : TypeId} {k : Nat} (hk : T.size e = some k) : T.P.cellsOf e = k ∧ ∃ i, T.P.info? e = some i := by
 unfold Tr.size at hk
 cases hq : T.P.info? e with
 | none => rw [hq] at hk; cases hk
 | some i => rw [hq] at hk; simp at hk; subst hk; exact ⟨by simp [Program.cellsOf, hq], i, rfl⟩
theorem items_runs {S : Nat → Prop} {e : TypeId} {k d : Nat} {g : Bool} {es : Shp} (hk : C.T.size e = some k) (hg : C.T.isAgg e = some g) {cs ds : List V} {xs ys : Array Value} (hx : CellsR C.N w S β cs xs) (hy : CellsR C.N w S β ds ys)
    (he : ∀ (x y : V) (X Y : Value) (b : Bool), eqS es x y = some b → Rel C.N w S β x X → Rel C.N w S β y Y → (Op.equalIn d e X Y).run C.T.P w = .ok b w) : ∀ (n i : Nat) (b : Bool),
    eqLoop (fun i => (takeCells cs (i * k) k (!g)).bind fun a => (takeCells ds (i * k) k (!g)).bind fun b => eqS es a b) n i = some b → (Op.eqItems d e k xs ys (List.range' i n)).run C.T.P w = .ok b w
 | 0, i, b, h => by
  simp [eqLoop] at h; subst h; simp [Op.eqItems]
 | n + 1, i, b, h => by
  simp only [eqLoop] at h
  rw [List.range'_succ]
  have hstep : ∀ r, ((takeCells cs (i * k) k (!g)).bind fun a => (takeCells ds (i * k) k (!g)).bind fun b => eqS es a b) = some r → ∃ X Y, (part e xs (i * k)).run C.T.P w = .ok X w ∧ (part e ys (i * k)).run C.T.P w = .ok Y w ∧ (Op.equalIn d e X Y).run C.T.P w = .ok r w := fun r hr => by
   simp only [Option.bind_eq_some_iff] at hr
   obtain ⟨a, ha, b', hb', hr⟩ := hr
   obtain ⟨X, p1, p2⟩ := part_rel hk hg hx ha
   obtain ⟨Y, q1, q2⟩ := part_rel hk hg hy hb'
   exact ⟨X, Y, p1, q1, he _ _ _ _ _ hr p2 q2⟩
  split at h
  ·rename_i hr
   obtain ⟨X, Y, p1, p2, p3⟩ := hstep true hr
   have ih := items_runs hk hg hx hy he n (i + 1) b h
   simp [Op.eqItems, Sem.run_bind, p1, p2, p3, ih]
  ·rename_i hne
   obtain ⟨X, Y, p1, p2, p3⟩ := hstep b h
   cases b with
   | true => exact absurd h hne
   | false => simp [Op.eqItems, Sem.run_bind, p1, p2, p3]
theorem fields_runs {S : Nat → Prop} {d m : Nat} {cs ds : List V} {xs ys : Array Value} (hx : CellsR C.N w S β cs xs) (hy : CellsR C.N w S β ds ys)
    (he : ∀ (t : TypeId) (s : Shp) (x y : V) (X Y : Value) (b : Bool), C.T.shape m t = some s → eqS s x y = some b → Rel C.N w S β x X → Rel C.N w S β y Y → (Op.equalIn d t X Y).run C.T.P w = .ok b w) : ∀ (fs : List Field) (s : Shp) (b : Bool),
    C.T.shapeFs (C.T.shape m) fs = some s → eqS s (.agg cs) (.agg ds) = some b → (Op.eqFields d xs ys fs).run C.T.P w = .ok b w
 | [], s, b, hs, h => by
  simp [Tr.shapeFs] at hs; subst hs
  simp [eqS] at h; subst h; simp [Op.eqFields]
 | f :: fs, s, b, hs, h => by
  simp only [Tr.shapeFs] at hs
  split at hs
  ·cases hs
  ·rename_i hname
   simp only [Option.bind_eq_some_iff, Option.map_eq_some_iff] at hs
   obtain ⟨k, hk, g, hg, s1, hs1, s2, hs2, rfl⟩ := hs
   simp only [eqS] at h
   have hstep : ∀ r, ((takeCells cs f.offset k (!g)).bind fun a => (takeCells ds f.offset k (!g)).bind fun b => eqS s1 a b) = some r → ∃ X Y, (part f.type xs f.offset).run C.T.P w = .ok X w ∧ (part f.type ys f.offset).run C.T.P w = .ok Y w ∧ (Op.equalIn d f.type X Y).run C.T.P w = .ok r w := fun r hr => by
    simp only [Option.bind_eq_some_iff] at hr
    obtain ⟨a, ha, b', hb', hr⟩ := hr
    obtain ⟨X, p1, p2⟩ := part_rel hk hg hx ha
    obtain ⟨Y, q1, q2⟩ := part_rel hk hg hy hb'
    exact ⟨X, Y, p1, q1, he _ _ _ _ _ _ _ hs1 hr p2 q2⟩
   split at h
   ·rename_i hr
    obtain ⟨X, Y, p1, p2, p3⟩ := hstep true hr
    have ih := fields_runs hx hy he fs s2 b hs2 h
    simp [Op.eqFields, hname, Sem.run_bind, p1, p2, p3, ih]
   ·rename_i hne
    obtain ⟨X, Y, p1, p2, p3⟩ := hstep b h
    cases b with
    | true => exact absurd h hne
    | false => simp [Op.eqFields, hname, Sem.run_bind, p1, p2, p3]
theorem eqS_runs {S : Nat → Prop} : ∀ (m d : Nat) (t : TypeId) (s : Shp) (x y : V) (X Y : Value) (b : Bool), C.T.shape m t = some s → eqS s x y = some b → Rel C.N w S β x X → Rel C.N w S β y Y → (Op.equalIn (d + m) t X Y).run C.T.P w = .ok b w
 | 0, d, t, s, x, y, X, Y, b, hs, h, hx, hy => by simp [Tr.shape] at hs
 | m + 1, d, t, s, x, y, X, Y, b, hs, h, hx, hy => by
  simp only [Tr.shape] at hs
  split at hs
  ·rename_i n e hu
   simp only [Option.bind_eq_some_iff, Option.map_eq_some_iff] at hs
   obtain ⟨k, hk, g, hg, es, hes, rfl⟩ := hs
   cases x <;> cases y <;> simp only [eqS] at h <;> first | (cases h; done) | skip
   rename_i cs ds
   obtain ⟨xs, rfl, hcx⟩ := rel_agg hx
   obtain ⟨ys, rfl, hcy⟩ := rel_agg hy
   obtain ⟨e1, i, hi⟩ := cellsOf_size hk
   rw [show d + (m + 1) = (d + m) + 1 by omega, run_equalIn_array w (d + m) xs ys hu hi, e1, List.range_eq_range']
   exact items_runs hk hg hcx hcy (fun x y X Y b h1 h2 h3 => eqS_runs m d e es x y X Y b hes h1 h2 h3) n 0 b h
  ·rename_i fs hu
   split at hs
   ·rename_i hp
    have hagg : ∃ cs ds, x = .agg cs ∧ y = .agg ds := by
     cases hfs : fs.toList with
     | nil =>
      rw [hfs] at hs; simp [Tr.shapeFs] at hs; subst hs
      cases x <;> cases y <;> simp only [eqS] at h <;> first | (cases h; done) | exact ⟨_, _, rfl, rfl⟩
     | cons f r =>
      rw [hfs] at hs
      simp only [Tr.shapeFs] at hs
      split at hs
      ·cases hs
      ·simp only [Option.bind_eq_some_iff, Option.map_eq_some_iff] at hs
       obtain ⟨_, _, _, _, _, _, _, _, rfl⟩ := hs
       cases x <;> cases y <;> simp only [eqS] at h <;> first | (cases h; done) | exact ⟨_, _, rfl, rfl⟩
    obtain ⟨cs, ds, rfl, rfl⟩ := hagg
    obtain ⟨xs, rfl, hcx⟩ := rel_agg hx
    obtain ⟨ys, rfl, hcy⟩ := rel_agg hy
    have hfo : C.T.P.fieldsOf t = fs := by simp [Program.fieldsOf, hu]
    rw [show d + (m + 1) = (d + m) + 1 by omega, run_equalIn_struct w (d + m) t xs ys (by rw [hfo]; exact hu) hp, hfo]
    exact fields_runs hcx hcy (fun t s x y X Y b h0 h1 h2 h3 => eqS_runs m d t s x y X Y b h0 h1 h2 h3) fs.toList s b hs h
   ·cases hs
  ·simp only [Option.map_eq_some_iff] at hs
   obtain ⟨c, hc, rfl⟩ := hs
   exact leaf_runs hc hx hy h (d + m)
theorem shape_leaf (m : Nat) (t : TypeId) (c : Nat) (hs : C.T.shape (m + 1) t = some (.leaf c)) (hag : C.T.isAgg t = some true) : False := by
 simp only [Tr.shape] at hs
 split at hs
 ·simp only [Option.bind_eq_some_iff, Option.map_eq_some_iff] at hs
  obtain ⟨_, _, _, _, _, _, e⟩ := hs; cases e
 ·split at hs
  ·rename_i fs _ _
   cases hfs : fs.toList with
   | nil => rw [hfs] at hs; simp [Tr.shapeFs] at hs
   | cons f r =>
    rw [hfs] at hs
    simp only [Tr.shapeFs] at hs
    split at hs
    ·cases hs
    ·simp only [Option.bind_eq_some_iff, Option.map_eq_some_iff] at hs
     obtain ⟨_, _, _, _, _, _, _, _, e⟩ := hs; cases e
  ·cases hs
 ·rename_i h1 h2
  unfold Tr.isAgg at hag
  split at hag
  ·rename_i hq; exact h2 _ hq
  ·rename_i hq; exact h1 _ _ hq
  ·cases hag
  ·cases hag
theorem acmp_runs (hh : HeapR A C.N w β h) {op : BinOp} {t : TypeId} {x y : Operand} {s : Shp} (hs : C.T.shape 20 t = some s) (hg : C.T.P.eqGuardType C.T.P.depth t = false) (hag : C.T.isAgg t = some true) {vx vy : V} {px py : Value} (hx : Rel C.N w (Imm A w β h) β vx px) (hy : Rel C.N w (Imm A w β h) β vy py) {b : Bool} (hb : eqS s vx vy = some b)
    {neg : Bool} (hneg : op = .eql ∧ neg = false ∨ op = .neq ∧ neg = true) : Runs A C w β h n { v := .bool (if neg then !b else b) } (do pure (.value (← (do eqGuard op t x y px py; Go.binOp op t px py)))) := by
 have hrun := eqS_runs (w := w) (β := β) (S := Imm A w β h) 20 9980 t s vx vy px py b hs hb hx hy
 have hagg : ∃ xs ys, px = .agg xs ∧ py = .agg ys := by
  have hl : ∀ c, s ≠ .leaf c := fun c e => by subst e; exact shape_leaf 19 t c hs hag
  cases s with
  | leaf c => exact absurd rfl (hl c)
  | _ =>
   cases vx <;> cases vy <;> simp only [eqS] at hb <;> first | (cases hb; done) | skip
   obtain ⟨xs, rfl, _⟩ := rel_agg hx
   obtain ⟨ys, rfl, _⟩ := rel_agg hy
   exact ⟨xs, ys, rfl, rfl⟩
 obtain ⟨xs, ys, rfl, rfl⟩ := hagg
 have hrun' : (Op.equalIn 10000 t (.agg xs) (.agg ys)).run C.T.P w = .ok b w := hrun
 have hgd := run_eqGuard_agg (P := C.T.P) w op t x y xs ys hg
 rcases hneg with ⟨rfl, rfl⟩ | ⟨rfl, rfl⟩
 ·exact runs_same hh rfl rfl (x := .bool b) (by rw [Sem.run_bind, hgd, Result.andThen_ok, run_eql_struct, hrun', Result.andThen_ok]) (.bool _ _)
 ·exact runs_same hh rfl rfl (x := .bool (!b)) (by rw [Sem.run_bind, hgd, Result.andThen_ok, run_neq_struct, hrun', Result.andThen_ok]) (.bool _ _)
theorem builtin_sound (hh : HeapR A C.N w β h) (ho : OpdOk C w (Imm A w β h) β ρ a) {b : Builtin} {ts : List TypeId} {xs : List Operand} {ao : AOp} {ty : TypeId} {cs : Array Bool} (hop : C.T.builtin b ts xs = some ao) {e : Eff} (he : ao.exec0 n h ρ = some e) (hn : e.new ≠ [] → β n = none) (hhn : e.new ≠ [] → h n = none) :
    Runs A C w β h n e (builtin b ts.toArray ty cs (xs.map a.eval).toArray) := by
 unfold Tr.builtin at hop
 split at hop
 ·-- len
  rename_i t x
  have hb : builtin .len [t].toArray ty cs ([x].map a.eval).toArray = (do pure (.value (← Builtin.len_ #[t] ty #[a.eval x]))) := rfl
  rw [hb]
  split at hop
  ·rename_i hu
   simp only [Option.map_eq_some_iff] at hop
   obtain ⟨y, hy, rfl⟩ := hop
   simp only [AOp.exec0, Option.bind_eq_some_iff] at he
   obtain ⟨v, hv, he⟩ := he
   have hr := ho x y v hy hv
   generalize a.eval x = q at hr ⊢
   cases hr with
   | str _ s =>
    simp only [Option.some.injEq] at he
    subst he
    exact runs_same hh rfl rfl (x := goInt s.size) (by simp [Builtin.len_, run_underlying hu]) (by have := Rel.int (N := C.N) (w := w) (S := Imm A w β h) β .i64 s.size; simpa [goInt] using this)
   | _ => simp at he
  ·rename_i e' hu
   simp only [Option.map_eq_some_iff] at hop
   obtain ⟨y, hy, rfl⟩ := hop
   simp only [AOp.exec0, Option.bind_eq_some_iff] at he
   obtain ⟨v, hv, he⟩ := he
   have hr := ho x y v hy hv
   generalize a.eval x = q at hr ⊢
   cases hr with
   | ref _ ab size off len cap b xa c =>
    simp only [Option.some.injEq] at he
    subst he
    exact runs_same hh rfl rfl (x := goInt len) (by simp [Builtin.len_, run_underlying hu]) (.int _ _ _)
   | lst _ size rows cap aa c b off ys hc =>
    simp only [Option.some.injEq] at he
    subst he
    exact runs_same hh rfl rfl (x := goInt rows.length) (by simp [Builtin.len_, run_underlying hu]) (.int _ _ _)
   | _ => simp at he
  ·rename_i k' e' hu
   simp only [Option.map_eq_some_iff] at hop
   obtain ⟨y, hy, rfl⟩ := hop
   simp only [AOp.exec0, Option.bind_eq_some_iff] at he
   obtain ⟨v, hv, ⟨es, nd⟩, hm, he⟩ := he
   simp only [Option.some.injEq] at he
   subst he
   exact mlen_runs hh hu (ho x y v hy hv) hm
  ·cases hop
 ·rename_i t u x y
  have hb : builtin .delete [t, u].toArray ty cs ([x, y].map a.eval).toArray = (do pure (.value (← Builtin.delete_ #[t, u] ty #[a.eval x, a.eval y]))) := rfl
  rw [hb]
  split at hop
  ·rename_i k' e' hu
   simp only [Option.bind_eq_some_iff, Option.map_eq_some_iff] at hop
   obtain ⟨c, hc, x', hx, y', hy, rfl⟩ := hop
   simp only [AOp.exec0, Option.bind_eq_some_iff] at he
   obtain ⟨vx, hvx, vy, hvy, he⟩ := he
   exact mdel_runs hh hu hc (ho x x' vx hx hvx) (ho y y' vy hy hvy) he
  ·cases hop
 ·rename_i t x
  have hb : builtin .cap [t].toArray ty cs ([x].map a.eval).toArray = (do pure (.value (← Builtin.cap_ #[t] ty #[a.eval x]))) := rfl
  rw [hb]
  split at hop
  ·rename_i e' hu
   simp only [Option.map_eq_some_iff] at hop
   obtain ⟨y, hy, rfl⟩ := hop
   simp only [AOp.exec0, Option.bind_eq_some_iff] at he
   obtain ⟨v, hv, he⟩ := he
   have hr := ho x y v hy hv
   generalize a.eval x = q at hr ⊢
   cases hr with
   | ref _ ab size off len cap b xa c hb hc =>
    cases cap with
    | none => simp at he
    | some cc =>
     simp only [Option.some.injEq] at he
     subst he
     have := hc cc rfl
     subst this
     exact runs_same hh rfl rfl (x := goInt c) (by simp [Builtin.cap_, run_underlying hu]) (.int _ _ _)
   | lst _ size rows cap aa c b off ys hc =>
    cases cap with
    | none => simp at he
    | some cc =>
     simp only [Option.some.injEq] at he
     subst he
     have := hc cc rfl
     subst this
     exact runs_same hh rfl rfl (x := goInt c) (by simp [Builtin.cap_, run_underlying hu]) (.int _ _ _)
   | _ => simp at he
  ·cases hop
 ·rename_i t u x y
  have hb : builtin .append [t, u].toArray ty cs ([x, y].map a.eval).toArray = (do pure (.value (← Builtin.append_ #[t, u] ty #[a.eval x, a.eval y]))) := rfl
  rw [hb]
  have key : ∀ (e' : TypeId), C.T.P.underlying t = some (.slice e') → ((∃ e'', C.T.P.underlying u = some (.slice e'')) ∨ C.T.P.underlying u = some .string) → ((C.T.size e').bind fun s => (C.T.bytes e').bind fun k => (C.T.zero e').bind fun z => (C.T.opd x).bind fun a => (C.T.opd y).bind fun b => if s = 0 ∨ k = 0 ∨ z.length ≠ s then none else some (AOp.append s k a b)) = some ao →
      Runs A C w β h n e (do pure (.value (← Builtin.append_ #[t, u] ty #[a.eval x, a.eval y]))) := fun e' ht hu hop => by
   simp only [Option.bind_eq_some_iff] at hop
   obtain ⟨s, hs, k, hk, z, hz, x', hx, y', hy, hop⟩ := hop
   split at hop
   ·cases hop
   ·rename_i hc
    simp only [Option.some.injEq] at hop
    subst hop
    simp only [AOp.exec0, Option.bind_eq_some_iff] at he
    obtain ⟨vx, hvx, vy, hvy, he⟩ := he
    exact append_runs hh ⟨ht, hu, hs, hk, ⟨z, hz, by omega⟩, by omega, by omega⟩ (ho x x' vx hx hvx) (ho y y' vy hy hvy) he hn hhn
  split at hop
  ·rename_i e' e'' h1 h2
   exact key e' h1 (.inl ⟨_, h2⟩) hop
  ·rename_i e' h1 h2
   exact key e' h1 (.inr h2) hop
  ·cases hop
 ·rename_i t u x y
  have hb : builtin .copy [t, u].toArray ty cs ([x, y].map a.eval).toArray = (do pure (.value (← Builtin.copy_ #[t, u] ty #[a.eval x, a.eval y]))) := rfl
  rw [hb]
  have key : ∀ (e' : TypeId), C.T.P.underlying t = some (.slice e') → ((C.T.size e').bind fun s => (C.T.opd x).bind fun a => (C.T.opd y).bind fun b => if s = 0 then none else some (AOp.copy s a b)) = some ao →
      Runs A C w β h n e (do pure (.value (← Builtin.copy_ #[t, u] ty #[a.eval x, a.eval y]))) := fun e' ht hop => by
   simp only [Option.bind_eq_some_iff] at hop
   obtain ⟨s, hs, x', hx, y', hy, hop⟩ := hop
   split at hop
   ·cases hop
   ·simp only [Option.some.injEq] at hop
    subst hop
    simp only [AOp.exec0, Option.bind_eq_some_iff] at he
    obtain ⟨vx, hvx, vy, hvy, he⟩ := he
    exact copy_runs hh ht hs (ho x x' vx hx hvx) (ho y y' vy hy hvy) he
  split at hop
  ·rename_i e' e'' h1 h2
   exact key e' h1 hop
  ·rename_i e' h1 h2
   exact key e' h1 hop
  ·cases hop
 ·rename_i t x
  have hb : builtin .clear [t].toArray ty cs ([x].map a.eval).toArray = (do pure (.value (← Builtin.clear_ #[t] ty #[a.eval x]))) := rfl
  rw [hb]
  split at hop
  ·rename_i e' hu
   simp only [Option.bind_eq_some_iff] at hop
   obtain ⟨s, hs, z, hz, x', hx, hop⟩ := hop
   split at hop
   ·rename_i hzl
    simp only [Option.some.injEq] at hop
    subst hop
    simp only [AOp.exec0, Option.bind_eq_some_iff] at he
    obtain ⟨vx, hvx, he⟩ := he
    exact clr_runs hh hu hs hz hzl (ho x x' vx hx hvx) he
   ·cases hop
  ·cases hop
 ·simp only [Option.map_eq_some_iff] at hop
  obtain ⟨ys, hys, rfl⟩ := hop
  simp only [AOp.exec0, Option.bind_eq_some_iff] at he
  obtain ⟨vs, hvs, he⟩ := he
  obtain ⟨l1, r1⟩ := evals_rel ho hys hvs
  split at he
  ·rename_i v r
   simp only [Option.bind_eq_some_iff, Option.some.injEq] at he
   obtain ⟨v', hv', rfl⟩ := he
   cases xs with
   | nil => simp at l1
   | cons x xs =>
    obtain ⟨x', q1, q2⟩ := fold_ints (P := C.T.P) (w := w) (fun x y => if y < x then y else x) Builtin.min2 (fun k x y => rfl) (vs := r) (xs := xs.map a.eval) (x := a.eval x) (by simpa using l1) (fun i v y h1 h2 => r1 (i + 1) v y h1 (by simpa using h2)) (r1 0 v (a.eval x) rfl rfl) hv'
    exact runs_same hh rfl rfl (s := Builtin.min_ _ ty _) (x := x') (by simpa [Builtin.min_] using q1) q2
  ·cases he
 ·simp only [Option.map_eq_some_iff] at hop
  obtain ⟨ys, hys, rfl⟩ := hop
  simp only [AOp.exec0, Option.bind_eq_some_iff] at he
  obtain ⟨vs, hvs, he⟩ := he
  obtain ⟨l1, r1⟩ := evals_rel ho hys hvs
  split at he
  ·rename_i v r
   simp only [Option.bind_eq_some_iff, Option.some.injEq] at he
   obtain ⟨v', hv', rfl⟩ := he
   cases xs with
   | nil => simp at l1
   | cons x xs =>
    obtain ⟨x', q1, q2⟩ := fold_ints (P := C.T.P) (w := w) (fun x y => if y > x then y else x) Builtin.max2 (fun k x y => rfl) (vs := r) (xs := xs.map a.eval) (x := a.eval x) (by simpa using l1) (fun i v y h1 h2 => r1 (i + 1) v y h1 (by simpa using h2)) (r1 0 v (a.eval x) rfl rfl) hv'
    exact runs_same hh rfl rfl (s := Builtin.max_ _ ty _) (x := x') (by simpa [Builtin.max_] using q1) q2
  ·cases he
 ·cases hop
theorem ref_some {N : Nums} {S : Nat → Prop} {a s o l : Nat} {cap : Option Nat} {x : Option Addr} {n c : Nat} (h : Rel N w S β (.ref a s o l cap) (.slice x n c)) : ∃ y, x = some y := by
 cases h with
 | ref _ _ _ _ _ _ b _ _ hb hc hlc hx hm hnn => exact Option.ne_none_iff_exists'.1 hnn
theorem isnil_runs (hh : HeapR A C.N w β h) {op : BinOp} {t : TypeId} {x y : Operand} {d : TypeDesc} (hu : C.T.P.underlying t = some d) {c : Nat} (hc : nilFits d y = some c) {v : V} {px : Value} (hv : Rel C.N w (Imm A w β h) β v px) {b : Bool} (hb : isnilV c v = some b)
    {neg : Bool} (hneg : op = .eql ∧ neg = false ∨ op = .neq ∧ neg = true) : Runs A C w β h n { v := .bool (if neg then !b else b) } (do pure (.value (← (do eqGuard op t x y px (a.eval y); Go.binOp op t px (a.eval y))))) := by
 have key : ∀ (ny : Value), eqGuard op t x y px ny = pure () → (Go.binOp .eql t px ny = (do pure (.bool (← Op.equal t px ny)))) → (Go.binOp .neq t px ny = (do pure (.bool (!(← Op.equal t px ny))))) → (Op.equal t px ny).run C.T.P w = .ok b w →
     Runs A C w β h n { v := .bool (if neg then !b else b) } (do pure (.value (← (do eqGuard op t x y px ny; Go.binOp op t px ny)))) := fun ny h1 h2 h3 h4 => by
  rw [h1]
  rcases hneg with ⟨rfl, rfl⟩ | ⟨rfl, rfl⟩
  ·rw [h2]
   exact runs_same hh rfl rfl (x := .bool b) (by simp [h4]) (.bool _ _)
  ·rw [h3]
   exact runs_same hh rfl rfl (x := .bool (!b)) (by simp [h4]) (.bool _ _)
 have eqv : ∀ {p q : Value} {z : Bool}, (Op.equalIn (9999 + 1) t p q).run C.T.P w = .ok z w → (Op.equal t p q).run C.T.P w = .ok z w := fun h => h
 unfold nilFits at hc
 split at hc
 all_goals (first | (cases hc; done) | skip)
 all_goals simp only [Option.some.injEq] at hc
 all_goals subst hc
 all_goals have hv0 := hv
 all_goals (cases hv <;> simp only [isnilV, Option.some.injEq] at hb <;> first | (cases hb; done) | skip)
 case h_1.lst size rows cap aa c b' off ys hc1 hlc ha hn' hr hy h hz =>
  split at hb
  ·rename_i h0
   split at hb
   ·rename_i h1
    simp only [Option.some.injEq] at hb
    subst hb
    have := hz.1 h1 h0
    subst this
    exact key _ (by cases op <;> rfl) rfl rfl (eqv (by rw [Op.equalIn, Sem.run_bind, run_underlying hu]; rfl))
   ·split at hb
    ·rename_i h1
     simp only [Option.some.injEq] at hb
     subst hb
     obtain ⟨xa, rfl⟩ := Option.ne_none_iff_exists'.1 (hz.2 h1 h0)
     exact key _ (by cases op <;> rfl) rfl rfl (eqv (by rw [Op.equalIn, Sem.run_bind, run_underlying hu]; rfl))
    ·cases hb
  ·rename_i h0
   simp only [Option.some.injEq] at hb
   subst hb
   have := (ha (by omega)).1
   subst this
   exact key _ (by cases op <;> rfl) rfl rfl (eqv (by rw [Op.equalIn, Sem.run_bind, run_underlying hu]; rfl))
 case h_1.ref =>
  subst hb
  obtain ⟨xa, rfl⟩ := ref_some hv0
  exact key _ (by cases op <;> rfl) rfl rfl (eqv (by rw [Op.equalIn, Sem.run_bind, run_underlying hu]; rfl))
 all_goals subst hb
 all_goals exact key _ (by cases op <;> first | rfl | simp [eqGuard, Act.eval]) rfl rfl (eqv (by rw [Op.equalIn, Sem.run_bind, run_underlying hu]; rfl))
theorem exec_sound0 (hh : HeapR A C.N w β h) (ho : OpdOk C w (Imm A w β h) β ρ a) {o : Oper} {ao : AOp} (hop : C.T.op o.op = some ao) {e : Eff} (he : ao.exec0 n h ρ = some e) (hn : e.new ≠ [] → β n = none) (hhn : e.new ≠ [] → h n = none) : Runs A C w β h n e (execOp a.eval o) := by
 unfold execOp
 cases hq : o.op with
 | move x =>
  rw [hq] at hop
  dsimp only
  simp only [Tr.op, Option.map_eq_some_iff] at hop
  obtain ⟨y, hy, rfl⟩ := hop
  simp only [AOp.exec0, Option.bind_eq_some_iff, Option.some.injEq] at he
  obtain ⟨v, hv, rfl⟩ := he
  exact runs_val hh rfl rfl (ho x y v hy hv)
 | assign x =>
  rw [hq] at hop
  dsimp only
  simp only [Tr.op, Option.map_eq_some_iff] at hop
  obtain ⟨y, hy, rfl⟩ := hop
  simp only [AOp.exec0, Option.bind_eq_some_iff, Option.some.injEq] at he
  obtain ⟨v, hv, rfl⟩ := he
  exact runs_val hh rfl rfl (ho x y v hy hv)
 | pick c x y =>
  rw [hq] at hop
  dsimp only
  simp only [Tr.op, Option.bind_eq_some_iff, Option.some.injEq] at hop
  obtain ⟨c', hc, x', hx, y', hy, rfl⟩ := hop
  simp only [AOp.exec0, Option.bind_eq_some_iff] at he
  obtain ⟨v, hv, he⟩ := he
  have hr := ho c c' v hc hv
  split at he
  ·simp only [Option.bind_eq_some_iff, Option.some.injEq] at he
   obtain ⟨v', hv', rfl⟩ := he
   have h2 := ho x x' v' hx hv'
   generalize a.eval c = q at hr ⊢
   cases hr
   exact ⟨_, w, .inl (by simp [asBool] <;> rfl), effOk_same hh rfl rfl rfl rfl rfl rfl h2⟩
  ·simp only [Option.bind_eq_some_iff, Option.some.injEq] at he
   obtain ⟨v', hv', rfl⟩ := he
   have h2 := ho y y' v' hy hv'
   generalize a.eval c = q at hr ⊢
   cases hr
   exact ⟨_, w, .inl (by simp [asBool] <;> rfl), effOk_same hh rfl rfl rfl rfl rfl rfl h2⟩
  ·cases he
 | alloc t =>
  rw [hq] at hop
  dsimp only
  simp only [Tr.op, Option.map_eq_some_iff] at hop
  obtain ⟨z, hz, rfl⟩ := hop
  simp only [AOp.exec0, Option.some.injEq] at he
  subst he
  exact alloc_runs hh (hn (by simp)) (hhn (by simp)) hz
 | box t x =>
  rw [hq] at hop
  dsimp only
  simp only [Tr.op, Option.map_eq_some_iff] at hop
  obtain ⟨y, hy, rfl⟩ := hop
  simp only [AOp.exec0, Option.bind_eq_some_iff] at he
  obtain ⟨v, hv, he⟩ := he
  split at he
  ·rename_i hval
   simp only [Option.some.injEq] at he
   subst he
   exact box_runs hh (hn (by simp)) (hhn (by simp)) (ho x y v hy hv) hval
  ·cases he
 | build t ps =>
  rw [hq] at hop
  dsimp only
  have hop0 := hop
  simp only [Tr.op] at hop
  split at hop
  ·simp only [Option.bind_eq_some_iff, Option.map_eq_some_iff] at hop
   obtain ⟨_, _, z, hz, as, has, rfl⟩ := hop
   simp only [AOp.exec0, Option.bind_eq_some_iff, Option.some.injEq] at he
   obtain ⟨vs, hvs, cs, hcs, rfl⟩ := he
   exact build_runs hh ho hop0 hvs hcs
  ·simp only [Option.bind_eq_some_iff, Option.map_eq_some_iff] at hop
   obtain ⟨z, hz, s, hs, as, has, rfl⟩ := hop
   simp only [AOp.exec0, Option.bind_eq_some_iff, Option.some.injEq] at he
   obtain ⟨vs, hvs, cs, hcs, rfl⟩ := he
   exact build_runs hh ho hop0 hvs hcs
  ·cases hop
 | buildSlice t k ps =>
  rw [hq] at hop
  dsimp only
  simp only [Tr.op] at hop
  split at hop
  ·rename_i e' hu
   simp only [Option.bind_eq_some_iff] at hop
   obtain ⟨s, hs, z, hz, as, has, hop⟩ := hop
   split at hop
   ·rename_i hc
    simp only [Option.some.injEq] at hop
    subst hop
    simp only [AOp.exec0, Option.bind_eq_some_iff, Option.some.injEq] at he
    obtain ⟨vs, hvs, rows, hrows, rfl⟩ := he
    exact bslice_runs hh (hn (by simp)) (hhn (by simp)) ho hu hs hz hc.2 hc.1 has hvs hrows
   ·cases hop
  ·cases hop
 | load t x =>
  rw [hq] at hop
  dsimp only
  simp only [Tr.op, Option.bind_eq_some_iff, Option.map_eq_some_iff] at hop
  obtain ⟨k, hk, g, hg, y, hy, rfl⟩ := hop
  simp only [AOp.exec0, Option.bind_eq_some_iff] at he
  obtain ⟨p, hp, he⟩ := he
  exact loadV_runs hh hk hg (ho x y p hy hp) he
 | store t x y =>
  rw [hq] at hop
  dsimp only
  simp only [Tr.op, Option.bind_eq_some_iff, Option.map_eq_some_iff] at hop
  obtain ⟨k, hk, x', hx, y', hy, rfl⟩ := hop
  simp only [AOp.exec0, Option.bind_eq_some_iff] at he
  obtain ⟨p, hp, v, hv, he⟩ := he
  exact storeV_runs hh hk (ho x x' p hx hp) (ho y y' v hy hv) he
 | nilCheck x =>
  rw [hq] at hop
  dsimp only
  simp only [Tr.op, Option.map_eq_some_iff] at hop
  obtain ⟨y, hy, rfl⟩ := hop
  simp only [AOp.exec0, Option.bind_eq_some_iff] at he
  obtain ⟨v, hv, he⟩ := he
  have hr := ho x y v hy hv
  generalize hvx : a.eval x = q at hr ⊢
  have hr0 := hr
  cases hr with
  | ptr => simp only [Option.some.injEq] at he; subst he; exact runs_val hh rfl rfl hr0
  | iptr => simp only [Option.some.injEq] at he; subst he; exact runs_val hh rfl rfl hr0
  | fn => simp only [Option.some.injEq] at he; subst he; exact runs_val hh rfl rfl hr0
  | iface => simp only [Option.some.injEq] at he; subst he; exact runs_val hh rfl rfl hr0
  | _ => simp at he
 | binOp op t x y t2 =>
  rw [hq] at hop
  dsimp only
  simp only [Tr.op, Option.bind_eq_some_iff] at hop
  obtain ⟨x', hx, y', hy, hop⟩ := hop
  have plain : ∀ (op' : BinOp), op' = op → (AOp.bin op' x' y').exec0 n h ρ = some e → Runs A C w β h n e (do pure (.value (← (do eqGuard op t x y (a.eval x) (a.eval y); Go.binOp op t (a.eval x) (a.eval y))))) := fun op' e0 he => by
   subst e0
   simp only [AOp.exec0, Option.bind_eq_some_iff, Option.some.injEq] at he
   obtain ⟨vx, hvx, vy, hvy, v, hv, rfl⟩ := he
   exact bin_runs hh (ho x x' vx hx hvx) (ho y y' vy hy hvy) hv
  have bools : ∀ (neg : Bool), C.T.P.underlying t = some .bool → (op = .eql ∧ neg = false ∨ op = .neq ∧ neg = true) → (AOp.beq neg x' y').exec0 n h ρ = some e → Runs A C w β h n e (do pure (.value (← (do eqGuard op t x y (a.eval x) (a.eval y); Go.binOp op t (a.eval x) (a.eval y))))) := fun neg hu hneg he => by
   simp only [AOp.exec0, Option.bind_eq_some_iff] at he
   obtain ⟨vx, hvx, vy, hvy, he⟩ := he
   have h1 := ho x x' vx hx hvx
   have h2 := ho y y' vy hy hvy
   generalize a.eval x = qx at h1 ⊢
   generalize a.eval y = qy at h2 ⊢
   cases h1 with
   | bool _ p =>
    cases h2 with
    | bool _ q =>
     simp only [Option.some.injEq] at he
     subst he
     have hg : eqGuard op t x y (.bool p) (.bool q) = pure () := by cases op <;> rfl
     rw [hg]
     rcases hneg with ⟨rfl, rfl⟩ | ⟨rfl, rfl⟩
     ·exact runs_same hh rfl rfl (x := .bool (p == q)) (by simp [run_eql_bool w t p q hu]) (.bool _ _)
     ·exact runs_same hh rfl rfl (x := .bool (!(p == q))) (by simp [run_neq_bool w t p q hu]) (.bool _ _)
    | _ => simp at he
   | _ => simp at he
  split at hop
  ·split at hop
   ·rename_i hu
    simp only [Option.some.injEq] at hop
    subst hop
    exact bools _ hu (.inl ⟨rfl, rfl⟩) he
   ·simp only [Option.some.injEq] at hop
    subst hop
    exact plain _ rfl he
   ·simp only [Option.some.injEq] at hop
    subst hop
    exact plain _ rfl he
   ·rename_i d hu
    split at hop
    ·rename_i c hc
     simp only [Option.some.injEq] at hop
     subst hop
     simp only [AOp.exec0, Option.bind_eq_some_iff, Option.some.injEq] at he
     obtain ⟨vx, hvx, b, hb, rfl⟩ := he
     exact isnil_runs hh hu hc (ho x x' vx hx hvx) hb (.inl ⟨rfl, rfl⟩)
    ·split at hop
     ·rename_i hgg
      simp only [Option.map_eq_some_iff] at hop
      obtain ⟨s, hs, rfl⟩ := hop
      simp only [AOp.exec0, Option.bind_eq_some_iff, Option.some.injEq] at he
      obtain ⟨vx, hvx, vy, hvy, b, hb, rfl⟩ := he
      exact acmp_runs hh hs hgg.1 hgg.2 (ho x x' vx hx hvx) (ho y y' vy hy hvy) hb (.inl ⟨rfl, rfl⟩)
     ·cases hop
   ·cases hop
  ·split at hop
   ·rename_i hu
    simp only [Option.some.injEq] at hop
    subst hop
    exact bools _ hu (.inr ⟨rfl, rfl⟩) he
   ·simp only [Option.some.injEq] at hop
    subst hop
    exact plain _ rfl he
   ·simp only [Option.some.injEq] at hop
    subst hop
    exact plain _ rfl he
   ·rename_i d hu
    split at hop
    ·rename_i c hc
     simp only [Option.some.injEq] at hop
     subst hop
     simp only [AOp.exec0, Option.bind_eq_some_iff, Option.some.injEq] at he
     obtain ⟨vx, hvx, b, hb, rfl⟩ := he
     exact isnil_runs hh hu hc (ho x x' vx hx hvx) hb (.inr ⟨rfl, rfl⟩)
    ·split at hop
     ·rename_i hgg
      simp only [Option.map_eq_some_iff] at hop
      obtain ⟨s, hs, rfl⟩ := hop
      simp only [AOp.exec0, Option.bind_eq_some_iff, Option.some.injEq] at he
      obtain ⟨vx, hvx, vy, hvy, b, hb, rfl⟩ := he
      exact acmp_runs hh hs hgg.1 hgg.2 (ho x x' vx hx hvx) (ho y y' vy hy hvy) hb (.inr ⟨rfl, rfl⟩)
     ·cases hop
   ·cases hop
  ·simp only [Option.some.injEq] at hop
   subst hop
   exact plain _ rfl he
 | unOp op t x =>
  rw [hq] at hop
  dsimp only
  simp only [Tr.op, Option.map_eq_some_iff] at hop
  obtain ⟨y, hy, rfl⟩ := hop
  simp only [AOp.exec0, Option.bind_eq_some_iff, Option.some.injEq] at he
  obtain ⟨v, hv, v', hv', rfl⟩ := he
  exact un_runs hh (ho x y v hy hv) hv'
 | convert s d x =>
  rw [hq] at hop
  dsimp only
  simp only [Tr.op] at hop
  split at hop
  ·rename_i k hs hd
   simp only [Option.map_eq_some_iff] at hop
   obtain ⟨y, hy, rfl⟩ := hop
   simp only [AOp.exec0, Option.bind_eq_some_iff] at he
   obtain ⟨v, hv, he⟩ := he
   have hr := ho x y v hy hv
   generalize a.eval x = q at hr ⊢
   cases hr with
   | int _ j m =>
    simp only [Option.some.injEq] at he
    subst he
    exact runs_same hh rfl rfl (x := .int _ _) (by simp [convert, run_underlying hs, run_underlying hd, Conv.intToInt] <;> rfl) (.int _ _ _)
   | _ => simp at he
  ·rename_i hs hd
   simp only [Option.map_eq_some_iff] at hop
   obtain ⟨y, hy, rfl⟩ := hop
   simp only [AOp.exec0, Option.bind_eq_some_iff] at he
   obtain ⟨v, hv, he⟩ := he
   have hr := ho x y v hy hv
   generalize a.eval x = q at hr ⊢
   cases hr with
   | str _ b =>
    simp only [Option.some.injEq] at he
    subst he
    exact runs_same hh rfl rfl (x := .string b) (by simp [convert, run_underlying hs, run_underlying hd]) (.str _ _)
   | _ => simp at he
  ·rename_i e' hs hd
   split at hop
   ·rename_i hu8
    simp only [Option.map_eq_some_iff] at hop
    obtain ⟨y, hy, rfl⟩ := hop
    simp only [AOp.exec0, Option.bind_eq_some_iff] at he
    obtain ⟨v, hv, he⟩ := he
    have hr := ho x y v hy hv
    have hu : C.T.P.underlying e' = some (.int .u8) := by
     unfold Tr.isU8 at hu8
     split at hu8
     ·assumption
     ·cases hu8
    generalize a.eval x = q at hr ⊢
    cases hr with
    | str _ b =>
     simp only [Option.some.injEq] at he
     subst he
     exact bytes_runs hh (hn (by simp)) (hhn (by simp)) hs hd hu b
    | _ => simp at he
   ·cases hop
  ·rename_i e' hs hd
   split at hop
   ·rename_i hu8
    simp only [Option.map_eq_some_iff] at hop
    obtain ⟨y, hy, rfl⟩ := hop
    simp only [AOp.exec0, Option.bind_eq_some_iff] at he
    obtain ⟨v, hv, u1, hu1, ⟨rows, nd⟩, hrows, s', hs', he⟩ := he
    simp only [Option.some.injEq] at he
    subst he
    have hr := ho x y v hy hv
    have hu : C.T.P.underlying e' = some (.int .u8) := by
     unfold Tr.isU8 at hu8
     split at hu8
     ·assumption
     ·cases hu8
    refine string_runs hh hs hd hu hr ?_ hrows hs'
    generalize a.eval x = q at hr ⊢
    cases hr with
    | lst => exact ⟨_, _, _, rfl⟩
    | ref => exact ⟨_, _, _, rfl⟩
    | str => simp at hu1
    | _ => simp [rowsOf] at hrows
   ·cases hop
  ·cases hop
 | makeInterface t x =>
  rw [hq] at hop
  dsimp only
  simp only [Tr.op] at hop
  split at hop
  ·cases hop
  ·cases hop
  ·rename_i d hnot hu
   simp only [Option.bind_eq_some_iff, Option.map_eq_some_iff] at hop
   obtain ⟨k, hk, y, hy, rfl⟩ := hop
   simp only [AOp.exec0, Option.bind_eq_some_iff, Option.some.injEq] at he
   obtain ⟨v, hv, rfl⟩ := he
   have hr := ho x y v hy hv
   refine runs_same hh rfl rfl (x := .iface t (a.eval x)) ?_ (.iface _ k t (C.tys t k hk) v _ hr)
   unfold Instr.makeInterface
   rw [Sem.run_bind, run_underlying hu w]
   cases d <;> first | rfl | exact absurd rfl (hnot _)
 | makeFunc f first caps =>
  rw [hq] at hop
  dsimp only
  cases f with
  | func f =>
   simp only [Tr.op, Option.bind_eq_some_iff, Option.map_eq_some_iff] at hop
   obtain ⟨k, hk, fs, hfs, cs, hcs, rfl⟩ := hop
   simp only [AOp.exec0, Option.bind_eq_some_iff, Option.some.injEq] at he
   obtain ⟨v1, hv1, v2, hv2, rfl⟩ := he
   obtain ⟨l1, r1⟩ := evals_rel ho hfs hv1
   obtain ⟨l2, r2⟩ := evals_rel ho hcs hv2
   refine runs_same hh rfl rfl (x := .func (.func f) (first.map a.eval) (caps.map a.eval)) rfl (.fn _ k f (C.fns f k hk) v1 v2 _ _ (by simp [l1]) (by simp [l2]) (fun i c y hc hy => r1 i c y hc ?_) (fun i c y hc hy => r2 i c y hc ?_))
   ·simpa using hy
   ·simpa using hy
  | _ => simp [Tr.op] at hop
 | makeSlice t l c =>
  rw [hq] at hop
  dsimp only
  simp only [Tr.op] at hop
  split at hop
  ·rename_i e' hu
   simp only [Option.bind_eq_some_iff, Option.map_eq_some_iff] at hop
   obtain ⟨s, hs, k, hk, z, hz, l', hl, c', hc, rfl⟩ := hop
   simp only [AOp.exec0, Option.bind_eq_some_iff] at he
   obtain ⟨ln, ⟨vl, hvl, hln⟩, cn, ⟨vc, hvc, hcn⟩, he⟩ := he
   split at he
   ·rename_i hcond
    simp only [Option.some.injEq] at he
    subst he
    obtain ⟨q1, e1⟩ := nat?_rel (ho l l' vl hl hvl) hln
    obtain ⟨q2, e2⟩ := nat?_rel (ho c c' vc hc hvc) hcn
    rw [e1, e2]
    exact mkslice_runs hh (hn (by simp)) (hhn (by simp)) hu hs hk hz hcond.1 hcond.2.1 hcond.2.2.1 hcond.2.2.2
   ·cases he
  ·cases hop
 | slice t x lo hi mx =>
  rw [hq] at hop
  dsimp only
  simp only [Tr.op] at hop
  split at hop
  ·rename_i e' hu
   simp only [Option.bind_eq_some_iff] at hop
   obtain ⟨s, hs, x', hx, lo', hlo, hi', hhi, mx', hmx, hop⟩ := hop
   split at hop
   ·cases hop
   ·rename_i hc
    simp only [Option.some.injEq] at hop
    subst hop
    simp only [AOp.exec0, Option.bind_eq_some_iff, Option.some.injEq] at he
    obtain ⟨vx, hvx, v, hv, rfl⟩ := he
    exact slice_runs hh ho hu hs hlo hhi hmx (fun hm => by cases hi' <;> simp_all) (ho x x' vx hx hvx) hv
  ·rename_i m e' hu
   simp only [Option.bind_eq_some_iff] at hop
   obtain ⟨s, hs, x', hx, lo', hlo, hi', hhi, mx', hmx, hop⟩ := hop
   split at hop
   ·cases hop
   ·rename_i hc
    simp only [Option.some.injEq] at hop
    subst hop
    simp only [AOp.exec0, Option.bind_eq_some_iff] at he
    obtain ⟨vx, hvx, he⟩ := he
    exact slicea_runs hh ho hu hs hlo hhi hmx (fun hm => by cases hi' <;> simp_all) (ho x x' vx hx hvx) he
  ·rename_i hu
   split at hop
   ·cases hop
   ·rename_i hm
    simp only [Option.bind_eq_some_iff, Option.map_eq_some_iff] at hop
    obtain ⟨x', hx, lo', hlo, hi', hhi, rfl⟩ := hop
    simp only [AOp.exec0, Option.bind_eq_some_iff] at he
    obtain ⟨vx, hvx, he⟩ := he
    have hr := ho x x' vx hx hvx
    generalize a.eval x = q at hr ⊢
    cases hr with
    | str _ s =>
     simp only [Option.bind_eq_some_iff] at he
     obtain ⟨l, hl, hr', hr1, he⟩ := he
     split at he
     ·rename_i hc
      simp only [Option.some.injEq] at he
      subst he
      have hmx : mx = none := by cases mx <;> simp_all
      subst hmx
      have hle : hr' ≤ s.size := by have := hc.2; simpa using this
      have hopt : ∀ {d k : Nat} {x : Option Operand} {y : Option AOpd}, C.T.odd x = some y → optNat ρ d y = some k → ∃ k' : Option Nat, OptR k' (x.map a.eval) ∧ k'.getD d = k := fun {d k x y} hxy hk => by
       cases x with
       | none => simp [Tr.odd] at hxy; subst hxy; simp [optNat] at hk; subst hk; exact ⟨none, trivial, rfl⟩
       | some x =>
        simp only [Tr.odd, Option.map_eq_some_iff] at hxy
        obtain ⟨y', hy', rfl⟩ := hxy
        simp only [optNat, Option.bind_eq_some_iff] at hk
        obtain ⟨v, hv, hk⟩ := hk
        exact ⟨some k, nat?_rel (ho x y' v hy' hv) hk, rfl⟩
      obtain ⟨l', l1, l2⟩ := hopt hlo hl
      obtain ⟨r', r1, r2⟩ := hopt hhi hr1
      have hsl : s.data.toList.length = s.size := by simp
      rw [hsl] at r2
      have hb := run_bounds (P := C.T.P) (b := false) (len := s.size) (cap := s.size) (mx := none) (vm := none) l1 r1 trivial (by simp) (by rw [l2, r2]; exact hc.1) (by rw [r2]; simpa using hle) (by simp) w
      rw [l2, r2] at hb
      refine runs_same hh rfl rfl (x := .string (s.extract l hr')) ?_ ?_
      ·simp [Instr.sliceAt, Instr.slice, run_underlying hu, hb]
      ·have := Rel.str (N := C.N) (w := w) (S := Imm A w β h) β (s.extract l hr')
       rw [Lib.extract_data] at this
       exact this
     ·cases he
    | _ => simp at he
  ·cases hop
 | fieldAddr s x f =>
  rw [hq] at hop
  dsimp only
  simp only [Tr.op, Option.bind_eq_some_iff] at hop
  obtain ⟨fd, hfd, k, hk, hop⟩ := hop
  split at hop
  ·cases hop
  ·rename_i hk0
   simp only [Option.map_eq_some_iff] at hop
   obtain ⟨y, hy, rfl⟩ := hop
   simp only [AOp.exec0, Option.bind_eq_some_iff] at he
   obtain ⟨v, hv, he⟩ := he
   have hr := ho x y v hy hv
   have hfs : ∃ fs, C.T.P.underlying s = some (.struct fs) ∧ fs[f]? = some fd := by
    unfold Tr.fieldOf at hfd
    split at hfd
    ·exact ⟨_, by assumption, hfd⟩
    ·cases hfd
   obtain ⟨fs, hu, hf⟩ := hfs
   have hrun : ∀ (b o : Nat), (Instr.fieldAt s (.pointer (some ⟨b, o, none⟩)) f).run C.T.P w = .ok (.pointer (some ⟨b, o + fd.offset, none⟩)) w := fun b o => by
    simp [Instr.fieldAt, run_underlying hu, hf, Instr.sureAddr, fieldPlace, run_sizeOf' hk w, hk0, Addr.add_mid]
   generalize a.eval x = q at hr ⊢
   cases hr with
   | ptr _ ab size i o b hb =>
    simp only [Option.some.injEq] at he
    subst he
    refine runs_same hh rfl rfl (hrun b _) ?_
    have := Rel.ptr (N := C.N) (w := w) (S := Imm A w β h) β ab size i (o + fd.offset) b hb
    rw [← Nat.add_assoc] at this; exact this
   | iptr _ size rows i o b off ys hS hr1 hy1 h1 =>
    simp only [Option.some.injEq] at he
    subst he
    refine runs_same hh rfl rfl (hrun b _) ?_
    have := Rel.iptr (N := C.N) (w := w) (S := Imm A w β h) β size rows i (o + fd.offset) b off ys hS hr1 hy1 h1
    rw [← Nat.add_assoc] at this; exact this
   | _ => simp at he
 | field s x f =>
  rw [hq] at hop
  dsimp only
  simp only [Tr.op, Option.bind_eq_some_iff, Option.map_eq_some_iff] at hop
  obtain ⟨fd, hfd, k, hk, g, hg, y, hy, rfl⟩ := hop
  simp only [AOp.exec0, Option.bind_eq_some_iff] at he
  obtain ⟨v, hv, he⟩ := he
  have hr := ho x y v hy hv
  have hfs : ∃ fs, C.T.P.underlying s = some (.struct fs) ∧ fs[f]? = some fd := by
   unfold Tr.fieldOf at hfd
   split at hfd
   ·exact ⟨_, by assumption, hfd⟩
   ·cases hfd
  obtain ⟨fs, hu, hf⟩ := hfs
  split at he
  ·simp only [Option.bind_eq_some_iff, Option.some.injEq] at he
   obtain ⟨v', hv', rfl⟩ := he
   obtain ⟨ys, e1, hc⟩ := rel_agg hr
   rw [e1]
   obtain ⟨y', q1, q2⟩ := part_rel hk hg hc hv'
   exact runs_same hh rfl rfl (x := y') (by simp [Instr.field, run_underlying hu, hf, asAgg, q1]) q2
  ·cases he
 | indexAddr t x i =>
  rw [hq] at hop
  dsimp only
  simp only [Tr.op] at hop
  split at hop
  ·rename_i e' hu
   simp only [Option.bind_eq_some_iff, Option.map_eq_some_iff] at hop
   obtain ⟨s, hs, x', hx, i', hi, rfl⟩ := hop
   simp only [AOp.exec0, Option.bind_eq_some_iff] at he
   obtain ⟨vx, hvx, k, ⟨vi, hvi, hk⟩, he⟩ := he
   have hr := ho x x' vx hx hvx
   obtain ⟨q1, e1⟩ := nat?_rel (ho i i' vi hi hvi) hk
   rw [e1]
   generalize a.eval x = q at hr ⊢
   have hrun : ∀ (b o len c : Nat), k < len → (Instr.indexAt t (.slice (some ⟨b, o, none⟩) len c) (.int q1 k)).run C.T.P w = .ok (.pointer (some ⟨b, o + k * s, none⟩)) w := fun b o len c hl => by
    simp [Instr.indexAt, run_underlying hu, asIntOf, hl, run_sizeOf' hs w, Addr.add_mid]
   cases hr with
   | ref _ ab size off len cap b xa c hb hc hlc hxa hm =>
    simp only at he
    split at he
    ·rename_i hcond
     obtain ⟨rfl, hlt⟩ := hcond
     simp only [Option.some.injEq] at he
     subst he
     rcases hxa with hxa | hxa
     ·omega
     ·subst hxa
      refine runs_same hh rfl rfl (hrun b _ len c hlt) ?_
      have := Rel.ptr (N := C.N) (w := w) (S := Imm A w β h) β ab size (off + k) 0 b hb
      rw [Nat.add_mul, Nat.add_zero] at this; exact this
    ·cases he
   | lst _ size rows cap aa c b off ys hc hlc haa hnn hr1 hy1 h1 =>
    simp only at he
    split at he
    ·rename_i hcond
     obtain ⟨rfl, hlt⟩ := hcond
     simp only [Option.some.injEq] at he
     subst he
     obtain ⟨rfl, hS⟩ := haa (by omega)
     refine runs_same hh rfl rfl (hrun b _ rows.length c hlt) ?_
     have := Rel.iptr (N := C.N) (w := w) (S := Imm A w β h) β size rows k 0 b off ys hS hr1 hy1 h1
     rw [Nat.add_zero] at this; exact this
    ·cases he
   | _ => simp at he
  ·rename_i ln e' hu
   simp only [Option.bind_eq_some_iff, Option.map_eq_some_iff] at hop
   obtain ⟨s, hs, x', hx, i', hi, rfl⟩ := hop
   simp only [AOp.exec0, Option.bind_eq_some_iff] at he
   obtain ⟨vx, hvx, k, ⟨vi, hvi, hk⟩, he⟩ := he
   have hr := ho x x' vx hx hvx
   obtain ⟨q1, e1⟩ := nat?_rel (ho i i' vi hi hvi) hk
   rw [e1]
   generalize a.eval x = q at hr ⊢
   split at he
   ·rename_i hlt
    have hrun : ∀ (b o : Nat), (Instr.indexAt t (.pointer (some ⟨b, o, none⟩)) (.int q1 k)).run C.T.P w = .ok (.pointer (some ⟨b, o + k * s, none⟩)) w := fun b o => by
     simp [Instr.indexAt, run_underlying hu, asIntOf, Instr.sureAddr, hlt, run_sizeOf' hs w, Addr.add_mid]
    cases hr with
    | ptr _ ab size i o b hb =>
     simp only [Option.some.injEq] at he
     subst he
     refine runs_same hh rfl rfl (hrun b _) ?_
     have := Rel.ptr (N := C.N) (w := w) (S := Imm A w β h) β ab size i (o + k * s) b hb
     rw [← Nat.add_assoc] at this; exact this
    | iptr _ size rows i o b off ys hS hr1 hy1 h1 =>
     simp only [Option.some.injEq] at he
     subst he
     refine runs_same hh rfl rfl (hrun b _) ?_
     have := Rel.iptr (N := C.N) (w := w) (S := Imm A w β h) β size rows i (o + k * s) b off ys hS hr1 hy1 h1
     rw [← Nat.add_assoc] at this; exact this
    | _ => simp at he
   ·cases he
  ·cases hop
 | index t x i =>
  rw [hq] at hop
  dsimp only
  simp only [Tr.op] at hop
  split at hop
  ·rename_i hu
   simp only [Option.bind_eq_some_iff, Option.map_eq_some_iff] at hop
   obtain ⟨x', hx, i', hi, rfl⟩ := hop
   simp only [AOp.exec0, Option.bind_eq_some_iff] at he
   obtain ⟨vx, hvx, k, ⟨vi, hvi, hk⟩, he⟩ := he
   have hr := ho x x' vx hx hvx
   obtain ⟨q1, e1⟩ := nat?_rel (ho i i' vi hi hvi) hk
   rw [e1]
   generalize a.eval x = q at hr ⊢
   cases hr with
   | str _ s =>
    simp only [Option.bind_eq_some_iff, Option.some.injEq] at he
    obtain ⟨b, hb, rfl⟩ := he
    have hlt : k < s.size := by have := (List.getElem?_eq_some_iff.1 hb).1; simpa using this
    refine runs_same hh rfl rfl (x := .int .u8 b.toNat) ?_ (.int _ _ _)
    have h1 : s[k]? = some b := by
     rw [ByteArray.getElem?_lt' s k hlt]
     have := (List.getElem?_eq_some_iff.1 hb).2
     rw [← this]; rfl
    simp [Instr.index, run_underlying hu, asIntOf, h1]
   | _ => simp at he
  ·rename_i ln e' hu
   simp only [Option.bind_eq_some_iff, Option.map_eq_some_iff] at hop
   obtain ⟨s, hs, g, hg, x', hx, i', hi, rfl⟩ := hop
   simp only [AOp.exec0, Option.bind_eq_some_iff] at he
   obtain ⟨vx, hvx, k, ⟨vi, hvi, hk⟩, he⟩ := he
   have hr := ho x x' vx hx hvx
   obtain ⟨q1, e1⟩ := nat?_rel (ho i i' vi hi hvi) hk
   rw [e1]
   split at he
   ·split at he
    ·rename_i hlt
     simp only [Option.bind_eq_some_iff, Option.some.injEq] at he
     obtain ⟨v', hv', rfl⟩ := he
     obtain ⟨ys, e2, hc⟩ := rel_agg hr
     rw [e2]
     obtain ⟨y', p1, p2⟩ := part_rel hs hg hc hv'
     exact runs_same hh rfl rfl (x := y') (by simp [Instr.index, run_underlying hu, asIntOf, hlt, run_sizeOf' hs w, p1]) p2
    ·cases he
   ·cases he
  ·cases hop
 | extract x i =>
  rw [hq] at hop
  dsimp only
  simp only [Tr.op, Option.map_eq_some_iff] at hop
  obtain ⟨y, hy, rfl⟩ := hop
  simp only [AOp.exec0, Option.bind_eq_some_iff] at he
  obtain ⟨v, hv, he⟩ := he
  have hr := ho x y v hy hv
  generalize a.eval x = q at hr ⊢
  cases hr with
  | tup _ cs ys hl hrel =>
   simp only [Option.bind_eq_some_iff, Option.some.injEq] at he
   obtain ⟨v', hv', rfl⟩ := he
   have hi : i < ys.size := by rw [hl]; exact (List.getElem?_eq_some_iff.1 hv').1
   exact runs_same hh rfl rfl (x := ys[i]) (by simp [Instr.extract, hi]) (hrel i _ _ hv' (Array.getElem?_eq_getElem hi))
  | _ => simp at he
 | makeMap t r =>
  rw [hq] at hop
  dsimp only
  simp only [Tr.op] at hop
  split at hop
  ·rename_i k' e' hu
   simp only [Option.map_eq_some_iff] at hop
   obtain ⟨r', hr, rfl⟩ := hop
   simp only [AOp.exec0, Option.bind_eq_some_iff] at he
   obtain ⟨_, hx, he⟩ := he
   simp only [Option.some.injEq] at he
   subst he
   refine mkmap_runs hh (hn (by simp)) (hhn (by simp)) hu (fun x hx' => ?_)
   cases r with
   | none => simp at hx'
   | some r =>
    simp only [Tr.odd, Option.map_eq_some_iff] at hr
    obtain ⟨y, hy, rfl⟩ := hr
    simp only [Option.bind_eq_some_iff] at hx
    obtain ⟨v, hv, hx⟩ := hx
    have hrr := ho r y v hy hv
    simp at hx'
    rw [← hx']
    generalize a.eval r = q at hrr ⊢
    cases hrr with
    | int _ k i => exact ⟨k, i, rfl⟩
    | _ => simp at hx
  ·cases hop
 | lookup t x i ok =>
  rw [hq] at hop
  dsimp only
  simp only [Tr.op] at hop
  split at hop
  ·rename_i k' e' hu
   simp only [Option.bind_eq_some_iff, Option.map_eq_some_iff] at hop
   obtain ⟨c, hc, z, hz, x', hx, i', hi, rfl⟩ := hop
   simp only [AOp.exec0, Option.bind_eq_some_iff] at he
   obtain ⟨vx, hvx, vi, hvi, he⟩ := he
   exact mget_runs hh hu hc hz (ho x x' vx hx hvx) (ho i i' vi hi hvi) he
  ·cases hop
 | mapUpdate t m k x =>
  rw [hq] at hop
  dsimp only
  simp only [Tr.op] at hop
  split at hop
  ·rename_i k' e' hu
   simp only [Option.bind_eq_some_iff, Option.map_eq_some_iff] at hop
   obtain ⟨c, hc, m', hm, k', hk, x', hx, rfl⟩ := hop
   simp only [AOp.exec0, Option.bind_eq_some_iff] at he
   obtain ⟨vm, hvm, vk, hvk, vx, hvx, he⟩ := he
   exact mset_runs hh hu hc (ho m m' vm hm hvm) (ho k k' vk hk hvk) (ho x x' vx hx hvx) he
  ·cases hop
 | insert t m k x =>
  rw [hq] at hop
  dsimp only
  simp only [Tr.op] at hop
  split at hop
  ·rename_i k' e' hu
   simp only [Option.bind_eq_some_iff, Option.map_eq_some_iff] at hop
   obtain ⟨c, hc, m', hm, k', hk, x', hx, rfl⟩ := hop
   simp only [AOp.exec0, Option.bind_eq_some_iff] at he
   obtain ⟨vm, hvm, vk, hvk, vx, hvx, he⟩ := he
   exact mset_runs hh hu hc (ho m m' vm hm hvm) (ho k k' vk hk hvk) (ho x x' vx hx hvx) he
  ·cases hop
 | mapEntry t m k =>
  rw [hq] at hop
  dsimp only
  simp only [Tr.op] at hop
  split at hop
  ·rename_i k' e' hu
   simp only [Option.bind_eq_some_iff, Option.map_eq_some_iff] at hop
   obtain ⟨c, hc, z, hz, m', hm, k', hk, rfl⟩ := hop
   simp only [AOp.exec0, Option.bind_eq_some_iff] at he
   obtain ⟨vm, hvm, vk, hvk, he⟩ := he
   exact mapent_runs hh hu hc hz (ho m m' vm hm hvm) (ho k k' vk hk hvk) he
  ·cases hop
 | entryStore t m st x =>
  rw [hq] at hop
  dsimp only
  simp only [Tr.op, Option.bind_eq_some_iff, Option.map_eq_some_iff] at hop
  obtain ⟨m', hm, k', hk, x', hx, rfl⟩ := hop
  simp only [AOp.exec0, Option.bind_eq_some_iff] at he
  obtain ⟨vm, hvm, vk, hvk, vx, hvx, he⟩ := he
  exact entstore_runs hh (ho m m' vm hm hvm) (ho st k' vk hk hvk) (ho x x' vx hx hvx) he
 | range t x =>
  rw [hq] at hop
  dsimp only
  simp only [Tr.op] at hop
  split at hop
  ·rename_i hu
   simp only [Option.map_eq_some_iff] at hop
   obtain ⟨x', hx, rfl⟩ := hop
   simp only [AOp.exec0, Option.bind_eq_some_iff] at he
   obtain ⟨vx, hvx, he⟩ := he
   have hnew : e.new ≠ [] := by
    intro h0
    unfold srangeV at he
    split at he
    ·simp only [Option.some.injEq] at he; subst he; cases h0
    ·cases he
   exact srange_runs hh (hn hnew) (hhn hnew) hu (ho x x' vx hx hvx) he
  ·rename_i k' e' hu
   simp only [Option.map_eq_some_iff] at hop
   obtain ⟨x', hx, rfl⟩ := hop
   simp only [AOp.exec0, Option.bind_eq_some_iff] at he
   obtain ⟨vx, hvx, he⟩ := he
   have hnew : e.new ≠ [] := by
    intro h0
    unfold mrangeV at he
    split at he
    ·simp only [Option.some.injEq] at he; subst he; cases h0
    ·split at he
     ·simp only [Option.some.injEq] at he; subst he; cases h0
     ·cases he
    ·cases he
   exact mrange_runs hh (hn hnew) (hhn hnew) hu (ho x x' vx hx hvx) he
  ·cases hop
 | next x b =>
  rw [hq] at hop
  dsimp only
  cases b with
  | true =>
   simp only [Tr.op, Option.map_eq_some_iff] at hop
   obtain ⟨x', hx, rfl⟩ := hop
   simp only [AOp.exec0, Option.bind_eq_some_iff] at he
   obtain ⟨vx, hvx, he⟩ := he
   exact snext_runs hh (ho x x' vx hx hvx) he
  | false =>
   simp only [Tr.op, Option.map_eq_some_iff] at hop
   obtain ⟨x', hx, rfl⟩ := hop
   simp only [AOp.exec0, Option.bind_eq_some_iff] at he
   obtain ⟨vx, hvx, he⟩ := he
   exact mnext_runs hh (ho x x' vx hx hvx) he
 | entry x =>
  rw [hq] at hop
  dsimp only
  simp only [Tr.op, Option.map_eq_some_iff] at hop
  obtain ⟨x', hx, rfl⟩ := hop
  simp only [AOp.exec0, Option.bind_eq_some_iff] at he
  obtain ⟨vx, hvx, he⟩ := he
  exact mentry_runs hh (ho x x' vx hx hvx) he
 | call c =>
  rw [hq] at hop
  dsimp only
  simp only [Tr.op] at hop
  split at hop
  ·rename_i b hcal
   have key := fun cs => builtin_sound (ty := o.type) (cs := cs) hh ho hop he hn hhn
   have e1 : (c.args.toList.map a.eval).toArray = c.args.map a.eval := by apply Array.ext'; simp
   simp only [e1, Array.toArray_toList] at key
   unfold resolve
   rw [hcal]
   exact key _
  ·simp only [Option.bind_eq_some_iff, Option.map_eq_some_iff] at hop
   obtain ⟨_, _, _, _, rfl⟩ := hop
   simp [AOp.exec0] at he
  ·simp only [Option.bind_eq_some_iff, Option.map_eq_some_iff] at hop
   obtain ⟨_, _, _, _, rfl⟩ := hop
   simp [AOp.exec0] at he
  ·simp only [Option.bind_eq_some_iff, Option.map_eq_some_iff] at hop
   obtain ⟨_, _, _, _, rfl⟩ := hop
   simp [AOp.exec0] at he
 | _ => rw [hq] at hop; simp [Tr.op] at hop
end
end Go.Proofs.YtigdhgbkgfagiaaGreat
