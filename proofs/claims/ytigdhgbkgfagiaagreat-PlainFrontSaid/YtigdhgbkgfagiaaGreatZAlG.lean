/- AL: copy, parts of slices, fields, indices, lengths, arithmetic, comparisons: what they yield, they yield in the model. -/
import Derived.Test.YtigdhgbkgfagiaaGreatZAlF
set_option linter.unusedVariables false
namespace Go.Proofs.YtigdhgbkgfagiaaGreat
section
variable {A : Nat → Prop} {C : Ctx} {w : World} {β : Nat → Option Nat} {h : Nat → Option Blk} {n : Nat} {ρ : AOpd → Option V} {a : Act}
theorem run_copy_in {T : Tr} {t u e ty : TypeId} {size : Nat} (ht : T.P.underlying t = some (.slice e)) (hs : T.size e = some size) {base : Option Addr} {dLen dCap k : Nat} {vx : Value} {cs : List Value} {w2 : World} (hl : (Builtin.lenOf vx).run T.P w = .ok k w)
    (hf : (Builtin.firstCells size (Nat.min k dLen) vx).run T.P w = .ok cs.toArray w) (hst : (match base with | some a => (storeCells a cs).run T.P w | none => .ok () w) = .ok () w2) :
    (Builtin.copy_ #[t, u] ty #[.slice base dLen dCap, vx]).run T.P w = .ok (goInt (Nat.min k dLen)) w2 := by
 have hf' : (Builtin.firstCells size (Nat.min k dLen) vx).run T.P w = .ok cs.toArray w := hf
 unfold Builtin.copy_
 cases base with
 | none => simp only at hst; cases hst; simp [run_underlying ht w, run_sizeOf' hs w, hl]; rw [hf]; simp
 | some ad => simp only at hst; simp [run_underlying ht w, run_sizeOf' hs w, hl]; rw [hf]; simp [hst]
theorem copy_runs (hh : HeapR A C.N w β h) {t u e ty : TypeId} {size : Nat} (ht : C.T.P.underlying t = some (.slice e)) (hs : C.T.size e = some size) {x y : V} {vx vy : Value} (hx : Rel C.N w (Imm A w β h) β x vx) (hy : Rel C.N w (Imm A w β h) β y vy) {ef : Eff}
    (he : copyV size h x y = some ef) : Runs A C w β h n ef (do pure (.value (← Builtin.copy_ #[t, u] ty #[vx, vy]))) := by
 simp only [copyV, Option.bind_eq_some_iff] at he
 obtain ⟨⟨ys, ny⟩, hys, he⟩ := he
 obtain ⟨ds, d1, d2, d3, d4, d5⟩ := src_of hh hy hys
 cases hx with
 | lst _ size' rows cap aa c b off zs hc hlc haa hnn hr hyy hrel =>
  simp only at he
  split at he
  ·rename_i h0
   simp only [Option.some.injEq] at he
   subst he
   have hm : Nat.min ys.length rows.length = 0 := by rcases h0 with h0 | h0 <;> rw [h0] <;> simp
   have hf := d5 0 w (Nat.zero_le _) (fun _ _ => rfl)
   simp only [Nat.zero_mul, List.take_zero] at hf
   have hrun := run_copy_in (w := w) (w2 := w) (u := u) (ty := ty) ht hs (base := aa) (dLen := rows.length) (dCap := c) (d4 w) (by rw [hm]; exact hf) (by cases aa <;> simp [storeCells])
   rw [hm] at hrun
   exact runs_same hh rfl rfl hrun (.int _ _ _)
  ·cases he
 | ref _ ab size' off len cap b xa c hb hc hlc hxa hm =>
  simp only at he
  cases hk : h ab with
  | none => rw [hk] at he; cases he
  | some kk =>
   cases kk with
   | loop => rw [hk] at he; cases he
   | stop => rw [hk] at he; cases he
   | map => rw [hk] at he; cases he
   | iter => rw [hk] at he; cases he
   | siter => rw [hk] at he; cases he
   | junk => rw [hk] at he; cases he
   | arr size'' rows =>
    simp only [hk] at he
    split at he
    ·rename_i hcond
     obtain ⟨rfl, rfl, hle⟩ := hcond
     simp only [Option.some.injEq] at he
     subst he
     obtain ⟨b', h1, h2, hblk⟩ := hh.at' ab _ hk
     rw [hb] at h1; cases h1
     obtain ⟨cells, T, fz, g1, g2, g3, g4⟩ := id hblk
     have hmin : Nat.min ys.length len ≤ ys.length := Nat.min_le_left _ _
     have hf := d5 (Nat.min ys.length len) w hmin (fun _ _ => rfl)
     have htl : (ys.take len).length = Nat.min ys.length len := by rw [List.length_take, Nat.min_comm]
     have hdl : (ds.take (Nat.min ys.length len * size'')).length = (ys.take len).length * size'' := by rw [htl, List.length_take, d1]; exact Nat.min_eq_left (Nat.mul_le_mul_right _ hmin)
     have hgd : GridR C.N w (Imm A w β h) β size'' (ys.take len) (ds.take (Nat.min ys.length len * size'')).toArray := by
      refine ⟨fun i row hi => ?_, by simp only [List.size_toArray]; rw [hdl]; exact Nat.le_refl _, fun i row j x hi hj => ?_⟩
      ·rw [List.getElem?_take] at hi
       split at hi
       ·exact d2.1 i row hi
       ·cases hi
      ·have hi0 := hi
       rw [List.getElem?_take] at hi
       split at hi
       ·obtain ⟨y, q1, q2, q3⟩ := d2.2.2 i row j x hi hj
        refine ⟨y, ?_, q2, q3⟩
        have hj' : j < size'' := by rw [← d2.1 i row hi]; exact (List.getElem?_eq_some_iff.1 hj).1
        have hlt : i < Nat.min ys.length len := by rw [← htl]; exact (List.getElem?_eq_some_iff.1 hi0).1
        simp only [List.getElem?_toArray] at q1 ⊢
        rw [List.getElem?_take, if_pos (grid_lt hlt hj')]; exact q1
       ·cases hi
     have hone : ∀ v ∈ ds.take (Nat.min ys.length len * size''), v.oneCell' = true := fun v hv => d3 v (List.mem_of_mem_take hv)
     by_cases h0 : c = 0
     ·have e1 : len = 0 := by omega
      subst e1
      have hnil : ds.take (Nat.min ys.length 0 * size'') = [] := List.eq_nil_of_length_eq_zero (by rw [hdl]; simp)
      have hrun := run_copy_in (w := w) (w2 := w) (u := u) (ty := ty) ht hs (base := xa) (dLen := 0) (dCap := c) (d4 w) hf (by rw [hnil]; cases xa <;> simp [storeCells])
      refine ⟨_, w, .inl (by rw [Sem.run_bind, hrun]; rfl), effOk_upd (b := b) (k' := .arr size'' (over rows off (ys.take 0))) hh hk hb rfl rfl (fun _ _ => rfl) (fun _ _ h => h) rfl rfl rfl rfl (fun S hS => ?_) (fun S hS => .int _ _ _)⟩
      have : over rows off (ys.take 0) = rows := by simp [over]
      rw [this]
      exact hblk.mono rfl hS (fun _ _ => rfl) (fun _ _ h => h) (fun _ _ h => h)
     ·rcases hxa with hxa | hxa
      ·exact absurd hxa h0
      ·subst hxa
       have hle2 : off + (ys.take len).length ≤ rows.length := by rw [htl]; have : Nat.min ys.length len ≤ len := Nat.min_le_right _ _; omega
       have hin : off * size'' + (ds.take (Nat.min ys.length len * size'')).length ≤ rows.length * size'' := by rw [hdl, ← Nat.add_mul]; exact bdd hle2
       have hfit : off * size'' + (ds.take (Nat.min ys.length len * size'')).length ≤ cells.size := by
        by_cases h0 : off * size'' + (ds.take (Nat.min ys.length len * size'')).length = 0
        ·omega
        ·have := (g2 (off * size'' + (ds.take (Nat.min ys.length len * size'')).length - 1) (by omega)).1; omega
       have hst := run_storeCells_held (P := C.T.P) g1 _ hfit (fun q hq _ hq2 => (g2 q (by omega)).2) hone
       have hrun := run_copy_in (w := w) (u := u) (ty := ty) ht hs (base := some ⟨b, off * size'', none⟩) (dLen := len) (dCap := c) (d4 w) hf hst
       obtain ⟨r1, r2, r3, r4, r5⟩ := setCells_same b (ds.take (Nat.min ys.length len * size'')) (off * size'') w
       have hrm := setCells_room b (ds.take (Nat.min ys.length len * size'')) (off * size'') w g1 hfit
       have hsame : ∀ b0, Imm A w β h b0 → (w.setCells b (off * size'') (ds.take (Nat.min ys.length len * size''))).heap[b0]? = w.heap[b0]? := fun b0 hb0 => r1 b0 (fun e => by subst e; exact hb0.free ⟨ab, by rw [hk]; simp, hb⟩)
       refine ⟨_, w.setCells b (off * size'') (ds.take (Nat.min ys.length len * size'')), .inl (by rw [Sem.run_bind, hrun]; rfl), effOk_upd (b := b) (k' := .arr size'' (over rows off (ys.take len))) hh hk hb rfl rfl r1 hrm r2 r3 r4 r5 (fun S hS => ?_) (fun S hS => .int _ _ _)⟩
       exact blk_over hblk hdl hgd hle2 rfl hS hsame hrm
    ·cases he
 | _ => simp at he
theorem clr_runs (hh : HeapR A C.N w β h) {t e ty : TypeId} {size : Nat} {z : List V} (ht : C.T.P.underlying t = some (.slice e)) (hs : C.T.size e = some size) (hz : C.T.zero e = some z) (hzl : z.length = size) {x : V} {vx : Value} (hx : Rel C.N w (Imm A w β h) β x vx) {ef : Eff} (he : clrV size z h x = some ef) :
    Runs A C w β h n ef (do pure (.value (← Builtin.clear_ #[t] ty #[vx]))) := by
 obtain ⟨i, v, hi, hzv, hc⟩ := zero_rel (w := w) (β := β) hz (N := C.N) (S := Imm A w β h)
 have hzr := fun w => run_zero (T := C.T) hi hzv w
 cases hx with
 | lst _ size' rows cap aa c b off zs hc1 hlc haa hnn hr hyy hrel hz0 =>
  simp only [clrV] at he
  split at he
  ·rename_i h0
   simp only [Option.some.injEq] at he
   subst he
   refine runs_same hh rfl rfl (x := .tuple #[]) ?_ (.tup _ [] #[] rfl (fun i c y hc => by simp at hc))
   unfold Builtin.clear_
   rw [h0]
   cases aa <;> simp [run_underlying ht]
  ·cases he
 | ref _ ab size' off len cap b xa c hb hcc hlc hxa hm hnn =>
  simp only [clrV] at he
  cases hk : h ab with
  | none => rw [hk] at he; cases he
  | some kk =>
   cases kk with
   | loop => rw [hk] at he; cases he
   | stop => rw [hk] at he; cases he
   | map => rw [hk] at he; cases he
   | iter => rw [hk] at he; cases he
   | siter => rw [hk] at he; cases he
   | junk => rw [hk] at he; cases he
   | arr size'' rows =>
    simp only [hk] at he
    split at he
    ·rename_i hcond
     obtain ⟨rfl, rfl, hle⟩ := hcond
     simp only [Option.some.injEq] at he
     subst he
     obtain ⟨b', h1, h2, hblk⟩ := hh.at' ab _ hk
     rw [hb] at h1; cases h1
     obtain ⟨cells, T, fz, g1, g2, g3, g4⟩ := id hblk
     obtain ⟨xa, rfl⟩ := Option.ne_none_iff_exists'.1 hnn
     by_cases h0 : len = 0
     ·subst h0
      refine ⟨.tuple #[], w, .inl ?_, effOk_upd (b := b) (k' := .arr size'' (over rows off (List.replicate 0 z))) hh hk hb rfl rfl (fun _ _ => rfl) (fun _ _ h => h) rfl rfl rfl rfl (fun S hS => ?_) (fun S hS => .tup _ [] #[] rfl (fun i c y hc => by simp at hc))⟩
      ·unfold Builtin.clear_
       simp [run_underlying ht]
      ·have : over rows off (List.replicate 0 z) = rows := by simp [over]
       rw [this]
       exact hblk.mono rfl hS (fun _ _ => rfl) (fun _ _ h => h) (fun _ _ h => h)
     ·rcases hxa with hxa | hxa
      ·omega
      ·cases hxa
       have hg := grid_zero hc len
       rw [hzl] at hg
       have hzs : v.cells.size = size'' := by rw [hc.1]; exact hzl
       have hcs : Builtin.zeroCells v.cells len = (Array.range (len * size'')).map (fun i => v.cells[i % v.cells.size]!) := by unfold Builtin.zeroCells; rw [hzs]
       rw [← hcs] at hg
       obtain ⟨ds, hds⟩ : ∃ ds, ds = (Builtin.zeroCells v.cells len).toList := ⟨_, rfl⟩
       have hdl : ds.length = (List.replicate len z).length * size'' := by rw [hds, hcs]; simp
       have hgd : GridR C.N w (Imm A w β h) β size'' (List.replicate len z) ds.toArray := by rw [hds]; simpa using hg
       have hle2 : off + (List.replicate len z).length ≤ rows.length := by simpa using hle
       have hin : off * size'' + ds.length ≤ rows.length * size'' := by rw [hdl, ← Nat.add_mul]; exact bdd hle2
       have hfit : off * size'' + ds.length ≤ cells.size := by
        by_cases h0 : off * size'' + ds.length = 0
        ·omega
        ·have := (g2 (off * size'' + ds.length - 1) (by omega)).1; omega
       have hone : ∀ u ∈ ds, u.oneCell' = true := fun u hu => by
        rw [hds, hcs] at hu
        simp only [Array.toList_map, List.mem_map, Array.mem_toList_iff, Array.mem_range] at hu
        obtain ⟨q, hq, rfl⟩ := hu
        have hpos : 0 < v.cells.size := by
         rw [hzs]
         rcases Nat.eq_zero_or_pos size'' with e | e
         ·rw [e] at hq; simp at hq
         ·exact e
        have hlt : q % v.cells.size < v.cells.size := Nat.mod_lt _ hpos
        rw [getElem!_pos v.cells _ hlt]
        exact hc.2.1 _ _ (Array.getElem?_eq_getElem hlt)
       have hst := run_storeCells_held (P := C.T.P) g1 ds hfit (fun q hq _ hq2 => (g2 q (by omega)).2) hone
       obtain ⟨r1, r2, r3, r4, r5⟩ := setCells_same b ds (off * size'') w
       have hrm := setCells_room b ds (off * size'') w g1 hfit
       have hsame : ∀ b0, Imm A w β h b0 → (w.setCells b (off * size'') ds).heap[b0]? = w.heap[b0]? := fun b0 hb0 => r1 b0 (fun e => by subst e; exact hb0.free ⟨ab, by rw [hk]; simp, hb⟩)
       refine ⟨.tuple #[], w.setCells b (off * size'') ds, .inl ?_, effOk_upd (b := b) (k' := .arr size'' (over rows off (List.replicate len z))) hh hk hb rfl rfl r1 hrm r2 r3 r4 r5 (fun S hS => ?_) (fun S hS => .tup _ [] #[] rfl (fun i c y hc => by simp at hc))⟩
       ·obtain ⟨l', rfl⟩ : ∃ l', len = l' + 1 := ⟨len - 1, by omega⟩
        have hrun : (Builtin.clear_ #[t] ty #[.slice (some ⟨b, off * size'', none⟩) (l' + 1) c]).run C.T.P w = .ok (.tuple #[]) (w.setCells b (off * size'') ds) := by
         unfold Builtin.clear_
         simp only [List.getElem?_toArray, List.getElem?_cons_zero]
         rw [Sem.run_bind, run_underlying ht w, Result.andThen_ok]
         simp only [Sem.run_bind, hzr, Result.andThen_ok, ← hds, hst]
         rfl
        rw [Sem.run_bind, hrun]; rfl
       ·exact blk_over hblk hdl hgd hle2 rfl hS hsame hrm
    ·cases he
 | _ => simp [clrV] at he
theorem nat?_rel {S : Nat → Prop} {x : V} {vx : Value} (hx : Rel C.N w S β x vx) {k : Nat} (hk : x.nat? = some k) : ∃ q, vx = .int q (k : Int) := by
 cases hx with
 | int _ q m =>
  simp only [V.nat?] at hk
  split at hk
  ·simp only [Option.some.injEq] at hk
   subst hk
   refine ⟨q, ?_⟩
   congr 1
   omega
  ·cases hk
 | _ => simp [V.nat?] at hk
def OptR : Option Nat → Option Value → Prop
 | none, none => True
 | some k, some v => ∃ q, v = .int q (k : Int)
 | _, _ => False
theorem opt_rel {S : Nat → Prop} (ho : OpdOk C w S β ρ a) {x : Option Operand} {y : Option AOpd} (hxy : C.T.odd x = some y) {k : Option Nat} (hk : optNat? ρ y = some k) : OptR k (x.map a.eval) := by
 cases x with
 | none => simp [Tr.odd] at hxy; subst hxy; simp [optNat?] at hk; subst hk; trivial
 | some x =>
  simp only [Tr.odd, Option.map_eq_some_iff] at hxy
  obtain ⟨y', hy', rfl⟩ := hxy
  simp only [optNat?, Option.map_eq_some_iff, Option.bind_eq_some_iff] at hk
  obtain ⟨k', ⟨v, hv, hk'⟩, rfl⟩ := hk
  exact nat?_rel (ho x y' v hy' hv) hk'
theorem run_bounds {P : Program} {b : Bool} {len cap : Nat} {lo hi mx : Option Nat} {vl vh vm : Option Value} (hl : OptR lo vl) (hh : OptR hi vh) (hm : OptR mx vm) (hmh : mx.isSome = true → hi.isSome = true) (h1 : lo.getD 0 ≤ hi.getD len) (h2 : hi.getD len ≤ mx.getD cap) (h3 : mx.getD cap ≤ cap) (w : World) :
    (Instr.sliceBounds b len cap vl vh vm).run P w = .ok (lo.getD 0, hi.getD len, mx.getD cap) w := by
 have key : ∀ (q : IntKind) (k y : Nat) (c : BoundsCode), k ≤ y → (Instr.sliceBound (.int q (k : Int)) y c).run P w = .ok k w := fun q k y c hk => by
  simp [Instr.sliceBound, asIntOf, hk]
 unfold Instr.sliceBounds
 cases lo <;> cases vl <;> simp only [OptR] at hl <;> cases hi <;> cases vh <;> simp only [OptR] at hh <;> cases mx <;> cases vm <;> simp only [OptR] at hm <;> simp only [Option.getD_none, Option.getD_some] at h1 h2 h3 <;> try (simp at hmh)
 all_goals (try obtain ⟨q1, rfl⟩ := hl)
 all_goals (try obtain ⟨q2, rfl⟩ := hh)
 all_goals (try obtain ⟨q3, rfl⟩ := hm)
 all_goals simp only [Sem.run_bind, Sem.run_pure, Option.getD_none, Option.getD_some, pure_bind]
 all_goals (repeat rw [key _ _ _ _ (by omega)])
 all_goals (try simp only [Result.andThen_ok])
 all_goals (try simp only [Sem.run_bind])
 all_goals (repeat rw [key _ _ _ _ (by omega)])
 all_goals (try simp only [Result.andThen_ok])
 all_goals (repeat rw [key _ _ _ _ (by omega)])
 all_goals (try rfl)
theorem slice_runs (hh : HeapR A C.N w β h) (ho : OpdOk C w (Imm A w β h) β ρ a) {t e : TypeId} {size : Nat} (hu : C.T.P.underlying t = some (.slice e)) (hs : C.T.size e = some size) {lo hi mx : Option Operand} {lo' hi' mx' : Option AOpd}
    (hl : C.T.odd lo = some lo') (hi1 : C.T.odd hi = some hi') (hm1 : C.T.odd mx = some mx') (hmh : mx'.isSome = true → hi'.isSome = true) {x v : V} {vx : Value} (hx : Rel C.N w (Imm A w β h) β x vx) (hv : sliceV size x (optNat? ρ lo') (optNat? ρ hi') (optNat? ρ mx') = some v) :
    Runs A C w β h n { v } (do pure (.value (← Instr.sliceAt t vx (lo.map a.eval) (hi.map a.eval) (mx.map a.eval)))) := by
 have hsome : ∀ {y : Option AOpd} {k : Option Nat}, optNat? ρ y = some k → k.isSome = y.isSome := fun {y k} hk => by
  cases y with
  | none => simp [optNat?] at hk; subst hk; rfl
  | some y => simp only [optNat?, Option.map_eq_some_iff] at hk; obtain ⟨_, _, rfl⟩ := hk; rfl
 have hat : ∀ vx, (Instr.sliceAt t vx (lo.map a.eval) (hi.map a.eval) (mx.map a.eval)).run C.T.P w = (Instr.slice t vx (lo.map a.eval) (hi.map a.eval) (mx.map a.eval)).run C.T.P w := fun vx => by
  simp [Instr.sliceAt, run_underlying hu]
 have hrun : ∀ (xa : Option Addr) (len c : Nat) (l hh' m : Option Nat), optNat? ρ lo' = some l → optNat? ρ hi' = some hh' → optNat? ρ mx' = some m → l.getD 0 ≤ hh'.getD len → hh'.getD len ≤ m.getD c → m.getD c ≤ c →
     (Instr.sliceAt t (.slice xa len c) (lo.map a.eval) (hi.map a.eval) (mx.map a.eval)).run C.T.P w = .ok (.slice (if m.getD c = l.getD 0 then xa else xa.map (·.add (l.getD 0 * size))) (hh'.getD len - l.getD 0) (m.getD c - l.getD 0)) w := fun xa len c l hh' m q1 q2 q3 q4 q5 q6 => by
  rw [hat]
  have := run_bounds (P := C.T.P) (b := true) (opt_rel ho hl q1) (opt_rel ho hi1 q2) (opt_rel ho hm1 q3) (fun hm => by rw [hsome q2]; exact hmh (by rw [← hsome q3]; exact hm)) q4 q5 q6 w
  simp [Instr.slice, run_underlying hu, this, run_sizeOf' hs w]
 cases hx with
 | ref _ ab size' off len cap b xa c hb hc hlc hxa hm hnn =>
  simp only [sliceV] at hv
  split at hv
  ·rename_i l hh' m q1 q2 q3
   cases m with
   | none =>
    simp only at hv
    split at hv
    ·rename_i hcond
     obtain ⟨rfl, k2, k3⟩ := hcond
     simp only [Option.some.injEq] at hv
     subst hv
     have k4 : hh'.getD len ≤ c := by
      cases cap with
      | none => simp at k3; omega
      | some cc => simp at k3; have := hc cc rfl; omega
     refine runs_same hh rfl rfl (hrun xa len c l hh' none q1 q2 q3 k2 k4 (Nat.le_refl _)) ?_
     refine .ref _ ab size' _ _ _ b _ _ hb (fun k hk => ?_) (by simp; omega) ?_ (fun h0 => ?_) (by split <;> simp [hnn])
     ·cases cap with
      | none => simp at hk
      | some cc => simp at hk; have := hc cc rfl; simp; omega
     ·by_cases e : c = l.getD 0
      ·left; simp [e]
      ·right
       simp only [Option.getD_none, if_neg e]
       rcases hxa with hxa | hxa
       ·omega
       ·rw [hxa]; simp [Addr.add_mid, Nat.add_mul]
     ·simp at h0
      have h1 := hm (by omega)
      simp only [Option.getD_none]
      rw [show off + l.getD 0 + (c - l.getD 0) = off + c by omega]; exact h1
    ·cases hv
   | some m =>
    simp only at hv
    split at hv
    ·rename_i hcond
     obtain ⟨rfl, k2, k3, k5⟩ := hcond
     simp only [Option.some.injEq] at hv
     subst hv
     have k4 : m ≤ c := by
      cases cap with
      | none => simp at k5; omega
      | some cc => simp at k5; have := hc cc rfl; omega
     refine runs_same hh rfl rfl (hrun xa len c l hh' (some m) q1 q2 q3 k2 k3 k4) ?_
     refine .ref _ ab size' _ _ _ b _ _ hb (fun k hk => by simp at hk; simp; omega) (by simp; omega) ?_ (fun h0 => ?_) (by split <;> simp [hnn])
     ·by_cases e : m = l.getD 0
      ·left; simp [e]
      ·right
       simp only [Option.getD_some, if_neg e]
       rcases hxa with hxa | hxa
       ·omega
       ·rw [hxa]; simp [Addr.add_mid, Nat.add_mul]
     ·simp at h0
      obtain ⟨p1, p2, p3, p4, p5, p6⟩ := hm (by omega)
      have hle7 : (off + l.getD 0 + ((some m).getD c - l.getD 0)) * size' ≤ (off + c) * size' := bdd (by simp; omega)
      exact ⟨p1, p2, p3, p4, Nat.le_trans hle7 p5, fun k hk => p6 k (Nat.lt_of_lt_of_le hk hle7)⟩
    ·cases hv
  ·cases hv
 | lst _ size' rows cap aa c b off ys hc hlc haa hnn hr hyy hrel hz0 =>
  have hsub : ∀ (l k : Nat) (cap' : Option Nat) (c' : Nat) (xa' : Option Addr), ((size' = size ∨ rows.length = 0) ∧ size ≠ 0 ∧ size ≠ 1000003) → l + k ≤ rows.length → (∀ q, cap' = some q → c' = q) → k ≤ c' → (0 < k → xa' = some ⟨b, off + l * size, none⟩) → (xa' = none → c' = 0) → (aa = none → xa' = none) → (aa ≠ none → xa' ≠ none) →
      Rel C.N w (Imm A w β h) β (.lst (if rows.length = 0 then size' else size) ((rows.drop l).take k) cap') (.slice xa' k c') := fun l k cap' c' xa' z1 z2 z3 z4 z5 z6 z7 z8 => by
   by_cases hr0 : rows.length = 0
   ·rw [if_pos hr0]
    obtain rfl : k = 0 := by omega
    have := Rel.lst (N := C.N) (w := w) (S := Imm A w β h) β size' ((rows.drop l).take 0) cap' xa' c' b off (fun _ _ => undef) z3 (by simp) (fun h0 => by simp at h0) z6 (fun i row hi => by simp at hi) (fun i row j x hi => by simp at hi) (fun i row j x hi => by simp at hi) ⟨fun h _ => z7 (hz0.1 h hr0), fun h _ => z8 (hz0.2 h hr0)⟩
    simpa using this
   rw [if_neg hr0]
   have hlen : ((rows.drop l).take k).length = k := by simp; omega
   have hget : ∀ (i : Nat) (row : List V), ((rows.drop l).take k)[i]? = some row → rows[l + i]? = some row ∧ size' = size := fun i row hi => by
    rw [List.getElem?_take] at hi
    split at hi
    ·rw [List.getElem?_drop] at hi
     refine ⟨hi, ?_⟩
     rcases z1.1 with z1 | z1
     ·exact z1
     ·have := (List.getElem?_eq_some_iff.1 hi).1; omega
    ·cases hi
   have := Rel.lst (N := C.N) (w := w) (S := Imm A w β h) β size ((rows.drop l).take k) cap' xa' c' b (off + l * size) (fun i j => ys (l + i) j) z3 (by rw [hlen]; exact z4) (fun h0 => ⟨z5 (by rw [hlen] at h0; exact h0), (haa (by rw [hlen] at h0; omega)).2⟩) z6
    (fun i row hi => by obtain ⟨g1, g2⟩ := hget i row hi; rw [← g2]; exact hr _ _ g1)
    (fun i row j x hi hj => by
     obtain ⟨g1, g2⟩ := hget i row hi
     have := hyy _ _ j x g1 hj
     rw [g2, Nat.add_mul] at this
     rw [show off + l * size + i * size + j = off + (l * size + i * size) + j by omega]; exact this)
    (fun i row j x hi hj => hrel _ _ j x (hget i row hi).1 hj) ⟨fun h _ => absurd h z1.2.1, fun h _ => absurd h z1.2.2⟩
   rw [hlen] at this
   exact this
  simp only [sliceV] at hv
  split at hv
  ·rename_i l hh' m q1 q2 q3
   cases m with
   | none =>
    simp only at hv
    split at hv
    ·rename_i hcond
     obtain ⟨k1, k2, k3⟩ := hcond
     simp only [Option.some.injEq] at hv
     subst hv
     refine runs_same hh rfl rfl (hrun aa rows.length c l hh' none q1 q2 q3 k2 (by simp; omega) (Nat.le_refl _)) ?_
     refine hsub _ _ _ _ _ k1 (by omega) (fun q hq => ?_) (by simp; omega) (fun h0 => ?_) (fun h0 => ?_) ?_ ?_
     ·cases cap with
      | none => simp at hq
      | some cc => simp at hq; have := hc cc rfl; simp; omega
     ·simp only [Option.getD_none]
      rw [if_neg (by omega), (haa (by omega)).1]; simp [Addr.add_mid]
     ·simp only [Option.getD_none] at h0 ⊢
      split at h0
      ·have := hnn h0; omega
      ·cases aa with
       | none => have := hnn rfl; omega
       | some _ => simp at h0
     ·intro h; subst h; split <;> rfl
     ·intro h; split
      ·exact h
      ·cases aa with
       | none => exact absurd rfl h
       | some _ => simp
    ·cases hv
   | some m =>
    simp only at hv
    split at hv
    ·rename_i hcond
     obtain ⟨k1, k2, k3, k4⟩ := hcond
     simp only [Option.some.injEq] at hv
     subst hv
     refine runs_same hh rfl rfl (hrun aa rows.length c l hh' (some m) q1 q2 q3 k2 k3 (by simp; omega)) ?_
     refine hsub _ _ _ _ _ k1 (by omega) (fun q hq => by simp at hq; simp; omega) (by simp; omega) (fun h0 => ?_) (fun h0 => ?_) ?_ ?_
     ·simp only [Option.getD_some]
      rw [if_neg (by omega), (haa (by omega)).1]; simp [Addr.add_mid]
     ·simp only [Option.getD_some] at h0 ⊢
      split at h0
      ·have := hnn h0; omega
      ·cases aa with
       | none => have := hnn rfl; omega
       | some _ => simp at h0
     ·intro h; subst h; split <;> rfl
     ·intro h; split
      ·exact h
      ·cases aa with
       | none => exact absurd rfl h
       | some _ => simp
    ·cases hv
  ·cases hv
 | _ => simp [sliceV] at hv
theorem slicea_runs (hh : HeapR A C.N w β h) (ho : OpdOk C w (Imm A w β h) β ρ a) {t e : TypeId} {size m : Nat} (hu : C.T.P.underlying t = some (.array m e)) (hs : C.T.size e = some size) {lo hi mx : Option Operand} {lo' hi' mx' : Option AOpd}
    (hlo : C.T.odd lo = some lo') (hhi : C.T.odd hi = some hi') (hmx : C.T.odd mx = some mx') (hmh : mx'.isSome = true → hi'.isSome = true) {x : V} {vx : Value} (hx : Rel C.N w (Imm A w β h) β x vx) {ef : Eff} (he : sliceaV h size m x (optNat? ρ lo') (optNat? ρ hi') (optNat? ρ mx') = some ef) :
    Runs A C w β h n ef (do pure (.value (← Instr.sliceAt t vx (lo.map a.eval) (hi.map a.eval) (mx.map a.eval)))) := by
 cases hx with
 | ptr _ ab s i o b hb =>
  simp only [sliceaV] at he
  cases hk : h ab with
  | none => rw [hk] at he; cases he
  | some kk =>
   cases kk with
   | loop => rw [hk] at he; cases he
   | stop => rw [hk] at he; cases he
   | map => rw [hk] at he; cases he
   | iter => rw [hk] at he; cases he
   | siter => rw [hk] at he; cases he
   | junk => rw [hk] at he; cases he
   | arr s2 rows =>
    simp only [hk] at he
    split at he
    ·rename_i l hh' mm q1 q2 q3
     split at he
     ·rename_i hcond
      obtain ⟨⟨rfl, hpos, hdiv, hfit⟩, k1, k2, k3⟩ := hcond
      simp only [Option.some.injEq] at he
      subst he
      obtain ⟨b', h1, h2, hblk⟩ := hh.at' ab _ hk
      rw [hb] at h1; cases h1
      obtain ⟨cells, T, fz, g1, g2, g3, g4⟩ := hblk
      have o1 := opt_rel ho hlo q1
      have o2 := opt_rel ho hhi q2
      have o3 := opt_rel ho hmx q3
      have hmn : mm.isSome = true → hh'.isSome = true := fun hm => by
       have e1 : mx'.isSome = true := by
        cases mx' with
        | none => simp [optNat?] at q3; subst q3; cases hm
        | some _ => rfl
       have e2 := hmh e1
       cases hi' with
       | none => cases e2
       | some y =>
        simp only [optNat?, Option.map_eq_some_iff] at q2
        obtain ⟨z, _, rfl⟩ := q2
        rfl
      have hrun : (Instr.sliceAt t (.pointer (some ⟨b, i * s + o, none⟩)) (lo.map a.eval) (hi.map a.eval) (mx.map a.eval)).run C.T.P w = .ok (.slice (some (if mm.getD m = l.getD 0 then ⟨b, i * s + o, none⟩ else (Addr.add ⟨b, i * s + o, none⟩ (l.getD 0 * s2)))) (hh'.getD m - l.getD 0) (mm.getD m - l.getD 0)) w := by
       have hbd := run_bounds (P := C.T.P) (b := false) o1 o2 o3 hmn k1 k2 k3 w
       simp [Instr.sliceAt, run_underlying hu, Instr.sureAddr, hbd, run_sizeOf' hs w]
      refine runs_same hh rfl rfl hrun ?_
      have hF : i * s + o = (i * s + o) / s2 * s2 := by
       have := Nat.div_add_mod (i * s + o) s2
       rw [hdiv, Nat.add_zero, Nat.mul_comm] at this; exact this.symm
      refine .ref _ ab s2 _ _ _ b _ _ hb (fun k hk => by simp at hk; exact hk) (by omega) ?_ (fun h0 => ?_) (by simp)
      ·by_cases e : mm.getD m = l.getD 0
       ·left; omega
       ·right
        rw [if_neg e]
        simp only [Addr.add_mid, Nat.add_mul]
        rw [← hF]
      ·have hle : ((i * s + o) / s2 + l.getD 0 + (mm.getD m - l.getD 0)) * s2 ≤ rows.length * s2 := Nat.mul_le_mul_right _ (by omega)
       refine ⟨cells, T, fz, g1, ?_, fun k hk => (g2 k (by omega)).2⟩
       rcases Nat.eq_zero_or_pos (rows.length * s2) with e | e
       ·omega
       ·have := (g2 (rows.length * s2 - 1) (by omega)).1; omega
     ·cases he
    ·cases he
 | _ => simp [sliceaV] at he
end
end Go.Proofs.YtigdhgbkgfagiaaGreat
