/- AL: what the operations yield, they yield in the model: maps. -/
import Derived.Test.YtigdhgbkgfagiaaGreatZAlH
import Derived.MapKept
import Derived.Laws.StructEq
import Derived.Maps.RangeRun
set_option linter.unusedVariables false
namespace Go.Proofs.YtigdhgbkgfagiaaGreat
section
variable {A : Nat → Prop} {C : Ctx} {w : World} {β : Nat → Option Nat} {h : Nat → Option Blk} {n : Nat} {ρ : AOpd → Option V} {a : Act}
theorem run_getM {P : Program} {w : World} {b : Nat} {l : Array MapEntry} {clk : Nat} (hb : w.heap[b]? = some (.map l clk)) : (getObj b).run P w = .ok (.map l clk) w := by simp [getObj, Sem.run, hb]
theorem run_setM {P : Program} {w : World} {b : Nat} {l : Array MapEntry} {clk : Nat} (o : Obj) (hb : w.heap[b]? = some (.map l clk)) : (setObj b o).run P w = .ok () { w with heap := w.heap.setIfInBounds b o } := by simp [setObj, Sem.run, hb]
def KDesc (c : Nat) (d : TypeDesc) : Prop := (c = 0 ∧ ∃ k, d = .int k) ∨ (c = 1 ∧ d = .string) ∨ (c = 2 ∧ d = .bool)
theorem sameK_lt {c : Nat} (h : c < 3) (x y : V) : sameK c x y = sameK0 c x y := if_pos h
theorem keyC_spec {T : Tr} {t : TypeId} {c : Nat} (hc : T.keyC0 t = some c) : ∃ d, T.P.underlying t = some d ∧ KDesc c d := by
 unfold Tr.keyC0 at hc
 split at hc
 ·rename_i k hu; simp only [Option.some.injEq] at hc; exact ⟨_, hu, .inl ⟨hc.symm, k, rfl⟩⟩
 ·rename_i hu; simp only [Option.some.injEq] at hc; exact ⟨_, hu, .inr (.inl ⟨hc.symm, rfl⟩)⟩
 ·rename_i hu; simp only [Option.some.injEq] at hc; exact ⟨_, hu, .inr (.inr ⟨hc.symm, rfl⟩)⟩
 ·cases hc
theorem run_checkKey {P : Program} {t : TypeId} {c : Nat} {d : TypeDesc} (hu : P.underlying t = some d) (hd : KDesc c d) (b : Bool) (v : Value) (m : Nat) (w : World) : (Instr.checkKey b (m + 1) t v).run P w = .ok () w := by
 unfold Instr.checkKey
 rw [Sem.run_bind, run_underlying hu w]
 rcases hd with ⟨_, k, rfl⟩ | ⟨_, rfl⟩ | ⟨_, rfl⟩ <;> simp [Result.andThen_ok]
theorem bytes_eq (s t : ByteArray) : (s == t) = (s.data.toList == t.data.toList) := by rw [beq_toListBytes, toList_eq, toList_eq]
theorem same_rel {N : Nums} {S : Nat → Prop} {c : Nat} {d : TypeDesc} (hd : KDesc c d) {k k' : V} {y y' : Value} (hk : Rel N w S β k y) (hk' : Rel N w S β k' y') {b : Bool} (hs : sameK0 c k k' = some b) (m : Nat) :
    Instr.sameNow d y y' = some b ∧ (b = true → Instr.sameBits m y' y = true) := by
 unfold sameK0 at hs
 split at hs
 ·rename_i j p k2 q
  split at hs
  ·rename_i hj
   subst hj
   simp only [Option.some.injEq] at hs
   cases hk; cases hk'
   rcases hd with ⟨_, k, rfl⟩ | ⟨h0, _⟩ | ⟨h0, _⟩
   ·refine ⟨by simp [Instr.sameNow, hs], fun hb => ?_⟩
    subst hb
    have : p = q := by simpa using hs
    subst this
    cases m <;> simp [Instr.sameBits]
   ·cases h0
   ·cases h0
  ·cases hs
 ·rename_i p q
  simp only [Option.some.injEq] at hs
  cases hk with
  | str _ s =>
   cases hk' with
   | str _ s' =>
    rcases hd with ⟨h0, _⟩ | ⟨_, rfl⟩ | ⟨h0, _⟩
    ·cases h0
    ·have e := bytes_eq s s'
     refine ⟨by simp only [Instr.sameNow, e, hs], fun hb => ?_⟩
     subst hb
     have e2 := eq_of_beq hs
     cases m <;> simp only [Instr.sameBits, bytes_eq, e2, BEq.rfl]
    ·cases h0
 ·rename_i p q
  simp only [Option.some.injEq] at hs
  cases hk; cases hk'
  rcases hd with ⟨h0, _⟩ | ⟨h0, _⟩ | ⟨_, rfl⟩
  ·cases h0
  ·cases h0
  ·refine ⟨by simp [Instr.sameNow, hs], fun hb => ?_⟩
   subst hb
   have : p = q := by simpa using hs
   subst this
   cases m <;> simp [Instr.sameBits]
 ·cases hs
theorem KDesc.lt {c : Nat} {d : TypeDesc} (hd : KDesc c d) : c < 3 := by rcases hd with ⟨h, _⟩ | ⟨h, _⟩ | ⟨h, _⟩ <;> omega
theorem findNow_rel {N : Nums} {S : Nat → Prop} {c : Nat} {d : TypeDesc} (hd : KDesc c d) {k : V} {y : Value} (hk : Rel N w S β k y) : ∀ (es : List (V × V)) (l : List MapEntry) (i : Nat) (r : Option Nat), l.length = es.length →
    (∀ (j : Nat) (p : V × V) (e : MapEntry), es[j]? = some p → l[j]? = some e → Rel N w S β p.1 e.key) → findK c k es i = some r →
    (r = none ∧ Instr.findNow d y l i = some none) ∨ ∃ (j : Nat) (p : V × V) (e : MapEntry), r = some (i + j) ∧ es[j]? = some p ∧ l[j]? = some e ∧ Instr.findNow d y l i = some (some (i + j, e.val)) ∧ Instr.sameBits 10000 e.key y = true
 | [], l, i, r, hl, hr, hf => by
  simp [findK] at hf
  have : l = [] := by cases l <;> simp_all
  subst this
  exact .inl ⟨hf.symm, rfl⟩
 | p :: es, l, i, r, hl, hr, hf => by
  cases l with
  | nil => simp at hl
  | cons e l =>
   have hke := hr 0 p e rfl rfl
   unfold findK at hf
   unfold Instr.findNow
   split at hf
   ·rename_i hs
    simp only [Option.some.injEq] at hf
    obtain ⟨h1, h2⟩ := same_rel hd hk hke (by rw [← sameK_lt hd.lt]; exact hs) 10000
    rw [h1]
    exact .inr ⟨0, p, e, by simp [hf], rfl, rfl, by simp, h2 rfl⟩
   ·rename_i hs
    obtain ⟨h1, h2⟩ := same_rel hd hk hke (by rw [← sameK_lt hd.lt]; exact hs) 10000
    rw [h1]
    rcases findNow_rel hd hk es l (i + 1) r (by simpa using hl) (fun j p e h1 h2 => hr (j + 1) p e (by simpa using h1) (by simpa using h2)) hf with ⟨h3, h4⟩ | ⟨j, p', e', h3, h4, h5, h6, h7⟩
    ·exact .inl ⟨h3, h4⟩
    ·exact .inr ⟨j + 1, p', e', by rw [h3]; congr 1; omega, by simpa using h4, by simpa using h5, by rw [show i + (j + 1) = i + 1 + j by omega]; exact h6, h7⟩
   ·cases hf
theorem run_findKey {P : Program} {kt : TypeId} {d : TypeDesc} (hu : P.underlying kt = some d) {y : Value} {l : List MapEntry} {q : Option (Nat × Value)} (hf : Instr.findNow d y l 0 = some q) (w : World) : (Instr.findKey kt y l).run P w = .ok q w := by
 unfold Instr.findKey
 rw [Sem.run_bind, run_underlying hu w, Result.andThen_ok, hf]
 rfl
theorem leaf_runs {S : Nat → Prop} {t : TypeId} {c : Nat} (hc : C.T.keyC0 t = some c) {x y : V} {X Y : Value} (hx : Rel C.N w S β x X) (hy : Rel C.N w S β y Y) {b : Bool} (hs : sameK0 c x y = some b) (d : Nat) : (Op.equalIn (d + 1) t X Y).run C.T.P w = .ok b w := by
 obtain ⟨ds, hu, hd⟩ := keyC_spec hc
 unfold sameK0 at hs
 split at hs
 ·rename_i j p k2 q
  split at hs
  ·rename_i hj
   subst hj
   simp only [Option.some.injEq] at hs
   subst hs
   cases hx; cases hy
   rcases hd with ⟨_, k, rfl⟩ | ⟨h0, _⟩ | ⟨h0, _⟩
   ·exact run_equalIn_int w d t _ k p q hu
   ·cases h0
   ·cases h0
  ·cases hs
 ·rename_i p q
  simp only [Option.some.injEq] at hs
  cases hx with
  | str _ s =>
   cases hy with
   | str _ s' =>
    rcases hd with ⟨h0, _⟩ | ⟨_, rfl⟩ | ⟨h0, _⟩
    ·cases h0
    ·rw [run_equalIn_string w d t s s' hu, toList_eq, toList_eq, hs]
    ·cases h0
 ·rename_i p q
  simp only [Option.some.injEq] at hs
  subst hs
  cases hx; cases hy
  rcases hd with ⟨h0, _⟩ | ⟨h0, _⟩ | ⟨_, rfl⟩
  ·cases h0
  ·cases h0
  ·exact run_equalIn_bool' w d t p q hu
 ·cases hs
theorem part_leaf {S : Nat → Prop} {t : TypeId} (hg : C.T.isAgg t = some false) {cs : List V} {ys : Array Value} (hc : CellsR C.N w S β cs ys) {i : Nat} {v : V} (hv : cs[i]? = some v) : ∃ y, (part t ys i).run C.T.P w = .ok y w ∧ Rel C.N w S β v y := by
 obtain ⟨y, q1, q2, q3⟩ := hc.get hv
 refine ⟨y, ?_, q3⟩
 unfold part
 rw [Sem.run_bind, run_isAgg' hg w]
 simp [q1]
theorem flat_cons {T : Tr} {i : Nat} {f : Field} {r : List Field} {cs : List Nat} (h : T.flat i (f :: r) = some cs) : ∃ c cs', cs = c :: cs' ∧ f.name ≠ "_" ∧ f.offset = i ∧ T.isAgg f.type = some false ∧ T.keyC0 f.type = some c ∧ T.flat (i + 1) r = some cs' := by
 simp only [Tr.flat] at h
 split at h
 ·cases h
 ·rename_i hn
  simp only [Option.bind_eq_some_iff, Option.map_eq_some_iff] at h
  obtain ⟨c, hc, cs', h1, rfl⟩ := h
  simp only [not_or, Decidable.not_not] at hn
  exact ⟨c, cs', rfl, hn.1, hn.2.1, hn.2.2.2, hc, h1⟩
theorem drop_cons {α : Type} {l : List α} {i : Nat} {a : α} {r : List α} (h : l.drop i = a :: r) : l[i]? = some a ∧ l.drop (i + 1) = r := by
 constructor
 ·have := congrArg (fun x => x[0]?) h
  simpa [List.getElem?_drop] using this
 ·have := congrArg List.tail h
  simpa [List.tail_drop] using this
theorem eqFlat {S : Nat → Prop} {d : Nat} {ks ls : List V} {X Y : Array Value} (hx : CellsR C.N w S β ks X) (hy : CellsR C.N w S β ls Y) : ∀ (fs : List Field) (i : Nat) (cs : List Nat) (b : Bool), C.T.flat i fs = some cs → sameCs cs (ks.drop i) (ls.drop i) = some b → (Op.eqFields (d + 1) X Y fs).run C.T.P w = .ok b w
 | [], i, cs, b, hf, h => by
  simp [Tr.flat] at hf; subst hf
  cases h1 : ks.drop i with
  | nil =>
   cases h2 : ls.drop i with
   | nil => rw [h1, h2] at h; simp [sameCs] at h; subst h; simp [Op.eqFields]
   | cons y ys => rw [h1, h2] at h; simp [sameCs] at h
  | cons x xs => rw [h1] at h; simp [sameCs] at h
 | f :: fs, i, cs, b, hf, h => by
  obtain ⟨c, cs', rfl, hn, ho, hg, hc, hf'⟩ := flat_cons hf
  subst ho
  cases h1 : ks.drop f.offset with
  | nil => rw [h1] at h; simp [sameCs] at h
  | cons x xs =>
   cases h2 : ls.drop f.offset with
   | nil => rw [h1, h2] at h; simp [sameCs] at h
   | cons y ys =>
    rw [h1, h2] at h
    simp only [sameCs, Option.bind_eq_some_iff, Option.some.injEq] at h
    obtain ⟨b1, hb1, b2, hb2, rfl⟩ := h
    obtain ⟨g1, g2⟩ := drop_cons h1
    obtain ⟨g3, g4⟩ := drop_cons h2
    obtain ⟨px, p1, p2⟩ := part_leaf hg hx g1
    obtain ⟨py, q1, q2⟩ := part_leaf hg hy g3
    have e := leaf_runs hc p2 q2 hb1 d
    have ih := eqFlat (d := d) hx hy fs (f.offset + 1) cs' b2 hf' (by rw [g2, g4]; exact hb2)
    cases b1 <;> simp [Op.eqFields, hn, Sem.run_bind, p1, q1, e, ih]
theorem bitsFlat {S : Nat → Prop} (m : Nat) : ∀ (cs : List Nat) (ks ls : List V) (X Y : List Value), (∀ c ∈ cs, ∃ d, KDesc c d) → X.length = ks.length → Y.length = ls.length → (∀ (i : Nat) (c : V) (y : Value), ks[i]? = some c → X[i]? = some y → Rel C.N w S β c y) → (∀ (i : Nat) (c : V) (y : Value), ls[i]? = some c → Y[i]? = some y → Rel C.N w S β c y) →
    sameCs cs ks ls = some true → X.length = Y.length ∧ ((Y.zip X).all fun (x, y) => Instr.sameBits m x y) = true
 | [], ks, ls, X, Y, _, hx, hy, _, _, h => by
  cases ks with
  | cons x xs => simp [sameCs] at h
  | nil =>
   cases ls with
   | cons y ys => simp [sameCs] at h
   | nil =>
    have e1 := List.length_eq_zero_iff.1 hx
    have e2 := List.length_eq_zero_iff.1 hy
    subst e1; subst e2
    exact ⟨rfl, rfl⟩
 | c :: cs, ks, ls, X, Y, hc, hx, hy, rx, ry, h => by
  cases ks with
  | nil => simp [sameCs] at h
  | cons k ks =>
   cases ls with
   | nil => simp [sameCs] at h
   | cons l ls =>
    cases X with
    | nil => simp at hx
    | cons x X =>
     cases Y with
     | nil => simp at hy
     | cons y Y =>
      simp only [sameCs, Option.bind_eq_some_iff, Option.some.injEq, Bool.and_eq_true] at h
      obtain ⟨b1, hb1, b2, hb2, rfl, rfl⟩ := h
      obtain ⟨d, hd⟩ := hc c (by simp)
      have e := (same_rel hd (rx 0 k x rfl rfl) (ry 0 l y rfl rfl) hb1 m).2 rfl
      obtain ⟨i1, i2⟩ := bitsFlat m cs ks ls X Y (fun c h => hc c (by simp [h])) (by simpa using hx) (by simpa using hy) (fun i c y h1 h2 => rx (i + 1) c y (by simpa using h1) (by simpa using h2)) (fun i c y h1 h2 => ry (i + 1) c y (by simpa using h1) (by simpa using h2)) hb2
      refine ⟨by simp [i1], ?_⟩
      simp only [List.zip_cons_cons, List.all_cons, e, Bool.true_and]
      exact i2
theorem flat_kd {T : Tr} : ∀ (fs : List Field) (i : Nat) (cs : List Nat), T.flat i fs = some cs → ∀ c ∈ cs, ∃ d, KDesc c d
 | [], i, cs, h, c, hc => by simp [Tr.flat] at h; subst h; simp at hc
 | f :: fs, i, cs, h, c, hc => by
  obtain ⟨c', cs', rfl, hn, ho, hg, hk, hf'⟩ := flat_cons h
  rcases List.mem_cons.1 hc with rfl | h1
  ·obtain ⟨d, _, hd⟩ := keyC_spec hk; exact ⟨d, hd⟩
  ·exact flat_kd fs _ cs' hf' c h1
theorem keyC_struct {T : Tr} {t : TypeId} {c : Nat} (hc : T.keyC t = some c) : (∃ fs cs, T.P.underlying t = some (.struct fs) ∧ T.P.stoodInHeld t = false ∧ T.flat 0 fs.toList = some cs ∧ kcs 12 (kcOf cs) = cs ∧ c = 3 + kcOf cs) ∨ T.keyC0 t = some c := by
 unfold Tr.keyC at hc
 split at hc
 ·rename_i fs hu
  split at hc
  ·rename_i hs
   simp only [Option.bind_eq_some_iff] at hc
   obtain ⟨cs, h1, h2⟩ := hc
   split at h2
   ·rename_i h3
    simp only [Option.some.injEq] at h2
    exact .inl ⟨fs, cs, hu, hs, h1, h3, h2.symm⟩
   ·cases h2
  ·cases hc
 ·exact .inr hc
theorem sameK_struct {cs : List Nat} (hcs : kcs 12 (kcOf cs) = cs) {k k' : V} {b : Bool} (h : sameK (3 + kcOf cs) k k' = some b) : ∃ xs ys, k = .agg xs ∧ k' = .agg ys ∧ sameCs cs xs ys = some b := by
 unfold sameK at h
 rw [if_neg (by omega), Nat.add_sub_cancel_left, hcs] at h
 split at h
 ·exact ⟨_, _, rfl, rfl, h⟩
 ·cases h
theorem asking_rel {S : Nat → Prop} {kt : TypeId} {fs : Array Field} (hu : C.T.P.underlying kt = some (.struct fs)) (hp : C.T.P.stoodInHeld kt = false) {cs : List Nat} (hfl : C.T.flat 0 fs.toList = some cs) (hcs : kcs 12 (kcOf cs) = cs) {k : V} {y : Value} (hk : Rel C.N w S β k y) : ∀ (es : List (V × V)) (l : List MapEntry) (i : Nat) (r : Option Nat), l.length = es.length →
    (∀ (j : Nat) (p : V × V) (e : MapEntry), es[j]? = some p → l[j]? = some e → Rel C.N w S β p.1 e.key) → findK (3 + kcOf cs) k es i = some r →
    (r = none ∧ (Instr.findAsking kt y l i).run C.T.P w = .ok none w) ∨ ∃ (j : Nat) (p : V × V) (e : MapEntry), r = some (i + j) ∧ es[j]? = some p ∧ l[j]? = some e ∧ (Instr.findAsking kt y l i).run C.T.P w = .ok (some (i + j, e.val)) w ∧ Instr.sameBits 10000 e.key y = true
 | [], l, i, r, hl, hr, hf => by
  simp [findK] at hf
  have : l = [] := by cases l <;> simp_all
  subst this
  exact .inl ⟨hf.symm, rfl⟩
 | p :: es, l, i, r, hl, hr, hf => by
  cases l with
  | nil => simp at hl
  | cons e l =>
   have hke := hr 0 p e rfl rfl
   unfold findK at hf
   have key : ∀ b, sameK (3 + kcOf cs) k p.1 = some b → (Op.equal kt y e.key).run C.T.P w = .ok b w ∧ (b = true → Instr.sameBits 10000 e.key y = true) := fun b hb => by
    obtain ⟨xs, ys, rfl, h2, h3⟩ := sameK_struct hcs hb
    rw [h2] at hke
    obtain ⟨X, rfl, hX⟩ : ∃ X, y = .agg X ∧ CellsR C.N w S β xs X := by cases hk with | agg _ _ X a1 a2 a3 => exact ⟨X, rfl, a1, a2, a3⟩
    obtain ⟨Y, hY0, hY⟩ : ∃ Y, e.key = .agg Y ∧ CellsR C.N w S β ys Y := by
     generalize e.key = q at hke
     cases hke with | agg _ _ X a1 a2 a3 => exact ⟨_, rfl, a1, a2, a3⟩
    have hfo : C.T.P.fieldsOf kt = fs := by simp [Program.fieldsOf, hu]
    refine ⟨?_, fun hbt => ?_⟩
    ·rw [hY0]
     show (Op.equalIn (9999 + 1) kt (.agg X) (.agg Y)).run C.T.P w = _
     rw [run_equalIn_struct w 9999 kt X Y (by rw [hfo]; exact hu) hp, hfo]
     exact eqFlat hX hY fs.toList 0 cs b hfl (by simpa using h3)
    ·subst hbt
     rw [hY0]
     obtain ⟨i1, i2⟩ := bitsFlat (S := S) (C := C) (w := w) (β := β) 9999 cs xs ys X.toList Y.toList (flat_kd _ _ _ hfl) (by simpa using hX.1) (by simpa using hY.1) (fun i c y h1 h2 => hX.2.2 i c y h1 (by simpa using h2)) (fun i c y h1 h2 => hY.2.2 i c y h1 (by simpa using h2)) h3
     have i1' : Y.size = X.size := by simpa using i1.symm
     simp only [Instr.sameBits, i1', BEq.rfl, Bool.true_and]
     exact i2
   split at hf
   ·rename_i hs
    simp only [Option.some.injEq] at hf
    obtain ⟨h1, h2⟩ := key _ hs
    exact .inr ⟨0, p, e, by simp [hf], rfl, rfl, by simp [Instr.findAsking, Sem.run_bind, h1], h2 rfl⟩
   ·rename_i hs
    obtain ⟨h1, h2⟩ := key _ hs
    rcases asking_rel hu hp hfl hcs hk es l (i + 1) r (by simpa using hl) (fun j p e h1 h2 => hr (j + 1) p e (by simpa using h1) (by simpa using h2)) hf with ⟨h3, h4⟩ | ⟨j, p', e', h3, h4, h5, h6, h7⟩
    ·exact .inl ⟨h3, by simp [Instr.findAsking, Sem.run_bind, h1, h4]⟩
    ·exact .inr ⟨j + 1, p', e', by rw [h3]; congr 1; omega, by simpa using h4, by simpa using h5, by simp [Instr.findAsking, Sem.run_bind, h1, h6]; omega, h7⟩
   ·cases hf
theorem findKey_rel {S : Nat → Prop} {kt : TypeId} {c : Nat} (hc : C.T.keyC kt = some c) {k : V} {y : Value} (hk : Rel C.N w S β k y) (es : List (V × V)) (l : List MapEntry) (r : Option Nat) (hl : l.length = es.length)
    (hr : ∀ (j : Nat) (p : V × V) (e : MapEntry), es[j]? = some p → l[j]? = some e → Rel C.N w S β p.1 e.key) (hf : findK c k es 0 = some r) :
    (r = none ∧ (Instr.findKey kt y l).run C.T.P w = .ok none w) ∨ ∃ (j : Nat) (p : V × V) (e : MapEntry), r = some j ∧ es[j]? = some p ∧ l[j]? = some e ∧ (Instr.findKey kt y l).run C.T.P w = .ok (some (j, e.val)) w ∧ Instr.sameBits 10000 e.key y = true := by
 rcases keyC_struct hc with ⟨fs, cs, hu, hp, hfl, hcs, rfl⟩ | h0
 ·have hgo : (Instr.findKey kt y l).run C.T.P w = (Instr.findAsking kt y l).run C.T.P w := by
    unfold Instr.findKey
    rw [Sem.run_bind, run_underlying hu w, Result.andThen_ok]
    cases l with
    | nil => rfl
    | cons e l =>
     have : Instr.findNow (.struct fs) y (e :: l) 0 = none := by
      unfold Instr.findNow
      simp [Instr.sameNow]
     rw [this]
  rw [hgo]
  rcases asking_rel hu hp hfl hcs hk es l 0 r hl hr hf with h | ⟨j, p, e, h1, h2⟩
  ·exact .inl h
  ·rw [Nat.zero_add] at h1 h2
   exact .inr ⟨j, p, e, h1, h2⟩
 ·obtain ⟨d, hd, hkd⟩ := keyC_spec h0
  rcases findNow_rel hkd hk es l 0 r hl hr hf with ⟨h1, h2⟩ | ⟨j, p, e, h1, h2, h3, h4, h5⟩
  ·exact .inl ⟨h1, run_findKey hd h2 w⟩
  ·rw [Nat.zero_add] at h1 h4
   exact .inr ⟨j, p, e, h1, h2, h3, run_findKey hd h4 w, h5⟩
theorem checkFlat {S : Nat → Prop} {b : Bool} {m : Nat} {ks : List V} {X : Array Value} (hx : CellsR C.N w S β ks X) : ∀ (fs : List Field) (i : Nat) (cs : List Nat), C.T.flat i fs = some cs → keyCs cs (ks.drop i) = true →
    (forIn fs PUnit.unit fun (f : Field) (_ : PUnit) => (if f.name ≠ "_" then do { let x ← part f.type X f.offset; Instr.checkKey b (m + 1) f.type x; pure (ForInStep.yield PUnit.unit) } else pure (ForInStep.yield PUnit.unit) : Sem (ForInStep PUnit))).run C.T.P w = .ok PUnit.unit w
 | [], i, cs, hf, h => by simp
 | f :: fs, i, cs, hf, h => by
  obtain ⟨c, cs', rfl, hn, ho, hg, hc, hf'⟩ := flat_cons hf
  subst ho
  cases h1 : ks.drop f.offset with
  | nil => rw [h1] at h; simp [keyCs] at h
  | cons x xs =>
   rw [h1] at h
   simp only [keyCs, Bool.and_eq_true] at h
   obtain ⟨g1, g2⟩ := drop_cons h1
   obtain ⟨px, p1, p2⟩ := part_leaf hg hx g1
   obtain ⟨d, hd, hkd⟩ := keyC_spec hc
   have e := run_checkKey (P := C.T.P) hd hkd b px m w
   have ih := checkFlat (b := b) (m := m) hx fs (f.offset + 1) cs' hf' (by rw [g2]; exact h.2)
   simp only [List.forIn_cons, Sem.run_bind, if_pos hn, p1, Result.andThen_ok, e]
   simpa using ih
theorem checkKey_rel {S : Nat → Prop} {kt : TypeId} {c : Nat} (hc : C.T.keyC kt = some c) {k : V} {y : Value} (hk : Rel C.N w S β k y) (hkv : keyV c k = true) (b : Bool) : (Instr.checkKey b 10000 kt y).run C.T.P w = .ok () w := by
 rcases keyC_struct hc with ⟨fs, cs, hu, hp, hfl, hcs, rfl⟩ | h0
 ·unfold keyV at hkv
  rw [if_neg (by omega), Nat.add_sub_cancel_left, hcs] at hkv
  split at hkv
  ·rename_i vs
   cases hk with
   | agg _ _ X a1 a2 a3 =>
    have := checkFlat (C := C) (w := w) (β := β) (S := S) (b := b) (m := 9998) (ks := vs) (X := X) ⟨a1, a2, a3⟩ fs.toList 0 cs hfl (by simpa using hkv)
    unfold Instr.checkKey
    rw [Sem.run_bind, run_underlying hu w, Result.andThen_ok]
    simp only
    rw [← Array.forIn_toList]
    simpa using this
  ·cases hkv
 ·obtain ⟨d, hd, hkd⟩ := keyC_spec h0
  exact run_checkKey hd hkd b y 9999 w
theorem mapOf_rel {N : Nums} (hh : HeapR A N w β h) {m : V} {x : Value} (hm : Rel N w (Imm A w β h) β m x) {es : List (V × V)} {nd : List Nat} (he : mapOf h m = some (es, nd)) :
    (es = [] ∧ x = .map none) ∨ ∃ (b : Nat) (arr : Array MapEntry) (clk : Nat), x = .map (some b) ∧ w.heap[b]? = some (.map arr clk) ∧ arr.size = es.length ∧
     ∀ (i : Nat) (p : V × V) (e : MapEntry), es[i]? = some p → arr[i]? = some e → Rel N w (Imm A w β h) β p.1 e.key ∧ Rel N w (Imm A w β h) β p.2 e.val := by
 cases hm with
 | nilm => simp [mapOf] at he; exact .inl ⟨he.1, rfl⟩
 | mapp _ a b hb =>
  simp only [mapOf] at he
  split at he
  ·rename_i es' bs' clk' hk
   simp only [Option.some.injEq, Prod.mk.injEq] at he
   obtain ⟨rfl, _⟩ := he
   obtain ⟨b', h1, h2, h3⟩ := hh.at' a _ hk
   rw [hb] at h1; cases h1
   obtain ⟨arr, g1, g2, _, g3⟩ := h3
   exact .inr ⟨b, arr, _, rfl, g1, g2, g3⟩
  ·cases he
 | _ => simp [mapOf] at he
theorem mkmap_runs (hh : HeapR A C.N w β h) (hn : β n = none) (hhn : h n = none) {t : TypeId} {kt et : TypeId} (hu : C.T.P.underlying t = some (.map kt et)) {r : Option Value} (hr : ∀ x, r = some x → ∃ k i, x = .int k i) :
    Runs A C w β h n { v := .mapp n, new := [.map [] [] 0] } (do pure (.value (← Instr.makeMap t r))) := by
 have hrun : (Instr.makeMap t r).run C.T.P w = .ok (.map (some w.heap.size)) (w.alloc (.map #[] 0)) := by
  unfold Instr.makeMap
  cases r with
  | none => simp [Result.andThen_ok]
  | some x =>
   obtain ⟨k, i, rfl⟩ := hr x rfl
   simp [Sem.run_bind, Result.andThen_ok, run_underlying hu, asInt, asIntOf]
 refine ⟨.map (some w.heap.size), w.alloc (.map #[] 0), .inl (by rw [Sem.run_bind, hrun]; rfl), effOk_new (k := .map [] [] 0) (o := .map #[] 0) hh hn hhn rfl rfl rfl rfl rfl rfl (fun β' S hβ hb hS => ?_) (fun β' S hβ hb hS => .mapp _ _ _ hb)⟩
 exact ⟨#[], by show (w.heap.push _)[w.heap.size]? = _; simp, rfl, rfl, fun i p e hp => by simp at hp⟩
theorem mget_runs (hh : HeapR A C.N w β h) {t kt et : TypeId} (hu : C.T.P.underlying t = some (.map kt et)) {c : Nat} (hc : C.T.keyC kt = some c) {z : V} (hz : C.T.zeroW et = some z) {ok : Bool} {m k : V} {x y : Value} (hm : Rel C.N w (Imm A w β h) β m x) (hk : Rel C.N w (Imm A w β h) β k y) {e : Eff}
    (he : mgetV h c z ok m k = some e) : Runs A C w β h n e (do pure (.value (← Instr.lookup t x y ok))) := by
 unfold Tr.zeroW at hz
 simp only [Option.bind_eq_some_iff] at hz
 obtain ⟨zv, ⟨ti, hti, hzv⟩, hz⟩ := hz
 have hzr : Rel C.N w (Imm A w β h) β z zv := V.of_rel zv z hz
 have hzrun := run_zero (T := C.T) hti hzv w
 unfold mgetV at he
 split at he
 case isFalse => cases he
 rename_i hkv
 simp only [Option.bind_eq_some_iff] at he
 obtain ⟨⟨es, nd⟩, hmo, r, hr, he⟩ := he
 simp only [Option.some.injEq] at he
 subst he
 have key : ∀ (l : Array MapEntry), l.size = es.length → (∀ (i : Nat) (p : V × V) (e : MapEntry), es[i]? = some p → l[i]? = some e → Rel C.N w (Imm A w β h) β p.1 e.key ∧ Rel C.N w (Imm A w β h) β p.2 e.val) →
     (x = .map none ∧ l = #[] ∨ ∃ b clk, x = .map (some b) ∧ w.heap[b]? = some (.map l clk)) →
     Runs A C w β h n { v := if ok then .tup [pickV es z r, .bool r.isSome] else pickV es z r, need := nd } (do pure (.value (← Instr.lookup t x y ok))) := by
  intro l hl hrel hrun
  have hfin : ∀ (v : Value) (b : Bool), True → Rel C.N w (Imm A w β h) β (pickV es z r) v → r.isSome = b → (Instr.lookup t x y ok).run C.T.P w = .ok (if ok then .tuple #[v, .bool b] else v) w →
      Runs A C w β h n { v := if ok then .tup [pickV es z r, .bool r.isSome] else pickV es z r, need := nd } (do pure (.value (← Instr.lookup t x y ok))) := fun v b _ hv hb hrun2 => by
   refine runs_same hh rfl rfl hrun2 ?_
   cases ok with
   | false => exact hv
   | true =>
    rw [hb]
    refine .tup _ _ _ rfl (fun i c' y' hc' hy' => ?_)
    match i, hc', hy' with
    | 0, hc', hy' => simp at hc' hy'; rw [← hc', ← hy']; exact hv
    | 1, hc', hy' => simp at hc' hy'; rw [← hc', ← hy']; exact .bool _ b
    | i + 2, hc', hy' => simp at hc'
  have hlk : ∀ q, (Instr.findKey kt y l.toList).run C.T.P w = .ok q w → (Instr.lookup t x y ok).run C.T.P w = .ok (if ok then .tuple #[(match q with | some (_, v) => v | none => zv), .bool q.isSome] else (match q with | some (_, v) => v | none => zv)) w := fun q hq => by
   have hck : ∀ b, (Instr.checkKey b 10000 kt y).run C.T.P w = .ok () w := fun b => checkKey_rel hc hk hkv b
   have hfk := hq
   unfold Instr.lookup
   rcases hrun with ⟨rfl, rfl⟩ | ⟨b, clk, rfl, hb⟩
   ·have hfk' : (Instr.findKey kt y ([] : List MapEntry)).run C.T.P w = .ok q w := hfk
    cases q with
    | none => cases ok <;> simp [Sem.run_bind, run_underlying hu, hck, hfk', hzrun]
    | some q => obtain ⟨i, v⟩ := q; cases ok <;> simp [Sem.run_bind, run_underlying hu, hck, hfk']
   ·have hg := run_getM (P := C.T.P) hb
    cases q with
    | none => cases ok <;> simp [Sem.run_bind, run_underlying hu, hg, hck, hfk, hzrun]
    | some q => obtain ⟨i, v⟩ := q; cases ok <;> simp [Sem.run_bind, run_underlying hu, hg, hck, hfk]
  rcases findKey_rel hc hk es l.toList r (by simpa using hl) (fun j p e h1 h2 => (hrel j p e h1 (by simpa using h2)).1) hr with ⟨h1, h2⟩ | ⟨j, p, e, h1, h2, h3, h4, _⟩
  ·subst h1
   exact hfin zv false trivial hzr rfl (hlk none h2)
  ·subst h1
   have hv := (hrel j p e h2 (by simpa using h3)).2
   refine hfin e.val true trivial ?_ rfl (hlk _ h4)
   simp only [pickV, h2, Option.map_some, Option.getD_some]
   exact hv
 rcases mapOf_rel hh hm hmo with ⟨rfl, rfl⟩ | ⟨b, arr, clk, rfl, g1, g2, g3⟩
 ·exact key #[] rfl (fun i p e hp => by simp at hp) (.inl ⟨rfl, rfl⟩)
 ·exact key arr g2 g3 (.inr ⟨b, clk, rfl, g1⟩)
theorem tup_none {N : Nums} {S : Nat → Prop} : Rel N w S β (.tup []) undef := .tup _ [] #[] rfl (fun i c y hc => by simp at hc)
theorem born_modify {l : Array MapEntry} {f : MapEntry → MapEntry} (hf : ∀ e, (f e).born = e.born) (i : Nat) : (l.modify i f).toList.map (·.born) = l.toList.map (·.born) := by
 apply List.ext_getElem?
 intro j
 simp only [List.getElem?_map, Array.getElem?_toList, Array.getElem?_modify]
 by_cases h : i = j
 ·rw [if_pos h]
  cases l[j]? with
  | none => rfl
  | some e => simp [hf]
 ·rw [if_neg h]
theorem map_upd (hh : HeapR A C.N w β h) {a' b : Nat} {es es' : List (V × V)} {bs bs' : List Nat} {arr arr' : Array MapEntry} {clk clk' : Nat} (hk : h a' = some (.map es bs clk)) (hb : β a' = some b) (hw : w.heap[b]? = some (.map arr clk)) {e : Eff} (h1 : e.upd = [(a', some (.map es' bs' clk'))]) (h2 : e.new = []) {x : Value} (hx : ∀ (S : Nat → Prop) (w' : World), (∀ c, Imm A w β h c → S c) → (∀ c, Imm A w β h c → w'.heap[c]? = w.heap[c]?) → (∀ b m, Room w b m → Room w' b m) → Rel C.N w' S β e.v x)
    (hs : arr'.size = es'.length) (hbs : arr'.toList.map (·.born) = bs') (hr : ∀ (S : Nat → Prop) (w' : World), (∀ c, Imm A w β h c → S c) → (∀ c, Imm A w β h c → w'.heap[c]? = w.heap[c]?) → (∀ b m, Room w b m → Room w' b m) → ∀ (i : Nat) (p : V × V) (e : MapEntry), es'[i]? = some p → arr'[i]? = some e → Rel C.N w' S β p.1 e.key ∧ Rel C.N w' S β p.2 e.val) :
    EffOk A C.N w β h n e x { w with heap := w.heap.setIfInBounds b (.map arr' clk') } := by
 have hlt := (Array.getElem?_eq_some_iff.1 hw).1
 have hother : ∀ c, c ≠ b → (w.heap.setIfInBounds b (.map arr' clk'))[c]? = w.heap[c]? := fun c hc => Array.getElem?_setIfInBounds_ne (fun e => hc e.symm)
 have hroom : ∀ b' m, Room w b' m → Room { w with heap := w.heap.setIfInBounds b (.map arr' clk') } b' m := fun b' m ⟨cells, T, fz, r1, r2⟩ => by
  refine ⟨cells, T, fz, ?_, r2⟩
  show (w.heap.setIfInBounds b (.map arr' clk'))[b']? = _
  rw [hother b' (fun e => by subst e; rw [hw] at r1; cases r1)]; exact r1
 have himm : ∀ c, Imm A w β h c → (w.heap.setIfInBounds b (.map arr' clk'))[c]? = w.heap[c]? := fun c hc => hother c (fun e => by
  subst e
  obtain ⟨cells, T, fz, r1⟩ := hc.arr
  rw [hw] at r1; cases r1)
 refine effOk_upd (b := b) hh hk hb h1 h2 hother hroom (by simp) rfl rfl rfl (fun S hS => ?_) (fun S hS => hx S _ hS himm hroom)
 refine ⟨arr', ?_, hs, hbs, hr S _ hS himm hroom⟩
 show (w.heap.setIfInBounds b (.map arr' clk'))[b]? = _
 rw [Array.getElem?_setIfInBounds_self_of_lt hlt]
theorem mset_runs (hh : HeapR A C.N w β h) {t kt et : TypeId} (hu : C.T.P.underlying t = some (.map kt et)) {c : Nat} (hc : C.T.keyC kt = some c) {m k v : V} {x y z : Value} (hm : Rel C.N w (Imm A w β h) β m x) (hk : Rel C.N w (Imm A w β h) β k y) (hv : Rel C.N w (Imm A w β h) β v z) {e : Eff}
    (he : msetV h c m k v = some e) : Runs A C w β h n e (do Instr.mapUpdate t x y z; pure .skip) := by
 unfold msetV at he
 split at he
 case h_2 => cases he
 rename_i a'
 split at he
 case h_2 => cases he
 rename_i es bs clk hkb
 split at he
 case isFalse => cases he
 rename_i hkv
 simp only [Bool.and_eq_true] at hkv
 simp only [Option.bind_eq_some_iff, Option.some.injEq] at he
 obtain ⟨r, hr, rfl⟩ := he
 cases hm with
 | mapp _ _ b hb =>
  obtain ⟨b', q1, q2, q3⟩ := hh.at' a' _ hkb
  rw [hb] at q1; cases q1
  obtain ⟨arr, g1, g2, gb, g3⟩ := q3
  have hrun : ∀ (q : Option (Nat × Value)) (arr' : Array MapEntry) (clk' : Nat), (Instr.findKey kt y arr.toList).run C.T.P w = .ok q w →
      (match q with
       | some (i, _) => Instr.sameBits 10000 (((arr[i]?).map (·.key)).getD y) y = true ∧ arr' = arr.modify i (fun e => { e with key := y, val := z }) ∧ clk' = clk
       | none => arr' = arr.push { key := y, val := z, born := clk } ∧ clk' = clk + 1) →
      (Instr.mapUpdate t (.map (some b)) y z).run C.T.P w = .ok () { w with heap := w.heap.setIfInBounds b (.map arr' clk') } := fun q arr' clk' hq hm => by
   unfold Instr.mapUpdate
   rw [Sem.run_bind, run_underlying hu w, Result.andThen_ok]
   simp only
   rw [Sem.run_bind, run_getM g1, Result.andThen_ok]
   simp only
   rw [Sem.run_bind, checkKey_rel hc hk hkv.1, Result.andThen_ok, Sem.run_bind, hq, Result.andThen_ok]
   cases q with
   | none =>
    obtain ⟨rfl, rfl⟩ := hm
    exact run_setM _ g1
   | some q =>
    obtain ⟨i, v0⟩ := q
    obtain ⟨m1, rfl, rfl⟩ := hm
    simp only
    have hks : (Instr.keyThatStays (((arr[i]?).map (·.key)).getD y) y).run C.T.P w = .ok y w := by
     unfold Instr.keyThatStays
     rw [if_pos m1]; rfl
    rw [Sem.run_bind, hks, Result.andThen_ok]
    exact run_setM _ g1
  have hrel : ∀ (S : Nat → Prop) (w' : World), (∀ c, Imm A w β h c → S c) → (∀ c, Imm A w β h c → w'.heap[c]? = w.heap[c]?) → (∀ b m, Room w b m → Room w' b m) → ∀ {u : V} {yy : Value}, Rel C.N w (Imm A w β h) β u yy → Rel C.N w' S β u yy :=
   fun S w' h1 h2 h3 {u yy} h4 => h4.mono h1 h2 h3 (fun _ _ h => h)
  rcases findKey_rel hc hk es arr.toList r (by simpa using g2) (fun j p e h1 h2 => (g3 j p e h1 (by simpa using h2)).1) hr with ⟨h1, h2⟩ | ⟨j, p, e, h1, h2, h3, h4, h5⟩
  ·subst h1
   refine ⟨undef, _, .inr ⟨by rw [Sem.run_bind, hrun none _ _ h2 ⟨rfl, rfl⟩]; rfl, rfl⟩, map_upd hh hkb hb g1 rfl rfl (fun _ _ _ _ _ => tup_none) (by simp [g2]) (by simp [← gb]) (fun S w' s1 s2 s3 i p e hp he => ?_)⟩
   rw [List.getElem?_append] at hp
   rw [Array.getElem?_push] at he
   by_cases hi : i = arr.size
   ·rw [if_pos hi] at he
    rw [if_neg (by omega)] at hp
    cases he
    rw [hi, g2, Nat.sub_self] at hp
    simp at hp
    subst hp
    exact ⟨hrel S w' s1 s2 s3 hk, hrel S w' s1 s2 s3 hv⟩
   ·rw [if_neg hi] at he
    have hlt := (Array.getElem?_eq_some_iff.1 he).1
    rw [if_pos (by omega)] at hp
    exact ⟨hrel S w' s1 s2 s3 (g3 i p e hp he).1, hrel S w' s1 s2 s3 (g3 i p e hp he).2⟩
  ·subst h1
   have h3' : arr[j]? = some e := by simpa using h3
   refine ⟨undef, _, .inr ⟨by rw [Sem.run_bind, hrun _ _ _ h4 ⟨by rw [h3']; exact h5, rfl, rfl⟩]; rfl, rfl⟩, map_upd hh hkb hb g1 rfl rfl (fun _ _ _ _ _ => tup_none) (by simp [g2]) ((born_modify (l := arr) (f := fun e => { e with key := y, val := z }) (fun _ => rfl) j).trans gb) (fun S w' s1 s2 s3 i p' e' hp he => ?_)⟩
   rw [List.getElem?_set] at hp
   rw [Array.getElem?_modify] at he
   by_cases hij : j = i
   ·subst hij
    rw [if_pos rfl] at hp he
    rw [if_pos (List.getElem?_eq_some_iff.1 h2).1] at hp
    rw [h3'] at he
    simp at hp he
    subst hp; subst he
    exact ⟨hrel S w' s1 s2 s3 hk, hrel S w' s1 s2 s3 hv⟩
   ·rw [if_neg hij] at hp he
    exact ⟨hrel S w' s1 s2 s3 (g3 i p' e' hp he).1, hrel S w' s1 s2 s3 (g3 i p' e' hp he).2⟩
theorem mdel_runs (hh : HeapR A C.N w β h) {t u kt et ty : TypeId} (hu : C.T.P.underlying t = some (.map kt et)) {c : Nat} (hc : C.T.keyC kt = some c) {m k : V} {x y : Value} (hm : Rel C.N w (Imm A w β h) β m x) (hk : Rel C.N w (Imm A w β h) β k y) {e : Eff}
    (he : mdelV h c m k = some e) : Runs A C w β h n e (do pure (.value (← Builtin.delete_ #[t, u] ty #[x, y]))) := by
 unfold mdelV at he
 split at he
 case h_2 => cases he
 rename_i a'
 split at he
 case h_2 => cases he
 rename_i es bs clk hkb
 split at he
 case isFalse => cases he
 rename_i hkv
 simp only [Option.bind_eq_some_iff, Option.some.injEq] at he
 obtain ⟨r, hr, rfl⟩ := he
 cases hm with
 | mapp _ _ b hb =>
  obtain ⟨b', q1, q2, q3⟩ := hh.at' a' _ hkb
  rw [hb] at q1; cases q1
  obtain ⟨arr, g1, g2, gb, g3⟩ := q3
  have hrun : ∀ (q : Option (Nat × Value)) (arr' : Array MapEntry), (Instr.findKey kt y arr.toList).run C.T.P w = .ok q w →
      (match q with
       | some (i, _) => arr' = arr.eraseIdxIfInBounds i
       | none => arr' = arr) →
      (Builtin.delete_ #[t, u] ty #[.map (some b), y]).run C.T.P w = .ok (.tuple #[]) { w with heap := w.heap.setIfInBounds b (.map arr' clk) } := fun q arr' hq hm => by
   unfold Builtin.delete_
   simp only [List.getElem?_toArray, List.getElem?_cons_zero, List.getElem?_cons_succ]
   rw [Sem.run_bind, run_underlying hu w, Result.andThen_ok]
   simp only
   have hck := checkKey_rel (C := C) hc hk hkv arr.isEmpty
   have hset : ∀ arr'' : Array MapEntry, (setObj b (.map arr'' clk)).run C.T.P w = .ok () { w with heap := w.heap.setIfInBounds b (.map arr'' clk) } := fun arr'' => run_setM _ g1
   cases q with
   | none =>
    subst hm
    simp only [Sem.run_bind, run_getM g1, Result.andThen_ok, hck, hq, hset]
    rfl
   | some q =>
    obtain ⟨i, v0⟩ := q
    subst hm
    simp only [Sem.run_bind, run_getM g1, Result.andThen_ok, hck, hq, hset]
    rfl
  have hrel : ∀ (S : Nat → Prop) (w' : World), (∀ c, Imm A w β h c → S c) → (∀ c, Imm A w β h c → w'.heap[c]? = w.heap[c]?) → (∀ b m, Room w b m → Room w' b m) → ∀ {u : V} {yy : Value}, Rel C.N w (Imm A w β h) β u yy → Rel C.N w' S β u yy :=
   fun S w' h1 h2 h3 {u yy} h4 => h4.mono h1 h2 h3 (fun _ _ h => h)
  rcases findKey_rel hc hk es arr.toList r (by simpa using g2) (fun j p e h1 h2 => (g3 j p e h1 (by simpa using h2)).1) hr with ⟨h1, h2⟩ | ⟨j, p, e, h1, h2, h3, h4, h5⟩
  ·subst h1
   exact ⟨undef, _, .inl (by rw [Sem.run_bind, hrun none _ h2 rfl]; rfl), map_upd hh hkb hb g1 rfl rfl (fun _ _ _ _ _ => tup_none) g2 gb (fun S w' s1 s2 s3 i p e hp he => ⟨hrel S w' s1 s2 s3 (g3 i p e hp he).1, hrel S w' s1 s2 s3 (g3 i p e hp he).2⟩)⟩
  ·subst h1
   have hj : j < arr.size := by have := (List.getElem?_eq_some_iff.1 h3).1; simpa using this
   have e1 : (arr.eraseIdxIfInBounds j).toList = arr.toList.eraseIdx j := by simp
   refine ⟨undef, _, .inl (by rw [Sem.run_bind, hrun _ _ h4 rfl]; rfl), map_upd hh hkb hb g1 rfl rfl (fun _ _ _ _ _ => tup_none) ?_ (by rw [e1, Go.ChangeMaps.map_eraseIdx, gb]) (fun S w' s1 s2 s3 i p' e' hp he => ?_)⟩
   ·rw [← Array.length_toList, e1, List.length_eraseIdx, List.length_eraseIdx, Array.length_toList, g2]
   ·rw [← Array.getElem?_toList, e1, List.getElem?_eraseIdx] at he
    rw [List.getElem?_eraseIdx] at hp
    by_cases hij : i < j
    ·rw [if_pos hij] at hp he
     exact ⟨hrel S w' s1 s2 s3 (g3 i p' e' hp (by simpa using he)).1, hrel S w' s1 s2 s3 (g3 i p' e' hp (by simpa using he)).2⟩
    ·rw [if_neg hij] at hp he
     exact ⟨hrel S w' s1 s2 s3 (g3 _ p' e' hp (by simpa using he)).1, hrel S w' s1 s2 s3 (g3 _ p' e' hp (by simpa using he)).2⟩
theorem mlen_runs (hh : HeapR A C.N w β h) {t kt et ty : TypeId} (hu : C.T.P.underlying t = some (.map kt et)) {m : V} {x : Value} (hm : Rel C.N w (Imm A w β h) β m x) {es : List (V × V)} {nd : List Nat} (he : mapOf h m = some (es, nd)) :
    Runs A C w β h n { v := .int .i64 es.length, need := nd } (do pure (.value (← Builtin.len_ #[t] ty #[x]))) := by
 rcases mapOf_rel hh hm he with ⟨rfl, rfl⟩ | ⟨b, arr, clk, rfl, g1, g2, _⟩
 ·exact runs_same hh rfl rfl (x := goInt 0) (by simp [Builtin.len_, run_underlying hu]) (.int _ _ _)
 ·refine runs_same hh rfl rfl (x := goInt arr.size) ?_ (by rw [g2]; exact .int _ _ _)
  unfold Builtin.len_
  simp only [List.getElem?_toArray, List.getElem?_cons_zero]
  rw [Sem.run_bind, run_underlying hu w, Result.andThen_ok]
  simp only
  rw [Sem.run_bind, run_getM g1]
  rfl
theorem mrange_runs (hh : HeapR A C.N w β h) (hn : β n = none) (hhn : h n = none) {t kt et : TypeId} (hu : C.T.P.underlying t = some (.map kt et)) {m : V} {x : Value} (hm : Rel C.N w (Imm A w β h) β m x) {e : Eff} (he : mrangeV n h m = some e) : Runs A C w β h n e (do pure (.value (← Instr.range t x))) := by
 unfold mrangeV at he
 split at he
 ·simp only [Option.some.injEq] at he
  subst he
  cases hm
  refine ⟨.pointer (some ⟨w.heap.size, 0, none⟩), w.alloc (.mapIter none 0 #[] 0), .inl ?_, effOk_new (k := .iter none 0 [] 0) (o := .mapIter none 0 #[] 0) hh hn hhn rfl rfl rfl rfl rfl rfl (fun β' S hβ hb hS => ⟨none, ?_, rfl⟩) (fun β' S hβ hb hS => .ptr _ n 0 0 0 _ hb)⟩
  ·simp [Instr.range, Sem.run_bind, run_underlying hu]
  ·show (w.heap.push _)[w.heap.size]? = _; simp
 ·rename_i a'
  split at he
  ·rename_i es bs clk hk
   simp only [Option.some.injEq] at he
   subst he
   cases hm with
   | mapp _ _ b hb =>
    obtain ⟨b', q1, q2, q3⟩ := hh.at' a' _ hk
    rw [hb] at q1; cases q1
    obtain ⟨arr, g1, g2, gb, g3⟩ := q3
    refine ⟨.pointer (some ⟨w.heap.size, 0, none⟩), w.alloc (.mapIter (some b) clk #[] clk), .inl ?_, effOk_new (k := .iter (some a') clk [] clk) (o := .mapIter (some b) clk #[] clk) hh hn hhn rfl rfl rfl rfl rfl rfl (fun β' S hβ hb' hS => ⟨some b, ?_, b, hβ _ _ hb, rfl⟩) (fun β' S hβ hb hS => .ptr _ n 0 0 0 _ hb)⟩
    ·simp [Instr.range, Sem.run_bind, run_underlying hu, run_getM g1]
    ·show (w.heap.push _)[w.heap.size]? = _; simp
  ·cases he
 ·cases he
theorem srange_runs (hh : HeapR A C.N w β h) (hn : β n = none) (hhn : h n = none) {t : TypeId} (hu : C.T.P.underlying t = some .string) {m : V} {x : Value} (hm : Rel C.N w (Imm A w β h) β m x) {e : Eff} (he : srangeV n m = some e) : Runs A C w β h n e (do pure (.value (← Instr.range t x))) := by
 unfold srangeV at he
 split at he
 ·simp only [Option.some.injEq] at he
  subst he
  cases hm with
  | str _ s =>
   refine ⟨.pointer (some ⟨w.heap.size, 0, none⟩), w.alloc (.stringIter s 0), .inl ?_, effOk_new (k := .siter s.data.toList 0) (o := .stringIter s 0) hh hn hhn rfl rfl rfl rfl rfl rfl (fun β' S hβ hb hS => ⟨s, ?_, rfl⟩) (fun β' S hβ hb hS => .ptr _ n 0 0 0 _ hb)⟩
   ·simp [Instr.range, Sem.run_bind, run_underlying hu]
   ·show (w.heap.push _)[w.heap.size]? = _; simp
 ·cases he
theorem memN_contains (b : Nat) : ∀ (l : List Nat), memN b l = l.contains b
 | [] => rfl
 | x :: r => by
  unfold memN
  rw [List.contains_cons, memN_contains b r]
  cases hx : Nat.beq x b with
  | true =>
   have := Nat.eq_of_beq_eq_true hx
   subst this; simp
  | false =>
   have : ¬ b = x := fun e => by subst e; rw [Nat.beq_refl] at hx; cases hx
   simp [this]
theorem allLt_spec {b : Nat} : ∀ {l : List Nat}, allLt b l = true → ∀ x ∈ l, x < b
 | [], _, x, hx => by simp at hx
 | y :: r, h, x, hx => by
  unfold allLt at h
  rw [Bool.and_eq_true] at h
  rcases List.mem_cons.1 hx with rfl | h1
  ·have := h.1; rw [Nat.blt_eq] at this; exact this
  ·exact allLt_spec h.2 x h1
theorem candsN_mem {R : V × V → MapEntry → Prop} {seen : List Nat} : ∀ (l : List MapEntry) (es : List (V × V)), l.length = es.length → (∀ (i : Nat) (p : V × V) (e : MapEntry), es[i]? = some p → l[i]? = some e → R p e) →
    (∀ e ∈ l, memN e.born seen = false → ∃ p, (e.born, p) ∈ candsN seen (l.map (·.born)) es ∧ R p e) ∧ ∀ c ∈ candsN seen (l.map (·.born)) es, ∃ e ∈ l, memN e.born seen = false
 | [], es, hl, hr => by
  refine ⟨fun e he => by simp at he, fun c hc => ?_⟩
  simp [candsN] at hc
 | e :: l, es, hl, hr => by
  cases es with
  | nil => simp at hl
  | cons p es =>
   obtain ⟨i1, i2⟩ := candsN_mem (R := R) (seen := seen) l es (by simpa using hl) (fun i p e h1 h2 => hr (i + 1) p e (by simpa using h1) (by simpa using h2))
   rw [List.map_cons]
   unfold candsN
   cases hm : memN e.born seen with
   | true =>
    refine ⟨fun x hx hxs => ?_, fun c hc => ?_⟩
    ·rcases List.mem_cons.1 hx with rfl | h
     ·rw [hm] at hxs; cases hxs
     ·exact i1 x h hxs
    ·obtain ⟨x, h1, h2⟩ := i2 c hc
     exact ⟨x, List.mem_cons_of_mem _ h1, h2⟩
   | false =>
    refine ⟨fun x hx hxs => ?_, fun c hc => ?_⟩
    ·rcases List.mem_cons.1 hx with rfl | h
     ·exact ⟨p, by simp, hr 0 p _ rfl rfl⟩
     ·obtain ⟨q, h1, h2⟩ := i1 x h hxs
      exact ⟨q, List.mem_cons_of_mem _ h1, h2⟩
    ·exact ⟨e, by simp, hm⟩
theorem findN_born (b : Nat) : ∀ (l : List MapEntry) (i j : Nat), findN b (l.map (·.born)) i = some j → ∃ k e, j = i + k ∧ l[k]? = some e ∧ e.born = b ∧ l.find? (fun x => x.born == b) = some e ∧ l.findIdx? (fun x => x.born == b) = some k
 | [], i, j, h => by simp [findN] at h
 | e :: l, i, j, h => by
  rw [List.map_cons] at h
  unfold findN at h
  cases hb : Nat.beq e.born b with
  | true =>
   rw [hb] at h
   simp only [cond_true, Option.some.injEq] at h
   have := Nat.eq_of_beq_eq_true hb
   exact ⟨0, e, by omega, rfl, this, by simp [this], by simp [List.findIdx?_cons, this]⟩
  | false =>
   rw [hb] at h
   simp only [cond_false] at h
   obtain ⟨k, e', h1, h2, h3, h4, h5⟩ := findN_born b l (i + 1) j h
   have hne : (e.born == b) = false := by
    simp only [beq_eq_false_iff_ne, ne_eq]
    intro h; subst h; rw [Nat.beq_refl] at hb; cases hb
   exact ⟨k + 1, e', by omega, by simpa using h2, h3, by simp [hne, h4], by simp [List.findIdx?_cons, hne, h5]⟩
theorem rel_cell {N : Nums} {S : Nat → Prop} {r : Nat} {x : Value} (h : Rel N w S β (.ptr r 0 0 0) x) : ∃ b, β r = some b ∧ x = .pointer (some ⟨b, 0, none⟩) := by
 cases h with
 | ptr _ _ _ _ _ b hb => exact ⟨b, hb, rfl⟩
theorem tup1 {N : Nums} {S : Nat → Prop} {v : V} {x : Value} (h : Rel N w S β v x) : Rel N w S β (.tup [v]) (.tuple #[x]) := .tup _ _ _ rfl (fun i c y hc hy => by
 match i, hc, hy with
 | 0, hc, hy => simp at hc hy; rw [← hc, ← hy]; exact h
 | i + 1, hc, hy => simp at hc)
theorem tup2 {N : Nums} {S : Nat → Prop} {v u : V} {x y : Value} (h : Rel N w S β v x) (h2 : Rel N w S β u y) : Rel N w S β (.tup [v, u]) (.tuple #[x, y]) := .tup _ _ _ rfl (fun i c y hc hy => by
 match i, hc, hy with
 | 0, hc, hy => simp at hc hy; rw [← hc, ← hy]; exact h
 | 1, hc, hy => simp at hc hy; rw [← hc, ← hy]; exact h2
 | i + 2, hc, hy => simp at hc)
theorem tup3 {N : Nums} {S : Nat → Prop} {v u t : V} {x y z : Value} (h : Rel N w S β v x) (h2 : Rel N w S β u y) (h3 : Rel N w S β t z) : Rel N w S β (.tup [v, u, t]) (.tuple #[x, y, z]) := .tup _ _ _ rfl (fun i c y hc hy => by
 match i, hc, hy with
 | 0, hc, hy => simp at hc hy; rw [← hc, ← hy]; exact h
 | 1, hc, hy => simp at hc hy; rw [← hc, ← hy]; exact h2
 | 2, hc, hy => simp at hc hy; rw [← hc, ← hy]; exact h3
 | i + 3, hc, hy => simp at hc)
theorem iter_upd (hh : HeapR A C.N w β h) {r b : Nat} {k k' : Blk} (hk : h r = some k) (hb : β r = some b) {o o' : Obj} (hw : w.heap[b]? = some o) (ho : ∀ cells T fz, o ≠ .cells cells T fz) {e : Eff} (h1 : e.upd = [(r, some k')]) (h2 : e.new = []) {x : Value} {w1 : World} (hw1 : w1 = w ∨ w1 = w.drew)
    (hx : ∀ (S : Nat → Prop) (w' : World), (∀ c, Imm A w β h c → S c) → (∀ c, Imm A w β h c → w'.heap[c]? = w.heap[c]?) → (∀ b m, Room w b m → Room w' b m) → Rel C.N w' S β e.v x)
    (hk' : ∀ (S : Nat → Prop) (w' : World), w'.heap[b]? = some o' → BlkR C.N w' S β k' b) : EffOk A C.N w β h n e x (Go.ChangeMaps.setBlock w1 b o') := by
 have e1 : (Go.ChangeMaps.setBlock w1 b o').heap = w.heap.setIfInBounds b o' := by rcases hw1 with rfl | rfl <;> rfl
 have hlt := (Array.getElem?_eq_some_iff.1 hw).1
 have hother : ∀ c, c ≠ b → (Go.ChangeMaps.setBlock w1 b o').heap[c]? = w.heap[c]? := fun c hc => by rw [e1]; exact Array.getElem?_setIfInBounds_ne (fun e => hc e.symm)
 have hroom : ∀ b' m, Room w b' m → Room (Go.ChangeMaps.setBlock w1 b o') b' m := fun b' m ⟨cells, T, fz, r1, r2⟩ => by
  refine ⟨cells, T, fz, ?_, r2⟩
  rw [hother b' (fun e => by subst e; rw [hw] at r1; simp only [Option.some.injEq] at r1; exact ho _ _ _ r1)]; exact r1
 have himm : ∀ c, Imm A w β h c → (Go.ChangeMaps.setBlock w1 b o').heap[c]? = w.heap[c]? := fun c hc => hother c (fun e => by
  subst e
  obtain ⟨cells, T, fz, r1⟩ := hc.arr
  rw [hw] at r1; simp only [Option.some.injEq] at r1; exact ho _ _ _ r1)
 exact effOk_upd (b := b) hh hk hb h1 h2 hother hroom (by rw [e1]; simp) (by rcases hw1 with rfl | rfl <;> rfl) (by rcases hw1 with rfl | rfl <;> rfl) (by rcases hw1 with rfl | rfl <;> rfl) (fun S hS => hk' S _ (by rw [e1, Array.getElem?_setIfInBounds_self_of_lt hlt])) (fun S hS => hx S _ hS himm hroom)
theorem nextE_runs (hh : HeapR A C.N w β h) {x : V} {px : Value} (hx : Rel C.N w (Imm A w β h) β x px) {l : List Eff} (he : nextE h x = some l) {ty : TypeId} : ∃ e ∈ l, Runs A C w β h n e (do pure (.value (← Instr.next px false ty))) := by
 unfold nextE at he
 split at he
 case h_2 => cases he
 rename_i r
 obtain ⟨b, hb, rfl⟩ := rel_cell hx
 split at he
 ·rename_i since seen last hr
  simp only [Option.some.injEq] at he
  subst he
  obtain ⟨b', q1, q2, q, q3, q4⟩ := hh.at' r _ hr
  rw [hb] at q1; cases q1
  simp only at q4
  subst q4
  refine ⟨_, List.mem_singleton_self _, runs_same hh rfl rfl (x := .tuple #[.bool false]) ?_ (tup1 (.bool _ _))⟩
  simp [Instr.next, getObj, Sem.run_bind, Sem.run, q3]
 ·rename_i m since seen last hr
  split at he
  case h_2 => cases he
  rename_i es bs clk hm
  split at he
  case isFalse => cases he
  rename_i hcond
  obtain ⟨b', q1, q2, q, q3, c, q4, q5⟩ := hh.at' r _ hr
  rw [hb] at q1; cases q1
  subst q5
  obtain ⟨c', p1, p2, arr, p3, p4, p5, p6⟩ := hh.at' m _ hm
  rw [q4] at p1; cases p1
  have hold : ∀ x ∈ arr.toList, x.born < since := fun x hx => allLt_spec hcond.1 x.born (by rw [← p5]; exact List.mem_map.2 ⟨x, hx, rfl⟩)
  obtain ⟨c1, c2⟩ := candsN_mem (R := fun p e => Rel C.N w (Imm A w β h) β p.1 e.key ∧ Rel C.N w (Imm A w β h) β p.2 e.val) (seen := seen) arr.toList es (by simpa using p4) (fun i p e h1 h2 => p6 i p e h1 (by simpa using h2))
  rw [p5] at c1 c2
  have hleft : ∀ e, e ∈ (leftOf arr seen.toArray).toList ↔ e ∈ arr.toList ∧ memN e.born seen = false := fun e => by
   rw [memN_contains]
   simp [leftOf]
  rcases run_next_at (P := C.T.P) w ty b c since last seen.toArray arr clk q3 p3 hold (by have := hcond.2; rw [Nat.ble_eq] at this; exact this) with ⟨g1, g2⟩ | ⟨e, g1, w1, g2, g3⟩
  ·have hnil : candsN seen bs es = [] := by
     cases hc : candsN seen bs es with
     | nil => rfl
     | cons c' cs =>
      obtain ⟨e, e1, e2⟩ := c2 c' (by rw [hc]; simp)
      have := (hleft e).2 ⟨e1, e2⟩
      have h0 : (leftOf arr seen.toArray).toList = [] := by rw [← List.length_eq_zero_iff]; simpa using g1
      rw [h0] at this; simp at this
   rw [hnil] at he
   simp only [Option.some.injEq] at he
   subst he
   exact ⟨_, List.mem_singleton_self _, runs_same hh rfl rfl g2 (tup1 (.bool _ _))⟩
  ·obtain ⟨k1, k2⟩ := (hleft e).1 g1
   obtain ⟨p, k3, k4⟩ := c1 e k1 k2
   cases hc : candsN seen bs es with
   | nil => rw [hc] at k3; simp at k3
   | cons c' cs =>
    rw [hc] at he k3
    simp only [Option.some.injEq] at he
    subst he
    refine ⟨_, List.mem_map.2 ⟨_, k3, rfl⟩, .tuple #[.bool true, e.key, e.val], _, .inl (by rw [Sem.run_bind, g3]; rfl), iter_upd (k' := .iter (some m) since (seen ++ [e.born]) clk) hh hr hb q3 (fun _ _ _ h => by cases h) rfl rfl g2 (fun S w' s1 s2 s3 => tup3 (.bool _ _) (k4.1.mono s1 s2 s3 (fun _ _ h => h)) (k4.2.mono s1 s2 s3 (fun _ _ h => h))) (fun S w' hw' => ⟨some c, ?_, c, q4, rfl⟩)⟩
    rw [hw']; simp
 ·cases he
theorem mnext_runs (hh : HeapR A C.N w β h) {x : V} {px : Value} (hx : Rel C.N w (Imm A w β h) β x px) {e : Eff} (he : mnextV h x = some e) {ty : TypeId} : Runs A C w β h n e (do pure (.value (← Instr.next px false ty))) := by
 unfold mnextV at he
 split at he
 ·rename_i e' hl
  simp only [Option.some.injEq] at he
  subst he
  obtain ⟨e, h1, h2⟩ := nextE_runs (n := n) hh hx hl (ty := ty)
  simp only [List.mem_singleton] at h1
  subst h1
  exact h2
 ·cases he
theorem mentry_runs (hh : HeapR A C.N w β h) {x : V} {px : Value} (hx : Rel C.N w (Imm A w β h) β x px) {e : Eff} (he : mentryV h x = some e) : Runs A C w β h n e (do pure (.value (← Instr.entry px))) := by
 unfold mentryV at he
 split at he
 case h_2 => cases he
 rename_i r
 obtain ⟨b, hb, rfl⟩ := rel_cell hx
 split at he
 case h_2 => cases he
 rename_i m since seen last hr
 split at he
 case h_2 => cases he
 rename_i es bs clk hm
 split at he
 case isFalse => cases he
 rename_i hcl
 simp only [Option.bind_eq_some_iff, Option.some.injEq] at he
 obtain ⟨st, hst, i, hi, p, hp, rfl⟩ := he
 obtain ⟨b', q1, q2, q, q3, c, q4, q5⟩ := hh.at' r _ hr
 rw [hb] at q1; cases q1
 subst q5
 obtain ⟨c', p1, p2, arr, p3, p4, p5, p6⟩ := hh.at' m _ hm
 rw [q4] at p1; cases p1
 rw [← p5] at hi
 obtain ⟨k, e, e1, e2, e3, e4, e5⟩ := findN_born st arr.toList 0 i hi
 rw [Nat.zero_add] at e1
 subst e1
 obtain ⟨r1, r2⟩ := p6 i p e hp (by simpa using e2)
 have hback : seen.toArray.back? = some st := by rw [← hst]; simp
 have hfind : arr.find? (fun x => x.born == st) = some e := by rw [← Array.find?_toList]; exact e4
 refine runs_same hh rfl rfl (x := .tuple #[e.key, e.val]) ?_ (tup2 r1 r2)
 simp [Instr.entry, getObj, Sem.run_bind, Sem.run, q3, p3, hback, hfind, hcl]
theorem snext_runs (hh : HeapR A C.N w β h) {x : V} {px : Value} (hx : Rel C.N w (Imm A w β h) β x px) {e : Eff} (he : snextV h x = some e) {ty : TypeId} : Runs A C w β h n e (do pure (.value (← Instr.next px true ty))) := by
 unfold snextV at he
 split at he
 case h_2 => cases he
 rename_i r
 obtain ⟨b, hb, rfl⟩ := rel_cell hx
 split at he
 case h_2 => cases he
 rename_i s pos hr
 obtain ⟨b', q1, q2, t, q3, rfl⟩ := hh.at' r _ hr
 rw [hb] at q1; cases q1
 have hsz : t.data.toList.length = t.size := by rw [Array.length_toList]; rfl
 have ht : (⟨t.data.toList.toArray⟩ : ByteArray) = t := by rw [Array.toArray_toList]
 rw [hsz] at he
 split at he
 ·rename_i hlt
  simp only [Option.some.injEq] at he
  subst he
  refine ⟨.tuple #[.bool true, goInt pos, .int .i32 (Utf8.decode t pos).1], _, .inl ?_, iter_upd (k' := .siter t.data.toList (pos + (Utf8.decode ⟨t.data.toList.toArray⟩ pos).2)) (o' := .stringIter t (pos + (Utf8.decode t pos).2)) (w1 := w) hh hr hb q3 (fun _ _ _ h => by cases h) rfl rfl (.inl rfl) (fun S w' s1 s2 s3 => tup3 (.bool _ _) (.int _ _ _) (by rw [ht]; exact .int _ _ _)) (fun S w' hw' => ⟨t, by rw [hw', ht], rfl⟩)⟩
  simp [Instr.next, getObj, setObj, Sem.run_bind, Sem.run, q3, hlt, Go.ChangeMaps.setBlock]
 ·rename_i hlt
  simp only [Option.some.injEq] at he
  subst he
  refine runs_same hh rfl rfl (x := .tuple #[.bool false]) ?_ (tup1 (.bool _ _))
  simp [Instr.next, getObj, Sem.run_bind, Sem.run, q3, hlt]
theorem mapent_runs (hh : HeapR A C.N w β h) {t kt et : TypeId} (hu : C.T.P.underlying t = some (.map kt et)) {c : Nat} (hc : C.T.keyC kt = some c) {z : V} (hz : C.T.zeroW et = some z) {m k : V} {x y : Value} (hm : Rel C.N w (Imm A w β h) β m x) (hk : Rel C.N w (Imm A w β h) β k y) {e : Eff}
    (he : mapentV h c z m k = some e) : Runs A C w β h n e (do pure (.value (← Instr.mapEntry t x y))) := by
 unfold Tr.zeroW at hz
 simp only [Option.bind_eq_some_iff] at hz
 obtain ⟨zv, ⟨ti, hti, hzv⟩, hz⟩ := hz
 have hzr : ∀ {w' : World} {S : Nat → Prop}, Rel C.N w' S β z zv := V.of_rel zv z hz
 have hzrun := run_zero (T := C.T) hti hzv w
 unfold mapentV at he
 split at he
 case h_2 => cases he
 rename_i a'
 split at he
 case h_2 => cases he
 rename_i es bs clk hkb
 split at he
 case isFalse => cases he
 rename_i hkv
 simp only [Bool.and_eq_true] at hkv
 simp only [Option.bind_eq_some_iff] at he
 obtain ⟨r, hr, he⟩ := he
 cases hm with
 | mapp _ _ b hb =>
  obtain ⟨b', q1, q2, q3⟩ := hh.at' a' _ hkb
  rw [hb] at q1; cases q1
  obtain ⟨arr, g1, g2, gb, g3⟩ := q3
  have hck := checkKey_rel (C := C) hc hk hkv.1 false
  have hset : ∀ (arr'' : Array MapEntry) (c' : Nat), (setObj b (.map arr'' c')).run C.T.P w = .ok () { w with heap := w.heap.setIfInBounds b (.map arr'' c') } := fun arr'' c' => run_setM _ g1
  rcases findKey_rel hc hk es arr.toList r (by simpa using g2) (fun j p e h1 h2 => (g3 j p e h1 (by simpa using h2)).1) hr with ⟨h1, h2⟩ | ⟨j, p, e', h1, h2, h3, h4, h5⟩
  ·subst h1
   simp only [Option.some.injEq] at he
   subst he
   refine ⟨.tuple #[zv, goInt clk], _, .inl ?_, map_upd (arr' := arr.push { key := y, val := zv, born := clk }) (clk' := clk + 1) hh hkb hb g1 rfl rfl (fun S w' s1 s2 s3 => tup2 hzr (.int _ _ _)) (by simp [g2]) (by simp [← gb]) (fun S w' s1 s2 s3 i p e hp he => ?_)⟩
   ·unfold Instr.mapEntry
    simp only [Sem.run_bind, run_underlying hu, run_getM g1, Result.andThen_ok, hck, h2, hzrun, hset]
    rfl
   ·rw [List.getElem?_append] at hp
    rw [Array.getElem?_push] at he
    by_cases hi : i = arr.size
    ·rw [if_pos hi] at he
     rw [if_neg (by omega)] at hp
     cases he
     rw [hi, g2, Nat.sub_self] at hp
     simp at hp
     subst hp
     exact ⟨hk.mono s1 s2 s3 (fun _ _ h => h), hzr⟩
    ·rw [if_neg hi] at he
     have hlt := (Array.getElem?_eq_some_iff.1 he).1
     rw [if_pos (by omega)] at hp
     exact ⟨(g3 i p e hp he).1.mono s1 s2 s3 (fun _ _ h => h), (g3 i p e hp he).2.mono s1 s2 s3 (fun _ _ h => h)⟩
  ·subst h1
   simp only [Option.some.injEq] at he
   subst he
   have h3' : arr[j]? = some e' := by simpa using h3
   have hpk : pickV es z (some j) = p.2 := by simp [pickV, h2]
   have hbj : (bs[j]?).getD 0 = e'.born := by rw [← gb]; simp [h3']
   rw [hpk, hbj]
   have hks : (Instr.keyThatStays (((arr[j]?).map (·.key)).getD y) y).run C.T.P w = .ok y w := by
    unfold Instr.keyThatStays
    rw [h3']
    rw [if_pos (by simpa using h5)]; rfl
   refine ⟨.tuple #[e'.val, goInt e'.born], _, .inl ?_, map_upd (arr' := arr.modify j fun e => { e with key := y }) (clk' := clk) hh hkb hb g1 rfl rfl (fun S w' s1 s2 s3 => tup2 ((g3 j p e' h2 h3').2.mono s1 s2 s3 (fun _ _ h => h)) (.int _ _ _)) (by simp [g2]) ((born_modify (l := arr) (f := fun e => { e with key := y }) (fun _ => rfl) j).trans gb) (fun S w' s1 s2 s3 i p' e hp he => ?_)⟩
   ·unfold Instr.mapEntry
    simp only [Sem.run_bind, run_underlying hu, run_getM g1, Result.andThen_ok, hck, h4, hks, hset]
    rw [h3']; rfl
   ·rw [List.getElem?_set] at hp
    rw [Array.getElem?_modify] at he
    by_cases hij : j = i
    ·subst hij
     rw [if_pos rfl] at hp he
     rw [if_pos (List.getElem?_eq_some_iff.1 h2).1] at hp
     rw [h3'] at he
     simp at hp he
     subst hp; subst he
     exact ⟨hk.mono s1 s2 s3 (fun _ _ h => h), (g3 j p e' h2 h3').2.mono s1 s2 s3 (fun _ _ h => h)⟩
    ·rw [if_neg hij] at hp he
     exact ⟨(g3 i p' e hp he).1.mono s1 s2 s3 (fun _ _ h => h), (g3 i p' e hp he).2.mono s1 s2 s3 (fun _ _ h => h)⟩
theorem entstore_runs (hh : HeapR A C.N w β h) {t : TypeId} {m st v : V} {x y z : Value} (hm : Rel C.N w (Imm A w β h) β m x) (hst : Rel C.N w (Imm A w β h) β st y) (hv : Rel C.N w (Imm A w β h) β v z) {e : Eff}
    (he : entstoreV h m st v = some e) : Runs A C w β h n e (do Instr.entryStore t x y z; pure .skip) := by
 unfold entstoreV at he
 split at he
 case h_2 => cases he
 rename_i a' bi
 split at he
 case h_2 => cases he
 rename_i es bs clk hkb
 split at he
 case isFalse => cases he
 rename_i hc
 simp only [Option.bind_eq_some_iff, Option.some.injEq] at he
 obtain ⟨i, hi, p, hp, rfl⟩ := he
 cases hst
 cases hm with
 | mapp _ _ b hb =>
  obtain ⟨b', q1, q2, q3⟩ := hh.at' a' _ hkb
  rw [hb] at q1; cases q1
  obtain ⟨arr, g1, g2, gb, g3⟩ := q3
  rw [← gb] at hi
  obtain ⟨k, e, e1, e2, e3, e4, e5⟩ := findN_born bi.toNat arr.toList 0 i hi
  rw [Nat.zero_add] at e1
  subst e1
  have h3' : arr[i]? = some e := by simpa using e2
  have hfun : (fun x : MapEntry => (x.born : Int) == bi) = fun x => x.born == bi.toNat := by
   funext x
   have := hc.1
   rw [Bool.eq_iff_iff]
   simp only [beq_iff_eq]
   omega
  have hfi : arr.findIdx? (fun x => (x.born : Int) == bi) = some i := by
   rw [hfun, ← Array.toArray_toList (xs := arr), List.findIdx?_toArray]; exact e5
  refine ⟨undef, _, .inr ⟨?_, rfl⟩, map_upd (arr' := arr.modify i fun e => { e with val := z }) (clk' := clk) hh hkb hb g1 rfl rfl (fun _ _ _ _ _ => tup_none) (by simp [g2]) ((born_modify (l := arr) (f := fun e => { e with val := z }) (fun _ => rfl) i).trans gb) (fun S w' s1 s2 s3 i' p' e' hp' he' => ?_)⟩
  ·unfold Instr.entryStore
   simp only [Sem.run_bind, run_getM g1, Result.andThen_ok, asInt, asIntOf]
   simp only [Sem.run_pure, Result.andThen_ok, hfi, run_setM _ g1]
  ·rw [List.getElem?_set] at hp'
   rw [Array.getElem?_modify] at he'
   by_cases hij : i = i'
   ·subst hij
    rw [if_pos rfl] at hp' he'
    rw [if_pos (List.getElem?_eq_some_iff.1 hp).1] at hp'
    rw [h3'] at he'
    simp at hp' he'
    subst hp'; subst he'
    exact ⟨(g3 i p e hp h3').1.mono s1 s2 s3 (fun _ _ h => h), hv.mono s1 s2 s3 (fun _ _ h => h)⟩
   ·rw [if_neg hij] at hp' he'
    exact ⟨(g3 i' p' e' hp' he').1.mono s1 s2 s3 (fun _ _ h => h), (g3 i' p' e' hp' he').2.mono s1 s2 s3 (fun _ _ h => h)⟩
end
end Go.Proofs.YtigdhgbkgfagiaaGreat
