/- AL: what the operations yield, they yield in the model: maps. -/
import Derived.Test.YtnhfbabenifbkaaGreatDoorAlH
import Derived.MapKept
import Derived.Laws.StructEq
set_option linter.unusedVariables false
namespace Go.Proofs.YtnhfbabenifbkaaGreatDoor

section
variable {A : Nat → Prop} {C : Ctx} {w : World} {β : Nat → Option Nat} {h : Nat → Option Blk} {n : Nat} {ρ : AOpd → Option V} {a : Act}

theorem run_getM {P : Program} {w : World} {b : Nat} {l : Array MapEntry} {clk : Nat} (hb : w.heap[b]? = some (.map l clk)) : (getObj b).run P w = .ok (.map l clk) w := by simp [getObj, Sem.run, hb]
theorem run_setM {P : Program} {w : World} {b : Nat} {l : Array MapEntry} {clk : Nat} (o : Obj) (hb : w.heap[b]? = some (.map l clk)) : (setObj b o).run P w = .ok () { w with heap := w.heap.setIfInBounds b o } := by simp [setObj, Sem.run, hb]
def KDesc (c : Nat) (d : TypeDesc) : Prop := (c = 0 ∧ ∃ k, d = .int k) ∨ (c = 1 ∧ d = .string) ∨ (c = 2 ∧ d = .bool)
theorem keyC_spec {T : Tr} {t : TypeId} {c : Nat} (hc : T.keyC t = some c) : ∃ d, T.P.underlying t = some d ∧ KDesc c d := by
  unfold Tr.keyC at hc
  split at hc
  · rename_i k hu; simp only [Option.some.injEq] at hc; exact ⟨_, hu, .inl ⟨hc.symm, k, rfl⟩⟩
  · rename_i hu; simp only [Option.some.injEq] at hc; exact ⟨_, hu, .inr (.inl ⟨hc.symm, rfl⟩)⟩
  · rename_i hu; simp only [Option.some.injEq] at hc; exact ⟨_, hu, .inr (.inr ⟨hc.symm, rfl⟩)⟩
  · cases hc
theorem run_checkKey {P : Program} {t : TypeId} {c : Nat} {d : TypeDesc} (hu : P.underlying t = some d) (hd : KDesc c d) (b : Bool) (v : Value) (m : Nat) (w : World) : (Instr.checkKey b (m + 1) t v).run P w = .ok () w := by
  unfold Instr.checkKey
  rw [Sem.run_bind, run_underlying hu w]
  rcases hd with ⟨_, k, rfl⟩ | ⟨_, rfl⟩ | ⟨_, rfl⟩ <;> simp [Result.andThen_ok]
theorem bytes_eq (s t : ByteArray) : (s == t) = (s.data.toList == t.data.toList) := by rw [beq_toListBytes, toList_eq, toList_eq]
theorem same_rel {N : Nums} {S : Nat → Prop} {c : Nat} {d : TypeDesc} (hd : KDesc c d) {k k' : V} {y y' : Value} (hk : Rel N w S β k y) (hk' : Rel N w S β k' y') {b : Bool} (hs : sameK c k k' = some b) (m : Nat) :
    Instr.sameNow d y y' = some b ∧ (b = true → Instr.sameBits m y' y = true) := by
  unfold sameK at hs
  split at hs
  · rename_i j p k2 q
    split at hs
    · rename_i hj
      subst hj
      simp only [Option.some.injEq] at hs
      cases hk; cases hk'
      rcases hd with ⟨_, k, rfl⟩ | ⟨h0, _⟩ | ⟨h0, _⟩
      · refine ⟨by simp [Instr.sameNow, hs], fun hb => ?_⟩
        subst hb
        have : p = q := by simpa using hs
        subst this
        cases m <;> simp [Instr.sameBits]
      · cases h0
      · cases h0
    · cases hs
  · rename_i p q
    simp only [Option.some.injEq] at hs
    cases hk with
    | str _ s =>
      cases hk' with
      | str _ s' =>
        rcases hd with ⟨h0, _⟩ | ⟨_, rfl⟩ | ⟨h0, _⟩
        · cases h0
        · have e := bytes_eq s s'
          refine ⟨by simp only [Instr.sameNow, e, hs], fun hb => ?_⟩
          subst hb
          have e2 := eq_of_beq hs
          cases m <;> simp only [Instr.sameBits, bytes_eq, e2, BEq.rfl]
        · cases h0
  · rename_i p q
    simp only [Option.some.injEq] at hs
    cases hk; cases hk'
    rcases hd with ⟨h0, _⟩ | ⟨h0, _⟩ | ⟨_, rfl⟩
    · cases h0
    · cases h0
    · refine ⟨by simp [Instr.sameNow, hs], fun hb => ?_⟩
      subst hb
      have : p = q := by simpa using hs
      subst this
      cases m <;> simp [Instr.sameBits]
  · cases hs
theorem findNow_rel {N : Nums} {S : Nat → Prop} {c : Nat} {d : TypeDesc} (hd : KDesc c d) {k : V} {y : Value} (hk : Rel N w S β k y) : ∀ (es : List (V × V)) (l : List MapEntry) (i : Nat) (r : Option Nat), l.length = es.length →
    (∀ (j : Nat) (p : V × V) (e : MapEntry), es[j]? = some p → l[j]? = some e → Rel N w S β p.1 e.key) → findK c k es i = some r →
    (r = none ∧ Instr.findNow d y l i = some none) ∨ ∃ (j : Nat) (p : V × V) (e : MapEntry), r = some (i + j) ∧ es[j]? = some p ∧ l[j]? = some e ∧ Instr.findNow d y l i = some (some (i + j, e.val)) ∧ Instr.sameBits 10000 e.key y = true
  | [], l, i, r, hl, hr, hf => by
    simp [findK] at hf
    have : l = [] := by cases l <;> simp_all
    subst this
    exact .inl ⟨hf.symm, rfl⟩
  | p :: es, l, i, r, hl, hr, hf => by
    cases l with
    | nil => simp at hl
    | cons e l =>
      have hke := hr 0 p e rfl rfl
      unfold findK at hf
      unfold Instr.findNow
      split at hf
      · rename_i hs
        simp only [Option.some.injEq] at hf
        obtain ⟨h1, h2⟩ := same_rel hd hk hke hs 10000
        rw [h1]
        exact .inr ⟨0, p, e, by simp [hf], rfl, rfl, by simp, h2 rfl⟩
      · rename_i hs
        obtain ⟨h1, h2⟩ := same_rel hd hk hke hs 10000
        rw [h1]
        rcases findNow_rel hd hk es l (i + 1) r (by simpa using hl) (fun j p e h1 h2 => hr (j + 1) p e (by simpa using h1) (by simpa using h2)) hf with ⟨h3, h4⟩ | ⟨j, p', e', h3, h4, h5, h6, h7⟩
        · exact .inl ⟨h3, h4⟩
        · exact .inr ⟨j + 1, p', e', by rw [h3]; congr 1; omega, by simpa using h4, by simpa using h5, by rw [show i + (j + 1) = i + 1 + j by omega]; exact h6, h7⟩
      · cases hf
theorem run_findKey {P : Program} {kt : TypeId} {d : TypeDesc} (hu : P.underlying kt = some d) {y : Value} {l : List MapEntry} {q : Option (Nat × Value)} (hf : Instr.findNow d y l 0 = some q) (w : World) : (Instr.findKey kt y l).run P w = .ok q w := by
  unfold Instr.findKey
  rw [Sem.run_bind, run_underlying hu w, Result.andThen_ok, hf]
  rfl

/-- What lies behind a map's value. -/
theorem mapOf_rel {N : Nums} (hh : HeapR A N w β h) {m : V} {x : Value} (hm : Rel N w (Imm A w β h) β m x) {es : List (V × V)} {nd : List Nat} (he : mapOf h m = some (es, nd)) :
    (es = [] ∧ x = .map none) ∨ ∃ (b : Nat) (arr : Array MapEntry) (clk : Nat), x = .map (some b) ∧ w.heap[b]? = some (.map arr clk) ∧ arr.size = es.length ∧
      ∀ (i : Nat) (p : V × V) (e : MapEntry), es[i]? = some p → arr[i]? = some e → Rel N w (Imm A w β h) β p.1 e.key ∧ Rel N w (Imm A w β h) β p.2 e.val := by
  cases hm with
  | nilm => simp [mapOf] at he; exact .inl ⟨he.1, rfl⟩
  | mapp _ a b hb =>
    simp only [mapOf] at he
    split at he
    · rename_i es' hk
      simp only [Option.some.injEq, Prod.mk.injEq] at he
      obtain ⟨rfl, _⟩ := he
      obtain ⟨b', h1, h2, h3⟩ := hh.at' a _ hk
      rw [hb] at h1; cases h1
      obtain ⟨arr, clk, g1, g2, g3⟩ := h3
      exact .inr ⟨b, arr, clk, rfl, g1, g2, g3⟩
    · cases he
  | _ => simp [mapOf] at he

theorem mkmap_runs (hh : HeapR A C.N w β h) (hn : β n = none) (hhn : h n = none) {t : TypeId} {kt et : TypeId} (hu : C.T.P.underlying t = some (.map kt et)) {r : Option Value} (hr : ∀ x, r = some x → ∃ k i, x = .int k i) :
    Runs A C w β h n { v := .mapp n, new := [.map []] } (do pure (.value (← Instr.makeMap t r))) := by
  have hrun : (Instr.makeMap t r).run C.T.P w = .ok (.map (some w.heap.size)) (w.alloc (.map #[] 0)) := by
    unfold Instr.makeMap
    cases r with
    | none => simp [Result.andThen_ok]
    | some x =>
      obtain ⟨k, i, rfl⟩ := hr x rfl
      simp [Sem.run_bind, Result.andThen_ok, run_underlying hu, asInt, asIntOf]
  refine ⟨.map (some w.heap.size), w.alloc (.map #[] 0), .inl (by rw [Sem.run_bind, hrun]; rfl), effOk_new (k := .map []) (o := .map #[] 0) hh hn hhn rfl rfl rfl rfl rfl rfl (fun β' S hβ hb hS => ?_) (fun β' S hβ hb hS => .mapp _ _ _ hb)⟩
  exact ⟨#[], 0, by show (w.heap.push _)[w.heap.size]? = _; simp, rfl, fun i p e hp => by simp at hp⟩

theorem mget_runs (hh : HeapR A C.N w β h) {t kt et : TypeId} (hu : C.T.P.underlying t = some (.map kt et)) {c : Nat} (hc : C.T.keyC kt = some c) {z : V} (hz : C.T.zeroW et = some z) {ok : Bool} {m k : V} {x y : Value} (hm : Rel C.N w (Imm A w β h) β m x) (hk : Rel C.N w (Imm A w β h) β k y) {e : Eff}
    (he : mgetV h c z ok m k = some e) : Runs A C w β h n e (do pure (.value (← Instr.lookup t x y ok))) := by
  obtain ⟨d, hd, hkd⟩ := keyC_spec hc
  unfold Tr.zeroW at hz
  simp only [Option.bind_eq_some_iff] at hz
  obtain ⟨zv, ⟨ti, hti, hzv⟩, hz⟩ := hz
  have hzr : Rel C.N w (Imm A w β h) β z zv := V.of_rel zv z hz
  have hzrun := run_zero (T := C.T) hti hzv w
  unfold mgetV at he
  split at he
  case isFalse => cases he
  simp only [Option.bind_eq_some_iff] at he
  obtain ⟨⟨es, nd⟩, hmo, r, hr, he⟩ := he
  simp only [Option.some.injEq] at he
  subst he
  have key : ∀ (l : Array MapEntry), l.size = es.length → (∀ (i : Nat) (p : V × V) (e : MapEntry), es[i]? = some p → l[i]? = some e → Rel C.N w (Imm A w β h) β p.1 e.key ∧ Rel C.N w (Imm A w β h) β p.2 e.val) →
      (x = .map none ∧ l = #[] ∨ ∃ b clk, x = .map (some b) ∧ w.heap[b]? = some (.map l clk)) →
      Runs A C w β h n { v := if ok then .tup [pickV es z r, .bool r.isSome] else pickV es z r, need := nd } (do pure (.value (← Instr.lookup t x y ok))) := by
    intro l hl hrel hrun
    have hfin : ∀ (v : Value) (b : Bool), True → Rel C.N w (Imm A w β h) β (pickV es z r) v → r.isSome = b → (Instr.lookup t x y ok).run C.T.P w = .ok (if ok then .tuple #[v, .bool b] else v) w →
        Runs A C w β h n { v := if ok then .tup [pickV es z r, .bool r.isSome] else pickV es z r, need := nd } (do pure (.value (← Instr.lookup t x y ok))) := fun v b _ hv hb hrun2 => by
      refine runs_same hh rfl rfl hrun2 ?_
      cases ok with
      | false => exact hv
      | true =>
        rw [hb]
        refine .tup _ _ _ rfl (fun i c' y' hc' hy' => ?_)
        match i, hc', hy' with
        | 0, hc', hy' => simp at hc' hy'; rw [← hc', ← hy']; exact hv
        | 1, hc', hy' => simp at hc' hy'; rw [← hc', ← hy']; exact .bool _ b
        | i + 2, hc', hy' => simp at hc'
    have hlk : ∀ q, Instr.findNow d y l.toList 0 = some q → (Instr.lookup t x y ok).run C.T.P w = .ok (if ok then .tuple #[(match q with | some (_, v) => v | none => zv), .bool q.isSome] else (match q with | some (_, v) => v | none => zv)) w := fun q hq => by
      have hck : ∀ b v w, (Instr.checkKey b 10000 kt v).run C.T.P w = .ok () w := fun b v w => run_checkKey hd hkd b v 9999 w
      have hfk := fun w => run_findKey (P := C.T.P) hd hq w
      unfold Instr.lookup
      rcases hrun with ⟨rfl, rfl⟩ | ⟨b, clk, rfl, hb⟩
      · have hfk' : ∀ w, (Instr.findKey kt y ([] : List MapEntry)).run C.T.P w = .ok q w := hfk
        cases q with
        | none => cases ok <;> simp [Sem.run_bind, run_underlying hu, hck, hfk', hzrun]
        | some q => obtain ⟨i, v⟩ := q; cases ok <;> simp [Sem.run_bind, run_underlying hu, hck, hfk']
      · have hg := run_getM (P := C.T.P) hb
        cases q with
        | none => cases ok <;> simp [Sem.run_bind, run_underlying hu, hg, hck, hfk, hzrun]
        | some q => obtain ⟨i, v⟩ := q; cases ok <;> simp [Sem.run_bind, run_underlying hu, hg, hck, hfk]
    rcases findNow_rel hkd hk es l.toList 0 r (by simpa using hl) (fun j p e h1 h2 => (hrel j p e h1 (by simpa using h2)).1) hr with ⟨h1, h2⟩ | ⟨j, p, e, h1, h2, h3, h4, _⟩
    · subst h1
      exact hfin zv false trivial hzr rfl (hlk none h2)
    · subst h1
      have hv := (hrel j p e h2 (by simpa using h3)).2
      refine hfin e.val true trivial ?_ rfl (hlk _ h4)
      simp only [pickV, Nat.zero_add, h2, Option.map_some, Option.getD_some]
      exact hv
  rcases mapOf_rel hh hm hmo with ⟨rfl, rfl⟩ | ⟨b, arr, clk, rfl, g1, g2, g3⟩
  · exact key #[] rfl (fun i p e hp => by simp at hp) (.inl ⟨rfl, rfl⟩)
  · exact key arr g2 g3 (.inr ⟨b, clk, rfl, g1⟩)

/-- A map's block, written. -/
theorem map_upd (hh : HeapR A C.N w β h) {a' b : Nat} {es es' : List (V × V)} {arr arr' : Array MapEntry} {clk clk' : Nat} (hk : h a' = some (.map es)) (hb : β a' = some b) (hw : w.heap[b]? = some (.map arr clk)) {e : Eff} (h1 : e.upd = [(a', some (.map es'))]) (h2 : e.new = []) (h3 : e.v = .tup [])
    (hs : arr'.size = es'.length) (hr : ∀ (S : Nat → Prop) (w' : World), (∀ c, Imm A w β h c → S c) → (∀ c, Imm A w β h c → w'.heap[c]? = w.heap[c]?) → (∀ b m, Room w b m → Room w' b m) → ∀ (i : Nat) (p : V × V) (e : MapEntry), es'[i]? = some p → arr'[i]? = some e → Rel C.N w' S β p.1 e.key ∧ Rel C.N w' S β p.2 e.val) :
    EffOk A C.N w β h n e undef { w with heap := w.heap.setIfInBounds b (.map arr' clk') } := by
  have hlt := (Array.getElem?_eq_some_iff.1 hw).1
  have hother : ∀ c, c ≠ b → (w.heap.setIfInBounds b (.map arr' clk'))[c]? = w.heap[c]? := fun c hc => Array.getElem?_setIfInBounds_ne (fun e => hc e.symm)
  have hroom : ∀ b' m, Room w b' m → Room { w with heap := w.heap.setIfInBounds b (.map arr' clk') } b' m := fun b' m ⟨cells, T, fz, r1, r2⟩ => by
    refine ⟨cells, T, fz, ?_, r2⟩
    show (w.heap.setIfInBounds b (.map arr' clk'))[b']? = _
    rw [hother b' (fun e => by subst e; rw [hw] at r1; cases r1)]; exact r1
  refine effOk_upd (b := b) hh hk hb h1 h2 hother hroom (by simp) rfl rfl rfl (fun S hS => ?_) (fun S hS => by rw [h3]; exact .tup _ [] #[] rfl (fun i c y hc => by simp at hc))
  refine ⟨arr', clk', ?_, hs, hr S _ hS (fun c hc => hother c (fun e => ?_)) hroom⟩
  · show (w.heap.setIfInBounds b (.map arr' clk'))[b]? = _
    rw [Array.getElem?_setIfInBounds_self_of_lt hlt]
  · subst e
    obtain ⟨cells, T, fz, r1⟩ := hc.arr
    rw [hw] at r1; cases r1

theorem mset_runs (hh : HeapR A C.N w β h) {t kt et : TypeId} (hu : C.T.P.underlying t = some (.map kt et)) {c : Nat} (hc : C.T.keyC kt = some c) {m k v : V} {x y z : Value} (hm : Rel C.N w (Imm A w β h) β m x) (hk : Rel C.N w (Imm A w β h) β k y) (hv : Rel C.N w (Imm A w β h) β v z) {e : Eff}
    (he : msetV h c m k v = some e) : Runs A C w β h n e (do Instr.mapUpdate t x y z; pure .skip) := by
  obtain ⟨d, hd, hkd⟩ := keyC_spec hc
  unfold msetV at he
  split at he
  case h_2 => cases he
  rename_i a'
  split at he
  case h_2 => cases he
  rename_i es hkb
  split at he
  case isFalse => cases he
  simp only [Option.bind_eq_some_iff, Option.some.injEq] at he
  obtain ⟨r, hr, rfl⟩ := he
  cases hm with
  | mapp _ _ b hb =>
    obtain ⟨b', q1, q2, q3⟩ := hh.at' a' _ hkb
    rw [hb] at q1; cases q1
    obtain ⟨arr, clk, g1, g2, g3⟩ := q3
    have hrun : ∀ (q : Option (Nat × Value)) (arr' : Array MapEntry) (clk' : Nat), Instr.findNow d y arr.toList 0 = some q →
        (match q with
          | some (i, _) => Instr.sameBits 10000 (((arr[i]?).map (·.key)).getD y) y = true ∧ arr' = arr.modify i (fun e => { e with key := y, val := z }) ∧ clk' = clk
          | none => arr' = arr.push { key := y, val := z, born := clk } ∧ clk' = clk + 1) →
        (Instr.mapUpdate t (.map (some b)) y z).run C.T.P w = .ok () { w with heap := w.heap.setIfInBounds b (.map arr' clk') } := fun q arr' clk' hq hm => by
      unfold Instr.mapUpdate
      rw [Sem.run_bind, run_underlying hu w, Result.andThen_ok]
      simp only
      rw [Sem.run_bind, run_getM g1, Result.andThen_ok]
      simp only
      rw [Sem.run_bind, run_checkKey hd hkd, Result.andThen_ok, Sem.run_bind, run_findKey hd hq, Result.andThen_ok]
      cases q with
      | none =>
        obtain ⟨rfl, rfl⟩ := hm
        exact run_setM _ g1
      | some q =>
        obtain ⟨i, v0⟩ := q
        obtain ⟨m1, rfl, rfl⟩ := hm
        simp only
        have hks : (Instr.keyThatStays (((arr[i]?).map (·.key)).getD y) y).run C.T.P w = .ok y w := by
          unfold Instr.keyThatStays
          rw [if_pos m1]; rfl
        rw [Sem.run_bind, hks, Result.andThen_ok]
        exact run_setM _ g1
    have hrel : ∀ (S : Nat → Prop) (w' : World), (∀ c, Imm A w β h c → S c) → (∀ c, Imm A w β h c → w'.heap[c]? = w.heap[c]?) → (∀ b m, Room w b m → Room w' b m) → ∀ {u : V} {yy : Value}, Rel C.N w (Imm A w β h) β u yy → Rel C.N w' S β u yy :=
      fun S w' h1 h2 h3 {u yy} h4 => h4.mono h1 h2 h3 (fun _ _ h => h)
    rcases findNow_rel hkd hk es arr.toList 0 r (by simpa using g2) (fun j p e h1 h2 => (g3 j p e h1 (by simpa using h2)).1) hr with ⟨h1, h2⟩ | ⟨j, p, e, h1, h2, h3, h4, h5⟩
    · subst h1
      refine ⟨undef, _, .inr ⟨by rw [Sem.run_bind, hrun none _ _ h2 ⟨rfl, rfl⟩]; rfl, rfl⟩, map_upd hh hkb hb g1 rfl rfl rfl (by simp [g2]) (fun S w' s1 s2 s3 i p e hp he => ?_)⟩
      rw [List.getElem?_append] at hp
      rw [Array.getElem?_push] at he
      by_cases hi : i = arr.size
      · rw [if_pos hi] at he
        rw [if_neg (by omega)] at hp
        cases he
        rw [hi, g2, Nat.sub_self] at hp
        simp at hp
        subst hp
        exact ⟨hrel S w' s1 s2 s3 hk, hrel S w' s1 s2 s3 hv⟩
      · rw [if_neg hi] at he
        have hlt := (Array.getElem?_eq_some_iff.1 he).1
        rw [if_pos (by omega)] at hp
        exact ⟨hrel S w' s1 s2 s3 (g3 i p e hp he).1, hrel S w' s1 s2 s3 (g3 i p e hp he).2⟩
    · subst h1
      rw [Nat.zero_add] at h4 ⊢
      have h3' : arr[j]? = some e := by simpa using h3
      refine ⟨undef, _, .inr ⟨by rw [Sem.run_bind, hrun _ _ _ h4 ⟨by rw [h3']; exact h5, rfl, rfl⟩]; rfl, rfl⟩, map_upd hh hkb hb g1 rfl rfl rfl (by simp [g2]) (fun S w' s1 s2 s3 i p' e' hp he => ?_)⟩
      simp only at hp
      rw [List.getElem?_set] at hp
      rw [Array.getElem?_modify] at he
      by_cases hij : j = i
      · subst hij
        rw [if_pos rfl] at hp he
        rw [if_pos (List.getElem?_eq_some_iff.1 h2).1] at hp
        rw [h3'] at he
        simp at hp he
        subst hp; subst he
        exact ⟨hrel S w' s1 s2 s3 hk, hrel S w' s1 s2 s3 hv⟩
      · rw [if_neg hij] at hp he
        exact ⟨hrel S w' s1 s2 s3 (g3 i p' e' hp he).1, hrel S w' s1 s2 s3 (g3 i p' e' hp he).2⟩

theorem mdel_runs (hh : HeapR A C.N w β h) {t u kt et ty : TypeId} (hu : C.T.P.underlying t = some (.map kt et)) {c : Nat} (hc : C.T.keyC kt = some c) {m k : V} {x y : Value} (hm : Rel C.N w (Imm A w β h) β m x) (hk : Rel C.N w (Imm A w β h) β k y) {e : Eff}
    (he : mdelV h c m k = some e) : Runs A C w β h n e (do pure (.value (← Builtin.delete_ #[t, u] ty #[x, y]))) := by
  obtain ⟨d, hd, hkd⟩ := keyC_spec hc
  unfold mdelV at he
  split at he
  case h_2 => cases he
  rename_i a'
  split at he
  case h_2 => cases he
  rename_i es hkb
  split at he
  case isFalse => cases he
  simp only [Option.bind_eq_some_iff, Option.some.injEq] at he
  obtain ⟨r, hr, rfl⟩ := he
  cases hm with
  | mapp _ _ b hb =>
    obtain ⟨b', q1, q2, q3⟩ := hh.at' a' _ hkb
    rw [hb] at q1; cases q1
    obtain ⟨arr, clk, g1, g2, g3⟩ := q3
    have hrun : ∀ (q : Option (Nat × Value)) (arr' : Array MapEntry), Instr.findNow d y arr.toList 0 = some q →
        (match q with
          | some (i, _) => arr' = arr.eraseIdxIfInBounds i
          | none => arr' = arr) →
        (Builtin.delete_ #[t, u] ty #[.map (some b), y]).run C.T.P w = .ok (.tuple #[]) { w with heap := w.heap.setIfInBounds b (.map arr' clk) } := fun q arr' hq hm => by
      unfold Builtin.delete_
      simp only [List.getElem?_toArray, List.getElem?_cons_zero, List.getElem?_cons_succ]
      rw [Sem.run_bind, run_underlying hu w, Result.andThen_ok]
      simp only
      have hck := run_checkKey hd hkd arr.isEmpty y 9999 w
      have hset : ∀ arr'' : Array MapEntry, (setObj b (.map arr'' clk)).run C.T.P w = .ok () { w with heap := w.heap.setIfInBounds b (.map arr'' clk) } := fun arr'' => run_setM _ g1
      cases q with
      | none =>
        subst hm
        simp only [Sem.run_bind, run_getM g1, Result.andThen_ok, hck, run_findKey hd hq, hset]
        rfl
      | some q =>
        obtain ⟨i, v0⟩ := q
        subst hm
        simp only [Sem.run_bind, run_getM g1, Result.andThen_ok, hck, run_findKey hd hq, hset]
        rfl
    have hrel : ∀ (S : Nat → Prop) (w' : World), (∀ c, Imm A w β h c → S c) → (∀ c, Imm A w β h c → w'.heap[c]? = w.heap[c]?) → (∀ b m, Room w b m → Room w' b m) → ∀ {u : V} {yy : Value}, Rel C.N w (Imm A w β h) β u yy → Rel C.N w' S β u yy :=
      fun S w' h1 h2 h3 {u yy} h4 => h4.mono h1 h2 h3 (fun _ _ h => h)
    rcases findNow_rel hkd hk es arr.toList 0 r (by simpa using g2) (fun j p e h1 h2 => (g3 j p e h1 (by simpa using h2)).1) hr with ⟨h1, h2⟩ | ⟨j, p, e, h1, h2, h3, h4, h5⟩
    · subst h1
      exact ⟨undef, _, .inl (by rw [Sem.run_bind, hrun none _ h2 rfl]; rfl), map_upd hh hkb hb g1 rfl rfl rfl g2 (fun S w' s1 s2 s3 i p e hp he => ⟨hrel S w' s1 s2 s3 (g3 i p e hp he).1, hrel S w' s1 s2 s3 (g3 i p e hp he).2⟩)⟩
    · subst h1
      rw [Nat.zero_add] at h4 ⊢
      have hj : j < arr.size := by have := (List.getElem?_eq_some_iff.1 h3).1; simpa using this
      have e1 : (arr.eraseIdxIfInBounds j).toList = arr.toList.eraseIdx j := by simp
      refine ⟨undef, _, .inl (by rw [Sem.run_bind, hrun _ _ h4 rfl]; rfl), map_upd hh hkb hb g1 rfl rfl rfl ?_ (fun S w' s1 s2 s3 i p' e' hp he => ?_)⟩
      · rw [← Array.length_toList, e1, List.length_eraseIdx, List.length_eraseIdx, Array.length_toList, g2]
      · rw [← Array.getElem?_toList, e1, List.getElem?_eraseIdx] at he
        simp only at hp
        rw [List.getElem?_eraseIdx] at hp
        by_cases hij : i < j
        · rw [if_pos hij] at hp he
          exact ⟨hrel S w' s1 s2 s3 (g3 i p' e' hp (by simpa using he)).1, hrel S w' s1 s2 s3 (g3 i p' e' hp (by simpa using he)).2⟩
        · rw [if_neg hij] at hp he
          exact ⟨hrel S w' s1 s2 s3 (g3 _ p' e' hp (by simpa using he)).1, hrel S w' s1 s2 s3 (g3 _ p' e' hp (by simpa using he)).2⟩

theorem mlen_runs (hh : HeapR A C.N w β h) {t kt et ty : TypeId} (hu : C.T.P.underlying t = some (.map kt et)) {m : V} {x : Value} (hm : Rel C.N w (Imm A w β h) β m x) {es : List (V × V)} {nd : List Nat} (he : mapOf h m = some (es, nd)) :
    Runs A C w β h n { v := .int .i64 es.length, need := nd } (do pure (.value (← Builtin.len_ #[t] ty #[x]))) := by
  rcases mapOf_rel hh hm he with ⟨rfl, rfl⟩ | ⟨b, arr, clk, rfl, g1, g2, _⟩
  · exact runs_same hh rfl rfl (x := goInt 0) (by simp [Builtin.len_, run_underlying hu]) (.int _ _ _)
  · refine runs_same hh rfl rfl (x := goInt arr.size) ?_ (by rw [g2]; exact .int _ _ _)
    unfold Builtin.len_
    simp only [List.getElem?_toArray, List.getElem?_cons_zero]
    rw [Sem.run_bind, run_underlying hu w, Result.andThen_ok]
    simp only
    rw [Sem.run_bind, run_getM g1]
    rfl
end
end Go.Proofs.YtnhfbabenifbkaaGreatDoor
