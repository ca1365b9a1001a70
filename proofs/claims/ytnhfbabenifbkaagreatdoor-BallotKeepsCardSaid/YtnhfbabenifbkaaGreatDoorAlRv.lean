/- AL: regions that draw their order, where the functions called are functions of values. -/
import Derived.Test.YtnhfbabenifbkaaGreatDoorAlRc
import Derived.Test.YtnhfbabenifbkaaGreatDoorAlY
set_option linter.unusedVariables false
namespace Go.Proofs.YtnhfbabenifbkaaGreatDoor
/-- From these values it yields that value, and makes these blocks. -/
def MFn (L : Lib) (k : Nat) (vs : List V) (r : V) (h' : Heap) : Prop := V.closeds vs = true ∧ AFn L (.fn k) vs [] (fun r' H' => r' = r ∧ H' = h')
/-- New places, above n. -/
def upσ (n i : Nat) : Sg := .to (n + i)
theorem outσ_nil (n : Nat) : outσ n [] = upσ n := by
  funext i
  unfold outσ upσ
  simp
/-- As stepP; the calls are of functions of values (those of mk make blocks). -/
def stepV (mk : List Nat) (L : Lib) (i : AI) (K : Env → Heap → Prop) (E : Env) (H : Heap) : Prop :=
  match i.goes E.get with
  | some false => K (E.put i.dst (.tup [])) H
  | some true =>
    match i.op with
    | .call (.fn k) args =>
      match mk.contains k with
      | false => ∃ vs r, evals (opval L.G E.get) args = some vs ∧ VFn L k vs r ∧ K (E.put i.dst r) H
      | true => ∃ vs r h', evals (opval L.G E.get) args = some vs ∧ MFn L k vs r h' ∧ K (E.put i.dst (r.ren (upσ H.length))) (H ++ h'.map (Option.map (Blk.ren (upσ H.length))))
    | .call _ _ => False
    | op => match op.exec H.length H.get (opval L.G E.get) with | some e => (e.upd.all fun p => Nat.blt p.1 H.length) = true ∧ K (E.put i.dst e.v) (H.app e) | none => False
  | none => False
def opsV (mk : List Nat) (L : Lib) : List AI → (Env → Heap → Prop) → Env → Heap → Prop
  | [], K, E, H => K E H
  | i :: l, K, E, H => stepV mk L i (opsV mk L l K) E H
/-- What an operation does to memory: 0 nothing; 1 it reads; 2 it makes blocks; 3 any. -/
def AOp.kind (mk : List Nat) : AOp → Nat
  | .mov _ | .pick _ _ _ | .bin _ _ _ | .un _ _ | .iaa _ _ _ _ | .idx _ _ _ _ _ | .min _ | .max _ | .fa _ _ | .ia _ _ _ | .len _ | .slen _ | .ext _ _ | .beq _ _ _ | .conv _ _ | .chr _ _ | .fld _ _ _ _ | .isnil _ _ _ | .slice _ _ _ _ _ | .substr _ _ _ | .build _ _ | .mkfn _ _ _ | .mkiface _ _ | .cap _ | .same _ | .nilchk _ | .acmp _ _ _ _ | .xfn _ _ _ => 0
  | .call (.fn k) _ => if mk.contains k then 2 else 0
  | .load _ _ _ | .mget _ _ _ _ _ | .mlen _ => 1
  | .alloc _ | .box _ | .mkslice _ _ _ _ _ | .bslice _ _ _ _ => 2
  | _ => 3
structure SK where
  dst : Option Nat
  looks : List Nat
  kind : Nat
def kindsOk (kr ks : Nat) : Bool := kr == 0 || ks == 0 || (kr == 1 && ks == 1) || (kr == 2 && (ks == 1 || ks == 2))
/-- s, then r. -/
def apartK (s r : SK) : Bool :=
  ((match s.dst with | some d => !r.looks.contains d && (match r.dst with | some d' => !(d == d') | none => true) | none => true) &&
  (match r.dst with | some d => !s.looks.contains d | none => true)) && kindsOk r.kind s.kind
def indK (m : Nat) (r : SK) : Nat → List SK → Bool
  | _, [] => true
  | i, s :: l => (m.testBit i || apartK s r) && indK m r (i + 1) l
def AI.sk (mk : List Nat) (i : AI) : SK := ⟨i.dst, i.looks, i.op.kind mk⟩
def safeV (mk : List Nat) : List AI → List SK → List Nat → Bool
  | [], _, _ => true
  | i :: l, ss, ms => indK (ancM ms i.anc) (i.sk mk) 0 ss && safeV mk l (ss ++ [i.sk mk]) (ms ++ [ancM ms i.anc])
/-- A record fits what was foreseen; memory holds n blocks behind it. -/
structure MatK (n : Nat) (r : Rec) (s : SK) : Prop where
  dst : r.dst = s.dst
  looks : r.looks = s.looks
  k0 : s.kind = 0 → r.need = [] ∧ r.eff = []
  k1 : s.kind = 1 → r.eff = [] ∧ ∀ a ∈ r.need, a < r.slot
  k2 : s.kind = 2 → r.need = [] ∧ ∀ p ∈ r.eff, r.slot ≤ p.1 ∧ p.1 < r.slot + r.k
  n : r.slot + r.k ≤ n
theorem MatK.mono {n m : Nat} {r : Rec} {s : SK} (h : MatK n r s) (hm : n ≤ m) : MatK m r s := ⟨h.dst, h.looks, h.k0, h.k1, h.k2, Nat.le_trans h.n hm⟩
def MatsK (n : Nat) : List Rec → List SK → Prop
  | [], [] => True
  | r :: rs, s :: ss => MatK n r s ∧ MatsK n rs ss
  | _, _ => False
theorem MatsK.mono {n m : Nat} (hm : n ≤ m) : ∀ {rs : List Rec} {ss : List SK}, MatsK n rs ss → MatsK m rs ss
  | [], [], h => trivial
  | r :: rs, s :: ss, ⟨h1, h2⟩ => ⟨h1.mono hm, h2.mono hm⟩
  | [], _ :: _, h => h.elim
  | _ :: _, [], h => h.elim
theorem MatsK.snoc {n : Nat} : ∀ {rs : List Rec} {ss : List SK} {r : Rec} {s : SK}, MatsK n rs ss → MatK n r s → MatsK n (rs ++ [r]) (ss ++ [s])
  | [], [], r, s, _, h => ⟨h, trivial⟩
  | r :: rs, s :: ss, _, _, ⟨h1, h2⟩, h => ⟨h1, h2.snoc h⟩
  | [], _ :: _, _, _, h, _ => h.elim
  | _ :: _, [], _, _, h, _ => h.elim
theorem apartK_ok {n m : Nat} {q r : Rec} {s t : SK} (hq : MatK n q s) (hr : MatK m r t) (hn : n ≤ r.slot) (h : apartK s t = true) : apartB q r = true := by
  unfold apartK at h
  simp only [Bool.and_eq_true] at h
  obtain ⟨⟨h1, h2⟩, h3⟩ := h
  have key : ((q.keys.all fun a => !r.need.contains a && !r.keys.contains a) && (r.keys.all fun a => !q.need.contains a)) = true := by
    have hqn := hq.n
    unfold kindsOk at h3
    simp only [Bool.or_eq_true, Bool.and_eq_true, beq_iff_eq] at h3
    rw [Bool.and_eq_true, List.all_eq_true, List.all_eq_true]
    unfold Rec.keys
    rcases h3 with ((h3 | h3) | ⟨h3, h4⟩) | ⟨h3, h4⟩
    · obtain ⟨e1, e2⟩ := hr.k0 h3
      rw [e1, e2]
      exact ⟨fun a _ => rfl, fun a ha => by simp at ha⟩
    · obtain ⟨e1, e2⟩ := hq.k0 h3
      rw [e1, e2]
      exact ⟨fun a ha => by simp at ha, fun a _ => rfl⟩
    · rw [(hr.k1 h3).1, (hq.k1 h4).1]
      exact ⟨fun a ha => by simp at ha, fun a ha => by simp at ha⟩
    · obtain ⟨e1, e2⟩ := hr.k2 h3
      rw [e1]
      rcases h4 with h4 | h4
      · obtain ⟨f1, f2⟩ := hq.k1 h4
        rw [f1]
        refine ⟨fun a ha => by simp at ha, fun a ha => ?_⟩
        obtain ⟨p, hp, rfl⟩ := List.mem_map.1 ha
        have := e2 p hp
        rw [Bool.not_eq_true', List.contains_eq_mem, decide_eq_false_iff_not]
        intro hc
        have := f2 _ hc
        omega
      · obtain ⟨f1, f2⟩ := hq.k2 h4
        rw [f1]
        refine ⟨fun a ha => ?_, fun a _ => rfl⟩
        obtain ⟨p, hp, rfl⟩ := List.mem_map.1 ha
        have h5 := f2 p hp
        rw [Bool.and_eq_true]
        refine ⟨rfl, ?_⟩
        rw [Bool.not_eq_true', List.contains_eq_mem, decide_eq_false_iff_not]
        intro hc
        obtain ⟨p', hp', e⟩ := List.mem_map.1 hc
        have := e2 p' hp'
        omega
  unfold apartB
  rw [hq.dst, hr.dst, hq.looks, hr.looks]
  rw [Bool.and_assoc, Bool.and_eq_true, Bool.and_eq_true]
  exact ⟨⟨h1, h2⟩, key⟩
theorem indK_ok {n m : Nat} {r : Rec} {s : SK} {a : Nat} (hr : MatK m r s) (hn : n ≤ r.slot) : ∀ {rs : List Rec} {ss : List SK} {i : Nat}, MatsK n rs ss → indK a s i ss = true → indB a r i rs = true
  | [], [], i, _, _ => rfl
  | q :: rs, t :: ss, i, ⟨h1, h2⟩, h => by
    unfold indK at h
    unfold indB
    rw [Bool.and_eq_true] at h ⊢
    refine ⟨?_, indK_ok hr hn h2 h.2⟩
    rw [Bool.or_eq_true] at h ⊢
    exact h.1.imp id (fun h => apartK_ok h1 hr hn h)
  | [], _ :: _, _, h, _ => h.elim
  | _ :: _, [], _, h, _ => h.elim
theorem get_lt {H : Heap} {a : Nat} {b : Blk} (h : H.get a = some b) : a < H.length := by
  unfold Heap.get at h
  by_cases hl : a < H.length
  · exact hl
  · rw [List.getElem?_eq_none (by omega)] at h; cases h
theorem shG_lt {H : Heap} {a size : Nat} {b : Blk} (h : shG size H.get a = some b) : a < H.length := by
  unfold shG at h
  obtain ⟨k, hk, _⟩ := Option.map_eq_some_iff.1 h
  exact get_lt hk
theorem mapOf_lt {H : Heap} {sz : Nat} {m : V} {es : List (V × V)} {nd : List Nat} (h : mapOf (shG sz H.get) m = some (es, nd)) : ∀ a ∈ nd, a < H.length := by
  unfold mapOf at h
  split at h
  · cases h; simp
  · split at h
    · rename_i hg
      cases h
      intro a ha
      rw [List.mem_singleton] at ha
      subst ha
      exact shG_lt hg
    · cases h
  · cases h
/-- What the operations read lies in memory; what they make is new. -/
theorem exec_kind {mk : List Nat} {o : AOp} {H : Heap} {ρ : AOpd → Option V} {e : Eff} (he : o.exec H.length H.get ρ = some e) : (o.kind mk = 0 → e.need = [] ∧ e.upd = [] ∧ e.new = []) ∧ (o.kind mk = 1 → (e.upd = [] ∧ e.new = []) ∧ ∀ a ∈ e.need, a < H.length) ∧ (o.kind mk = 2 → e.need = [] ∧ e.upd = []) := by
  have Z : ∀ {o : Option Eff}, (∀ e, o = some e → e.need = [] ∧ e.upd = [] ∧ e.new = []) → o = some e → e.need = [] ∧ e.upd = [] ∧ e.new = [] := fun h h2 => h e h2
  have B : ∀ {α : Type} {o : Option α} {f : α → Option Eff} {P : Eff → Prop}, (∀ x e, f x = some e → P e) → ∀ e, o.bind f = some e → P e := fun h e h2 => by
    obtain ⟨x, _, h3⟩ := Option.bind_eq_some_iff.1 h2
    exact h x e h3
  refine ⟨fun hk => ?_, fun hk => ?_, fun hk => ?_⟩
  · revert he
    refine Z ?_
    cases o <;> first | (exfalso; simp [AOp.kind] at hk; done) | skip
    all_goals first
      | (intro e he; cases he; done)
      | (unfold AOp.exec AOp.exec0
         repeat' (first | (intro e he; cases he; done) | (intro e he; cases he; exact ⟨rfl, rfl, rfl⟩) | refine B fun x => ?_ | split))
  · revert he
    cases o <;> first | (exfalso; simp [AOp.kind] at hk; done) | skip
    · rename_i k leaf p
      unfold AOp.exec AOp.exec0
      intro he
      obtain ⟨v, hv, he⟩ := Option.bind_eq_some_iff.1 he
      unfold loadV at he
      split at he
      · split at he
        · rename_i hg
          split at he
          · obtain ⟨row, _, he⟩ := Option.bind_eq_some_iff.1 he
            obtain ⟨w, _, he⟩ := Option.bind_eq_some_iff.1 he
            cases he
            exact ⟨⟨rfl, rfl⟩, fun a ha => by rw [List.mem_singleton] at ha; subst ha; exact shG_lt hg⟩
          · cases he
        · cases he
      · obtain ⟨row, _, he⟩ := Option.bind_eq_some_iff.1 he
        obtain ⟨w, _, he⟩ := Option.bind_eq_some_iff.1 he
        cases he
        exact ⟨⟨rfl, rfl⟩, fun a ha => by simp at ha⟩
      · cases he
    · rename_i kc z ok m k
      unfold AOp.exec AOp.exec0
      intro he
      obtain ⟨v, hv, he⟩ := Option.bind_eq_some_iff.1 he
      obtain ⟨w, hw, he⟩ := Option.bind_eq_some_iff.1 he
      unfold mgetV at he
      split at he
      · obtain ⟨⟨es, nd⟩, hm, he⟩ := Option.bind_eq_some_iff.1 he
        obtain ⟨r, _, he⟩ := Option.bind_eq_some_iff.1 he
        cases he
        exact ⟨⟨rfl, rfl⟩, mapOf_lt hm⟩
      · cases he
    · rename_i m
      unfold AOp.exec AOp.exec0
      intro he
      obtain ⟨v, hv, he⟩ := Option.bind_eq_some_iff.1 he
      obtain ⟨⟨es, nd⟩, hm, he⟩ := Option.bind_eq_some_iff.1 he
      cases he
      exact ⟨⟨rfl, rfl⟩, mapOf_lt hm⟩
    · intro he; cases he
  · revert he
    have Z2 : ∀ {o : Option Eff}, (∀ e, o = some e → e.need = [] ∧ e.upd = []) → o = some e → e.need = [] ∧ e.upd = [] := fun h h2 => h e h2
    refine Z2 ?_
    cases o <;> first | (exfalso; simp [AOp.kind] at hk; done) | skip
    all_goals first
      | (intro e he; cases he; done)
      | (unfold AOp.exec AOp.exec0
         repeat' (first | (intro e he; cases he; done) | (intro e he; cases he; exact ⟨rfl, rfl⟩) | refine B fun x => ?_ | split))
theorem effN_mem {σ : Nat → Sg} {p : Nat × Option Blk} : ∀ {l : List (Option Blk)} {n : Nat}, p ∈ effN σ l n → n ≤ p.1 ∧ p.1 < n + l.length
  | [], n, h => by simp [effN] at h
  | b :: l, n, h => by
    rw [effN, List.mem_cons] at h
    rcases h with rfl | h
    · exact ⟨Nat.le_refl _, by show n < n + (l.length + 1); omega⟩
    · have := effN_mem h
      rw [List.length_cons]
      omega
theorem dstepV {mk : List Nat} {L : Lib} {i : AI} {K : Env → Heap → Prop} {K' : Rec → Env → Heap → Prop} {E : Env} {H : Heap} (h : stepV mk L i K E H) (hk : ∀ r E' H', MatK H'.length r (i.sk mk) → H.length ≤ r.slot → H.length ≤ H'.length → K E' H' → K' r E' H') : dstepP L i K' E H := by
  unfold stepV at h
  unfold dstepP
  cases hg : i.goes E.get with
  | none => rw [hg] at h; exact h.elim
  | some b =>
    rw [hg] at h
    cases b with
    | false => exact hk _ _ _ ⟨rfl, rfl, fun _ => ⟨rfl, rfl⟩, fun _ => ⟨rfl, fun a ha => by simp at ha⟩, fun _ => ⟨rfl, fun p hp => by simp at hp⟩, Nat.le_refl _⟩ (Nat.le_refl _) (Nat.le_refl _) h
    | true =>
      dsimp only at h ⊢
      split at h
      · rename_i k args hop
        cases hmk : mk.contains k with
        | false =>
          rw [hmk] at h
          obtain ⟨vs, r, h1, ⟨hv1, hv2, hv3⟩, h2⟩ := h
          rw [hop]
          dsimp only
          unfold callee
          rw [h1]
          show FnD L (.fn k) vs H _
          have e1 : vs.map (V.ren (sgOf H ([].map some) [])) = vs := by rw [← V.rens_map]; exact V.rens_closed _ hv1
          refine ⟨[], [], [], r, [], .fn k, rfl, rfl, rfl, ?_, rfl, Nat.le_refl _, fun i hi => by simp at hi, ?_⟩
          · rw [e1]; exact hv3
          · rw [V.ren_closed _ hv2]
            have e2 : H.back [] [] = H := by simp [Heap.back, Heap.upds]
            rw [e2]
            refine hk _ _ _ ⟨rfl, rfl, fun _ => ⟨rfl, rfl⟩, fun _ => ⟨rfl, fun a ha => by simp at ha⟩, fun _ => ⟨rfl, fun p hp => ?_⟩, Nat.le_refl _⟩ (Nat.le_refl _) (Nat.le_refl _) h2
            cases hp
        | true =>
          rw [hmk] at h
          obtain ⟨vs, r, h', h1, ⟨hv1, hv3⟩, h2⟩ := h
          have hkd : i.op.kind mk = 2 := by rw [hop]; show (if mk.contains k then 2 else 0) = 2; rw [hmk]; rfl
          rw [hop]
          dsimp only
          unfold callee
          rw [h1]
          show FnD L (.fn k) vs H _
          have e1 : vs.map (V.ren (sgOf H ([].map some) [])) = vs := by rw [← V.rens_map]; exact V.rens_closed _ hv1
          refine ⟨[], [], [], r, h', .fn k, rfl, rfl, rfl, ?_, rfl, Nat.zero_le _, fun i hi => by simp at hi, ?_⟩
          · rw [e1]; exact hv3
          · rw [outσ_nil]
            have e2 : H.back [] h' = H ++ h'.map (Option.map (Blk.ren (upσ H.length))) := by simp [Heap.back, Heap.upds, outσ_nil]
            rw [e2]
            refine hk _ _ _ ⟨rfl, rfl, fun hq => ?_, fun hq => ?_, fun _ => ⟨rfl, fun p hp => ?_⟩, ?_⟩ (Nat.le_refl _) (by simp) h2
            · rw [show (i.sk mk).kind = 2 from hkd] at hq; cases hq
            · rw [show (i.sk mk).kind = 2 from hkd] at hq; cases hq
            · have hp' : p ∈ effB H.length [] [] h' := hp
              unfold effB at hp'
              rw [effO, List.append_nil] at hp'
              exact effN_mem hp'
            · show H.length + (h'.length - 0) ≤ (H ++ h'.map (Option.map (Blk.ren (upσ H.length)))).length
              simp
      · exact h.elim
      · rename_i hn1 hn2
        split at h
        · rename_i e he
          cases hop : i.op with
          | call c args =>
            cases c with
            | fn k => exact absurd hop (hn1 k args)
            | _ => exact absurd hop (hn2 _ _)
          | _ =>
            obtain ⟨g0, g1, g2⟩ := exec_kind (mk := mk) he
            rw [hop] at he
            dsimp only
            rw [he]
            refine ⟨h.1, hk _ _ _ ⟨rfl, rfl, fun hq => ?_, fun hq => ?_, fun hq => ?_, ?_⟩ (Nat.le_refl _) (by rw [Heap.app_length]; omega) h.2⟩
            · obtain ⟨f1, f2, f3⟩ := g0 hq
              exact ⟨f1, by show e.all H.length = []; unfold Eff.all; rw [f2, f3]; rfl⟩
            · obtain ⟨⟨f2, f3⟩, f1⟩ := g1 hq
              exact ⟨by show e.all H.length = []; unfold Eff.all; rw [f2, f3]; rfl, f1⟩
            · obtain ⟨f1, f2⟩ := g2 hq
              refine ⟨f1, fun p hp => ?_⟩
              have hp' : p ∈ e.all H.length := hp
              unfold Eff.all at hp'
              rw [f2, List.append_nil] at hp'
              obtain ⟨q, hq, rfl⟩ := List.mem_map.1 hp'
              have := (List.mem_zipIdx hq)
              constructor
              · show H.length ≤ H.length + q.2
                omega
              · show H.length + q.2 < H.length + e.new.length
                omega
            · show H.length + e.new.length ≤ (H.app e).length
              rw [Heap.app_length]; exact Nat.le_refl _
        · exact h.elim
theorem dopsV {mk : List Nat} {L : Lib} {K : Env → Heap → Prop} : ∀ (l : List AI) {rs : List Rec} {ss : List SK} {ms : List Nat} {E : Env} {H : Heap}, MatsK H.length rs ss → safeV mk l ss ms = true → opsV mk L l K E H → dopsP L l rs ms K E H
  | [], rs, ss, ms, E, H, _, _, h => h
  | i :: l, rs, ss, ms, E, H, hm, hs, h => by
    simp only [safeV, Bool.and_eq_true] at hs
    exact dstepV (K := opsV mk L l K) h (fun r E' H' hr hn hl hk => ⟨indK_ok hr hn hm hs.1, dopsV l ((hm.mono hl).snoc hr) hs.2 hk⟩)
theorem SWP.drawV {mk : List Nat} {L : Lib} {n0 N : Nat} {Q : Exit → Env → Heap → Prop} {E : Env} {H : Heap} {l : List AI} {ks : List Nat} (hs : safeV mk l [] [] = true) (h : opsV mk L l (fun E H => Q .normal (E.kill ks) H) E H) : SWP L n0 N (.ops true l ks) Q E H :=
  SWP.draw (dopsV l (rs := []) (ss := []) trivial hs h)
theorem MFn.at {L : Lib} {k : Nat} {vs : List V} {r : V} {h' : Heap} (h : MFn L k vs r h') (H : Heap) : AFn L (.fn k) vs H (fun r' H' => r' = r.ren (upσ H.length) ∧ H' = H ++ h'.map (Option.map (Blk.ren (upσ H.length)))) := by
  have e1 : vs.map (V.ren (sgOf H ([].map some) [])) = vs := by rw [← V.rens_map]; exact V.rens_closed _ h.1
  refine AFn.frame (k' := .fn k) [] [] rfl rfl rfl ?_
  rw [e1]
  refine AFn.mono (show AFn L (.fn k) vs [] _ from h.2) ?_
  rintro r' H' ⟨rfl, rfl⟩
  refine ⟨rfl, by rw [outσ_nil], ?_⟩
  simp [Heap.back, Heap.upds, outσ_nil]
theorem stepV_P {mk : List Nat} {L : Lib} {i : AI} {K : Env → Heap → Prop} {E : Env} {H : Heap} (h : stepV mk L i K E H) : stepP L i K E H := by
  unfold stepV at h
  unfold stepP
  cases hg : i.goes E.get with
  | none => rw [hg] at h; exact h.elim
  | some b =>
    rw [hg] at h
    cases b with
    | false => exact h
    | true =>
      dsimp only at h ⊢
      split at h
      · rename_i k args hop
        rw [hop]
        dsimp only
        unfold CallP callee
        cases hmk : mk.contains k with
        | false =>
          rw [hmk] at h
          obtain ⟨vs, r, h1, hf, h2⟩ := h
          rw [h1]
          show AFn L (.fn k) vs H _
          exact (hf.at H).mono (fun r' H' ⟨e1, e2⟩ => by rw [e1, e2]; exact h2)
        | true =>
          rw [hmk] at h
          obtain ⟨vs, r, h', h1, hf, h2⟩ := h
          rw [h1]
          show AFn L (.fn k) vs H _
          exact (hf.at H).mono (fun r' H' ⟨e1, e2⟩ => by rw [e1, e2]; exact h2)
      · exact h.elim
      · rename_i hn1 hn2
        cases hop : i.op with
        | call c args =>
          cases c with
          | fn k => exact absurd hop (hn1 k args)
          | _ => exact absurd hop (hn2 _ _)
        | _ => rw [hop] at h; exact h
theorem opsV_P {mk : List Nat} {L : Lib} {K : Env → Heap → Prop} : ∀ {l : List AI} {E : Env} {H : Heap}, opsV mk L l K E H → opsP L l K E H
  | [], E, H, h => h
  | i :: l, E, H, h => stepP.mono (K := opsV mk L l K) (stepV_P h) (fun E H h => opsV_P h)
theorem SWP.opsV {mk : List Nat} {L : Lib} {n0 N : Nat} {Q : Exit → Env → Heap → Prop} {E : Env} {H : Heap} {l : List AI} {ks : List Nat} (h : opsV mk L l (fun E H => Q .normal (E.kill ks) H) E H) : SWP L n0 N (.ops false l ks) Q E H := SWP.ops (opsV_P h)
end Go.Proofs.YtnhfbabenifbkaaGreatDoor
