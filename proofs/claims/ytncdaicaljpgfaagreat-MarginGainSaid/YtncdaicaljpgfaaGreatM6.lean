/- AL: regions that draw their order, walked with the blocks that each operation touches. · AL: functions that are known by what they yield at some values, one by one. · Maps of numbers, laid and handed out in whichever order; calls of closures in regions that draw their order; the rules' own functions, walked. · Checking a profile of one ballot, walked. · Choosing by the lot, at one seat, walked. · Small whole numbers as fractions, run by the kernel. · Choosing one by the lot: first, tell, First, Seats, walked. -/
import Derived.Test.YtncdaicaljpgfaaGreatM1
import Derived.Test.YtncdaicaljpgfaaGreatAlV
import Derived.Test.YtncdaicaljpgfaaGreatM5
import Derived.Test.YtncdaicaljpgfaaGreatM4
set_option linter.unusedVariables false
namespace Go.Proofs.YtncdaicaljpgfaaGreat
section
variable {L : Lib} {i : AI} {l : List AI} {rs : List Rec} {ms : List Nat} {K : Env → Heap → Prop} {E : Env} {H : Heap}
theorem dops_op {e : Eff} (hg : i.goes E.get = some true) (hc : i.op.isCall = false) (he : i.op.exec H.length H.get (opval L.G E.get) = some e) (hu : (e.upd.all fun p => Nat.blt p.1 H.length) = true)
    (hi : indB (ancM ms i.anc) { dst := i.dst, looks := i.looks, v := some e.v, need := e.need, eff := e.all H.length, slot := H.length, k := e.new.length } 0 rs = true)
    (k : dopsP L l (rs ++ [{ dst := i.dst, looks := i.looks, v := some e.v, need := e.need, eff := e.all H.length, slot := H.length, k := e.new.length }]) (ms ++ [ancM ms i.anc]) K (E.put i.dst e.v) (H.app e)) : dopsP L (i :: l) rs ms K E H := by
  unfold dopsP dstepP
  rw [hg]
  dsimp only
  cases hop : i.op with
  | call c args => rw [hop] at hc; cases hc
  | _ =>
    rw [hop] at he
    dsimp only
    rw [he]
    exact ⟨hu, hi, k⟩
theorem dops_off (hg : i.goes E.get = some false)
    (hi : indB (ancM ms i.anc) { dst := i.dst, looks := i.looks, v := some (.tup []), need := [], eff := [], slot := H.length, k := 0 } 0 rs = true)
    (k : dopsP L l (rs ++ [{ dst := i.dst, looks := i.looks, v := some (.tup []), need := [], eff := [], slot := H.length, k := 0 }]) (ms ++ [ancM ms i.anc]) K (E.put i.dst (.tup [])) H) : dopsP L (i :: l) rs ms K E H := by
  unfold dopsP dstepP
  rw [hg]
  exact ⟨hi, k⟩
theorem dops_call {f : Nat} {args : List AOpd} {vs : List V} {r : V} (hg : i.goes E.get = some true) (hop : i.op = .call (.fn f) args) (hv : evals (opval L.G E.get) args = some vs) (hf : VFn L f vs r)
    (hi : indB (ancM ms i.anc) { dst := i.dst, looks := i.looks, v := some r, need := [], eff := [], slot := H.length, k := 0 } 0 rs = true)
    (k : dopsP L l (rs ++ [{ dst := i.dst, looks := i.looks, v := some r, need := [], eff := [], slot := H.length, k := 0 }]) (ms ++ [ancM ms i.anc]) K (E.put i.dst r) H) : dopsP L (i :: l) rs ms K E H := by
  unfold dopsP dstepP
  rw [hg]
  dsimp only
  rw [hop]
  dsimp only
  unfold callee
  rw [hv]
  show FnD L (.fn f) vs H _
  obtain ⟨hv1, hv2, hv3⟩ := hf
  have e1 : vs.map (V.ren (sgOf H ([].map some) [])) = vs := by rw [← V.rens_map]; exact V.rens_closed _ hv1
  refine ⟨[], [], [], r, [], .fn f, rfl, rfl, rfl, ?_, rfl, Nat.le_refl _, fun i hi => by simp at hi, ?_⟩
  · rw [e1]; exact hv3
  · rw [V.ren_closed _ hv2]
    have e2 : H.back [] [] = H := by simp [Heap.back, Heap.upds]
    rw [e2]
    exact ⟨hi, k⟩
theorem dops_make {f : Nat} {args : List AOpd} {vs : List V} {r : V} {h' : Heap} (hg : i.goes E.get = some true) (hop : i.op = .call (.fn f) args) (hv : evals (opval L.G E.get) args = some vs) (hf : MFn L f vs r h')
    (hi : indB (ancM ms i.anc) { dst := i.dst, looks := i.looks, v := some (r.ren (upσ H.length)), need := [], eff := effB H.length [] [] h', slot := H.length, k := h'.length } 0 rs = true)
    (k : dopsP L l (rs ++ [{ dst := i.dst, looks := i.looks, v := some (r.ren (upσ H.length)), need := [], eff := effB H.length [] [] h', slot := H.length, k := h'.length }]) (ms ++ [ancM ms i.anc]) K (E.put i.dst (r.ren (upσ H.length))) (H ++ h'.map (Option.map (Blk.ren (upσ H.length))))) : dopsP L (i :: l) rs ms K E H := by
  unfold dopsP dstepP
  rw [hg]
  dsimp only
  rw [hop]
  dsimp only
  unfold callee
  rw [hv]
  show FnD L (.fn f) vs H _
  obtain ⟨hv1, hv3⟩ := hf
  have e1 : vs.map (V.ren (sgOf H ([].map some) [])) = vs := by rw [← V.rens_map]; exact V.rens_closed _ hv1
  refine ⟨[], [], [], r, h', .fn f, rfl, rfl, rfl, ?_, rfl, Nat.zero_le _, fun i hi => by simp at hi, ?_⟩
  · rw [e1]; exact hv3
  · rw [outσ_nil]
    have e2 : H.back [] h' = H ++ h'.map (Option.map (Blk.ren (upσ H.length))) := by simp [Heap.back, Heap.upds, outσ_nil]
    rw [e2]
    exact ⟨hi, k⟩
theorem dops_nil (k : K E H) : dopsP L [] rs ms K E H := k
theorem wDrawD {n0 N : Nat} {Q : Exit → Env → Heap → Prop} {c : AC} {l : List AI} {ks : List Nat} (h : c = .ops true l ks) (k : dopsP L l [] [] (fun E H => Q .normal (E.kill ks) H) E H) : SWP L n0 N c Q E H := by
  subst h; exact SWP.draw k
end
end Go.Proofs.YtncdaicaljpgfaaGreat
set_option linter.unusedVariables false
namespace Go.Proofs.YtncdaicaljpgfaaGreat
def tabX : List (Nat × List V × V) → Nat → List V → Option V
  | [], _, _ => none
  | p :: r, k, args => bif Nat.beq p.1 k && eqVs p.2.1 args then some p.2.2 else tabX r k args
theorem tabX_mem : ∀ {xs : List (Nat × List V × V)} {k : Nat} {args : List V} {r : V}, tabX xs k args = some r → (k, args, r) ∈ xs
  | [], k, args, r, h => by cases h
  | p :: xs, k, args, r, h => by
    unfold tabX at h
    cases hb : (Nat.beq p.1 k && eqVs p.2.1 args) with
    | true =>
      rw [hb] at h
      simp only [cond_true, Option.some.injEq] at h
      rw [Bool.and_eq_true] at hb
      have e1 := Nat.eq_of_beq_eq_true hb.1
      have e2 := eqVs_eq hb.2
      obtain ⟨a, b, c⟩ := p
      simp only at e1 e2 h
      subst e1 e2 h
      exact List.mem_cons_self
    | false =>
      rw [hb] at h
      exact List.mem_cons_of_mem _ (tabX_mem h)
/-- Values that hold neither blocks nor lists. -/
def V.bare (v : V) : Bool := v.closed && v.noLst
theorem imm_none {A : Nat → Prop} {w : World} {β : Nat → Option Nat} {h : Nat → Option Blk} {b : Nat} (hb : Imm A w β h b) : Imm A w (fun _ => none) (Heap.get []) b := ⟨hb.lt, fun ⟨a, ha, _⟩ => ha (by simp [Heap.get]), hb.al, hb.arr⟩
theorem okT {L : Lib} {C : Ctx} (h0 : Ok L C) (xs : List (Nat × List V × V)) (hx : ∀ p ∈ xs, AFn L (.fn p.1) p.2.1 [] (fun r' H' => r' = p.2.2 ∧ True)) (hc : (xs.all fun p => p.2.1.all V.bare && V.bare p.2.2) = true) : Ok { L with X := tabX xs } C := by
  refine ⟨h0.fn, h0.gl, h0.body, fun k fid args r hk hX A w β h vs hh hg ha hA => ?_, h0.extr, h0.exty⟩
  have hm := tabX_mem hX
  have hb := List.all_eq_true.1 hc _ hm
  simp only [Bool.and_eq_true, List.all_eq_true] at hb
  have hrun := hx _ hm C h0 A w (fun _ => none) vs (fun b hb => hb.elim (hA b) (fun ⟨a, ha, _⟩ => absurd (by simp [Heap.get]) ha)) (fun _ _ => rfl) ⟨fun a k h => by simp [Heap.get] at h, fun a a' b h => absurd (by simp [Heap.get]) h⟩
    (fun g k v h1 h2 => (hg g k v h1 h2).mono (fun b hb => imm_none hb) (fun _ _ => rfl) (fun _ _ h => h) (fun _ _ h => h))
    ⟨ha.1, fun i v x hv hx => by
      have hbv := hb.1 v (List.mem_of_getElem? hv)
      unfold V.bare at hbv
      rw [Bool.and_eq_true] at hbv
      exact ((ha.2 i v x hv hx).of_closed hbv.1 _).mono (fun b hb => imm_none hb) (fun _ _ => rfl) (fun _ _ h => h) (fun _ _ h => h)⟩ fid hk
  refine Calls.mono hrun ?_
  rintro e w' ⟨v, r', H', β', rfl, ⟨rfl, _⟩, _, _, _, _, hrel, _, hf⟩
  have hbr := hb.2
  unfold V.bare at hbr
  rw [Bool.and_eq_true] at hbr
  exact ⟨v, rfl, ⟨hf.os, hf.tape, hf.output, hf.size, fun b hb _ => hf.block b hb (fun ⟨a, ha, _⟩ => by simp [Heap.get] at ha), hf.room⟩, (hrel.of_closed hbr.1 β).of_noLst hbr.2⟩
/-- A run to a value, told as a contract. -/
def isV (r : V) (o : Option (V × Tri Blk × Nat)) : Bool := match o with | some (v, _, _) => eqV v r | none => false
theorem isV_spec {r : V} {o : Option (V × Tri Blk × Nat)} (h : isV r o = true) : ∃ T n, o = some (r, T, n) := by
  unfold isV at h
  split at h
  · rename_i v T n
    rw [eqV_eq h]; exact ⟨T, n, rfl⟩
  · cases h
theorem afn_val {L : Lib} {k m : Nat} {args : List V} {r : V} (hrun : isV r (funcR L m (.fn k) args .e 0) = true) : AFn L (.fn k) args [] (fun r' H' => r' = r ∧ True) := by
  obtain ⟨T, n, hr⟩ := isV_spec hrun
  exact (funcR_sound L m (.fn k) args .e 0 _ T n hr [] ⟨rfl, by funext a; simp [Heap.get, Tri.get]⟩).mono (fun r' H' ⟨e, _⟩ => ⟨e, trivial⟩)
end Go.Proofs.YtncdaicaljpgfaaGreat
set_option maxRecDepth 100000
set_option maxHeartbeats 4000000
set_option linter.unusedVariables false
set_option linter.unusedSimpArgs false
namespace Go.Proofs.YtncdaicaljpgfaaGreat
theorem findN_range {b : Nat} : ∀ {n k : Nat}, b < n → findN (k + b) (List.range' k n) 0 = some b := by
  suffices h : ∀ (n k b i : Nat), b < n → findN (k + b) (List.range' k n) i = some (i + b) from fun {n k} hb => by rw [h n k b 0 hb, Nat.zero_add]
  intro n
  induction n with
  | zero => intro k b i hb; omega
  | succ n ih =>
    intro k b i hb
    rw [List.range'_succ, findN]
    cases b with
    | zero => simp [Nat.beq_refl]
    | succ b =>
      have : Nat.beq k (k + (b + 1)) = false := by
        cases h : Nat.beq k (k + (b + 1)) with
        | true => have := Nat.eq_of_beq_eq_true h; omega
        | false => rfl
      rw [this, cond_false, show k + (b + 1) = (k + 1) + b by omega, ih (k + 1) b (i + 1) (by omega)]
      congr 1; omega
section
variable {H : Heap} {a r m n b : Nat} {M : List (Int × Int)} {bs S : List Nat} {k x : Int} {p : Int × Int}
theorem mset_new (h : H.get a = some (.map (M.map entI) bs n)) (hn : ∀ p ∈ M, p.1 ≠ k) : msetV (shG 0 H.get) 0 (.mapp a) (.int .i64 k) (.int .i64 x) = some { v := .tup [], need := [a], upd := [(a, some (.map ((M ++ [(k, x)]).map entI) (bs ++ [n]) (n + 1)))] } := by
  have h' : shG 0 H.get a = some (.map (M.map entI) bs n) := by unfold shG; rw [h]; rfl
  unfold msetV
  dsimp only
  rw [h']
  dsimp only
  rw [if_pos (show (keyV 0 (V.int IntKind.i64 k) && (V.int IntKind.i64 x).isVal) = true from rfl), findK_no hn]
  show some _ = some _
  rw [List.map_append]; rfl
theorem entry_eq (hr : H.get r = some (.iter (some m) n (S ++ [b]) n)) (hm : H.get m = some (.map (M.map entI) (List.range n) n)) (hn : n = M.length) (hp : M[b]? = some p) : mentryV (shG 0 H.get) (.ptr r 0 0 0) = some { v := .tup [.int .i64 p.1, .int .i64 p.2], need := [r, m] } := by
  have hb : b < n := by rw [hn]; exact (List.getElem?_eq_some_iff.1 hp).1
  have hr' : shG 0 H.get r = some (.iter (some m) n (S ++ [b]) n) := by unfold shG; rw [hr]; rfl
  have hm' : shG 0 H.get m = some (.map (M.map entI) (List.range n) n) := by unfold shG; rw [hm]; rfl
  simp only [mentryV, hr', hm', if_true]
  rw [List.getLast?_append, show ([b] : List Nat).getLast? = some b from rfl]
  show (findN b (List.range n) 0).bind _ = _
  have := findN_range (k := 0) hb
  rw [Nat.zero_add] at this
  rw [List.range_eq_range', this]
  show ((M.map entI)[b]?).bind _ = _
  rw [List.getElem?_map, hp]; rfl
variable {L : Lib} {l : List AI} {K : Env → Heap → Prop} {E : Env} {d : Option Nat} {anc : List Nat} {y : AOpd}
/-- A step of a range over a map: it is done, or an entry comes that did not come before. -/
theorem opsP_next (hy : opval L.G E.get y = some (.ptr r 0 0 0)) (hr : H.get r = some (.iter (some m) n S n)) (hm : H.get m = some (.map (M.map entI) (List.range n) n)) (hn : n = M.length) (hlt : r < H.length)
    (hend : (∀ b, b < M.length → b ∈ S) → opsP L l K (E.put d (.tup [.bool false])) H)
    (hstep : ∀ (b : Nat) (p : Int × Int), M[b]? = some p → b ∉ S → opsP L l K (E.put d (.tup [.bool true, .int .i64 p.1, .int .i64 p.2])) (H.set r (some (.iter (some m) n (S ++ [b]) n)))) : opsP L (⟨d, .mnext y, none, anc⟩ :: l) K E H := by
  rw [opsP_mnext, hy, bP_some]
  have e : nextE H.get (.ptr r 0 0 0) = match candsN S (List.range n) (M.map entI) with
      | [] => some [{ v := .tup [.bool false], need := [r, m] }]
      | c :: cs => some ((c :: cs).map fun c => { v := .tup [.bool true, c.2.1, c.2.2], need := [r, m], upd := [(r, some (.iter (some m) n (S ++ [c.1]) n))] }) := by
    simp only [nextE]
    rw [hr]
    dsimp only
    rw [hm]
    dsimp only
    rw [if_pos ⟨allLt_range, Nat.ble_eq_true_of_le (Nat.le_refl n)⟩]
    rfl
  rw [e]
  cases hc : candsN S (List.range n) (M.map entI) with
  | nil =>
    dsimp only
    rw [bP_some]
    intro e he
    obtain rfl : e = { v := .tup [.bool false], need := [r, m] } := by simpa using he
    refine ⟨rfl, ?_⟩
    rw [happ_eq, upds_nil]
    simp only [List.map_nil, List.append_nil]
    exact hend fun b hb => cands_none (by simp [hn]) hc b (List.mem_range.2 (by omega))
  | cons c cs =>
    dsimp only
    rw [bP_some]
    intro e he
    obtain ⟨c', hc', rfl⟩ := List.mem_map.1 he
    rw [← hc] at hc'
    obtain ⟨i, h1, h2, h3⟩ := cands_mem hc'
    have hi : i < n := by have := (List.getElem?_eq_some_iff.1 h1).1; simpa using this
    rw [List.getElem?_range hi] at h1
    rw [List.getElem?_map, Option.map_eq_some_iff] at h2
    obtain ⟨p, hp, h2⟩ := h2
    obtain rfl := Option.some.inj h1
    refine ⟨?_, ?_⟩
    · simp [hlt]
    · rw [happ_eq, upds_cons, upds_nil]
      simp only [List.map_nil, List.append_nil]
      have := hstep c'.1 p hp h3
      rw [← h2]
      exact this
end
section
variable {L : Lib} {i : AI} {l : List AI} {rs : List Rec} {ms : List Nat} {K : Env → Heap → Prop} {E : Env} {H : Heap}
/-- A call of whatever is called, known by its values, in a region that draws its order. -/
theorem dops_dyn {f : Nat} {c : ACallee} {args : List AOpd} {vs : List V} {r : V} (hg : i.goes E.get = some true) (hop : i.op = .call c args) (hv : callee L.G E.get c args = some (.fn f, vs)) (hf : VFn L f vs r)
    (hi : indB (ancM ms i.anc) { dst := i.dst, looks := i.looks, v := some r, need := [], eff := [], slot := H.length, k := 0 } 0 rs = true)
    (k : dopsP L l (rs ++ [{ dst := i.dst, looks := i.looks, v := some r, need := [], eff := [], slot := H.length, k := 0 }]) (ms ++ [ancM ms i.anc]) K (E.put i.dst r) H) : dopsP L (i :: l) rs ms K E H := by
  unfold dopsP dstepP
  rw [hg]
  dsimp only
  rw [hop]
  dsimp only
  rw [hv]
  show FnD L (.fn f) vs H _
  obtain ⟨hv1, hv2, hv3⟩ := hf
  have e1 : vs.map (V.ren (sgOf H ([].map some) [])) = vs := by rw [← V.rens_map]; exact V.rens_closed _ hv1
  refine ⟨[], [], [], r, [], .fn f, rfl, rfl, rfl, ?_, rfl, Nat.le_refl _, fun i hi => by simp at hi, ?_⟩
  · rw [e1]; exact hv3
  · rw [V.ren_closed _ hv2]
    have e2 : H.back [] [] = H := by simp [Heap.back, Heap.upds]
    rw [e2]
    exact ⟨hi, k⟩
end
/-- What yields a closed value, whatever it leaves lying about. -/
theorem vfn_val {L : Lib} {k : Nat} {vs : List V} {r : V} (hv : V.closeds vs = true) (hr : r.closed = true) (h : AFn L (.fn k) vs [] (fun r' _ => r' = r ∧ True)) : VFn L k vs r :=
  ⟨hv, hr, AFn.shift (h.mono fun r' H' hp => ⟨[], [], rfl, by rw [hp.1, V.ren_closed _ hr], rfl⟩)⟩
/-- A call in a region that is walked in order, of whatever is called, known by its values. -/
theorem opsP_dyn {L : Lib} {l : List AI} {K : Env → Heap → Prop} {E : Env} {H : Heap} {d : Option Nat} {anc : List Nat} {c : ACallee} {args : List AOpd} {k : Nat} {vs : List V} {r : V} (hv : callee L.G E.get c args = some (.fn k, vs)) (hf : VFn L k vs r) (h : opsP L l K (E.put d r) H) : opsP L (⟨d, .call c args, none, anc⟩ :: l) K E H :=
  opsP_any hv (hf.at H) (by rintro r' h' ⟨rfl, rfl⟩; exact h)
theorem range_snoc {j : Nat} : List.range j ++ [j] = List.range (j + 1) := List.range_succ.symm
variable {L : Lib} (hL : L.T = tab.get)
include hL
theorem never_v (s : Nat) (l : List Int) (c : Option Nat) : VFn L 49 [tl mrow s l c] (.bool false) := by
  refine VFn.start (F := T49.1) (by rw [hL]; rfl) rfl rfl rfl ?_
  (repeat' (first | refine wSeq rfl ?_ | refine wBlock rfl ?_ | refine wSkip rfl ?_ | refine wExit rfl ?_ | refine wRet rfl ?_ | refine wCondT rfl rfl ?_ | refine wCondF rfl rfl ?_ | refine wOps rfl ?_ | refine wDraw rfl rfl ?_ | simp only [seval, push_cast, ↓reduceIte, ↓bP_some, ↓aP_true, reduceCtorEq]))
  exact FnQ.ret rfl rfl
theorem alone_r (s : Nat) (l : List Int) (c : Option Nat) : VFn L 52 [tl mrow s l c] (.bool (decide (l.length ≠ 1))) := by
  refine VFn.start (F := T52.1) (by rw [hL]; rfl) rfl rfl rfl ?_
  by_cases h : l.length = 1
  · have h' : (l.length : Int) = 1 := by omega
    (repeat' (first | refine wSeq rfl ?_ | refine wBlock rfl ?_ | refine wSkip rfl ?_ | refine wExit rfl ?_ | refine wRet rfl ?_ | refine wCondT rfl rfl ?_ | refine wCondF rfl rfl ?_ | refine wOps rfl ?_ | refine wDraw rfl rfl ?_ | simp only [seval, push_cast, ↓reduceIte, ↓bP_some, ↓aP_true, reduceCtorEq, h', h]))
    exact FnQ.ret rfl rfl
  · have h' : ¬ (l.length : Int) = 1 := by omega
    (repeat' (first | refine wSeq rfl ?_ | refine wBlock rfl ?_ | refine wSkip rfl ?_ | refine wExit rfl ?_ | refine wRet rfl ?_ | refine wCondT rfl rfl ?_ | refine wCondF rfl rfl ?_ | refine wOps rfl ?_ | refine wDraw rfl rfl ?_ | simp only [seval, push_cast, ↓reduceIte, ↓bP_some, ↓aP_true, reduceCtorEq, h', h]))
    exact FnQ.ret rfl rfl
theorem marked_m {s : Nat} {l : List Int} {c : Option Nat} {n : Int} (hs : s = 1 ∨ l = []) (hl : l.length ≤ 1000) (hd : l.Nodup) : MFn L 51 [tl mrow s l c, .int .i64 n] (.mapp 0) [some (.map ((markM l).map entI) (List.range l.length) l.length)] := by
  refine ⟨rfl, AFn.of_body (F := T51.1) (by rw [hL]; rfl) rfl ?_⟩
  (repeat' (first | refine wSeq rfl ?_ | refine wBlock rfl ?_ | refine wSkip rfl ?_ | refine wExit rfl ?_ | refine wRet rfl ?_ | refine wCondT rfl rfl ?_ | refine wCondF rfl rfl ?_ | refine wOps rfl ?_ | refine wDraw rfl rfl ?_ | simp only [seval, push_cast, ↓reduceIte, ↓bP_some, ↓aP_true, reduceCtorEq]))
  refine wCntH rfl 11 l.length (fun _ => []) (fun j => [some (.map (((markM l).take j).map entI) (List.range j) j)]) (fun _ => True) rfl rfl trivial ?_ ?_
  · intro j hj _
    obtain ⟨x, hx, _⟩ := get_of hj
    obtain rfl := size_of hs hj
    have hg := markM_get hx
    have hnew := key_new (M := markM l) (by rw [markM_fst]; exact hd) hg
    have hw := wrap_succ (show j < 9223372036854775807 by omega)
    have hset := mset_new (H := [some (.map (((markM l).take j).map entI) (List.range j) j)]) (a := 0) (x := 1) rfl hnew
    rw [← take_snoc hg, range_snoc] at hset
    (repeat' (first | refine wSeq rfl ?_ | refine wBlock rfl ?_ | refine wSkip rfl ?_ | refine wExit rfl ?_ | refine wRet rfl ?_ | refine wCondT rfl rfl ?_ | refine wCondF rfl rfl ?_ | refine wOps rfl ?_ | refine wDraw rfl rfl ?_ | simp only [seval, push_cast, ↓reduceIte, ↓bP_some, ↓aP_true, reduceCtorEq, hj, hx, iaQ_tl hj, hw, hset]))
    exact qR_n rfl rfl trivial
  · intro _
    rw [List.take_of_length_le (by rw [markM_len]; exact Nat.le_refl _)]
    (repeat' (first | refine wSeq rfl ?_ | refine wBlock rfl ?_ | refine wSkip rfl ?_ | refine wExit rfl ?_ | refine wRet rfl ?_ | refine wCondT rfl rfl ?_ | refine wCondF rfl rfl ?_ | refine wOps rfl ?_ | refine wDraw rfl rfl ?_ | simp only [seval, push_cast, ↓reduceIte, ↓bP_some, ↓aP_true, reduceCtorEq]))
    exact FnQ.at rfl ⟨rfl, rfl⟩
theorem scored_m {s : Nat} {l : List Int} {c : Option Nat} {n : Int} (hs : s = 1 ∨ l = []) (hl : l.length ≤ 1000) : MFn L 53 [tl mrow s l c, .int .i64 n] (.mapp 0) [some (.map ((scoreM l).map entI) (List.range l.length) l.length)] := by
  refine ⟨rfl, AFn.of_body (F := T53.1) (by rw [hL]; rfl) rfl ?_⟩
  (repeat' (first | refine wSeq rfl ?_ | refine wBlock rfl ?_ | refine wSkip rfl ?_ | refine wExit rfl ?_ | refine wRet rfl ?_ | refine wCondT rfl rfl ?_ | refine wCondF rfl rfl ?_ | refine wOps rfl ?_ | refine wDraw rfl rfl ?_ | simp only [seval, push_cast, ↓reduceIte, ↓bP_some, ↓aP_true, reduceCtorEq]))
  refine wCntH rfl 11 l.length (fun _ => []) (fun j => [some (.map (((scoreM l).take j).map entI) (List.range j) j)]) (fun _ => True) rfl rfl trivial ?_ ?_
  · intro j hj _
    obtain ⟨x, hx, _⟩ := get_of hj
    obtain rfl := size_of hs hj
    have hg := scoreM_get hx
    have hnew := key_new (M := scoreM l) scoreM_nd hg
    have hw := wrap_succ (show j < 9223372036854775807 by omega)
    have hset := mset_new (H := [some (.map (((scoreM l).take j).map entI) (List.range j) j)]) (a := 0) (x := x) rfl hnew
    rw [← take_snoc hg, range_snoc] at hset
    (repeat' (first | refine wSeq rfl ?_ | refine wBlock rfl ?_ | refine wSkip rfl ?_ | refine wExit rfl ?_ | refine wRet rfl ?_ | refine wCondT rfl rfl ?_ | refine wCondF rfl rfl ?_ | refine wOps rfl ?_ | refine wDraw rfl rfl ?_ | simp only [seval, push_cast, ↓reduceIte, ↓bP_some, ↓aP_true, reduceCtorEq, hj, hx, iaQ_tl hj, hw, hset]))
    exact qR_n rfl rfl trivial
  · intro _
    rw [List.take_of_length_le (by rw [scoreM_len]; exact Nat.le_refl _)]
    (repeat' (first | refine wSeq rfl ?_ | refine wBlock rfl ?_ | refine wSkip rfl ?_ | refine wExit rfl ?_ | refine wRet rfl ?_ | refine wCondT rfl rfl ?_ | refine wCondF rfl rfl ?_ | refine wOps rfl ?_ | refine wDraw rfl rfl ?_ | simp only [seval, push_cast, ↓reduceIte, ↓bP_some, ↓aP_true, reduceCtorEq]))
    exact FnQ.at rfl ⟨rfl, rfl⟩
theorem ranked_m {s : Nat} {l : List Int} {c : Option Nat} {n : Int} (hs : s = 1 ∨ l = []) (hl : l.length ≤ 1000) (hn : 0 ≤ n ∧ n ≤ 1000) (hd : l.Nodup) : MFn L 48 [tl mrow s l c, .int .i64 n] (.mapp 0) [some (.map ((rankM n l).map entI) (List.range l.length) l.length)] := by
  refine ⟨rfl, AFn.of_body (F := T48.1) (by rw [hL]; rfl) rfl ?_⟩
  (repeat' (first | refine wSeq rfl ?_ | refine wBlock rfl ?_ | refine wSkip rfl ?_ | refine wExit rfl ?_ | refine wRet rfl ?_ | refine wCondT rfl rfl ?_ | refine wCondF rfl rfl ?_ | refine wOps rfl ?_ | refine wDraw rfl rfl ?_ | simp only [seval, push_cast, ↓reduceIte, ↓bP_some, ↓aP_true, reduceCtorEq]))
  refine wCntH rfl 11 l.length (fun _ => []) (fun j => [some (.map (((rankM n l).take j).map entI) (List.range j) j)]) (fun _ => True) rfl rfl trivial ?_ ?_
  · intro j hj _
    obtain ⟨x, hx, _⟩ := get_of hj
    obtain rfl := size_of hs hj
    have hg := rankM_get (c := n) hx
    have hnew := key_new (M := rankM n l) (by rw [rankM_fst]; exact hd) hg
    have hw := wrap_succ (show j < 9223372036854775807 by omega)
    have hset := mset_new (H := [some (.map (((rankM n l).take j).map entI) (List.range j) j)]) (a := 0) (x := n - 1 - (j : Int)) rfl hnew
    rw [← take_snoc hg, range_snoc] at hset
    (repeat' (first | refine wSeq rfl ?_ | refine wBlock rfl ?_ | refine wSkip rfl ?_ | refine wExit rfl ?_ | refine wRet rfl ?_ | refine wCondT rfl rfl ?_ | refine wCondF rfl rfl ?_ | refine wOps rfl ?_ | refine wDraw rfl rfl ?_ | simp only [seval, push_cast, ↓reduceIte, ↓bP_some, ↓aP_true, reduceCtorEq, hj, hx, iaQ_tl hj, hw, hset, wrap_i64 (n := n - 1) (by omega) (by omega), wrap_i64 (n := n - 1 - (j : Int)) (by omega) (by omega)]))
    exact qR_n rfl rfl trivial
  · intro _
    rw [List.take_of_length_le (by rw [rankM_len]; exact Nat.le_refl _)]
    (repeat' (first | refine wSeq rfl ?_ | refine wBlock rfl ?_ | refine wSkip rfl ?_ | refine wExit rfl ?_ | refine wRet rfl ?_ | refine wCondT rfl rfl ?_ | refine wCondF rfl rfl ?_ | refine wOps rfl ?_ | refine wDraw rfl rfl ?_ | simp only [seval, push_cast, ↓reduceIte, ↓bP_some, ↓aP_true, reduceCtorEq]))
    exact FnQ.at rfl ⟨rfl, rfl⟩
end Go.Proofs.YtncdaicaljpgfaaGreat
set_option maxRecDepth 100000
set_option maxHeartbeats 4000000
set_option linter.unusedVariables false
set_option linter.unusedSimpArgs false
namespace Go.Proofs.YtncdaicaljpgfaaGreat
section
variable {L : Lib} {i : AI} {l : List AI} {rs : List Rec} {ms : List Nat} {K : Env → Heap → Prop} {E : Env} {H : Heap}
/-- A call of whatever is called, in a smaller memory, in a region that draws its order. -/
theorem dops_frm {f : Nat} {c : ACallee} {args : List AOpd} {vs vs' : List V} {r0 : V} {H0 h' : Heap} (src : List Nat) (hg : i.goes E.get = some true) (hop : i.op = .call c args) (hv : callee L.G E.get c args = some (.fn f, vs)) (hn : nodupO (src.map some) = true) (hlt : (src.all fun a => Nat.blt a H.length) = true) (hvs : vs.map (V.ren (sgOf H (src.map some) [])) = vs') (hH : H.sh (src.map some) [] = H0) (hf : AFn L (.fn f) vs' H0 (fun r h => r = r0 ∧ h = h')) (ho : outOk [] r0 h' = true) (hlen : src.length ≤ h'.length)
    (hi : indB (ancM ms i.anc) { dst := i.dst, looks := i.looks, v := some (r0.ren (outσ H.length src)), need := src ++ [], eff := effB H.length src [] h', slot := H.length, k := h'.length - src.length } 0 rs = true)
    (k : dopsP L l (rs ++ [{ dst := i.dst, looks := i.looks, v := some (r0.ren (outσ H.length src)), need := src ++ [], eff := effB H.length src [] h', slot := H.length, k := h'.length - src.length }]) (ms ++ [ancM ms i.anc]) K (E.put i.dst (r0.ren (outσ H.length src))) (H.back src h')) : dopsP L (i :: l) rs ms K E H := by
  unfold dopsP dstepP
  rw [hg]
  dsimp only
  rw [hop]
  dsimp only
  rw [hv]
  show FnD L (.fn f) vs H _
  refine ⟨src, [], [], r0, h', .fn f, rfl, hn, hlt, ?_, ho, hlen, fun i hi => by simp at hi, hi, k⟩
  rw [hvs, hH]
  exact hf
end
def rowsV (s : Nat) (l : List Int) (c : Option Nat) : V := .lst 2 [[tl mrow s l c, .int .i64 1]] (some 1)
def profV (n k : Int) (s : Nat) (l : List Int) (c : Option Nat) : V := .agg [.int .i64 n, .int .u8 k, rowsV s l c]
def rowV (s : Nat) (l : List Int) (c : Option Nat) : V := .agg [tl mrow s l c, .int .i64 1]
def allL (n : Nat) : List Int := (List.range n).map fun i : Nat => (i : Int)
def lotV (n : Nat) : V := tl mrow 1 (allL n) none
def pH (n k : Int) (s : Nat) (l : List Int) (c : Option Nat) (sum : Int) (first : Bool) : Heap := [some (.arr 3 [[.int .i64 n, .int .u8 k, rowsV s l c]]), some (.arr 1 [[.int .i64 sum]]), some (.arr 1 [[.bool first]])]
variable {L : Lib} (hL : L.T = tab.get)
include hL
theorem pof_v (n k : Int) (s : Nat) (l : List Int) (c : Option Nat) : VFn L 100 [profV n k s l c, rowV s l c] (.agg [.int .u8 k, tl mrow s (l) c]) := by
  unfold profV rowV
  refine VFn.start (F := T100.1) (by rw [hL]; rfl) rfl rfl rfl ?_
  (repeat' (first | refine wSeq rfl ?_ | refine wBlock rfl ?_ | refine wSkip rfl ?_ | refine wExit rfl ?_ | refine wRet rfl ?_ | refine wCondT rfl rfl ?_ | refine wCondF rfl rfl ?_ | refine wOps rfl ?_ | refine wDraw rfl rfl ?_ | simp only [seval, push_cast, ↓reduceIte, ↓bP_some, ↓aP_true, reduceCtorEq]))
  exact FnQ.frz [] rfl rfl
theorem pnew_v {n k : Int} (hn : 1 ≤ n ∧ n ≤ 10) (hk : 1 ≤ k ∧ k ≤ 3) : VFn L 101 [.int .i64 n, .int .u8 k] (.tup [.agg [.int .i64 n, .int .u8 k, .lst 0 [] (some 0)], .int .i64 0]) := by
  refine VFn.start (F := T101.1) (by rw [hL]; rfl) rfl rfl rfl ?_
  have h1 : ¬ n < 1 := by omega
  have h2 : ¬ 10 < n := by omega
  have h3 : ¬ k < 1 := by omega
  have h4 : ¬ 3 < k := by omega
  (repeat' (first | refine wSeq rfl ?_ | refine wBlock rfl ?_ | refine wSkip rfl ?_ | refine wExit rfl ?_ | refine wRet rfl ?_ | refine wCondT rfl rfl ?_ | refine wCondF rfl rfl ?_ | refine wOps rfl ?_ | refine wDraw rfl rfl ?_ | simp only [seval, push_cast, ↓reduceIte, ↓bP_some, ↓aP_true, reduceCtorEq, h1, h2, h3, h4]))
  exact FnQ.frz [] rfl rfl
theorem pcl_a (n k : Int) {s : Nat} {l : List Int} {c : Option Nat} (hs : s = 1 ∨ l = []) (hl : l.length ≤ 1000) : AFn L (.fn 98) [rowV s l c, rowV s l c, .ptr 2 1 0 0, .ptr 1 1 0 0, .ptr 0 3 0 0] (pH n k s l c 0 true) (fun r H' => r = .bool (decide (checkL k l n = 0)) ∧ H' = pH n k s l c 1 false) := by
  unfold pH rowV
  refine AFn.of_body (F := T98.1) (by rw [hL]; rfl) rfl ?_
  have k1 := pof_v hL n k s l c
  have k2 := check_v hL k n s l c hs (by omega)
  unfold profV rowV at k1
  (repeat' (first | refine wSeq rfl ?_ | refine wBlock rfl ?_ | refine wSkip rfl ?_ | refine wExit rfl ?_ | refine wRet rfl ?_ | refine wCondT rfl rfl ?_ | refine wCondF rfl rfl ?_ | refine wOps rfl ?_ | refine wDraw rfl rfl ?_ | refine opsV_call rfl rfl (k1) ?_ | refine opsV_call rfl rfl (k2) ?_ | simp only [seval, push_cast, ↓reduceIte, ↓bP_some, ↓aP_true, reduceCtorEq]))
  exact FnQ.sh [some 0, some 1, some 2] [] rfl rfl rfl rfl ⟨rfl, rfl⟩
omit hL in
theorem ren_bool' {σ : Nat → Sg} {b : Bool} : V.ren σ (.bool b) = .bool b := rfl
theorem pall_a (n k : Int) {s : Nat} {l : List Int} {c : Option Nat} (hs : s = 1 ∨ l = []) (hl : l.length ≤ 1000) : AFn L (.fn 97) [rowsV s l c, .fn 98 [] [.ptr 2 1 0 0, .ptr 1 1 0 0, .ptr 0 3 0 0]] (pH n k s l c 0 true) (fun r H' => r = .bool (decide (checkL k l n = 0)) ∧ H' = pH n k s l c 1 false) := by
  have kc := pcl_a hL n k (c := c) hs hl
  unfold pH rowsV
  unfold pH rowsV rowV at kc
  refine AFn.of_body (F := T97.1) (by rw [hL]; rfl) rfl ?_
  generalize hb : decide (checkL k l n = 0) = b at *
  (repeat' (first | refine wSeq rfl ?_ | refine wBlock rfl ?_ | refine wSkip rfl ?_ | refine wExit rfl ?_ | refine wRet rfl ?_ | refine wCondT rfl rfl ?_ | refine wCondF rfl rfl ?_ | refine wOps rfl ?_ | refine wDraw rfl rfl ?_ | simp only [seval, push_cast, ↓reduceIte, ↓bP_some, ↓aP_true, reduceCtorEq]))
  refine wCntH rfl 9 1 (fun _ => []) (fun j => pH n k s l c (if j = 0 then 0 else 1) (decide (j = 0))) (fun j => j = 0 ∨ b = true) rfl rfl (.inl rfl) ?_ ?_
  · intro j hj hI
    obtain rfl : j = 0 := by omega
    unfold pH rowsV
    (repeat' (first | refine wSeq rfl ?_ | refine wBlock rfl ?_ | refine wSkip rfl ?_ | refine wExit rfl ?_ | refine wRet rfl ?_ | refine wCondT rfl rfl ?_ | refine wCondF rfl rfl ?_ | refine wOpsP rfl ?_ | simp only [seval, push_cast, ↓reduceIte, ↓bP_some, ↓aP_true, reduceCtorEq]))
    refine wDrawD rfl ?_
    refine dops_op rfl rfl rfl rfl (by kernel_rfl) ?_; refine dops_op rfl rfl rfl rfl (by kernel_rfl) ?_; refine dops_op rfl rfl rfl rfl (by kernel_rfl) ?_; refine dops_op rfl rfl rfl rfl (by kernel_rfl) ?_; refine dops_op rfl rfl rfl rfl (by kernel_rfl) ?_; refine dops_op rfl rfl rfl rfl (by kernel_rfl) ?_; refine dops_op rfl rfl rfl rfl (by kernel_rfl) ?_; refine dops_op rfl rfl rfl rfl (by kernel_rfl) ?_
    refine dops_frm [0, 1, 2] rfl rfl rfl rfl rfl rfl rfl kc rfl (Nat.le_refl 3) rfl ?_
    refine dops_op rfl rfl rfl rfl (by kernel_rfl) ?_
    refine dops_nil ?_
    simp only [seval, push_cast, ↓reduceIte, ↓bP_some, ↓aP_true, reduceCtorEq, happ_eq, upds_nil, upds_cons, ren_bool']
    rw [show Heap.back _ _ _ = pH n k s l c 1 false ++ [some (Blk.arr 2 [[tl mrow s l c, V.int IntKind.i64 1]])] from rfl]
    unfold pH rowsV
    cases b with
    | true =>
      (repeat' (first | refine wSeq rfl ?_ | refine wBlock rfl ?_ | refine wSkip rfl ?_ | refine wExit rfl ?_ | refine wRet rfl ?_ | refine wCondT rfl rfl ?_ | refine wCondF rfl rfl ?_ | refine wOps rfl ?_ | refine wDraw rfl rfl ?_ | simp only [seval, push_cast, ↓reduceIte, ↓bP_some, ↓aP_true, reduceCtorEq]))
      exact qR_s [some 0, some 1, some 2] [] rfl rfl rfl trivial
    | false =>
      (repeat' (first | refine wSeq rfl ?_ | refine wBlock rfl ?_ | refine wSkip rfl ?_ | refine wExit rfl ?_ | refine wRet rfl ?_ | refine wCondT rfl rfl ?_ | refine wCondF rfl rfl ?_ | refine wOps rfl ?_ | refine wDraw rfl rfl ?_ | simp only [seval, push_cast, ↓reduceIte, ↓bP_some, ↓aP_true, reduceCtorEq]))
      exact FnQ.sh [some 0, some 1, some 2] [] rfl rfl rfl rfl ⟨rfl, rfl⟩
  · intro hI
    obtain rfl : b = true := hI.resolve_left (by decide)
    unfold pH rowsV
    (repeat' (first | refine wSeq rfl ?_ | refine wBlock rfl ?_ | refine wSkip rfl ?_ | refine wExit rfl ?_ | refine wRet rfl ?_ | refine wCondT rfl rfl ?_ | refine wCondF rfl rfl ?_ | refine wOps rfl ?_ | refine wDraw rfl rfl ?_ | simp only [seval, push_cast, ↓reduceIte, ↓bP_some, ↓aP_true, reduceCtorEq]))
    exact FnQ.at rfl ⟨rfl, rfl⟩
theorem pcheck_v {n k : Int} {s : Nat} {l : List Int} {c : Option Nat} (hs : s = 1 ∨ l = []) (hl : l.length ≤ 1000) (hn : 1 ≤ n ∧ n ≤ 10) (hk : 1 ≤ k ∧ k ≤ 3) : VFn L 59 [profV n k s l c] (.int .i64 (if checkL k l n = 0 then 0 else 8)) := by
  have ka := pall_a hL n k (c := c) hs hl
  have kn := pnew_v hL hn hk
  unfold pH rowsV at ka
  unfold profV rowsV
  refine VFn.start (F := T59.1) (by rw [hL]; rfl) rfl rfl rfl ?_
  (repeat' (first | refine wSeq rfl ?_ | refine wBlock rfl ?_ | refine wSkip rfl ?_ | refine wExit rfl ?_ | refine wRet rfl ?_ | refine wCondT rfl rfl ?_ | refine wCondF rfl rfl ?_ | refine wOpsP rfl ?_ | refine wDraw rfl rfl ?_ | simp only [seval, push_cast, ↓reduceIte, ↓bP_some, ↓aP_true, reduceCtorEq]))
  refine opsP_all (vs := [.lst 2 [[tl mrow s l c, .int .i64 1]] (some 1), .fn 98 [] [.ptr 2 1 0 0, .ptr 1 1 0 0, .ptr 0 3 0 0]]) rfl ka ?_
  rintro r h' ⟨rfl, rfl⟩
  by_cases e : checkL k l n = 0
  · (repeat' (first | refine wSeq rfl ?_ | refine wBlock rfl ?_ | refine wSkip rfl ?_ | refine wExit rfl ?_ | refine wRet rfl ?_ | refine wCondT rfl rfl ?_ | refine wCondF rfl rfl ?_ | refine wOps rfl ?_ | refine wDraw rfl rfl ?_ | refine opsV_call rfl rfl (kn) ?_ | simp only [seval, push_cast, ↓reduceIte, ↓bP_some, ↓aP_true, reduceCtorEq, e]))
    exact FnQ.ret rfl rfl
  · (repeat' (first | refine wSeq rfl ?_ | refine wBlock rfl ?_ | refine wSkip rfl ?_ | refine wExit rfl ?_ | refine wRet rfl ?_ | refine wCondT rfl rfl ?_ | refine wCondF rfl rfl ?_ | refine wOps rfl ?_ | refine wDraw rfl rfl ?_ | refine opsV_call rfl rfl (kn) ?_ | simp only [seval, push_cast, ↓reduceIte, ↓bP_some, ↓aP_true, reduceCtorEq, e]))
    exact FnQ.ret rfl rfl
/-- The lot that lays all candidates in order is one. -/
theorem lot_v {n : Nat} (hn : 2 ≤ n ∧ n ≤ 10) : VFn L 133 [lotV n, .int .i64 n] (.bool true) := by
  have h : n = 2 ∨ n = 3 ∨ n = 4 ∨ n = 5 ∨ n = 6 ∨ n = 7 ∨ n = 8 ∨ n = 9 ∨ n = 10 := by omega
  refine vfn_val rfl rfl ?_
  rcases h with rfl | rfl | rfl | rfl | rfl | rfl | rfl | rfl | rfl
  · exact AFn.more hL (afn_val (m := 1000) (by rw [← funcF_eq]; kernel_rfl)) (by simp)
  · exact AFn.more hL (afn_val (m := 1000) (by rw [← funcF_eq]; kernel_rfl)) (by simp)
  · exact AFn.more hL (afn_val (m := 1000) (by rw [← funcF_eq]; kernel_rfl)) (by simp)
  · exact AFn.more hL (afn_val (m := 1000) (by rw [← funcF_eq]; kernel_rfl)) (by simp)
  · exact AFn.more hL (afn_val (m := 1000) (by rw [← funcF_eq]; kernel_rfl)) (by simp)
  · exact AFn.more hL (afn_val (m := 1000) (by rw [← funcF_eq]; kernel_rfl)) (by simp)
  · exact AFn.more hL (afn_val (m := 1000) (by rw [← funcF_eq]; kernel_rfl)) (by simp)
  · exact AFn.more hL (afn_val (m := 1000) (by rw [← funcF_eq]; kernel_rfl)) (by simp)
  · exact AFn.more hL (afn_val (m := 1000) (by rw [← funcF_eq]; kernel_rfl)) (by simp)
theorem ccheck_v {n : Nat} {k q : Int} {s : Nat} {l : List Int} {c : Option Nat} (hs : s = 1 ∨ l = []) (hl : l.length ≤ 1000) (hn : 2 ≤ n ∧ n ≤ 10) (hk : 1 ≤ k ∧ k ≤ 3) : VFn L 83 [profV n k s l c, .int .u8 q, .int .i64 1, .int .i64 n, lotV n] (.int .i64 (if checkL k l n = 0 ∧ k = q then 0 else 8)) := by
  have kp := pcheck_v hL (c := c) hs hl (n := n) (by omega) hk
  have kl := lot_v hL hn
  have h1 : ¬ (1 : Int) < 1 := by decide
  have h2 : ¬ ((if 10 < (n : Int) then 10 else (n : Int)) < 1) := by split <;> omega
  unfold profV rowsV at kp ⊢
  unfold lotV at kl ⊢
  by_cases e : checkL k l n = 0
  · rw [if_pos e] at kp
    by_cases e2 : k = q
    · rw [if_pos ⟨e, e2⟩]
      subst e2
      refine VFn.start (F := T83.1) (by rw [hL]; rfl) rfl rfl rfl ?_
      (repeat' (first | refine wSeq rfl ?_ | refine wBlock rfl ?_ | refine wSkip rfl ?_ | refine wExit rfl ?_ | refine wRet rfl ?_ | refine wCondT rfl rfl ?_ | refine wCondF rfl rfl ?_ | refine wOps rfl ?_ | refine wDraw rfl rfl ?_ | refine opsV_call rfl rfl (kp) ?_ | refine opsV_call rfl rfl (kl) ?_ | simp only [seval, push_cast, ↓reduceIte, ↓bP_some, ↓aP_true, reduceCtorEq, h1, h2]))
      exact FnQ.ret rfl rfl
    · rw [if_neg (fun h => e2 h.2)]
      refine VFn.start (F := T83.1) (by rw [hL]; rfl) rfl rfl rfl ?_
      (repeat' (first | refine wSeq rfl ?_ | refine wBlock rfl ?_ | refine wSkip rfl ?_ | refine wExit rfl ?_ | refine wRet rfl ?_ | refine wCondT rfl rfl ?_ | refine wCondF rfl rfl ?_ | refine wOps rfl ?_ | refine wDraw rfl rfl ?_ | refine opsV_call rfl rfl (kp) ?_ | simp only [seval, push_cast, ↓reduceIte, ↓bP_some, ↓aP_true, reduceCtorEq, e2]))
      exact FnQ.ret rfl rfl
  · rw [if_neg e] at kp
    rw [if_neg (fun h => e h.1)]
    refine VFn.start (F := T83.1) (by rw [hL]; rfl) rfl rfl rfl ?_
    (repeat' (first | refine wSeq rfl ?_ | refine wBlock rfl ?_ | refine wSkip rfl ?_ | refine wExit rfl ?_ | refine wRet rfl ?_ | refine wCondT rfl rfl ?_ | refine wCondF rfl rfl ?_ | refine wOps rfl ?_ | refine wDraw rfl rfl ?_ | refine opsV_call rfl rfl (kp) ?_ | simp only [seval, push_cast, ↓reduceIte, ↓bP_some, ↓aP_true, reduceCtorEq]))
    exact FnQ.ret rfl rfl
end Go.Proofs.YtncdaicaljpgfaaGreat
set_option maxRecDepth 100000
set_option maxHeartbeats 4000000
set_option linter.unusedVariables false
set_option linter.unusedSimpArgs false
namespace Go.Proofs.YtncdaicaljpgfaaGreat
def hadG (had : List Int) (x : Int) : Int := had.getD x.toNat 0
def bestStep (h : Int → Int) : List Int → Int → List Int
  | [], x => [x]
  | a :: r, x => if h a < h x then [x] else if h x = h a then (a :: r) ++ [x] else a :: r
def topsL (h : Int → Int) (l : List Int) : List Int := l.foldl (bestStep h) []
theorem best_nil (h : Int → Int) : topsL h [] = [] := rfl
theorem best_snoc {h : Int → Int} {l : List Int} {j : Nat} {x : Int} (hx : l[j]? = some x) : topsL h (l.take (j + 1)) = bestStep h (topsL h (l.take j)) x := by
  rw [take_snoc hx]
  unfold topsL
  rw [List.foldl_append]; rfl
theorem bestStep_nil (h : Int → Int) (x : Int) : bestStep h [] x = [x] := rfl
theorem bestStep_cons (h : Int → Int) (a : Int) (r : List Int) (x : Int) : bestStep h (a :: r) x = if h a < h x then [x] else if h x = h a then (a :: r) ++ [x] else a :: r := rfl
theorem bestStep_ne (h : Int → Int) (out : List Int) (x : Int) : bestStep h out x ≠ [] := by
  cases out with
  | nil => simp [bestStep]
  | cons a r => rw [bestStep_cons]; split <;> (try split) <;> simp
theorem bestStep_mem {h : Int → Int} {out : List Int} {x y : Int} (hy : y ∈ bestStep h out x) : y ∈ out ∨ y = x := by
  cases out with
  | nil => simp [bestStep] at hy; exact .inr hy
  | cons a r =>
    rw [bestStep_cons] at hy
    split at hy
    · simp at hy; exact .inr hy
    · split at hy
      · rw [List.mem_append] at hy
        rcases hy with hy | hy
        · exact .inl hy
        · simp at hy; exact .inr hy
      · exact .inl hy
theorem best_mem {h : Int → Int} : ∀ {l out : List Int} {y : Int}, y ∈ l.foldl (bestStep h) out → y ∈ out ∨ y ∈ l
  | [], out, y, hy => .inl hy
  | x :: l, out, y, hy => by
    rcases best_mem (l := l) hy with hy | hy
    · rcases bestStep_mem hy with hy | rfl
      · exact .inl hy
      · exact .inr List.mem_cons_self
    · exact .inr (List.mem_cons_of_mem _ hy)
theorem best_sub {h : Int → Int} {l : List Int} {y : Int} (hy : y ∈ topsL h l) : y ∈ l := (best_mem hy).resolve_left (by simp)
theorem bestStep_len {h : Int → Int} {out : List Int} {x : Int} : (bestStep h out x).length ≤ out.length + 1 := by
  cases out with
  | nil => simp [bestStep]
  | cons a r => rw [bestStep_cons]; split <;> (try split) <;> simp
theorem best_len {h : Int → Int} : ∀ {l out : List Int}, (l.foldl (bestStep h) out).length ≤ out.length + l.length
  | [], out => by simp
  | x :: l, out => by
    have h1 := best_len (h := h) (l := l) (out := bestStep h out x)
    have h2 := bestStep_len (h := h) (out := out) (x := x)
    simp only [List.foldl_cons, List.length_cons]; omega
theorem best_le {h : Int → Int} {l : List Int} : (topsL h l).length ≤ l.length := by
  have := best_len (h := h) (l := l) (out := [])
  simpa [topsL] using this
theorem best_ne {h : Int → Int} : ∀ {l out : List Int}, out ≠ [] ∨ l ≠ [] → l.foldl (bestStep h) out ≠ []
  | [], out, hne => by simpa using hne
  | x :: l, out, _ => best_ne (l := l) (.inl (bestStep_ne h out x))
def capO (r : List Int) : Option Nat := if r.length = 1 then some 1 else none
def outV (r : List Int) : V := if r = [] then .lst 0 [] (some 0) else .ref 1 1 0 r.length (capO r)
theorem outV_snoc {a b x : Int} {r : List Int} : outV (a :: b :: (r ++ [x])) = .ref 1 1 0 (r.length + 1 + 1 + 1) none := by
  unfold outV capO
  rw [if_neg (by simp), if_neg (by simp)]
  simp
theorem frz_refS {α : Type} {f : α → List V} (hf : ∀ x, (f x).all V.closed = true) {H : Heap} {src : List (Option Nat)} {fz : List Nat} {a n : Nat} {l : List α} {c : Option Nat} (hn : 0 < n) (hp : posIn src a 0 = none) (ha : fz.contains a = true) (h : H.get a = some (.arr n (l.map f))) : V.ren (sgOf H src fz) (.ref a n 0 l.length c) = tl f n l c := by
  have e : sgOf H src fz a = .frz n (l.map f) := by
    unfold sgOf
    simp only [hp, ha, h, closeds_tl hf, cond_true]
  rw [V.ren, e]
  simp only [true_and, hn, Nat.zero_add, List.length_map, Nat.le_refl, and_self, if_true, List.drop_zero]
  rw [List.take_of_length_le (by simp)]; rfl
def outB (r : List Int) : Option Blk := if r = [] then none else some (.arr 1 (r.map mrow))
/-- The first by the lot. -/
def firstStep (lot : List Int) (m x : Int) : Int := if placeL lot x - placeL lot m < 0 then x else m
def firstL' (lot l : List Int) (a : Int) : Int := l.foldl (firstStep lot) a
def cellV (had : List Int) (c : Option Nat) : V := .iptr 1 [[tl mrow 1 had c]] 0 0
def nilL : V := .lst 0 [] (some 0)
def cV (lot : List Int) : V := .iptr 4 [[nilL, nilL, nilL, tl mrow 1 lot none]] 0 0
def cH (e v w : V) (lot : List Int) : Heap := [some (.arr 4 [[e, v, w, tl mrow 1 lot none]])]
section
variable {L : Lib} {i : AI} {l : List AI} {rs : List Rec} {ms : List Nat} {K : Env → Heap → Prop} {E : Env} {H : Heap}
theorem dops_bin {o : BinOp} {a b : AOpd} {va vb v : V} (hg : i.goes E.get = some true) (hop : i.op = .bin o a b) (ha : opval L.G E.get a = some va) (hb : opval L.G E.get b = some vb) (hv : binV o va vb = some v)
    (hi : indB (ancM ms i.anc) { dst := i.dst, looks := i.looks, v := some v, need := [], eff := [], slot := H.length, k := 0 } 0 rs = true)
    (k : dopsP L l (rs ++ [{ dst := i.dst, looks := i.looks, v := some v, need := [], eff := [], slot := H.length, k := 0 }]) (ms ++ [ancM ms i.anc]) K (E.put i.dst v) H) : dopsP L (i :: l) rs ms K E H := by
  refine dops_op (e := { v := v }) hg (by rw [hop]; rfl) ?_ rfl hi ?_
  · rw [hop]
    show ((opval L.G E.get a).bind fun x => (opval L.G E.get b).bind fun y => (binV o x y).bind fun v => some ({ v := v } : Eff)) = _
    rw [ha, hb]
    show (binV o va vb).bind _ = _
    rw [hv]; rfl
  · rw [happ_eq, upds_nil, List.map_nil, List.append_nil]
    exact k
end
theorem allL_snoc {j : Nat} : allL (j + 1) = allL j ++ [(j : Int)] := by unfold allL; rw [List.range_succ, List.map_append]; rfl
variable {L : Lib} (hL : L.T = tab.get)
include hL
theorem has_v {had : List Int} {c : Option Nat} {x : Int} (hx : 0 ≤ x ∧ x < had.length) : VFn L 194 [.int .i64 x, cellV had c] (.int .i64 (hadG had x)) := by
  unfold cellV
  refine VFn.start (F := T194.1) (by rw [hL]; rfl) rfl rfl rfl ?_
  obtain ⟨n, rfl⟩ : ∃ n : Nat, x = n := ⟨x.toNat, by omega⟩
  have hn : n < had.length := by omega
  obtain ⟨y, hy, _⟩ := get_of hn
  have e : hadG had (n : Int) = y := by unfold hadG; rw [Int.toNat_natCast, List.getD_eq_getElem?_getD, hy]; rfl
  rw [e]
  (repeat' (first | refine wSeq rfl ?_ | refine wBlock rfl ?_ | refine wSkip rfl ?_ | refine wExit rfl ?_ | refine wRet rfl ?_ | refine wCondT rfl rfl ?_ | refine wCondF rfl rfl ?_ | refine wOps rfl ?_ | refine wDraw rfl rfl ?_ | simp only [seval, push_cast, ↓reduceIte, ↓bP_some, ↓aP_true, reduceCtorEq, iaQ_tl hn, hy]))
  exact FnQ.ret rfl rfl
theorem best_a {had l : List Int} {c c' : Option Nat} (hr : ∀ x ∈ l, 0 ≤ x ∧ x < had.length) (hl : l.length ≤ 100) (hne : l ≠ []) : AFn L (.fn 154) [.ref 0 1 0 l.length c', .fn 194 [] [cellV had c]] [some (.arr 1 (l.map mrow))] (fun r H' => r = tl mrow 1 (topsL (hadG had) l) (capO (topsL (hadG had) l)) ∧ H' = [some (.arr 1 (l.map mrow))]) := by
  refine AFn.of_body (F := T154.1) (by rw [hL]; rfl) rfl ?_
  (repeat' (first | refine wSeq rfl ?_ | refine wBlock rfl ?_ | refine wSkip rfl ?_ | refine wExit rfl ?_ | refine wRet rfl ?_ | refine wCondT rfl rfl ?_ | refine wCondF rfl rfl ?_ | refine wOps rfl ?_ | refine wDraw rfl rfl ?_ | simp only [seval, push_cast, ↓reduceIte, ↓bP_some, ↓aP_true, reduceCtorEq]))
  refine wPad [some 0, none] rfl (by simp only [Env.sh, List.map_cons, List.map_nil]; rfl) rfl ?_
  refine wCntH rfl 9 l.length (fun j => [(4, outV (topsL (hadG had) (l.take j)))]) (fun j => [some (.arr 1 (l.map mrow)), outB (topsL (hadG had) (l.take j))]) (fun _ => True) rfl ?_ trivial ?_ ?_
  · exact sh_c (sh_b closed_mrow rfl) (sh_c rfl sh_n)
  · intro j hj _
    obtain ⟨x, hx, hxm⟩ := get_of hj
    have hw := wrap_succ (show j < 9223372036854775807 by omega)
    have kx := has_v hL (c := c) (hr x hxm)
    rw [best_snoc hx]
    have hlen : (topsL (hadG had) (l.take j)).length ≤ 100 := Nat.le_trans best_le (by rw [List.length_take]; omega)
    have hsub : ∀ y ∈ topsL (hadG had) (l.take j), y ∈ l := fun y hy => List.mem_of_mem_take (best_sub hy)
    generalize topsL (hadG had) (l.take j) = out at hlen hsub ⊢
    cases out with
    | nil =>
      rw [bestStep_nil]
      (repeat' (first | refine wSeq rfl ?_ | refine wBlock rfl ?_ | refine wSkip rfl ?_ | refine wExit rfl ?_ | refine wRet rfl ?_ | refine wCondT rfl rfl ?_ | refine wCondF rfl rfl ?_ | refine wOpsP rfl ?_ | simp only [seval, push_cast, ↓reduceIte, ↓bP_some, ↓aP_true, reduceCtorEq, hj, hx, show outV [] = .lst 0 [] (some 0) from rfl, show outB [] = none from rfl]))
      refine wDrawD rfl ?_
      refine dops_op rfl rfl rfl rfl (by kernel_rfl) ?_; refine dops_op rfl rfl rfl rfl (by kernel_rfl) ?_; refine dops_op rfl rfl rfl rfl (by kernel_rfl) ?_; refine dops_op rfl rfl rfl rfl (by kernel_rfl) ?_
      simp only [seval, push_cast, ↓reduceIte, ↓bP_some, ↓aP_true, reduceCtorEq, happ_eq, upds_nil, upds_cons]
      refine dops_off rfl (by kernel_rfl) ?_; refine dops_off rfl (by kernel_rfl) ?_; refine dops_off rfl (by kernel_rfl) ?_; refine dops_off rfl (by kernel_rfl) ?_; refine dops_off rfl (by kernel_rfl) ?_
      simp only [seval, push_cast, ↓reduceIte, ↓bP_some, ↓aP_true, reduceCtorEq, happ_eq, upds_nil, upds_cons]
      refine dops_off rfl (by kernel_rfl) ?_; refine dops_off rfl (by kernel_rfl) ?_; refine dops_off rfl (by kernel_rfl) ?_; refine dops_off rfl (by kernel_rfl) ?_
      simp only [seval, push_cast, ↓reduceIte, ↓bP_some, ↓aP_true, reduceCtorEq, happ_eq, upds_nil, upds_cons]
      refine dops_op rfl rfl rfl rfl (by kernel_rfl) ?_; refine dops_op rfl rfl rfl rfl (by kernel_rfl) ?_
      refine dops_nil ?_
      simp only [seval, push_cast, ↓reduceIte, ↓bP_some, ↓aP_true, reduceCtorEq, happ_eq, upds_nil, upds_cons]
      (repeat' (first | refine wSeq rfl ?_ | refine wBlock rfl ?_ | refine wSkip rfl ?_ | refine wExit rfl ?_ | refine wRet rfl ?_ | refine wCondT rfl rfl ?_ | refine wCondF rfl rfl ?_ | refine wOps rfl ?_ | refine wDraw rfl rfl ?_ | simp only [seval, push_cast, ↓reduceIte, ↓bP_some, ↓aP_true, reduceCtorEq, hw]))
      exact qR_s [some 0, some 2] [] rfl rfl (sh_c (sh_b closed_mrow rfl) (sh_c rfl sh_n)) trivial
    | cons a r =>
      have ka := has_v hL (c := c) (hr a (hsub a List.mem_cons_self))
      rw [bestStep_cons]
      generalize hadG had x = u at kx ⊢
      generalize hadG had a = v at ka ⊢
      have e0 : binV .eql (.int .i64 ((a :: r).length : Nat)) (.int .i64 0) = some (.bool false) := by rw [binV_eql, decide_eq_false (by simp; omega)]
      have e1 : outV (a :: r) = .ref 1 1 0 (a :: r).length (capO (a :: r)) := rfl
      have e2 : outB (a :: r) = some (.arr 1 (mrow a :: r.map mrow)) := rfl
      (repeat' (first | refine wSeq rfl ?_ | refine wBlock rfl ?_ | refine wSkip rfl ?_ | refine wExit rfl ?_ | refine wRet rfl ?_ | refine wCondT rfl rfl ?_ | refine wCondF rfl rfl ?_ | refine wOpsP rfl ?_ | simp only [seval, push_cast, ↓reduceIte, ↓bP_some, ↓aP_true, reduceCtorEq, hj, hx, e1, e2]))
      refine wDrawD rfl ?_
      refine dops_op rfl rfl rfl rfl (by kernel_rfl) ?_; refine dops_op rfl rfl rfl rfl (by kernel_rfl) ?_
      refine dops_bin rfl rfl rfl rfl e0 (by kernel_rfl) ?_
      simp only [seval, push_cast, ↓reduceIte, ↓bP_some, ↓aP_true, reduceCtorEq, happ_eq, upds_nil, upds_cons]
      refine dops_op rfl rfl rfl rfl (by kernel_rfl) ?_; refine dops_op rfl rfl rfl rfl (by kernel_rfl) ?_; refine dops_op rfl rfl rfl rfl (by kernel_rfl) ?_
      refine dops_dyn rfl rfl rfl kx (by kernel_rfl) ?_
      simp only [seval, push_cast, ↓reduceIte, ↓bP_some, ↓aP_true, reduceCtorEq, happ_eq, upds_nil, upds_cons]
      refine dops_op rfl rfl rfl rfl (by kernel_rfl) ?_; refine dops_op rfl rfl rfl rfl (by kernel_rfl) ?_; refine dops_op rfl rfl rfl rfl (by kernel_rfl) ?_; refine dops_op rfl rfl rfl rfl (by kernel_rfl) ?_
      refine dops_dyn rfl rfl rfl ka (by kernel_rfl) ?_
      simp only [seval, push_cast, ↓reduceIte, ↓bP_some, ↓aP_true, reduceCtorEq, happ_eq, upds_nil, upds_cons]
      by_cases h1 : v < u
      · rw [if_pos h1]
        refine dops_bin rfl rfl rfl rfl (binV_gtr.trans (by rw [decide_eq_true h1])) (by kernel_rfl) ?_
        simp only [seval, push_cast, ↓reduceIte, ↓bP_some, ↓aP_true, reduceCtorEq, happ_eq, upds_nil, upds_cons]
        refine dops_op rfl rfl rfl rfl (by kernel_rfl) ?_; refine dops_op rfl rfl rfl rfl (by kernel_rfl) ?_
        refine dops_nil ?_
        simp only [seval, push_cast, ↓reduceIte, ↓bP_some, ↓aP_true, reduceCtorEq, happ_eq, upds_nil, upds_cons]
        (repeat' (first | refine wSeq rfl ?_ | refine wBlock rfl ?_ | refine wSkip rfl ?_ | refine wExit rfl ?_ | refine wRet rfl ?_ | refine wCondT rfl rfl ?_ | refine wCondF rfl rfl ?_ | refine wOps rfl ?_ | refine wDraw rfl rfl ?_ | simp only [seval, push_cast, ↓reduceIte, ↓bP_some, ↓aP_true, reduceCtorEq, hw]))
        exact qR_s [some 0, some 2] [] rfl rfl (sh_c (sh_b closed_mrow rfl) (sh_c rfl sh_n)) trivial
      · rw [if_neg h1]
        refine dops_bin rfl rfl rfl rfl (binV_gtr.trans (by rw [decide_eq_false h1])) (by kernel_rfl) ?_
        simp only [seval, push_cast, ↓reduceIte, ↓bP_some, ↓aP_true, reduceCtorEq, happ_eq, upds_nil, upds_cons]
        refine dops_op rfl rfl rfl rfl (by kernel_rfl) ?_; refine dops_op rfl rfl rfl rfl (by kernel_rfl) ?_
        refine dops_nil ?_
        simp only [seval, push_cast, ↓reduceIte, ↓bP_some, ↓aP_true, reduceCtorEq, happ_eq, upds_nil, upds_cons]
        (repeat' (first | refine wSeq rfl ?_ | refine wBlock rfl ?_ | refine wSkip rfl ?_ | refine wExit rfl ?_ | refine wRet rfl ?_ | refine wCondT rfl rfl ?_ | refine wCondF rfl rfl ?_ | refine wOpsP rfl ?_ | simp only [seval, push_cast, ↓reduceIte, ↓bP_some, ↓aP_true, reduceCtorEq, hw]))
        refine wDrawD rfl ?_
        refine dops_op rfl rfl rfl rfl (by kernel_rfl) ?_; refine dops_op rfl rfl rfl rfl (by kernel_rfl) ?_
        refine dops_dyn rfl rfl rfl kx (by kernel_rfl) ?_
        simp only [seval, push_cast, ↓reduceIte, ↓bP_some, ↓aP_true, reduceCtorEq, happ_eq, upds_nil, upds_cons]
        refine dops_op rfl rfl rfl rfl (by kernel_rfl) ?_; refine dops_op rfl rfl rfl rfl (by kernel_rfl) ?_; refine dops_op rfl rfl rfl rfl (by kernel_rfl) ?_; refine dops_op rfl rfl rfl rfl (by kernel_rfl) ?_
        refine dops_dyn rfl rfl rfl ka (by kernel_rfl) ?_
        simp only [seval, push_cast, ↓reduceIte, ↓bP_some, ↓aP_true, reduceCtorEq, happ_eq, upds_nil, upds_cons]
        by_cases h2 : u = v
        · rw [if_pos h2]
          refine dops_bin rfl rfl rfl rfl (binV_eql.trans (by rw [decide_eq_true h2])) (by kernel_rfl) ?_
          refine dops_op rfl rfl rfl rfl (by kernel_rfl) ?_
          refine dops_nil ?_
          simp only [seval, push_cast, ↓reduceIte, ↓bP_some, ↓aP_true, reduceCtorEq, happ_eq, upds_nil, upds_cons]
          cases r with
          | nil =>
            (repeat' (first | refine wSeq rfl ?_ | refine wBlock rfl ?_ | refine wSkip rfl ?_ | refine wExit rfl ?_ | refine wRet rfl ?_ | refine wCondT rfl rfl ?_ | refine wCondF rfl rfl ?_ | refine wOps rfl ?_ | refine wDraw rfl rfl ?_ | simp only [seval, push_cast, ↓reduceIte, ↓bP_some, ↓aP_true, reduceCtorEq, hw, show capO [a] = some 1 from rfl]))
            exact qR_s [some 0, some 3] [] rfl rfl (sh_c (sh_b closed_mrow rfl) (sh_c rfl sh_n)) trivial
          | cons b r =>
            have e3 : capO (a :: b :: r) = none := by unfold capO; rw [if_neg (by simp)]
            have hroom : (r.length + 1 + 1 + 1) * 8 ≤ 140737488355328 := by simp at hlen; omega
            (repeat' (first | refine wSeq rfl ?_ | refine wBlock rfl ?_ | refine wSkip rfl ?_ | refine wExit rfl ?_ | refine wRet rfl ?_ | refine wCondT rfl rfl ?_ | refine wCondF rfl rfl ?_ | refine wOps rfl ?_ | refine wDraw rfl rfl ?_ | simp only [seval, push_cast, ↓reduceIte, ↓bP_some, ↓aP_true, reduceCtorEq, hw, e3, hroom]))
            refine qR_s [some 0, some 3] [] rfl ?_ (sh_c (sh_b closed_mrow rfl) (sh_c ?_ sh_n)) trivial
            · rw [outV_snoc]; rfl
            · exact sh_b (l := a :: b :: (r ++ [x])) closed_mrow rfl
        · rw [if_neg h2]
          refine dops_bin rfl rfl rfl rfl (binV_eql.trans (by rw [decide_eq_false h2])) (by kernel_rfl) ?_
          refine dops_op rfl rfl rfl rfl (by kernel_rfl) ?_
          refine dops_nil ?_
          simp only [seval, push_cast, ↓reduceIte, ↓bP_some, ↓aP_true, reduceCtorEq, happ_eq, upds_nil, upds_cons]
          (repeat' (first | refine wSeq rfl ?_ | refine wBlock rfl ?_ | refine wSkip rfl ?_ | refine wExit rfl ?_ | refine wRet rfl ?_ | refine wCondT rfl rfl ?_ | refine wCondF rfl rfl ?_ | refine wOps rfl ?_ | refine wDraw rfl rfl ?_ | simp only [seval, push_cast, ↓reduceIte, ↓bP_some, ↓aP_true, reduceCtorEq, hw]))
          exact qR_n rfl rfl trivial
  · intro _
    rw [take_all]
    have hn2 : topsL (hadG had) l ≠ [] := best_ne (.inr hne)
    generalize topsL (hadG had) l = out at hn2 ⊢
    rw [show outV out = .ref 1 1 0 out.length (capO out) from if_neg hn2, show outB out = some (.arr 1 (out.map mrow)) from if_neg hn2]
    (repeat' (first | refine wSeq rfl ?_ | refine wBlock rfl ?_ | refine wSkip rfl ?_ | refine wExit rfl ?_ | refine wRet rfl ?_ | refine wCondT rfl rfl ?_ | refine wCondF rfl rfl ?_ | refine wOps rfl ?_ | refine wDraw rfl rfl ?_ | simp only [seval, push_cast, ↓reduceIte, ↓bP_some, ↓aP_true, reduceCtorEq]))
    exact FnQ.sh [some 0] [1] rfl rfl (frz_refS (l := out) (n := 1) closed_mrow Nat.one_pos rfl rfl rfl) (sh_c (sh_b closed_mrow rfl) sh_n) ⟨rfl, rfl⟩
theorem all_m {n : Nat} (hn : 1 ≤ n ∧ n ≤ 100) : MFn L 155 [.int .i64 n] (.ref 0 1 0 n none) [some (.arr 1 ((allL n).map mrow))] := by
  refine ⟨rfl, AFn.of_body (F := T155.1) (by rw [hL]; rfl) rfl ?_⟩
  (repeat' (first | refine wSeq rfl ?_ | refine wBlock rfl ?_ | refine wSkip rfl ?_ | refine wExit rfl ?_ | refine wRet rfl ?_ | refine wCondT rfl rfl ?_ | refine wCondF rfl rfl ?_ | refine wOps rfl ?_ | refine wDraw rfl rfl ?_ | simp only [seval, push_cast, ↓reduceIte, ↓bP_some, ↓aP_true, reduceCtorEq]))
  refine wPad [none] rfl (by simp only [Env.sh, List.map_cons, List.map_nil]; rfl) rfl ?_
  refine wCntH rfl 5 n (fun j => [(2, accV 0 1 (allL j))]) (fun j => [accB mrow 1 (allL j)]) (fun _ => True) rfl rfl trivial ?_ ?_
  · intro j hj _
    have hw := wrap_succ (show j < 9223372036854775807 by omega)
    have hlen : (allL j).length = j := by simp [allL]
    rw [allL_snoc]
    generalize allL j = r at hlen ⊢
    have hroom : (r.length + 1) * 8 ≤ 140737488355328 := by omega
    by_cases hr : r = []
    · subst hr
      (repeat' (first | refine wSeq rfl ?_ | refine wBlock rfl ?_ | refine wSkip rfl ?_ | refine wExit rfl ?_ | refine wRet rfl ?_ | refine wCondT rfl rfl ?_ | refine wCondF rfl rfl ?_ | refine wOps rfl ?_ | refine wDraw rfl rfl ?_ | simp only [seval, push_cast, ↓reduceIte, ↓bP_some, ↓aP_true, reduceCtorEq, hj, hw, accV_nil, accB_nil]))
      exact qR_s [some 2] [] rfl rfl rfl trivial
    · (repeat' (first | refine wSeq rfl ?_ | refine wBlock rfl ?_ | refine wSkip rfl ?_ | refine wExit rfl ?_ | refine wRet rfl ?_ | refine wCondT rfl rfl ?_ | refine wCondF rfl rfl ?_ | refine wOps rfl ?_ | refine wDraw rfl rfl ?_ | simp only [seval, push_cast, ↓reduceIte, ↓bP_some, ↓aP_true, reduceCtorEq, hj, hw, accV_cons hr, accB_cons hr, hroom]))
      exact qR_s [some 2] [] rfl (by simp only [accV_snoc]; rfl) (by rw [accB_snoc]; exact sh_c (sh_b closed_mrow rfl) sh_n) trivial
  · intro _
    have hlen : (allL n).length = n := by simp [allL]
    have hr : allL n ≠ [] := fun e => by rw [e] at hlen; simp at hlen; omega
    generalize allL n = r at hlen hr ⊢
    subst hlen
    rw [accV_cons hr, accB_cons hr]
    (repeat' (first | refine wSeq rfl ?_ | refine wBlock rfl ?_ | refine wSkip rfl ?_ | refine wExit rfl ?_ | refine wRet rfl ?_ | refine wCondT rfl rfl ?_ | refine wCondF rfl rfl ?_ | refine wOps rfl ?_ | refine wDraw rfl rfl ?_ | simp only [seval, push_cast, ↓reduceIte, ↓bP_some, ↓aP_true, reduceCtorEq]))
    exact FnQ.at rfl ⟨rfl, rfl⟩
theorem index1_v {x y : Int} {lot : List Int} (hl : lot.length ≤ 100) : VFn L 264 [.int .i64 x, .int .i64 y, .iptr 1 [[cV lot]] 0 0] (.int .i64 (placeL lot x - placeL lot y)) := by
  unfold cV nilL
  refine VFn.start (F := T264.1) (by rw [hL]; rfl) rfl rfl rfl ?_
  have k1 := index_v hL 1 lot none x (.inl rfl) (by omega)
  have k2 := index_v hL 1 lot none y (.inl rfl) (by omega)
  have p1 := place_ge lot x
  have p2 := place_lt lot x
  have p3 := place_ge lot y
  have p4 := place_lt lot y
  (repeat' (first | refine wSeq rfl ?_ | refine wBlock rfl ?_ | refine wSkip rfl ?_ | refine wExit rfl ?_ | refine wRet rfl ?_ | refine wCondT rfl rfl ?_ | refine wCondF rfl rfl ?_ | refine wOps rfl ?_ | refine wDraw rfl rfl ?_ | refine opsV_call rfl rfl (k1) ?_ | refine opsV_call rfl rfl (k2) ?_ | simp only [seval, push_cast, ↓reduceIte, ↓bP_some, ↓aP_true, reduceCtorEq, wrap_i64 (n := placeL lot x - placeL lot y) (by omega) (by omega)]))
  exact FnQ.ret rfl rfl
theorem min_v {lot t : List Int} {a : Int} {c : Option Nat} (hl : lot.length ≤ 100) (ht : t.length ≤ 100) : VFn L 263 [tl mrow 1 (a :: t) c, .fn 264 [] [.iptr 1 [[cV lot]] 0 0]] (.int .i64 (firstL' lot t a)) := by
  refine VFn.start (F := T263.1) (by rw [hL]; rfl) rfl rfl rfl ?_
  have h0 : ¬ ((t.length : Int) + 1 < 1) := by omega
  have hi0 := iaQ_tl (f := mrow) (s := 1) (c := c) (l := a :: t) (i := 0) (by simp)
  (repeat' (first | refine wSeq rfl ?_ | refine wBlock rfl ?_ | refine wSkip rfl ?_ | refine wExit rfl ?_ | refine wRet rfl ?_ | refine wCondT rfl rfl ?_ | refine wCondF rfl rfl ?_ | refine wOps rfl ?_ | refine wDraw rfl rfl ?_ | simp only [seval, push_cast, ↓reduceIte, ↓bP_some, ↓aP_true, reduceCtorEq, List.length_cons, h0, hi0]))
  refine wWhile rfl (fun j : Nat => [(0, tl mrow 1 (a :: t) c), (1, V.fn 264 [] [V.iptr 1 [[cV lot]] 0 0]), (5, V.int IntKind.i64 (firstL' lot (t.take j) a)), (6, V.int IntKind.i64 ((j : Int) + 1))]) (fun _ => []) (fun j => t.length - j) (fun j => j ≤ t.length) 0 rfl rfl (Nat.zero_le _) ?_
  intro j hj
  by_cases h : j < t.length
  · obtain ⟨x, hx, _⟩ := get_of h
    have hx1 : (a :: t)[j + 1]? = some x := by rw [List.getElem?_cons_succ]; exact hx
    have hlt : ((j : Int) + 1 < (t.length : Int) + 1) := by omega
    have hia := iaQ_tl (f := mrow) (s := 1) (c := c) (l := a :: t) (i := j + 1) (by simp; exact h)
    have hst : firstL' lot (t.take (j + 1)) a = firstStep lot (firstL' lot (t.take j) a) x := by
      unfold firstL'
      rw [take_snoc hx, List.foldl_append]; rfl
    have hw := wrap_i64 (n := (j : Int) + 1 + 1) (by omega) (by omega)
    generalize firstL' lot (t.take j) a = m at *
    have kc := index1_v hL (x := x) (y := m) hl
    (repeat' (first | refine wSeq rfl ?_ | refine wBlock rfl ?_ | refine wSkip rfl ?_ | refine wExit rfl ?_ | refine wRet rfl ?_ | refine wCondT rfl rfl ?_ | refine wCondF rfl rfl ?_ | refine wOpsP rfl ?_ | refine wDraw rfl rfl ?_ | simp only [seval, push_cast, ↓reduceIte, ↓bP_some, ↓aP_true, reduceCtorEq, List.length_cons, hlt, hia, hx1, hx]))
    refine opsP_dyn rfl kc ?_
    by_cases hc : placeL lot x - placeL lot m < 0
    · rw [show firstStep lot m x = x from if_pos hc] at hst
      (repeat' (first | refine wSeq rfl ?_ | refine wBlock rfl ?_ | refine wSkip rfl ?_ | refine wExit rfl ?_ | refine wRet rfl ?_ | refine wCondT rfl rfl ?_ | refine wCondF rfl rfl ?_ | refine wOps rfl ?_ | refine wDraw rfl rfl ?_ | simp only [seval, push_cast, ↓reduceIte, ↓bP_some, ↓aP_true, reduceCtorEq, List.length_cons, hia, hx1, hx, hc, hw]))
      exact qW_n (j + 1) (by rw [hst]; rfl) rfl ⟨by omega, h⟩
    · rw [show firstStep lot m x = m from if_neg hc] at hst
      (repeat' (first | refine wSeq rfl ?_ | refine wBlock rfl ?_ | refine wSkip rfl ?_ | refine wExit rfl ?_ | refine wRet rfl ?_ | refine wCondT rfl rfl ?_ | refine wCondF rfl rfl ?_ | refine wOps rfl ?_ | refine wDraw rfl rfl ?_ | simp only [seval, push_cast, ↓reduceIte, ↓bP_some, ↓aP_true, reduceCtorEq, List.length_cons, hia, hx1, hx, hc, hw]))
      exact qW_n (j + 1) (by rw [hst]; rfl) rfl ⟨by omega, h⟩
  · obtain rfl : j = t.length := by omega
    rw [take_all]
    have hlt : ¬ ((t.length : Int) + 1 < (t.length : Int) + 1) := by omega
    (repeat' (first | refine wSeq rfl ?_ | refine wBlock rfl ?_ | refine wSkip rfl ?_ | refine wExit rfl ?_ | refine wRet rfl ?_ | refine wCondT rfl rfl ?_ | refine wCondF rfl rfl ?_ | refine wOps rfl ?_ | refine wDraw rfl rfl ?_ | simp only [seval, push_cast, ↓reduceIte, ↓bP_some, ↓aP_true, reduceCtorEq, List.length_cons, hlt]))
    exact FnQ.ret rfl rfl
end Go.Proofs.YtncdaicaljpgfaaGreat
set_option maxRecDepth 100000
set_option maxHeartbeats 4000000
set_option linter.unusedVariables false
set_option linter.unusedSimpArgs false
namespace Go.Proofs.YtncdaicaljpgfaaGreat
/-- What a run yields, its blocks frozen. -/
def sgT (T : Tri Blk) (fz : List Nat) (a : Nat) : Sg := bif fz.contains a then (match T.get a with | some (.arr s rows) => bif (Blk.arr s rows).closed then .frz s rows else .drop | _ => .drop) else .drop
def valF (fz : List Nat) (o : Option (V × Tri Blk × Nat)) : V := match o with | some (v, T, _) => V.ren (sgT T fz) v | none => .bot
theorem valF_spec {r : V} {fz : List Nat} {o : Option (V × Tri Blk × Nat)} (h : valF fz o = r) (hr : r ≠ .bot) : ∃ v T n, o = some (v, T, n) ∧ V.ren (sgT T fz) v = r := by
  unfold valF at h
  split at h
  · exact ⟨_, _, _, rfl, h⟩
  · exact absurd h.symm hr
theorem vfn_frz {L : Lib} {k m : Nat} {args : List V} {r : V} (fz : List Nat) (hv : V.closeds args = true) (hc : r.closed = true) (hb : r ≠ .bot) (hrun : valF fz (funcF L m (.fn k) args .e 0) = r) : VFn L k args r := by
  rw [funcF_eq] at hrun
  obtain ⟨v, T, n, hr, he⟩ := valF_spec hrun hb
  refine ⟨hv, hc, AFn.shift ((funcR_sound L m (.fn k) args .e 0 _ T n hr [] ⟨rfl, by funext a; simp [Heap.get, Tri.get]⟩).mono ?_)⟩
  rintro r' H' ⟨rfl, hH⟩
  refine ⟨[], fz, rfl, ?_, rfl⟩
  rw [← he]
  have e : sgOf H' [] fz = sgT T fz := by
    funext a
    show (bif fz.contains a then (match H'.get a with | some (.arr s rows) => bif (Blk.arr s rows).closed then Sg.frz s rows else .drop | _ => .drop) else .drop) = _
    rw [hH.2]; rfl
  rw [e]
theorem VFn.more {L : Lib} (hL : L.T = tab.get) {k : Nat} {vs : List V} {r : V} (h : VFn LL k vs r) : VFn L k vs r := ⟨h.1, h.2.1, AFn.more hL h.2.2 (by simp)⟩
def wholeV (n : Int) : List V := [.bool false, .lst 1 (if n = 0 then [] else [[.int .u32 n]]) (some (if n = 0 then 0 else 1)), .lst 1 [[.int .u32 1]] (some 1)]
variable {L : Lib} (hL : L.T = tab.get)
include hL
theorem whole_v {n : Int} (hn : 0 ≤ n ∧ n ≤ 10) : VFn L 137 [.int .i64 n] (.agg (wholeV n)) := by
  have h : n = 0 ∨ n = 1 ∨ n = 2 ∨ n = 3 ∨ n = 4 ∨ n = 5 ∨ n = 6 ∨ n = 7 ∨ n = 8 ∨ n = 9 ∨ n = 10 := by omega
  rcases h with rfl | rfl | rfl | rfl | rfl | rfl | rfl | rfl | rfl | rfl | rfl
  · exact VFn.more hL (vfn_frz (m := 1000) (List.range 40) rfl rfl (by simp) (by kernel_rfl))
  · exact VFn.more hL (vfn_frz (m := 1000) (List.range 40) rfl rfl (by simp) (by kernel_rfl))
  · exact VFn.more hL (vfn_frz (m := 1000) (List.range 40) rfl rfl (by simp) (by kernel_rfl))
  · exact VFn.more hL (vfn_frz (m := 1000) (List.range 40) rfl rfl (by simp) (by kernel_rfl))
  · exact VFn.more hL (vfn_frz (m := 1000) (List.range 40) rfl rfl (by simp) (by kernel_rfl))
  · exact VFn.more hL (vfn_frz (m := 1000) (List.range 40) rfl rfl (by simp) (by kernel_rfl))
  · exact VFn.more hL (vfn_frz (m := 1000) (List.range 40) rfl rfl (by simp) (by kernel_rfl))
  · exact VFn.more hL (vfn_frz (m := 1000) (List.range 40) rfl rfl (by simp) (by kernel_rfl))
  · exact VFn.more hL (vfn_frz (m := 1000) (List.range 40) rfl rfl (by simp) (by kernel_rfl))
  · exact VFn.more hL (vfn_frz (m := 1000) (List.range 40) rfl rfl (by simp) (by kernel_rfl))
  · exact VFn.more hL (vfn_frz (m := 1000) (List.range 40) rfl rfl (by simp) (by kernel_rfl))
theorem floor_v {n : Int} (hn : 0 ≤ n ∧ n ≤ 10) : VFn L 30 [.agg (wholeV n)] (.tup [.int .i64 n, .int .i64 0]) := by
  have h : n = 0 ∨ n = 1 ∨ n = 2 ∨ n = 3 ∨ n = 4 ∨ n = 5 ∨ n = 6 ∨ n = 7 ∨ n = 8 ∨ n = 9 ∨ n = 10 := by omega
  rcases h with rfl | rfl | rfl | rfl | rfl | rfl | rfl | rfl | rfl | rfl | rfl
  · exact VFn.more hL (vfn_frz (m := 1000) [] rfl rfl (by simp) (by kernel_rfl))
  · exact VFn.more hL (vfn_frz (m := 1000) [] rfl rfl (by simp) (by kernel_rfl))
  · exact VFn.more hL (vfn_frz (m := 1000) [] rfl rfl (by simp) (by kernel_rfl))
  · exact VFn.more hL (vfn_frz (m := 1000) [] rfl rfl (by simp) (by kernel_rfl))
  · exact VFn.more hL (vfn_frz (m := 1000) [] rfl rfl (by simp) (by kernel_rfl))
  · exact VFn.more hL (vfn_frz (m := 1000) [] rfl rfl (by simp) (by kernel_rfl))
  · exact VFn.more hL (vfn_frz (m := 1000) [] rfl rfl (by simp) (by kernel_rfl))
  · exact VFn.more hL (vfn_frz (m := 1000) [] rfl rfl (by simp) (by kernel_rfl))
  · exact VFn.more hL (vfn_frz (m := 1000) [] rfl rfl (by simp) (by kernel_rfl))
  · exact VFn.more hL (vfn_frz (m := 1000) [] rfl rfl (by simp) (by kernel_rfl))
  · exact VFn.more hL (vfn_frz (m := 1000) [] rfl rfl (by simp) (by kernel_rfl))
end Go.Proofs.YtncdaicaljpgfaaGreat
set_option maxRecDepth 100000
set_option maxHeartbeats 4000000
set_option linter.unusedVariables false
set_option linter.unusedSimpArgs false
namespace Go.Proofs.YtncdaicaljpgfaaGreat
theorem ren_up_refg {n a s o m : Nat} {c : Option Nat} : V.ren (upσ n) (.ref a s o m c) = .ref (n + a) s o m c := by simp [V.ren, upσ]
theorem isVal_iptr {s i o : Nat} {r : List (List V)} : V.isVal (.iptr s r i o) = true := rfl
theorem cells_iptr {s i o : Nat} {r : List (List V)} : V.cells (.iptr s r i o) = [.iptr s r i o] := rfl
theorem ren_int' {σ : Nat → Sg} {k : IntKind} {n : Int} : V.ren σ (.int k n) = .int k n := rfl
theorem ren_tl' {α : Type} {f : α → List V} {σ : Nat → Sg} {s : Nat} {l : List α} {c : Option Nat} : V.ren σ (tl f s l c) = tl f s l c := rfl
/-- A call that is lent blocks, which it sees as values. -/
theorem opsP_lend {L : Lib} {l : List AI} {K : Env → Heap → Prop} {E : Env} {H : Heap} {d : Option Nat} {anc : List Nat} (bor : List Nat) {k : Nat} {args : List AOpd} {vs vs' : List V} {r : V} (hv : evals (opval L.G E.get) args = some vs) (hvs : vs.map (V.ren (sgOf H [] bor)) = vs') (hf : VFn L k vs' r) (hr : r.noLst = true) (h : opsP L l K (E.put d r) H) : opsP L (⟨d, .call (.fn k) args, none, anc⟩ :: l) K E H := by
  show stepP L ⟨d, .call (.fn k) args, none, anc⟩ (opsP L l K) E H
  unfold stepP AI.goes
  show CallP L E.get H (.fn k) args _
  unfold CallP callee
  rw [hv]
  show AFn L (.fn k) vs H _
  refine AFn.frame (k' := .fn k) [] bor rfl rfl rfl ?_
  show AFn L (.fn k) (vs.map (V.ren (sgOf H [] bor))) [] _
  rw [hvs]
  refine AFn.mono hf.2.2 ?_
  rintro r' H' ⟨rfl, rfl⟩
  refine ⟨by simp [outOk, hr], ?_⟩
  rw [V.ren_closed _ hf.2.1]
  have e2 : H.back [] [] = H := by simp [Heap.back, Heap.upds]
  rw [e2]; exact h
/-- Ties as they lie in a count. -/
structure TieV (tv : V) : Prop where
  c : tv.closed = true
  v : tv.isVal = true
  s : V.cells tv = [tv]
theorem sh_c4 {H : Heap} {σ : Nat → Sg} {a : Nat} {e v w u : V} (h : H.get a = some (.arr 4 [[e, v, w, u]])) (he : e.closed = true) (hv : v.closed = true) (hw : w.closed = true) (hu : u.closed = true) : ((some a).bind fun a => (H.get a).map (Blk.ren σ)) = some (.arr 4 [[e, v, w, u]]) := by
  show (H.get a).map (Blk.ren σ) = _
  rw [h]
  show some (Blk.arr 4 [[V.ren σ e, V.ren σ v, V.ren σ w, V.ren σ u]]) = _
  rw [V.ren_closed _ he, V.ren_closed _ hv, V.ren_closed _ hw, V.ren_closed _ hu]
theorem back_c4 {B0 B1 : Option Blk} {e v w u : V} (he : e.closed = true) (hv : v.closed = true) (hw : w.closed = true) (hu : u.closed = true) : Heap.back [B0, B1] [0] [some (.arr 4 [[e, v, w, u]])] = [some (.arr 4 [[e, v, w, u]]), B1] := by
  show [Option.map (Blk.ren (outσ 2 [0])) (some (.arr 4 [[e, v, w, u]])), B1] = _
  show [some (Blk.arr 4 [[V.ren _ e, V.ren _ v, V.ren _ w, V.ren _ u]]), B1] = _
  rw [V.ren_closed _ he, V.ren_closed _ hv, V.ren_closed _ hw, V.ren_closed _ hu]
def leftV (n j : Nat) : V := if j = 0 then .ref 1 1 0 n none else .bot
variable {L : Lib} (hL : L.T = tab.get)
include hL
theorem first_c {lot t : List Int} {a : Int} {c : Option Nat} (hl : lot.length ≤ 100) (ht : t.length ≤ 100) : VFn L 207 [cV lot, tl mrow 1 (a :: t) c] (.int .i64 (firstL' lot t a)) := by
  have km := min_v hL (c := c) (a := a) hl ht
  unfold cV nilL at km ⊢
  refine VFn.start (F := T207.1) (by rw [hL]; rfl) rfl rfl rfl ?_
  refine wSeq rfl ?_
  refine wOps rfl ?_
  simp only [seval, push_cast, ↓reduceIte, ↓bP_some, ↓aP_true, reduceCtorEq, isVal_iptr, cells_iptr, List.length_cons, List.length_nil]
  refine wShift [] [0] rfl rfl rfl ?_
  show SWP L 0 _ _ _ [(1, tl mrow 1 (a :: t) c), (2, V.iptr 1 [[V.iptr 4 [[V.lst 0 [] (some 0), V.lst 0 [] (some 0), V.lst 0 [] (some 0), tl mrow 1 lot none]] 0 0]] 0 0)] []
  (repeat' (first | refine wSeq rfl ?_ | refine wBlock rfl ?_ | refine wSkip rfl ?_ | refine wExit rfl ?_ | refine wRet rfl ?_ | refine wCondT rfl rfl ?_ | refine wCondF rfl rfl ?_ | refine wOps rfl ?_ | refine wDraw rfl rfl ?_ | refine opsV_call rfl rfl (km) ?_ | simp only [seval, push_cast, ↓reduceIte, ↓bP_some, ↓aP_true, reduceCtorEq]))
  exact FnQ.ret rfl rfl
omit hL in
theorem back_1 {B0 B1 : Option Blk} {q : List Int} : Heap.back [B0, B1] [1] [some (.arr 1 (q.map mrow))] = [B0, some (.arr 1 (q.map mrow))] := back_one
theorem tell_a {lot l : List Int} {x : Int} {c : Option Nat} (hl : lot.length ≤ 100) (hne : l ≠ []) (ht : l.length ≤ 12) : AFn L (.fn 206) [.ptr 0 4 0 0, tl mrow 1 l c, .int .i64 x] (cH nilL nilL nilL lot) (fun r H' => r = .int .i64 x ∧ ∃ tv : V, TieV tv ∧ H' = cH nilL nilL tv lot) := by
  unfold cH nilL
  refine AFn.of_body (F := T206.1) (by rw [hL]; rfl) rfl ?_
  by_cases hgt : (1 : Int) < l.length
  · have kc := clone_v hL l c hne (by omega)
    (repeat' (first | refine wSeq rfl ?_ | refine wBlock rfl ?_ | refine wSkip rfl ?_ | refine wExit rfl ?_ | refine wRet rfl ?_ | refine wCondT rfl rfl ?_ | refine wCondF rfl rfl ?_ | refine wOpsP rfl ?_ | refine wDrawM [134] rfl rfl ?_ | refine opsV_make (k := 134) rfl rfl (kc) ?_ | (refine opsP_any (k := .fn 134) rfl ((kc).at _) ?_; rintro _ _ ⟨rfl, rfl⟩) | simp only [seval, push_cast, ↓reduceIte, ↓bP_some, ↓aP_true, reduceCtorEq, hgt, ren_up_refg, ren_tl closed_mrow, List.map_cons, List.map_nil, Option.map_some]))
    refine opsP_frm (k := 245) (vs' := [.ref 0 1 0 l.length none]) (H0 := [some (.arr 1 (l.map mrow))]) [1] (by rfl) rfl rfl (by rfl) (by exact sh_c (sh_b closed_mrow rfl) sh_n) (sort_a (Hc := []) hL ht) ?_
    rintro r h' ⟨rfl, q, q1, q2, rfl⟩
    rw [back_one]
    have hq := q1.length_eq
    rw [← hq]
    simp only [seval, push_cast, ↓reduceIte, ↓bP_some, ↓aP_true, reduceCtorEq, ren_tup0]
    refine wShift [some 0] [1] (E1 := [(0, .ptr 0 4 0 0), (2, .int .i64 x), (7, tl mrow 1 q none)]) (H1 := [some (Blk.arr 4 [[V.lst 0 [] (some 0), V.lst 0 [] (some 0), V.lst 0 [] (some 0), tl mrow 1 lot none]])]) rfl ?_ rfl ?_
    · show [(0, V.ptr 0 4 0 0), (2, V.int .i64 x), (7, V.ren _ (.ref 1 1 0 q.length none))] = _
      rw [frz_refS (l := q) closed_mrow Nat.one_pos rfl rfl rfl]
    (repeat' (first | refine wSeq rfl ?_ | refine wBlock rfl ?_ | refine wSkip rfl ?_ | refine wExit rfl ?_ | refine wRet rfl ?_ | refine wCondT rfl rfl ?_ | refine wCondF rfl rfl ?_ | refine wOps rfl ?_ | refine wDraw rfl rfl ?_ | simp only [seval, push_cast, ↓reduceIte, ↓bP_some, ↓aP_true, reduceCtorEq]))
    exact FnQ.sh [some 0] [2] rfl rfl rfl rfl ⟨rfl, .lst 2 [[tl mrow 1 q none, .int .i64 x]] none, ⟨rfl, rfl, rfl⟩, rfl⟩
  · (repeat' (first | refine wSeq rfl ?_ | refine wBlock rfl ?_ | refine wSkip rfl ?_ | refine wExit rfl ?_ | refine wRet rfl ?_ | refine wCondT rfl rfl ?_ | refine wCondF rfl rfl ?_ | refine wOps rfl ?_ | refine wDraw rfl rfl ?_ | simp only [seval, push_cast, ↓reduceIte, ↓bP_some, ↓aP_true, reduceCtorEq, hgt]))
    exact FnQ.at rfl ⟨rfl, nilL, ⟨rfl, rfl, rfl⟩, rfl⟩
theorem First_a {lot t : List Int} {a : Int} {c : Option Nat} (hl : lot.length ≤ 100) (ht : t.length ≤ 10) : AFn L (.fn 153) [.ptr 0 4 0 0, tl mrow 1 (a :: t) c] (cH nilL nilL nilL lot) (fun r H' => r = .int .i64 (firstL' lot t a) ∧ ∃ tv : V, TieV tv ∧ H' = cH nilL nilL tv lot) := by
  have kf := first_c hL (c := c) (a := a) hl (show t.length ≤ 100 by omega)
  have kt := tell_a hL (l := a :: t) (c := c) (x := firstL' lot t a) hl (by simp) (by simp; omega)
  generalize a :: t = l at kf kt ⊢
  unfold cH nilL at *
  refine AFn.of_body (F := T153.1) (by rw [hL]; rfl) rfl ?_
  (repeat' (first | refine wSeq rfl ?_ | refine wBlock rfl ?_ | refine wSkip rfl ?_ | refine wExit rfl ?_ | refine wRet rfl ?_ | refine wCondT rfl rfl ?_ | refine wCondF rfl rfl ?_ | refine wOpsP rfl ?_ | refine wDraw rfl rfl ?_ | simp only [seval, push_cast, ↓reduceIte, ↓bP_some, ↓aP_true, reduceCtorEq]))
  refine opsP_lend [0] rfl rfl kf rfl ?_
  (repeat' (first | refine wSeq rfl ?_ | refine wBlock rfl ?_ | refine wSkip rfl ?_ | refine wExit rfl ?_ | refine wRet rfl ?_ | refine wCondT rfl rfl ?_ | refine wCondF rfl rfl ?_ | refine wOpsP rfl ?_ | refine wDraw rfl rfl ?_ | simp only [seval, push_cast, ↓reduceIte, ↓bP_some, ↓aP_true, reduceCtorEq]))
  refine opsP_all (vs := [.ptr 0 4 0 0, tl mrow 1 l c, .int .i64 (firstL' lot t a)]) rfl kt ?_
  rintro r h' ⟨rfl, tv, h1, rfl⟩
  (repeat' (first | refine wSeq rfl ?_ | refine wBlock rfl ?_ | refine wSkip rfl ?_ | refine wExit rfl ?_ | refine wRet rfl ?_ | refine wCondT rfl rfl ?_ | refine wCondF rfl rfl ?_ | refine wOps rfl ?_ | refine wDraw rfl rfl ?_ | simp only [seval, push_cast, ↓reduceIte, ↓bP_some, ↓aP_true, reduceCtorEq]))
  exact FnQ.at rfl ⟨rfl, tv, h1, rfl⟩
theorem isx_v {x y : Int} : VFn L 195 [.int .i64 y, .iptr 1 [[.int .i64 x]] 0 0] (.bool (decide (y = x))) := by
  refine VFn.start (F := T195.1) (by rw [hL]; rfl) rfl rfl rfl ?_
  (repeat' (first | refine wSeq rfl ?_ | refine wBlock rfl ?_ | refine wSkip rfl ?_ | refine wExit rfl ?_ | refine wRet rfl ?_ | refine wCondT rfl rfl ?_ | refine wCondF rfl rfl ?_ | refine wOps rfl ?_ | refine wDraw rfl rfl ?_ | simp only [seval, push_cast, ↓reduceIte, ↓bP_some, ↓aP_true, reduceCtorEq]))
  exact FnQ.ret rfl rfl
theorem Seats_a {lot had : List Int} {hc : Option Nat} (hl : lot.length ≤ 100) (hn : 1 ≤ had.length ∧ had.length ≤ 10) : AFn L (.fn 135) [.ptr 0 4 0 0, tl mrow 1 had hc, .int .i64 1] (cH nilL nilL nilL lot) (fun r H' => (∃ x : Int, r = tl mrow 1 [x] none) ∧ ∃ tv : V, TieV tv ∧ H' = cH nilL nilL tv lot) := by
  have hal0 : (allL had.length).length = had.length := by simp [allL]
  have hnil : allL had.length ≠ [] := fun e => by rw [e, List.length_nil] at hal0; omega
  have kb := best_a hL (had := had) (l := allL had.length) (c := hc) (c' := none) (by intro x hx; obtain ⟨i, hi, rfl⟩ := List.mem_map.1 hx; have := List.mem_range.1 hi; omega) (by simp [allL]; omega) hnil
  have hne : topsL (hadG had) (allL had.length) ≠ [] := best_ne (.inr hnil)
  have hle : (topsL (hadG had) (allL had.length)).length ≤ 10 := Nat.le_trans best_le (by simp [allL]; omega)
  have km := all_m hL (n := had.length) (by omega)
  generalize allL had.length = al at *
  generalize topsL (hadG had) al = out at *
  rw [hal0] at kb
  generalize hcap : capO out = cap at *
  obtain ⟨a, t, rfl⟩ : ∃ a t, out = a :: t := by cases out with | nil => exact absurd rfl hne | cons a t => exact ⟨a, t, rfl⟩
  have kf := First_a hL (lot := lot) (a := a) (t := t) (c := cap) hl (by simp at hle; omega)
  generalize firstL' lot t a = x at *
  generalize a :: t = out at *
  unfold cH nilL at *
  refine AFn.of_body (F := T135.1) (by rw [hL]; rfl) rfl ?_
  refine wSeq rfl ?_
  refine wOps rfl ?_
  simp only [seval, push_cast, ↓reduceIte, ↓bP_some, ↓aP_true, reduceCtorEq, List.length_cons, List.length_nil]
  refine wShift [some 0] [1] rfl rfl rfl ?_
  show SWP L 1 _ _ _ [(0, V.ptr 0 4 0 0), (2, V.int .i64 1), (4, cellV had hc), (6, V.lst 0 [] (some 0))] [some (Blk.arr 4 [[V.lst 0 [] (some 0), V.lst 0 [] (some 0), V.lst 0 [] (some 0), tl mrow 1 lot none]])]
  unfold cellV at *
  (repeat' (first | refine wSeq rfl ?_ | refine wBlock rfl ?_ | refine wSkip rfl ?_ | refine wExit rfl ?_ | refine wRet rfl ?_ | refine wCondT rfl rfl ?_ | refine wCondF rfl rfl ?_ | refine wOpsP rfl ?_ | refine wDrawM [155] rfl rfl ?_ | refine opsV_make (k := 155) rfl rfl (km) ?_ | (refine opsP_any (k := .fn 155) rfl ((km).at _) ?_; rintro _ _ ⟨rfl, rfl⟩) | simp only [seval, push_cast, ↓reduceIte, ↓bP_some, ↓aP_true, reduceCtorEq, ren_up_refg, ren_tl closed_mrow, List.map_cons, List.map_nil, Option.map_some]))
  refine wWhile rfl (fun s : Nat × V => [(0, V.ptr 0 4 0 0), (4, V.iptr 1 [[tl mrow 1 had hc]] 0 0), (6, if s.1 = 0 then .lst 0 [] (some 0) else tl mrow 1 [x] none), (7, leftV had.length s.1), (12, V.int IntKind.i64 1), (13, V.int IntKind.i64 (s.1 : Int))]) (fun s => [some (Blk.arr 4 [[V.lst 0 [] (some 0), V.lst 0 [] (some 0), s.2, tl mrow 1 lot none]]), if s.1 = 0 then some (Blk.arr 1 (al.map mrow)) else none]) (fun s => 1 - s.1) (fun s => s.1 = 0 ∧ s.2 = .lst 0 [] (some 0) ∨ s.1 = 1 ∧ TieV s.2) (0, .lst 0 [] (some 0)) rfl rfl (.inl ⟨rfl, rfl⟩) ?_
  rintro ⟨j, tv⟩ hI
  rcases hI with ⟨rfl, rfl⟩ | ⟨rfl, htv⟩
  · (repeat' (first | refine wSeq rfl ?_ | refine wBlock rfl ?_ | refine wSkip rfl ?_ | refine wExit rfl ?_ | refine wRet rfl ?_ | refine wCondT rfl rfl ?_ | refine wCondF rfl rfl ?_ | refine wOpsP rfl ?_ | refine wDraw rfl rfl ?_ | simp only [seval, push_cast, ↓reduceIte, ↓bP_some, ↓aP_true, reduceCtorEq, show leftV had.length 0 = .ref 1 1 0 had.length none from rfl]))
    refine opsP_frm (k := 154) (vs' := [.ref 0 1 0 had.length none, .fn 194 [] [.iptr 1 [[tl mrow 1 had hc]] 0 0]]) (H0 := [some (.arr 1 (al.map mrow))]) [1] (by rfl) rfl rfl (by rfl) (by exact sh_c (sh_b closed_mrow rfl) sh_n) kb ?_
    rintro r h' ⟨rfl, rfl⟩
    rw [back_one, ren_tl']
    (repeat' (first | refine wSeq rfl ?_ | refine wBlock rfl ?_ | refine wSkip rfl ?_ | refine wExit rfl ?_ | refine wRet rfl ?_ | refine wCondT rfl rfl ?_ | refine wCondF rfl rfl ?_ | refine wOpsP rfl ?_ | refine wDraw rfl rfl ?_ | simp only [seval, push_cast, ↓reduceIte, ↓bP_some, ↓aP_true, reduceCtorEq]))
    refine opsP_frm (k := 153) (vs' := [.ptr 0 4 0 0, tl mrow 1 out cap]) (H0 := [some (Blk.arr 4 [[V.lst 0 [] (some 0), V.lst 0 [] (some 0), V.lst 0 [] (some 0), tl mrow 1 lot none]])]) [0] (by rfl) rfl rfl (by rfl) (by rfl) kf ?_
    rintro r h' ⟨rfl, tv, htv, rfl⟩
    rw [back_c4 rfl rfl htv.c rfl]
    simp only [seval, push_cast, ↓reduceIte, ↓bP_some, ↓aP_true, reduceCtorEq, ren_int']
    refine wSeq rfl ?_
    refine wOpsP rfl ?_
    simp only [seval, push_cast, ↓reduceIte, ↓bP_some, ↓aP_true, reduceCtorEq, List.length_cons, List.length_nil, List.map_cons, List.map_nil, List.nil_append, List.cons_append]
    refine wShift [some 0, some 1] [2, 4] (E1 := [(0, .ptr 0 4 0 0), (4, .iptr 1 [[tl mrow 1 had hc]] 0 0), (6, tl mrow 1 [x] none), (7, .ref 1 1 0 had.length none), (8, .iptr 1 [[.int .i64 x]] 0 0), (12, .int .i64 1), (13, .int .i64 0)]) (H1 := [some (Blk.arr 4 [[V.lst 0 [] (some 0), V.lst 0 [] (some 0), tv, tl mrow 1 lot none]]), some (Blk.arr 1 (al.map mrow))]) rfl rfl (sh_c (sh_c4 rfl rfl rfl htv.c rfl) (sh_c (sh_b closed_mrow rfl) sh_n)) ?_
    (repeat' (first | refine wSeq rfl ?_ | refine wBlock rfl ?_ | refine wSkip rfl ?_ | refine wExit rfl ?_ | refine wRet rfl ?_ | refine wCondT rfl rfl ?_ | refine wCondF rfl rfl ?_ | refine wOpsP rfl ?_ | refine wDraw rfl rfl ?_ | simp only [seval, push_cast, ↓reduceIte, ↓bP_some, ↓aP_true, reduceCtorEq]))
    rw [← hal0]
    refine opsP_frm (k := 159) (vs' := [.ref 0 1 0 al.length none, .fn 195 [] [.iptr 1 [[.int .i64 x]] 0 0]]) (H0 := [some (.arr 1 (al.map mrow))]) [1] (by rfl) rfl rfl (by rfl) (by exact sh_c (sh_b closed_mrow rfl) sh_n) (deleteFunc_a (p := fun y => decide (y = x)) (Hc := []) hL (by omega) (fun b y => (isx_v hL).at _)) ?_
    rintro r h' ⟨rfl, q, rfl⟩
    rw [back_one]
    (repeat' (first | refine wSeq rfl ?_ | refine wBlock rfl ?_ | refine wSkip rfl ?_ | refine wExit rfl ?_ | refine wRet rfl ?_ | refine wCondT rfl rfl ?_ | refine wCondF rfl rfl ?_ | refine wOps rfl ?_ | refine wDraw rfl rfl ?_ | simp only [seval, push_cast, ↓reduceIte, ↓bP_some, ↓aP_true, reduceCtorEq]))
    refine qW_s (1, tv) [some 0, none] [] rfl rfl (sh_c (sh_c4 rfl rfl rfl htv.c rfl) (sh_c rfl sh_n)) ⟨(show 1 - 1 < 1 by decide), .inr ⟨rfl, htv⟩⟩
  · (repeat' (first | refine wSeq rfl ?_ | refine wBlock rfl ?_ | refine wSkip rfl ?_ | refine wExit rfl ?_ | refine wRet rfl ?_ | refine wCondT rfl rfl ?_ | refine wCondF rfl rfl ?_ | refine wOps rfl ?_ | refine wDraw rfl rfl ?_ | simp only [seval, push_cast, ↓reduceIte, ↓bP_some, ↓aP_true, reduceCtorEq]))
    exact FnQ.sh [some 0] [] rfl rfl rfl (sh_c (sh_c4 rfl rfl rfl htv.c rfl) sh_n) ⟨⟨x, rfl⟩, tv, htv, rfl⟩
end Go.Proofs.YtncdaicaljpgfaaGreat
