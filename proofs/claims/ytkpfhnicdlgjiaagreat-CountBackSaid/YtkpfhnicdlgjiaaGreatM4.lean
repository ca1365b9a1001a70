/- Calls of closures; results; lists that may be nil. · Outcomes: the reference's comparisons, walked. · Permutations, as the reference tells them. Nothing of the program is named here. · Outcomes: the reference's seats and what outcomes refer to, walked. · Permutations, as the program tells them: sorted, walked. · Outcomes: the reference's renaming of numbers, walked. · Outcomes: the reference's renaming, walked. · Outcomes: the reference's sizes, walked. · Outcomes: seats of candidates, by the program and by the reference, walked. -/
import Derived.Test.YtkpfhnicdlgjiaaGreatM1
import Derived.Test.YtkpfhnicdlgjiaaGreatAlXl
import Derived.Test.YtkpfhnicdlgjiaaGreatM3
import Derived.Test.YtkpfhnicdlgjiaaGreatAlS
import Derived.Test.YtkpfhnicdlgjiaaGreatM2
set_option maxRecDepth 100000
set_option maxHeartbeats 4000000
set_option linter.unusedVariables false
set_option linter.unusedSimpArgs false
namespace Go.Proofs.YtkpfhnicdlgjiaaGreat
/-- A call of whatever is called, in a smaller memory: src are the blocks handed over. -/
theorem opsP_frm {L : Lib} {l : List AI} {K : Env → Heap → Prop} {E : Env} {H : Heap} {d : Option Nat} {anc : List Nat} (src : List Nat) {c : ACallee} {args : List AOpd} {k : Nat} {vs vs' : List V} {H0 : Heap} {Post : V → Heap → Prop} (hv : callee L.G E.get c args = some (.fn k, vs)) (hn : nodupO (src.map some) = true) (hlt : (src.all fun a => Nat.blt a H.length) = true) (hvs : vs.map (V.ren (sgOf H (src.map some) [])) = vs') (hH : H.sh (src.map some) [] = H0) (hf : AFn L (.fn k) vs' H0 Post) (h : ∀ r h', Post r h' → opsP L l K (E.put d (r.ren (outσ H.length src))) (H.back src h')) : opsP L (⟨d, .call c args, none, anc⟩ :: l) K E H := by
  show stepP L ⟨d, .call c args, none, anc⟩ (opsP L l K) E H
  unfold stepP AI.goes
  show CallP L E.get H c args _
  unfold CallP
  rw [hv]
  show AFn L (.fn k) vs H _
  refine AFn.frame (k' := .fn k) src [] rfl hn hlt ?_
  rw [hvs, hH]
  exact hf.mono fun r h' hp => ⟨rfl, h r h' hp⟩
/-- A call as it stands. -/
theorem opsP_all {L : Lib} {l : List AI} {K : Env → Heap → Prop} {E : Env} {H : Heap} {d : Option Nat} {anc : List Nat} {c : ACallee} {args : List AOpd} {k : Nat} {vs : List V} {Post : V → Heap → Prop} (hv : callee L.G E.get c args = some (.fn k, vs)) (hf : AFn L (.fn k) vs H Post) (h : ∀ r h', Post r h' → opsP L l K (E.put d r) h') : opsP L (⟨d, .call c args, none, anc⟩ :: l) K E H := by
  show stepP L ⟨d, .call c args, none, anc⟩ (opsP L l K) E H
  unfold stepP AI.goes
  show CallP L E.get H c args _
  unfold CallP
  rw [hv]
  show AFn L (.fn k) vs H _
  exact hf.mono h
theorem FnQ.at {F : AFunc} {n0 : Nat} {P : V → Heap → Prop} {E : Env} {H : Heap} {r : V} (h : resV E.get H.get F.results = some r) (hP : P r H) : FnQ F n0 P .ret E H := by
  have : ResP F.results n0 P E H := by
    unfold ResP
    rw [h]
    exact .inl hP
  exact this
theorem FnQ.sh {F : AFunc} {n0 : Nat} {P : V → Heap → Prop} {E : Env} {H : Heap} {r0 r : V} {H1 : Heap} (src : List (Option Nat)) (fz : List Nat) (ho : okSh n0 src = true) (h : resV E.get H.get F.results = some r0) (hr : r0.ren (sgOf H src fz) = r) (hH : H.sh src fz = H1) (hP : P r H1) : FnQ F n0 P .ret E H := by
  have : ResP F.results n0 P E H := by
    unfold ResP
    rw [h]
    refine .inr ⟨src, fz, ho, ?_⟩
    rw [hr, hH]; exact hP
  exact this
end Go.Proofs.YtkpfhnicdlgjiaaGreat
set_option maxRecDepth 100000
set_option maxHeartbeats 4000000
set_option linter.unusedVariables false
set_option linter.unusedSimpArgs false
namespace Go.Proofs.YtkpfhnicdlgjiaaGreat
def okI (o : Nl Int) : Prop := o.l.length * 8 ≤ 140737488351232
def okU (o : Nl Int) : Prop := o.l.length * 4 ≤ 140737488351232
def okRt (r : Rt) : Prop := okU r.num ∧ okU r.den
def okRd (d : Rd) : Prop := d.had.l.length * 56 ≤ 140737488351232 ∧ (∀ r ∈ d.had.l, okRt r) ∧ okRt d.lost ∧ okI d.el ∧ okI d.out
def okTi (t : Ti) : Prop := okI t.among
def okO (o : Oc) : Prop := okI o.el ∧ (o.rounds.l.length * 128 ≤ 140737488351232 ∧ ∀ d ∈ o.rounds.l, okRd d) ∧ o.ties.l.length * 32 ≤ 140737488351232 ∧ ∀ t ∈ o.ties.l, okTi t
theorem urow_eq (x : Int) : urow x = [.int .u32 x] := rfl
theorem rtrow_eq (r : Rt) : rtrow r = [.bool r.neg, nlv urow 1 r.num, nlv urow 1 r.den] := rfl
theorem rdrow_eq (d : Rd) : rdrow d = [nlv rtrow 3 d.had, .bool d.lost.neg, nlv urow 1 d.lost.num, nlv urow 1 d.lost.den, nlv mrow 1 d.el, nlv mrow 1 d.out] := rfl
theorem tirow_eq (t : Ti) : tirow t = [nlv mrow 1 t.among, .int .i64 t.chosen] := rfl
attribute [push_cast] urow_eq rtrow_eq rdrow_eq tirow_eq
theorem decide_ff {p : Prop} [Decidable p] (h : ¬ p) : decide p = false := decide_eq_false h
variable {L : Lib} (hL : L.T = tab.get)
include hL
theorem rints_v (s t : Nat) (l m : List Int) (c d : Option Nat) (hs : s = 1 ∨ l = []) (ht : t = 1 ∨ m = []) (hl : l.length < 4611686018427387904) (hm : m.length < 4611686018427387904) : VFn L 9 [tl mrow s l c, tl mrow t m d] (.bool (decide (l = m))) := by
  refine VFn.start (F := T9.1) (by rw [hL]; rfl) rfl rfl rfl ?_
  by_cases hlen : l.length = m.length
  · (repeat' (first | refine wSeq rfl ?_ | refine wBlock rfl ?_ | refine wSkip rfl ?_ | refine wExit rfl ?_ | refine wRet rfl ?_ | refine wCondT rfl rfl ?_ | refine wCondF rfl rfl ?_ | refine wOps rfl ?_ | refine wDraw rfl rfl ?_ | simp only [seval, push_cast, ↓reduceIte, ↓bP_some, ↓aP_true, reduceCtorEq, hlen]))
    refine wCnt rfl 5 l.length (fun _ => []) (fun j => l.take j = m.take j) rfl rfl ?_ ?_
    · intro j hj hI
      obtain ⟨a, ha, _⟩ := get_of hj
      obtain ⟨b, hb, _⟩ := get_of (show j < m.length by omega)
      obtain rfl := size_of hs hj
      obtain rfl := size_of ht (show j < m.length by omega)
      by_cases e : a = b
      · subst e
        (repeat' (first | refine wSeq rfl ?_ | refine wBlock rfl ?_ | refine wSkip rfl ?_ | refine wExit rfl ?_ | refine wRet rfl ?_ | refine wCondT rfl rfl ?_ | refine wCondF rfl rfl ?_ | refine wOps rfl ?_ | refine wDraw rfl rfl ?_ | simp only [seval, push_cast, ↓reduceIte, ↓bP_some, ↓aP_true, reduceCtorEq, iaQ_tl hj, iaQ_tl (show j < m.length by omega), ha, hb, hj, wrap_succ (show j < 9223372036854775807 by omega)]))
        exact qR_n rfl rfl (by rw [take_snoc ha, take_snoc hb, hI])
      · (repeat' (first | refine wSeq rfl ?_ | refine wBlock rfl ?_ | refine wSkip rfl ?_ | refine wExit rfl ?_ | refine wRet rfl ?_ | refine wCondT rfl rfl ?_ | refine wCondF rfl rfl ?_ | refine wOps rfl ?_ | refine wDraw rfl rfl ?_ | simp only [seval, push_cast, ↓reduceIte, ↓bP_some, ↓aP_true, reduceCtorEq, iaQ_tl hj, iaQ_tl (show j < m.length by omega), ha, hb, hj, ne_both e]))
        rw [show decide (l = m) = false from decide_eq_false fun h => e (by subst h; rw [ha] at hb; cases hb; rfl)]
        exact FnQ.ret rfl rfl
    · intro hI
      (repeat' (first | refine wSeq rfl ?_ | refine wBlock rfl ?_ | refine wSkip rfl ?_ | refine wExit rfl ?_ | refine wRet rfl ?_ | refine wCondT rfl rfl ?_ | refine wCondF rfl rfl ?_ | refine wOps rfl ?_ | refine wDraw rfl rfl ?_ | simp only [seval, push_cast, ↓reduceIte, ↓bP_some, ↓aP_true, reduceCtorEq, hlen]))
      rw [show decide (l = m) = true from decide_eq_true (by rwa [take_all, hlen, take_all] at hI)]
      exact FnQ.ret rfl rfl
  · (repeat' (first | refine wSeq rfl ?_ | refine wBlock rfl ?_ | refine wSkip rfl ?_ | refine wExit rfl ?_ | refine wRet rfl ?_ | refine wCondT rfl rfl ?_ | refine wCondF rfl rfl ?_ | refine wOps rfl ?_ | refine wDraw rfl rfl ?_ | simp only [seval, push_cast, ↓reduceIte, ↓bP_some, ↓aP_true, reduceCtorEq, hlen]))
    rw [show decide (l = m) = false from decide_eq_false fun h => hlen (by rw [h])]
    exact FnQ.ret rfl rfl
theorem rints_n (a b : Nl Int) (ha : okI a) (hb : okI b) : VFn L 9 [nlv mrow 1 a, nlv mrow 1 b] (.bool (decide (a.l = b.l))) := by
  obtain ⟨s, c, h1, h2⟩ := nlv_tl (f := mrow) (n := 1) (o := a)
  obtain ⟨t, d, h3, h4⟩ := nlv_tl (f := mrow) (n := 1) (o := b)
  rw [h1, h3]
  unfold okI at ha hb
  exact rints_v hL _ _ _ _ _ _ h2 h4 (by omega) (by omega)
end Go.Proofs.YtkpfhnicdlgjiaaGreat
set_option linter.unusedVariables false
namespace Go.Proofs.YtkpfhnicdlgjiaaGreat
theorem perm_no {p : List Int} (h : ¬ (1 ≤ p.length ∧ p.length ≤ 10)) : turnedL p = false := by
  cases ht : turnedL p with
  | false => rfl
  | true => exact absurd (turned_len ht) h
theorem all_take {α : Type} {p : α → Bool} {l : List α} {j : Nat} {x : α} (h : (l.take j).all p = true) (hx : l[j]? = some x) (h1 : p x = true) : (l.take (j + 1)).all p = true := by
  rw [take_snoc hx, List.all_append, h]
  simp [h1]
theorem all_ff {α : Type} {p : α → Bool} {l : List α} {j : Nat} {x : α} (hx : l[j]? = some x) (h1 : p x = false) : l.all p = false := by
  cases h : l.all p with
  | false => rfl
  | true =>
    have := List.all_eq_true.1 h x (List.mem_of_getElem? hx)
    rw [h1] at this; cases this
theorem ofL_no {l : List Int} {n : Int} {j : Nat} {x : Int} (hx : l[j]? = some x) (h1 : ¬ (0 ≤ x ∧ x < n)) : ofL l n = false := all_ff hx (decide_eq_false h1)
/-- Seats, up to j. -/
theorem seatsGo_snoc (n : Int) : ∀ {l acc : List Int} {r : List Int} {x : Int}, seatsGo n l acc = some r → seatsGo n (l ++ [x]) acc = if x < 0 ∨ n ≤ x then none else some (r.set x.toNat (r.getD x.toNat 0 + 1))
  | [], acc, r, x, h => by
    simp only [seatsGo, Option.some.injEq] at h
    subst h
    simp [seatsGo]
  | c :: l, acc, r, x, h => by
    simp only [seatsGo] at h
    simp only [List.cons_append, seatsGo]
    split at h
    · cases h
    · rename_i hc
      rw [if_neg hc]
      exact seatsGo_snoc n h
theorem seatsGo_none (n : Int) : ∀ {l acc : List Int} {m : List Int}, seatsGo n l acc = none → seatsGo n (l ++ m) acc = none
  | [], acc, m, h => by simp [seatsGo] at h
  | c :: l, acc, m, h => by
    simp only [seatsGo] at h
    simp only [List.cons_append, seatsGo]
    split at h
    · rename_i hc; rw [if_pos hc]
    · rename_i hc
      rw [if_neg hc]
      exact seatsGo_none n h
theorem seatsGo_len (n : Int) : ∀ {l acc r : List Int}, seatsGo n l acc = some r → r.length = acc.length
  | [], acc, r, h => by simp only [seatsGo, Option.some.injEq] at h; subst h; rfl
  | c :: l, acc, r, h => by
    simp only [seatsGo] at h
    split at h
    · cases h
    · rw [seatsGo_len n h]; simp
theorem seatsGo_le (n : Int) : ∀ {l acc r : List Int} {b : Int}, seatsGo n l acc = some r → (∀ x ∈ acc, 0 ≤ x ∧ x ≤ b) → ∀ x ∈ r, 0 ≤ x ∧ x ≤ b + l.length
  | [], acc, r, b, h, ha => by simp only [seatsGo, Option.some.injEq] at h; subst h; simpa using ha
  | c :: l, acc, r, b, h, ha => by
    simp only [seatsGo] at h
    split at h
    · cases h
    · intro x hx
      have := seatsGo_le n h (b := b + 1) (fun y hy => by
        rcases List.mem_or_eq_of_mem_set hy with hy | hy
        · have := ha y hy; omega
        · by_cases hc : c.toNat < acc.length
          · have h1 : acc[c.toNat]? = some acc[c.toNat] := List.getElem?_eq_getElem hc
            have h2 := ha _ (List.mem_of_getElem? h1)
            rw [List.getD_eq_getElem?_getD, h1, Option.getD_some] at hy
            omega
          · rw [List.getD_eq_getElem?_getD, List.getElem?_eq_none (by omega), Option.getD_none] at hy
            cases acc with
            | nil => exact absurd hx (by
                have := seatsGo_len n h
                simp at this
                subst this; simp)
            | cons a acc =>
              have := ha a List.mem_cons_self
              omega) x hx
      simp only [List.length_cons]
      omega
end Go.Proofs.YtkpfhnicdlgjiaaGreat
set_option maxRecDepth 100000
set_option maxHeartbeats 4000000
set_option linter.unusedVariables false
set_option linter.unusedSimpArgs false
namespace Go.Proofs.YtkpfhnicdlgjiaaGreat
theorem blk_closed (σ : Nat → Sg) {B : Blk} (hc : B.closed = true) : Blk.ren σ B = B := by
  cases B with
  | arr s rows =>
    unfold Blk.ren
    dsimp only
    congr 1
    have hr : ∀ r ∈ rows, r.map (V.ren σ) = r := fun r hr => ren_row (List.all_eq_true.1 hc r hr) σ
    calc rows.map (fun r => r.map (V.ren σ)) = rows.map id := List.map_congr_left hr
      _ = rows := List.map_id rows
  | _ => cases hc
theorem sh_k {H : Heap} {σ : Nat → Sg} {a : Nat} {B : Blk} (h : H.get a = some B) (hc : B.closed = true) : ((some a).bind fun a => (H.get a).map (Blk.ren σ)) = some B := by
  show (H.get a).map (Blk.ren σ) = _
  rw [h, Option.map_some, blk_closed _ hc]
variable {L : Lib} (hL : L.T = tab.get)
include hL
end Go.Proofs.YtkpfhnicdlgjiaaGreat
set_option maxRecDepth 100000
set_option maxHeartbeats 4000000
set_option linter.unusedVariables false
set_option linter.unusedSimpArgs false
namespace Go.Proofs.YtkpfhnicdlgjiaaGreat
theorem FnQ.atN {F : AFunc} {n0 : Nat} {P : V → Heap → Prop} {E : Env} {H : Heap} {r : V} (h : resV E.get H.get F.results = some r) (hP : P r H) : FnQ F n0 P .normal E H := by
  have : ResP F.results n0 P E H := by
    unfold ResP
    rw [h]
    exact .inl hP
  exact this
theorem AFn.shift {L : Lib} {k : Tgt} {args : List V} {H : Heap} {P : V → Heap → Prop} (h : AFn L k args H (fun r H' => ∃ src fz, okSh H.length src = true ∧ P (r.ren (sgOf H' src fz)) (H'.sh src fz))) : AFn L k args H P := by
  intro C hC A w β vs hA hd hh hg ha
  refine (h C hC A w β vs hA hd hh hg ha).mono ?_
  rintro e w' ⟨v, r, H', β', h1, ⟨src, fz, hok, hp⟩, h3, h4, h5, h6, h7, h8, h9⟩
  simp only [okSh, Bool.and_eq_true, List.all_eq_true] at hok
  obtain ⟨hn, hall⟩ := hok
  have hid : ∀ i, i < H.length → src[i]? = some (some i) := fun i hi => by
    have := hall i (List.mem_range.2 hi)
    split at this
    · rename_i j hj
      have : j = i := by simpa using this
      rw [hj, this]
    · cases this
  have hlive : ∀ b, Live (shβ src β') (H'.sh src fz).get b → Live β' H'.get b := fun b hb => by
    obtain ⟨k, a, h1, h2, h3⟩ := sh_live (Agr.self H' src fz) hb
    exact ⟨a, h2, h3⟩
  have himm : ∀ b, Imm A w' β' H'.get b → Imm A w' (shβ src β') (H'.sh src fz).get b := fun b hb => ⟨hb.lt, fun h => hb.free (hlive b h), hb.al, hb.arr⟩
  have hren : RenOk C.N w' (Imm A w' (shβ src β') (H'.sh src fz).get) (sgOf H' src fz) β' (shβ src β') := sh_renOk (Agr.self H' src fz) h6 himm (fun a b s rows h1 h2 h3 h4 => by
    have h3' : H'.get a ≠ none := by rw [h3]; simp
    obtain ⟨b', g1, g2, g3⟩ := h6.at' a _ h3
    rw [h4] at g1; cases g1
    refine ⟨g2, fun hl => ?_, hA b (h8 b ⟨a, h3', h4⟩), ?_⟩
    rotate_left
    · obtain ⟨cells, T, fz', q1, _⟩ := g3
      exact ⟨cells, T, fz', q1⟩
    · obtain ⟨k, a', g1, g2, g3⟩ := sh_live (Agr.self H' src fz) hl
      have := h6.inj a a' b h3' g2 h4 g3
      subst this
      exact posIn_none h2 k g1)
  refine ⟨v, _, _, shβ src β', h1, hp, ?_, fun i hi => ?_, fun i hi => ?_, sh_heap (Agr.self H' src fz) hn h6 himm hren, h7.ren himm hren, fun b hb => h8 b (hlive b hb), h9⟩
  · unfold Heap.sh
    rw [List.length_map]
    rcases Nat.eq_zero_or_pos H.length with h0 | h0
    · omega
    · have := (List.getElem?_eq_some_iff.1 (hid (H.length - 1) (by omega))).1; omega
  · have : src[i]? = none := List.getElem?_eq_none (by unfold Heap.sh at hi; simpa using hi)
    simp [shβ, this]
  · rw [shβ_to (hid i hi)]; exact h5 i hi
theorem opsP_any {L : Lib} {l : List AI} {K : Env → Heap → Prop} {E : Env} {H : Heap} {d : Option Nat} {anc : List Nat} {c : ACallee} {args : List AOpd} {k : Tgt} {vs : List V} {Post : V → Heap → Prop} (hv : callee L.G E.get c args = some (k, vs)) (hf : AFn L k vs H Post) (h : ∀ r h', Post r h' → opsP L l K (E.put d r) h') : opsP L (⟨d, .call c args, none, anc⟩ :: l) K E H := by
  show stepP L ⟨d, .call c args, none, anc⟩ (opsP L l K) E H
  unfold stepP AI.goes
  show CallP L E.get H c args _
  unfold CallP
  rw [hv]
  exact hf.mono h
def AC.ps : AC → List Nat
  | .range _ ps _ _ => ps
  | _ => []
theorem wRange {L : Lib} {n0 N : Nat} {Q : Exit → Env → Heap → Prop} {E : Env} {H : Heap} {c : AC} {k : Nat} {fs cs : List V} (h : c.tag = 7) (hg : opval L.G E.get c.c = some (.fn k fs cs)) (hf : AFn L (.fn k) (fs ++ [.yld H.length] ++ cs) (H ++ [some (.loop N E c.ps c.l c.r)]) (fun _ H' => RangeP H.length Q E H')) : SWP L n0 N c Q E H := by
  cases c with
  | range g ps a b => exact SWP.range hg hf
  | ops d _ _ => cases d <;> cases h
  | _ => cases h
section
variable {L : Lib} {n0 nt a : Nat} {ps : List Nat} {ad body : AC} {E0 E : Env} {H : Heap} {Q : Exit → Env → Heap → Prop} {Post : V → Heap → Prop}
theorem roundA_n : RoundA L n0 nt body Q .normal E H = SWP L n0 nt body Q E H := rfl
theorem roundQ_n : RoundQ a nt E0 ps ad body Post .normal E H = (H.get a = none ∧ Post (.bool true) (H.set a (some (.loop nt E0 ps ad body)))) := rfl
end
attribute [push_cast] roundA_n roundQ_n
theorem ren_yld {σ : Nat → Sg} {y : Nat} (h : σ y = .to y) : V.ren σ (.yld y) = .yld y := by simp [V.ren, h]
def accT (r : List Int) : Heap := if r = [] then [] else [some (.arr 1 (r.map mrow))]
theorem ren_tup0 {σ : Nat → Sg} : V.ren σ (.tup []) = .tup [] := rfl
theorem back_one {B0 B1 : Option Blk} {q : List Int} : Heap.back [B0, B1] [1] [some (.arr 1 (q.map mrow))] = [B0, some (.arr 1 (q.map mrow))] := by
  show [B0, Option.map (Blk.ren (outσ 2 [1])) (some (.arr 1 (q.map mrow)))] = _
  rw [Option.map_some, ren_tl closed_mrow]
theorem accT_nil : accT [] = [] := rfl
variable {L : Lib} (hL : L.T = tab.get)
include hL
/-- The iterator of slices.Values, over memory numbered by its rounds. -/
theorem valuesIt_a {p : List Int} {s : Nat} {c : Option Nat} {y : Nat} (hs : s = 1 ∨ p = []) (hl : p.length < 4611686018427387904) (HS : Nat → Heap) (h0 : (HS 0).get 0 = some (.arr 1 [[tl mrow s p c]]))
    (hy : ∀ j x, p[j]? = some x → ∃ HY src, AFn L (.yl y) [.int .i64 x] (HS j) (fun r H' => r = .bool true ∧ H' = HY) ∧ okSh (HS 0).length src = true ∧ sgOf HY src [] y = .to y ∧ HY.sh src [] = HS (j + 1)) : AFn L (.fn 69) [.yld y, .ptr 0 1 0 0] (HS 0) (fun r H' => r = .tup [] ∧ H' = HS p.length) := by
  refine AFn.of_body (F := T69.1) (by rw [hL]; rfl) rfl ?_
  (repeat' (first | refine wSeq rfl ?_ | refine wBlock rfl ?_ | refine wSkip rfl ?_ | refine wExit rfl ?_ | refine wRet rfl ?_ | refine wCondT rfl rfl ?_ | refine wCondF rfl rfl ?_ | refine wOps rfl ?_ | refine wDraw rfl rfl ?_ | simp only [seval, push_cast, ↓reduceIte, ↓bP_some, ↓aP_true, reduceCtorEq, h0]))
  refine wCntH rfl 7 p.length (fun _ => []) HS (fun _ => True) rfl rfl trivial ?_ ?_
  · intro j hj _
    obtain ⟨x, hx, _⟩ := get_of hj
    obtain rfl := size_of hs hj
    have hw := wrap_succ (show j < 9223372036854775807 by omega)
    obtain ⟨HY, src, y1, y2, y3, y4⟩ := hy j x hx
    (repeat' (first | refine wSeq rfl ?_ | refine wBlock rfl ?_ | refine wSkip rfl ?_ | refine wExit rfl ?_ | refine wRet rfl ?_ | refine wCondT rfl rfl ?_ | refine wCondF rfl rfl ?_ | refine wOpsP rfl ?_ | refine wDraw rfl rfl ?_ | simp only [seval, push_cast, ↓reduceIte, ↓bP_some, ↓aP_true, reduceCtorEq, hj, hx, iaQ_tl hj]))
    refine opsP_any rfl y1 ?_
    rintro r h' ⟨rfl, rfl⟩
    (repeat' (first | refine wSeq rfl ?_ | refine wBlock rfl ?_ | refine wSkip rfl ?_ | refine wExit rfl ?_ | refine wRet rfl ?_ | refine wCondT rfl rfl ?_ | refine wCondF rfl rfl ?_ | refine wOps rfl ?_ | refine wDraw rfl rfl ?_ | simp only [seval, push_cast, ↓reduceIte, ↓bP_some, ↓aP_true, reduceCtorEq, hw]))
    refine qR_s src [] y2 ?_ y4 trivial
    simp only [Env.sh, List.map_cons, List.map_nil, ren_yld y3]
    rfl
  · intro _
    (repeat' (first | refine wSeq rfl ?_ | refine wBlock rfl ?_ | refine wSkip rfl ?_ | refine wExit rfl ?_ | refine wRet rfl ?_ | refine wCondT rfl rfl ?_ | refine wCondF rfl rfl ?_ | refine wOps rfl ?_ | refine wDraw rfl rfl ?_ | simp only [seval, push_cast, ↓reduceIte, ↓bP_some, ↓aP_true, reduceCtorEq]))
    refine Eq.mpr (if_pos rfl) ?_
    exact FnQ.atN rfl ⟨rfl, rfl⟩
theorem values_v (s : Nat) (p : List Int) (c : Option Nat) : AFn L (.fn 30) [tl mrow s p c] [] (fun r H' => r = .fn 69 [] [.ptr 0 1 0 0] ∧ H' = [some (.arr 1 [[tl mrow s p c]])]) := by
  refine AFn.of_body (F := T30.1) (by rw [hL]; rfl) rfl ?_
  (repeat' (first | refine wSeq rfl ?_ | refine wBlock rfl ?_ | refine wSkip rfl ?_ | refine wExit rfl ?_ | refine wRet rfl ?_ | refine wCondT rfl rfl ?_ | refine wCondF rfl rfl ?_ | refine wOps rfl ?_ | refine wDraw rfl rfl ?_ | simp only [seval, push_cast, ↓reduceIte, ↓bP_some, ↓aP_true, reduceCtorEq]))
  exact FnQ.at rfl ⟨rfl, rfl⟩
theorem appendSeq_a (s : Nat) (p : List Int) (c : Option Nat) (hs : s = 1 ∨ p = []) (hne : p ≠ []) (hl : p.length ≤ 17592186043904) : AFn L (.fn 143) [.lst 0 [] (some 0), .fn 69 [] [.ptr 0 1 0 0]] [some (.arr 1 [[tl mrow s p c]])] (fun r H' => r = .ref 1 1 0 p.length none ∧ H' = [some (.arr 1 [[tl mrow s p c]]), some (.arr 1 (p.map mrow))]) := by
  refine AFn.of_body (F := T143.1) (by rw [hL]; rfl) rfl ?_
  (repeat' (first | refine wSeq rfl ?_ | refine wBlock rfl ?_ | refine wSkip rfl ?_ | refine wExit rfl ?_ | refine wRet rfl ?_ | refine wCondT rfl rfl ?_ | refine wCondF rfl rfl ?_ | refine wOps rfl ?_ | refine wDraw rfl rfl ?_ | simp only [seval, push_cast, ↓reduceIte, ↓bP_some, ↓aP_true, reduceCtorEq]))
  refine wRange rfl rfl ?_
  refine AFn.mono (valuesIt_a (y := 2) hL hs (by omega) (fun j => some (.arr 1 [[tl mrow s p c]]) :: some (.arr 1 [[accV 3 1 (p.take j)]]) :: some (.loop T143.1.ntmps [(2, V.ptr 1 1 0 0), (6, V.fn 69 [] [V.ptr 0 1 0 0])] T143.1.body.r.l.r.l.ps T143.1.body.r.l.r.l.l T143.1.body.r.l.r.l.r) :: accT (p.take j)) rfl ?_) ?_
  · intro j x hx
    have hj := (List.getElem?_eq_some_iff.1 hx).1
    have hlen : (p.take j).length = j := by rw [List.length_take]; omega
    rw [take_snoc hx]
    generalize p.take j = r at hlen ⊢
    have hput : putArgs [(2, V.ptr 1 1 0 0), (6, V.fn 69 [] [V.ptr 0 1 0 0])] T143.1.body.r.l.r.l.ps [V.int IntKind.i64 x] = [(2, V.ptr 1 1 0 0), (6, V.fn 69 [] [V.ptr 0 1 0 0]), (7, V.int .i64 x)] := rfl
    have hroom : (r.length + 1) * 8 ≤ 140737488355328 := by omega
    by_cases hr : r = []
    · subst hr
      refine ⟨[some (.arr 1 [[tl mrow s p c]]), some (.arr 1 [[.ref 4 1 0 1 none]]), some (.loop T143.1.ntmps [(2, V.ptr 1 1 0 0), (6, V.fn 69 [] [V.ptr 0 1 0 0])] T143.1.body.r.l.r.l.ps T143.1.body.r.l.r.l.l T143.1.body.r.l.r.l.r), some (.arr 1 [[.int .i64 x]]), some (.arr 1 [[.int .i64 x]])], [some 0, some 1, some 2, some 4], AFn.of_round rfl rfl rfl ?_, rfl, rfl, ?_⟩
      · (repeat' (first | refine wSeq rfl ?_ | refine wBlock rfl ?_ | refine wSkip rfl ?_ | refine wExit rfl ?_ | refine wRet rfl ?_ | refine wCondT rfl rfl ?_ | refine wCondF rfl rfl ?_ | refine wOps rfl ?_ | refine wDraw rfl rfl ?_ | simp only [seval, push_cast, ↓reduceIte, ↓bP_some, ↓aP_true, reduceCtorEq, accV_nil, hput, accT_nil]))
      · exact sh_c rfl (sh_c rfl (sh_c rfl (sh_c rfl sh_n)))
    · refine ⟨[some (.arr 1 [[tl mrow s p c]]), some (.arr 1 [[.ref 5 1 0 (r.length + 1) none]]), some (.loop T143.1.ntmps [(2, V.ptr 1 1 0 0), (6, V.fn 69 [] [V.ptr 0 1 0 0])] T143.1.body.r.l.r.l.ps T143.1.body.r.l.r.l.l T143.1.body.r.l.r.l.r), none, some (.arr 1 [[.int .i64 x]]), some (.arr 1 ((r ++ [x]).map mrow))], [some 0, some 1, some 2, some 5], ?_, rfl, rfl, ?_⟩
      · rw [show accT r = [some (.arr 1 (r.map mrow))] from if_neg hr]
        refine AFn.of_round rfl rfl rfl ?_
        (repeat' (first | refine wSeq rfl ?_ | refine wBlock rfl ?_ | refine wSkip rfl ?_ | refine wExit rfl ?_ | refine wRet rfl ?_ | refine wCondT rfl rfl ?_ | refine wCondF rfl rfl ?_ | refine wOps rfl ?_ | refine wDraw rfl rfl ?_ | simp only [seval, push_cast, ↓reduceIte, ↓bP_some, ↓aP_true, reduceCtorEq, accV_cons hr, hroom, hput]))
      · rw [accV_snoc, show accT (r ++ [x]) = [some (.arr 1 ((r ++ [x]).map mrow))] from if_neg (by simp)]
        exact sh_c rfl (sh_c rfl (sh_c rfl (sh_c (sh_b closed_mrow rfl) sh_n)))
  · rintro r h' ⟨rfl, rfl⟩
    rw [take_all]
    rw [show accT p = [some (.arr 1 (p.map mrow))] from if_neg hne, accV_cons hne]
    show qB _ (qN _ _ _ _ (FnQ _ _ _)) .normal _ _
    (repeat' (first | refine wSeq rfl ?_ | refine wBlock rfl ?_ | refine wSkip rfl ?_ | refine wExit rfl ?_ | refine wRet rfl ?_ | refine wCondT rfl rfl ?_ | refine wCondF rfl rfl ?_ | refine wOps rfl ?_ | refine wDraw rfl rfl ?_ | simp only [seval, push_cast, ↓reduceIte, ↓bP_some, ↓aP_true, reduceCtorEq]))
    exact FnQ.sh [some 0, some 3] [] rfl rfl rfl (sh_c rfl (sh_c (sh_b closed_mrow rfl) sh_n)) ⟨rfl, rfl⟩
theorem collect_a (s : Nat) (p : List Int) (c : Option Nat) (hs : s = 1 ∨ p = []) (hne : p ≠ []) (hl : p.length ≤ 17592186043904) : AFn L (.fn 68) [.fn 69 [] [.ptr 0 1 0 0]] [some (.arr 1 [[tl mrow s p c]])] (fun r H' => r = .ref 1 1 0 p.length none ∧ H' = [some (.arr 1 [[tl mrow s p c]]), some (.arr 1 (p.map mrow))]) := by
  refine AFn.of_body (F := T68.1) (by rw [hL]; rfl) rfl ?_
  (repeat' (first | refine wSeq rfl ?_ | refine wBlock rfl ?_ | refine wSkip rfl ?_ | refine wExit rfl ?_ | refine wRet rfl ?_ | refine wCondT rfl rfl ?_ | refine wCondF rfl rfl ?_ | refine wOpsP rfl ?_ | refine wDraw rfl rfl ?_ | simp only [seval, push_cast, ↓reduceIte, ↓bP_some, ↓aP_true, reduceCtorEq]))
  refine opsP_any rfl (appendSeq_a hL s p c hs hne hl) ?_
  rintro r h' ⟨rfl, rfl⟩
  (repeat' (first | refine wSeq rfl ?_ | refine wBlock rfl ?_ | refine wSkip rfl ?_ | refine wExit rfl ?_ | refine wRet rfl ?_ | refine wCondT rfl rfl ?_ | refine wCondF rfl rfl ?_ | refine wOps rfl ?_ | refine wDraw rfl rfl ?_ | simp only [seval, push_cast, ↓reduceIte, ↓bP_some, ↓aP_true, reduceCtorEq]))
  exact FnQ.at rfl ⟨rfl, rfl⟩
/-- The library's Sort, at lists of numbers that are not empty. -/
def SortOk (L : Lib) : Prop := ∀ (l : List Int) (c : Option Nat), 0 < l.length → l.length < 4611686018427387904 → AFn L (.fn 17) [.ref 0 1 0 l.length c] [some (.arr 1 (l.map mrow))] (fun r H' => r = .tup [] ∧ ∃ m : List Int, l.Perm m ∧ m.Pairwise (· ≤ ·) ∧ H' = [some (.arr 1 (m.map mrow))])
theorem len0_v : VFn L 82 [.int .u64 0] (.int .i64 0) := by
  have w1 : ¬ (4294967296 : Int) ≤ 0 := by omega
  have w2 : ¬ (65536 : Int) ≤ 0 := by omega
  have w3 : ¬ (256 : Int) ≤ 0 := by omega
  refine VFn.start (F := T82.1) (by rw [hL]; rfl) rfl rfl rfl ?_
  (repeat' (first | refine wSeq rfl ?_ | refine wBlock rfl ?_ | refine wSkip rfl ?_ | refine wExit rfl ?_ | refine wRet rfl ?_ | refine wCondT rfl rfl ?_ | refine wCondF rfl rfl ?_ | refine wOps rfl ?_ | refine wDraw rfl rfl ?_ | simp only [seval, push_cast, ↓reduceIte, ↓bP_some, ↓aP_true, reduceCtorEq, w1, w2, w3]))
  refine ⟨_, rfl, ?_⟩
  refine ⟨_, rfl, ?_⟩
  refine ⟨_, rfl, ?_⟩
  (repeat' (first | refine wSeq rfl ?_ | refine wBlock rfl ?_ | refine wSkip rfl ?_ | refine wExit rfl ?_ | refine wRet rfl ?_ | refine wCondT rfl rfl ?_ | refine wCondF rfl rfl ?_ | refine wOps rfl ?_ | refine wDraw rfl rfl ?_ | simp only [seval, push_cast, ↓reduceIte, ↓bP_some, ↓aP_true, reduceCtorEq]))
  exact FnQ.ret rfl rfl
theorem len00_v : VFn L 40 [.int .u64 0] (.int .i64 0) := by
  refine VFn.start (F := T40.1) (by rw [hL]; rfl) rfl rfl rfl ?_
  (repeat' (first | refine wSeq rfl ?_ | refine wBlock rfl ?_ | refine wSkip rfl ?_ | refine wExit rfl ?_ | refine wRet rfl ?_ | refine wCondT rfl rfl ?_ | refine wCondF rfl rfl ?_ | refine wOps rfl ?_ | refine wDraw rfl rfl ?_ | refine opsV_call rfl rfl (len0_v hL) ?_ | simp only [seval, push_cast, ↓reduceIte, ↓bP_some, ↓aP_true, reduceCtorEq]))
  exact FnQ.ret rfl rfl
theorem ins0_a (v : V) (H : Heap) : AFn L (.fn 72) [v, .int .i64 0, .int .i64 0] H (fun r H' => r = .tup [] ∧ H' = H) := by
  refine AFn.of_body (F := T72.1) (by rw [hL]; rfl) rfl ?_
  have w1 : IntKind.i64.wrap 1 = 1 := wrap_i64 (by omega) (by omega)
  (repeat' (first | refine wSeq rfl ?_ | refine wBlock rfl ?_ | refine wSkip rfl ?_ | refine wExit rfl ?_ | refine wRet rfl ?_ | refine wCondT rfl rfl ?_ | refine wCondF rfl rfl ?_ | refine wOps rfl ?_ | refine wDraw rfl rfl ?_ | simp only [seval, push_cast, ↓reduceIte, ↓bP_some, ↓aP_true, reduceCtorEq, w1]))
  refine wWhile rfl (fun _ : Unit => [(0, v), (1, .int .i64 0), (2, .int .i64 0), (6, .int .i64 1)]) (fun _ => H) (fun _ => 0) (fun _ => True) () rfl rfl trivial (fun _ _ => ?_)
  have h1 : ¬ ((1 : Int) < 0) := by omega
  (repeat' (first | refine wSeq rfl ?_ | refine wBlock rfl ?_ | refine wSkip rfl ?_ | refine wExit rfl ?_ | refine wRet rfl ?_ | refine wCondT rfl rfl ?_ | refine wCondF rfl rfl ?_ | refine wOps rfl ?_ | refine wDraw rfl rfl ?_ | simp only [seval, push_cast, ↓reduceIte, ↓bP_some, ↓aP_true, reduceCtorEq, h1]))
  refine (if_pos (by rfl)).mpr ?_
  exact FnQ.atN rfl ⟨rfl, rfl⟩
theorem pdq0_a (v : V) (m : Int) (H : Heap) : AFn L (.fn 39) [v, .int .i64 0, .int .i64 0, .int .i64 m] H (fun r H' => r = .tup [] ∧ H' = H) := by
  refine AFn.of_body (F := T39.1) (by rw [hL]; rfl) rfl ?_
  (repeat' (first | refine wSeq rfl ?_ | refine wBlock rfl ?_ | refine wSkip rfl ?_ | refine wExit rfl ?_ | refine wRet rfl ?_ | refine wCondT rfl rfl ?_ | refine wCondF rfl rfl ?_ | refine wOps rfl ?_ | refine wDraw rfl rfl ?_ | simp only [seval, push_cast, ↓reduceIte, ↓bP_some, ↓aP_true, reduceCtorEq]))
  refine wWhile rfl (fun _ : Unit => [(0, v), (1, .int .i64 0), (2, .int .i64 0), (3, .int .i64 m), (8, .bool true), (9, .bool true)]) (fun _ => H) (fun _ => 0) (fun _ => True) () rfl rfl trivial (fun _ _ => ?_)
  (repeat' (first | refine wSeq rfl ?_ | refine wBlock rfl ?_ | refine wSkip rfl ?_ | refine wExit rfl ?_ | refine wRet rfl ?_ | refine wCondT rfl rfl ?_ | refine wCondF rfl rfl ?_ | refine wOpsP rfl ?_ | refine wDraw rfl rfl ?_ | simp only [seval, push_cast, ↓reduceIte, ↓bP_some, ↓aP_true, reduceCtorEq]))
  refine opsP_all rfl (ins0_a hL v H) ?_
  rintro r h' ⟨rfl, rfl⟩
  (repeat' (first | refine wSeq rfl ?_ | refine wBlock rfl ?_ | refine wSkip rfl ?_ | refine wExit rfl ?_ | refine wRet rfl ?_ | refine wCondT rfl rfl ?_ | refine wCondF rfl rfl ?_ | refine wOps rfl ?_ | refine wDraw rfl rfl ?_ | simp only [seval, push_cast, ↓reduceIte, ↓bP_some, ↓aP_true, reduceCtorEq]))
  exact FnQ.at rfl ⟨rfl, rfl⟩
theorem sort0_a (v : V) (hv : lenQ v = some (.int .i64 0)) (H : Heap) : AFn L (.fn 17) [v] H (fun r H' => r = .tup [] ∧ H' = H) := by
  refine AFn.of_body (F := T17.1) (by rw [hL]; rfl) rfl ?_
  (repeat' (first | refine wSeq rfl ?_ | refine wBlock rfl ?_ | refine wSkip rfl ?_ | refine wExit rfl ?_ | refine wRet rfl ?_ | refine wCondT rfl rfl ?_ | refine wCondF rfl rfl ?_ | refine wOpsP rfl ?_ | refine wDraw rfl rfl ?_ | simp only [seval, push_cast, ↓reduceIte, ↓bP_some, ↓aP_true, reduceCtorEq, hv]))
  refine opsP_all rfl ((len00_v hL).at _) ?_
  rintro r h' ⟨rfl, rfl⟩
  (repeat' (first | refine wSeq rfl ?_ | refine wBlock rfl ?_ | refine wSkip rfl ?_ | refine wExit rfl ?_ | refine wRet rfl ?_ | refine wCondT rfl rfl ?_ | refine wCondF rfl rfl ?_ | refine wOpsP rfl ?_ | refine wDraw rfl rfl ?_ | simp only [seval, push_cast, ↓reduceIte, ↓bP_some, ↓aP_true, reduceCtorEq]))
  refine opsP_all rfl (pdq0_a hL v 0 _) ?_
  rintro r h' ⟨rfl, rfl⟩
  (repeat' (first | refine wSeq rfl ?_ | refine wBlock rfl ?_ | refine wSkip rfl ?_ | refine wExit rfl ?_ | refine wRet rfl ?_ | refine wCondT rfl rfl ?_ | refine wCondF rfl rfl ?_ | refine wOps rfl ?_ | refine wDraw rfl rfl ?_ | simp only [seval, push_cast, ↓reduceIte, ↓bP_some, ↓aP_true, reduceCtorEq]))
  exact FnQ.atN rfl ⟨rfl, rfl⟩
theorem appendSeq_0 (s : Nat) (c : Option Nat) : AFn L (.fn 143) [.lst 0 [] (some 0), .fn 69 [] [.ptr 0 1 0 0]] [some (.arr 1 [[tl mrow s [] c]])] (fun r H' => r = .lst 0 [] (some 0) ∧ H' = [some (.arr 1 [[tl mrow s [] c]])]) := by
  refine AFn.of_body (F := T143.1) (by rw [hL]; rfl) rfl ?_
  (repeat' (first | refine wSeq rfl ?_ | refine wBlock rfl ?_ | refine wSkip rfl ?_ | refine wExit rfl ?_ | refine wRet rfl ?_ | refine wCondT rfl rfl ?_ | refine wCondF rfl rfl ?_ | refine wOps rfl ?_ | refine wDraw rfl rfl ?_ | simp only [seval, push_cast, ↓reduceIte, ↓bP_some, ↓aP_true, reduceCtorEq]))
  refine wRange rfl rfl ?_
  refine AFn.mono (valuesIt_a (p := []) (y := 2) hL (.inr rfl) (by decide) (fun j => some (.arr 1 [[tl mrow s [] c]]) :: some (.arr 1 [[accV 3 1 ([] : List Int)]]) :: some (.loop T143.1.ntmps [(2, V.ptr 1 1 0 0), (6, V.fn 69 [] [V.ptr 0 1 0 0])] T143.1.body.r.l.r.l.ps T143.1.body.r.l.r.l.l T143.1.body.r.l.r.l.r) :: []) rfl (fun j x hx => by simp at hx)) ?_
  rintro r h' ⟨rfl, rfl⟩
  show qB _ (qN _ _ _ _ (FnQ _ _ _)) .normal _ _
  (repeat' (first | refine wSeq rfl ?_ | refine wBlock rfl ?_ | refine wSkip rfl ?_ | refine wExit rfl ?_ | refine wRet rfl ?_ | refine wCondT rfl rfl ?_ | refine wCondF rfl rfl ?_ | refine wOps rfl ?_ | refine wDraw rfl rfl ?_ | simp only [seval, push_cast, ↓reduceIte, ↓bP_some, ↓aP_true, reduceCtorEq]))
  exact FnQ.sh [some 0] [] rfl rfl rfl (sh_c rfl sh_n) ⟨rfl, rfl⟩
theorem collect_0 (s : Nat) (c : Option Nat) : AFn L (.fn 68) [.fn 69 [] [.ptr 0 1 0 0]] [some (.arr 1 [[tl mrow s [] c]])] (fun r H' => r = .lst 0 [] (some 0) ∧ H' = [some (.arr 1 [[tl mrow s [] c]])]) := by
  refine AFn.of_body (F := T68.1) (by rw [hL]; rfl) rfl ?_
  (repeat' (first | refine wSeq rfl ?_ | refine wBlock rfl ?_ | refine wSkip rfl ?_ | refine wExit rfl ?_ | refine wRet rfl ?_ | refine wCondT rfl rfl ?_ | refine wCondF rfl rfl ?_ | refine wOpsP rfl ?_ | refine wDraw rfl rfl ?_ | simp only [seval, push_cast, ↓reduceIte, ↓bP_some, ↓aP_true, reduceCtorEq]))
  refine opsP_any rfl (appendSeq_0 hL s c) ?_
  rintro r h' ⟨rfl, rfl⟩
  (repeat' (first | refine wSeq rfl ?_ | refine wBlock rfl ?_ | refine wSkip rfl ?_ | refine wExit rfl ?_ | refine wRet rfl ?_ | refine wCondT rfl rfl ?_ | refine wCondF rfl rfl ?_ | refine wOps rfl ?_ | refine wDraw rfl rfl ?_ | simp only [seval, push_cast, ↓reduceIte, ↓bP_some, ↓aP_true, reduceCtorEq]))
  exact FnQ.at rfl ⟨rfl, rfl⟩
theorem sorted_0 (s : Nat) (c : Option Nat) : AFn L (.fn 29) [.fn 69 [] [.ptr 0 1 0 0]] [some (.arr 1 [[tl mrow s [] c]])] (fun r H' => r = .lst 0 [] (some 0) ∧ H' = [some (.arr 1 [[tl mrow s [] c]])]) := by
  refine AFn.of_body (F := T29.1) (by rw [hL]; rfl) rfl ?_
  (repeat' (first | refine wSeq rfl ?_ | refine wBlock rfl ?_ | refine wSkip rfl ?_ | refine wExit rfl ?_ | refine wRet rfl ?_ | refine wCondT rfl rfl ?_ | refine wCondF rfl rfl ?_ | refine wOpsP rfl ?_ | refine wDraw rfl rfl ?_ | simp only [seval, push_cast, ↓reduceIte, ↓bP_some, ↓aP_true, reduceCtorEq]))
  refine opsP_any rfl (collect_0 hL s c) ?_
  rintro r h' ⟨rfl, rfl⟩
  (repeat' (first | refine wSeq rfl ?_ | refine wBlock rfl ?_ | refine wSkip rfl ?_ | refine wExit rfl ?_ | refine wRet rfl ?_ | refine wCondT rfl rfl ?_ | refine wCondF rfl rfl ?_ | refine wOpsP rfl ?_ | refine wDraw rfl rfl ?_ | simp only [seval, push_cast, ↓reduceIte, ↓bP_some, ↓aP_true, reduceCtorEq]))
  refine opsP_all rfl (sort0_a hL _ rfl _) ?_
  rintro r h' ⟨rfl, rfl⟩
  (repeat' (first | refine wSeq rfl ?_ | refine wBlock rfl ?_ | refine wSkip rfl ?_ | refine wExit rfl ?_ | refine wRet rfl ?_ | refine wCondT rfl rfl ?_ | refine wCondF rfl rfl ?_ | refine wOps rfl ?_ | refine wDraw rfl rfl ?_ | simp only [seval, push_cast, ↓reduceIte, ↓bP_some, ↓aP_true, reduceCtorEq]))
  exact FnQ.at rfl ⟨rfl, rfl⟩
theorem sorted_s (hS : SortOk L) (s : Nat) (p : List Int) (c : Option Nat) (hs : s = 1 ∨ p = []) (hne : p ≠ []) (hl : p.length ≤ 17592186043904) : AFn L (.fn 29) [.fn 69 [] [.ptr 0 1 0 0]] [some (.arr 1 [[tl mrow s p c]])] (fun r H' => r = .ref 1 1 0 p.length none ∧ ∃ m : List Int, m.Perm p ∧ m.Pairwise (· ≤ ·) ∧ H' = [some (.arr 1 [[tl mrow s p c]]), some (.arr 1 (m.map mrow))]) := by
  refine AFn.of_body (F := T29.1) (by rw [hL]; rfl) rfl ?_
  have hp : 0 < p.length := List.length_pos_iff.2 hne
  (repeat' (first | refine wSeq rfl ?_ | refine wBlock rfl ?_ | refine wSkip rfl ?_ | refine wExit rfl ?_ | refine wRet rfl ?_ | refine wCondT rfl rfl ?_ | refine wCondF rfl rfl ?_ | refine wOpsP rfl ?_ | refine wDraw rfl rfl ?_ | simp only [seval, push_cast, ↓reduceIte, ↓bP_some, ↓aP_true, reduceCtorEq]))
  refine opsP_any rfl (collect_a hL s p c hs hne hl) ?_
  rintro r h' ⟨rfl, rfl⟩
  (repeat' (first | refine wSeq rfl ?_ | refine wBlock rfl ?_ | refine wSkip rfl ?_ | refine wExit rfl ?_ | refine wRet rfl ?_ | refine wCondT rfl rfl ?_ | refine wCondF rfl rfl ?_ | refine wOpsP rfl ?_ | refine wDraw rfl rfl ?_ | simp only [seval, push_cast, ↓reduceIte, ↓bP_some, ↓aP_true, reduceCtorEq]))
  refine opsP_frm (k := 17) (vs' := [.ref 0 1 0 p.length none]) (H0 := [some (.arr 1 (p.map mrow))]) [1] rfl rfl rfl rfl (sh_c (sh_b closed_mrow rfl) sh_n) (hS p none hp (by omega)) ?_
  rintro r h' ⟨rfl, q, q1, q2, rfl⟩
  rw [back_one, ren_tup0]
  (repeat' (first | refine wSeq rfl ?_ | refine wBlock rfl ?_ | refine wSkip rfl ?_ | refine wExit rfl ?_ | refine wRet rfl ?_ | refine wCondT rfl rfl ?_ | refine wCondF rfl rfl ?_ | refine wOps rfl ?_ | refine wDraw rfl rfl ?_ | simp only [seval, push_cast, ↓reduceIte, ↓bP_some, ↓aP_true, reduceCtorEq]))
  exact FnQ.at rfl ⟨rfl, q, q1.symm, q2, rfl⟩
theorem turns_v (hS : SortOk L) (s : Nat) (p : List Int) (c : Option Nat) (hs : s = 1 ∨ p = []) (hp : p.length ≤ 17592186043904) : VFn L 12 [tl mrow s p c] (.bool (turnedL p)) := by
  refine VFn.start (F := T12.1) (by rw [hL]; rfl) rfl rfl rfl ?_
  (repeat' (first | refine wSeq rfl ?_ | refine wBlock rfl ?_ | refine wSkip rfl ?_ | refine wExit rfl ?_ | refine wRet rfl ?_ | refine wCondT rfl rfl ?_ | refine wCondF rfl rfl ?_ | refine wOpsP rfl ?_ | refine wDraw rfl rfl ?_ | simp only [seval, push_cast, ↓reduceIte, ↓bP_some, ↓aP_true, reduceCtorEq]))
  refine opsP_any rfl (values_v hL s p c) ?_
  rintro r h' ⟨rfl, rfl⟩
  (repeat' (first | refine wSeq rfl ?_ | refine wBlock rfl ?_ | refine wSkip rfl ?_ | refine wExit rfl ?_ | refine wRet rfl ?_ | refine wCondT rfl rfl ?_ | refine wCondF rfl rfl ?_ | refine wOpsP rfl ?_ | refine wDraw rfl rfl ?_ | simp only [seval, push_cast, ↓reduceIte, ↓bP_some, ↓aP_true, reduceCtorEq]))
  by_cases hne : p = []
  · subst hne
    refine opsP_any rfl (sorted_0 hL s c) ?_
    rintro r h' ⟨rfl, rfl⟩
    (repeat' (first | refine wSeq rfl ?_ | refine wBlock rfl ?_ | refine wSkip rfl ?_ | refine wExit rfl ?_ | refine wRet rfl ?_ | refine wCondT rfl rfl ?_ | refine wCondF rfl rfl ?_ | refine wOps rfl ?_ | refine wDraw rfl rfl ?_ | simp only [seval, push_cast, ↓reduceIte, ↓bP_some, ↓aP_true, reduceCtorEq]))
    refine wCnt rfl 11 0 (fun _ => []) (fun _ => True) rfl trivial (fun j hj => absurd hj (by omega)) (fun _ => ?_)
    (repeat' (first | refine wSeq rfl ?_ | refine wBlock rfl ?_ | refine wSkip rfl ?_ | refine wExit rfl ?_ | refine wRet rfl ?_ | refine wCondT rfl rfl ?_ | refine wCondF rfl rfl ?_ | refine wOps rfl ?_ | refine wDraw rfl rfl ?_ | simp only [seval, push_cast, ↓reduceIte, ↓bP_some, ↓aP_true, reduceCtorEq]))
    rw [show turnedL [] = false from rfl]
    exact FnQ.ret rfl rfl
  · refine opsP_any rfl (sorted_s hL hS s p c hs hne hp) ?_
    rintro r h' ⟨rfl, m, m1, m2, rfl⟩
    (repeat' (first | refine wSeq rfl ?_ | refine wBlock rfl ?_ | refine wSkip rfl ?_ | refine wExit rfl ?_ | refine wRet rfl ?_ | refine wCondT rfl rfl ?_ | refine wCondF rfl rfl ?_ | refine wOps rfl ?_ | refine wDraw rfl rfl ?_ | simp only [seval, push_cast, ↓reduceIte, ↓bP_some, ↓aP_true, reduceCtorEq]))
    refine wCnt rfl 11 p.length (fun _ => []) (fun j => ∀ i : Nat, i < j → m[i]? = some (i : Int)) rfl (fun i h => by omega) ?_ ?_
    · intro j hj hI
      have hw := wrap_succ (show j < 9223372036854775807 by omega)
      obtain ⟨x, hx, _⟩ := get_of (show j < m.length by rw [m1.length_eq]; exact hj)
      by_cases e : x = (j : Int)
      · subst e
        (repeat' (first | refine wSeq rfl ?_ | refine wBlock rfl ?_ | refine wSkip rfl ?_ | refine wExit rfl ?_ | refine wRet rfl ?_ | refine wCondT rfl rfl ?_ | refine wCondF rfl rfl ?_ | refine wOps rfl ?_ | refine wDraw rfl rfl ?_ | simp only [seval, push_cast, ↓reduceIte, ↓bP_some, ↓aP_true, reduceCtorEq, hj, hx, hw]))
        refine qR_n rfl rfl fun i hi => ?_
        by_cases e : i = j
        · subst e; exact hx
        · exact hI i (by omega)
      · (repeat' (first | refine wSeq rfl ?_ | refine wBlock rfl ?_ | refine wSkip rfl ?_ | refine wExit rfl ?_ | refine wRet rfl ?_ | refine wCondT rfl rfl ?_ | refine wCondF rfl rfl ?_ | refine wOps rfl ?_ | refine wDraw rfl rfl ?_ | simp only [seval, push_cast, ↓reduceIte, ↓bP_some, ↓aP_true, reduceCtorEq, hj, hx, hw, e]))
        rw [turned_bad m1 m2 hI hx e]
        exact FnQ.ret rfl rfl
    · intro hI
      by_cases h1 : (1 : Int) ≤ p.length
      · by_cases h2 : (p.length : Int) ≤ 10
        · (repeat' (first | refine wSeq rfl ?_ | refine wBlock rfl ?_ | refine wSkip rfl ?_ | refine wExit rfl ?_ | refine wRet rfl ?_ | refine wCondT rfl rfl ?_ | refine wCondF rfl rfl ?_ | refine wOps rfl ?_ | refine wDraw rfl rfl ?_ | simp only [seval, push_cast, ↓reduceIte, ↓bP_some, ↓aP_true, reduceCtorEq, h1, h2]))
          rw [turned_good m1 (by omega) hI]
          exact FnQ.ret rfl rfl
        · (repeat' (first | refine wSeq rfl ?_ | refine wBlock rfl ?_ | refine wSkip rfl ?_ | refine wExit rfl ?_ | refine wRet rfl ?_ | refine wCondT rfl rfl ?_ | refine wCondF rfl rfl ?_ | refine wOps rfl ?_ | refine wDraw rfl rfl ?_ | simp only [seval, push_cast, ↓reduceIte, ↓bP_some, ↓aP_true, reduceCtorEq, h1, h2]))
          rw [perm_no (by omega)]
          exact FnQ.ret rfl rfl
      · (repeat' (first | refine wSeq rfl ?_ | refine wBlock rfl ?_ | refine wSkip rfl ?_ | refine wExit rfl ?_ | refine wRet rfl ?_ | refine wCondT rfl rfl ?_ | refine wCondF rfl rfl ?_ | refine wOps rfl ?_ | refine wDraw rfl rfl ?_ | simp only [seval, push_cast, ↓reduceIte, ↓bP_some, ↓aP_true, reduceCtorEq, h1]))
        rw [perm_no (by omega)]
        exact FnQ.ret rfl rfl
end Go.Proofs.YtkpfhnicdlgjiaaGreat
set_option maxRecDepth 100000
set_option maxHeartbeats 4000000
set_option linter.unusedVariables false
set_option linter.unusedSimpArgs false
namespace Go.Proofs.YtkpfhnicdlgjiaaGreat
variable {L : Lib} (hL : L.T = tab.get)
include hL
end Go.Proofs.YtkpfhnicdlgjiaaGreat
set_option maxRecDepth 100000
set_option maxHeartbeats 4000000
set_option linter.unusedVariables false
set_option linter.unusedSimpArgs false
namespace Go.Proofs.YtkpfhnicdlgjiaaGreat
theorem ofL_all {l : List Int} {n : Int} (h : ofL l n = true) : ∀ x ∈ l, 0 ≤ x ∧ x < n := ofL_iff.1 h
theorem deep_same {h : HG} {α : Type} {f : α → List V} {n : Nat} {o : Nl α} (k : Nat) : Deep h (k + 1) (nlv f n o) (nlv f n o) := by cases o <;> exact .inl rfl
theorem deep_tup2 {h : HG} {n : Nat} {a a' b b' : V} (h1 : Deep h n a a') (h2 : Deep h n b b') : Deep h (n + 1) (.tup [a, b]) (.tup [a', b']) :=
  ⟨[a', b'], rfl, rfl, deep_cells (fun p hp => by
    simp only [List.zip_cons_cons, List.zip_nil_right, List.mem_cons, List.not_mem_nil, or_false] at hp
    rcases hp with rfl | rfl
    · exact h1
    · exact h2)⟩
theorem deep_agg3 {h : HG} {n : Nat} {a a' b b' c c' : V} (h1 : Deep h n a a') (h2 : Deep h n b b') (h3 : Deep h n c c') : Deep h (n + 1) (.agg [a, b, c]) (.agg [a', b', c']) :=
  ⟨[a', b', c'], rfl, rfl, deep_cells (fun p hp => by
    simp only [List.zip_cons_cons, List.zip_nil_right, List.mem_cons, List.not_mem_nil, or_false] at hp
    rcases hp with rfl | rfl | rfl
    · exact h1
    · exact h2
    · exact h3)⟩
variable {L : Lib} (hL : L.T = tab.get)
include hL
end Go.Proofs.YtkpfhnicdlgjiaaGreat
set_option maxRecDepth 100000
set_option maxHeartbeats 4000000
set_option linter.unusedVariables false
set_option linter.unusedSimpArgs false
namespace Go.Proofs.YtkpfhnicdlgjiaaGreat
def mn (x y : Int) : Int := if y < x then y else x
theorem mn_le (x y : Int) : mn x y ≤ y := by unfold mn; split <;> omega
theorem mn_ge {x y : Int} (hx : 0 ≤ x) (hy : 0 ≤ y) : 0 ≤ mn x y := by unfold mn; split <;> omega
def lenI {α : Type} (o : Nl α) : Int := o.l.length
theorem lenI_ge {α : Type} (o : Nl α) : 0 ≤ lenI o := Int.natCast_nonneg _
def gA (d : Rd) (n : Int) : Int := n + mn (lenI d.had) 300 + mn (lenI d.el) 300 + mn (lenI d.out) 300 + mn (lenI d.lost.num) 300 + mn (lenI d.lost.den) 300
def gB (r : Rt) (n : Int) : Int := n + mn (lenI r.num) 3000 + mn (lenI r.den) 3000
def gH (l : List Rt) (n : Int) : Int := l.foldl (fun n r => gB r n) n
def gR (l : List Rd) (n : Int) : Int := l.foldl (fun n d => gH (d.had.l.take 300) (gA d n)) n
def gT (l : List Ti) (n : Int) : Int := l.foldl (fun n t => n + mn (lenI t.among) 300) n
def greatO (o : Oc) : Bool := if 200 < lenI o.el + lenI o.rounds + lenI o.ties then true else decide (3000 < gT o.ties.l (gR o.rounds.l (lenI o.el + lenI o.rounds + lenI o.ties)))
theorem gA_b (d : Rd) {n : Int} (h : 0 ≤ n) : 0 ≤ gA d n ∧ gA d n ≤ n + 1500 := by
  have h1 := mn_ge (lenI_ge d.had) (show (0 : Int) ≤ 300 by omega)
  have h2 := mn_ge (lenI_ge d.el) (show (0 : Int) ≤ 300 by omega)
  have h3 := mn_ge (lenI_ge d.out) (show (0 : Int) ≤ 300 by omega)
  have h4 := mn_ge (lenI_ge d.lost.num) (show (0 : Int) ≤ 300 by omega)
  have h5 := mn_ge (lenI_ge d.lost.den) (show (0 : Int) ≤ 300 by omega)
  have k1 := mn_le (lenI d.had) 300
  have k2 := mn_le (lenI d.el) 300
  have k3 := mn_le (lenI d.out) 300
  have k4 := mn_le (lenI d.lost.num) 300
  have k5 := mn_le (lenI d.lost.den) 300
  unfold gA; omega
theorem gB_b (r : Rt) {n : Int} (h : 0 ≤ n) : 0 ≤ gB r n ∧ gB r n ≤ n + 6000 := by
  have h1 := mn_ge (lenI_ge r.num) (show (0 : Int) ≤ 3000 by omega)
  have h2 := mn_ge (lenI_ge r.den) (show (0 : Int) ≤ 3000 by omega)
  have k1 := mn_le (lenI r.num) 3000
  have k2 := mn_le (lenI r.den) 3000
  unfold gB; omega
theorem gH_b : ∀ (l : List Rt) {n : Int}, 0 ≤ n → 0 ≤ gH l n ∧ gH l n ≤ n + 6000 * l.length
  | [], n, h => ⟨h, by simp [gH]⟩
  | r :: l, n, h => by
    have h1 := gB_b r h
    have h2 := gH_b l h1.1
    have e : gH (r :: l) n = gH l (gB r n) := rfl
    rw [e]
    simp only [List.length_cons]
    omega
theorem gR_b : ∀ (l : List Rd) {n : Int}, 0 ≤ n → 0 ≤ gR l n ∧ gR l n ≤ n + 1801500 * l.length
  | [], n, h => ⟨h, by simp [gR]⟩
  | d :: l, n, h => by
    have h1 := gA_b d h
    have h2 := gH_b (d.had.l.take 300) h1.1
    have h3 := gR_b l h2.1
    have e : gR (d :: l) n = gR l (gH (d.had.l.take 300) (gA d n)) := rfl
    have h4 : (d.had.l.take 300).length ≤ 300 := by simp; omega
    rw [e]
    simp only [List.length_cons]
    omega
theorem gT_b : ∀ (l : List Ti) {n : Int}, 0 ≤ n → 0 ≤ gT l n ∧ gT l n ≤ n + 300 * l.length
  | [], n, h => ⟨h, by simp [gT]⟩
  | t :: l, n, h => by
    have h1 := mn_ge (lenI_ge t.among) (show (0 : Int) ≤ 300 by omega)
    have k1 := mn_le (lenI t.among) 300
    have h3 := gT_b l (show 0 ≤ n + mn (lenI t.among) 300 by omega)
    have e : gT (t :: l) n = gT l (n + mn (lenI t.among) 300) := rfl
    rw [e]
    simp only [List.length_cons]
    omega
theorem gH_snoc {l : List Rt} {j : Nat} {x : Rt} {n : Int} (h : l[j]? = some x) : gH (l.take (j + 1)) n = gB x (gH (l.take j) n) := by rw [take_snoc h]; simp [gH]
theorem gR_snoc {l : List Rd} {j : Nat} {x : Rd} {n : Int} (h : l[j]? = some x) : gR (l.take (j + 1)) n = gH (x.had.l.take 300) (gA x (gR (l.take j) n)) := by rw [take_snoc h]; simp [gR]
theorem gT_snoc {l : List Ti} {j : Nat} {x : Ti} {n : Int} (h : l[j]? = some x) : gT (l.take (j + 1)) n = gT (l.take j) n + mn (lenI x.among) 300 := by rw [take_snoc h]; simp [gT]
theorem mn_eq (x y : Int) : (if y < x then y else x) = mn x y := rfl
theorem lenI_eq {α : Type} (o : Nl α) : ((o.l.length : Nat) : Int) = lenI o := rfl
variable {L : Lib} (hL : L.T = tab.get)
include hL
theorem great_v (o : Oc) (ho : okO o) : VFn L 5 [ocv o] (.bool (greatO o)) := by
  refine VFn.start (F := T5.1) (by rw [hL]; rfl) rfl (by simp [V.closeds, closed_ocv]) rfl ?_
  obtain ⟨b1, ⟨b2, _⟩, b3, _⟩ := ho
  unfold okI at b1
  have p1 := lenI_ge o.el
  have p2 := lenI_ge o.rounds
  have p3 := lenI_ge o.ties
  have q1 : lenI o.el ≤ 140737488351232 := by unfold lenI; omega
  have q2 : lenI o.rounds ≤ 140737488351232 := by unfold lenI; omega
  have q3 : lenI o.ties ≤ 140737488351232 := by unfold lenI; omega
  have w1 : IntKind.i64.wrap (lenI o.el + lenI o.rounds) = lenI o.el + lenI o.rounds := wrap_i64 (by omega) (by omega)
  have w2 : IntKind.i64.wrap (lenI o.el + lenI o.rounds + lenI o.ties) = lenI o.el + lenI o.rounds + lenI o.ties := wrap_i64 (by omega) (by omega)
  by_cases hg : 200 < lenI o.el + lenI o.rounds + lenI o.ties
  · (repeat' (first | refine wSeq rfl ?_ | refine wBlock rfl ?_ | refine wSkip rfl ?_ | refine wExit rfl ?_ | refine wRet rfl ?_ | refine wCondT rfl rfl ?_ | refine wCondF rfl rfl ?_ | refine wOps rfl ?_ | refine wDraw rfl rfl ?_ | simp only [seval, push_cast, ↓reduceIte, ↓bP_some, ↓aP_true, reduceCtorEq, ocv, occs, lenI_eq, w1, w2, hg]))
    rw [show greatO o = true from if_pos hg]
    exact FnQ.ret rfl rfl
  · (repeat' (first | refine wSeq rfl ?_ | refine wBlock rfl ?_ | refine wSkip rfl ?_ | refine wExit rfl ?_ | refine wRet rfl ?_ | refine wCondT rfl rfl ?_ | refine wCondF rfl rfl ?_ | refine wOps rfl ?_ | refine wDraw rfl rfl ?_ | simp only [seval, push_cast, ↓reduceIte, ↓bP_some, ↓aP_true, reduceCtorEq, ocv, occs, lenI_eq, w1, w2, hg]))
    generalize hS : lenI o.el + lenI o.rounds + lenI o.ties = S at hg
    refine wCnt rfl 4 o.rounds.l.length (fun j => [(3, .int .i64 (gR (o.rounds.l.take j) S))]) (fun _ => True) rfl trivial ?_ ?_
    · intro j hj _
      obtain ⟨d, hd, _⟩ := get_of hj
      have hS0 : 0 ≤ S := by omega
      have hn := gR_b (o.rounds.l.take j) hS0
      have hlj : (o.rounds.l.take j).length ≤ 200 := by
        have : lenI o.rounds ≤ 200 := by omega
        unfold lenI at this
        rw [List.length_take]; omega
      have hj2 : j < 200 := by
        have : lenI o.rounds ≤ 200 := by omega
        unfold lenI at this; omega
      have gs := gR_snoc (n := S) hd
      generalize gR (o.rounds.l.take j) S = n at hn gs ⊢
      have c1 := mn_ge (lenI_ge d.had) (show (0 : Int) ≤ 300 by omega)
      have c2 := mn_ge (lenI_ge d.el) (show (0 : Int) ≤ 300 by omega)
      have c3 := mn_ge (lenI_ge d.out) (show (0 : Int) ≤ 300 by omega)
      have c4 := mn_ge (lenI_ge d.lost.num) (show (0 : Int) ≤ 300 by omega)
      have c5 := mn_ge (lenI_ge d.lost.den) (show (0 : Int) ≤ 300 by omega)
      have k1 := mn_le (lenI d.had) 300
      have k2 := mn_le (lenI d.el) 300
      have k3 := mn_le (lenI d.out) 300
      have k4 := mn_le (lenI d.lost.num) 300
      have k5 := mn_le (lenI d.lost.den) 300
      have v1 : IntKind.i64.wrap (n + mn (lenI d.had) 300) = n + mn (lenI d.had) 300 := wrap_i64 (by omega) (by omega)
      have v2 : IntKind.i64.wrap (n + mn (lenI d.had) 300 + mn (lenI d.el) 300) = n + mn (lenI d.had) 300 + mn (lenI d.el) 300 := wrap_i64 (by omega) (by omega)
      have v3 : IntKind.i64.wrap (n + mn (lenI d.had) 300 + mn (lenI d.el) 300 + mn (lenI d.out) 300) = n + mn (lenI d.had) 300 + mn (lenI d.el) 300 + mn (lenI d.out) 300 := wrap_i64 (by omega) (by omega)
      have v4 : IntKind.i64.wrap (n + mn (lenI d.had) 300 + mn (lenI d.el) 300 + mn (lenI d.out) 300 + mn (lenI d.lost.num) 300) = n + mn (lenI d.had) 300 + mn (lenI d.el) 300 + mn (lenI d.out) 300 + mn (lenI d.lost.num) 300 := wrap_i64 (by omega) (by omega)
      have v5 : IntKind.i64.wrap (n + mn (lenI d.had) 300 + mn (lenI d.el) 300 + mn (lenI d.out) 300 + mn (lenI d.lost.num) 300 + mn (lenI d.lost.den) 300) = gA d n := wrap_i64 (by omega) (by omega)
      have hjI : (j : Int) < lenI o.rounds := by unfold lenI; omega
      (repeat' (first | refine wSeq rfl ?_ | refine wBlock rfl ?_ | refine wSkip rfl ?_ | refine wExit rfl ?_ | refine wRet rfl ?_ | refine wCondT rfl rfl ?_ | refine wCondF rfl rfl ?_ | refine wOps rfl ?_ | refine wDraw rfl rfl ?_ | simp only [seval, push_cast, ↓reduceIte, ↓bP_some, ↓aP_true, reduceCtorEq, iaQ_nlv hj, hd, hj, hjI, mn_eq, lenI_eq, v1, v2, v3, v4, v5]))
      have hA := gA_b d hn.1
      generalize gA d n = m at hA gs ⊢
      have hN : min d.had.l.length 300 ≤ d.had.l.length := Nat.min_le_left _ _
      refine wCnt rfl 5 (min d.had.l.length 300) (fun k => [(3, .int .i64 (gH (d.had.l.take k) m))]) (fun _ => True) rfl trivial ?_ ?_
      · intro k hk _
        have hk1 : k < d.had.l.length := by omega
        have hk2 : (k : Int) < 300 := by omega
        obtain ⟨r, hr, _⟩ := get_of hk1
        have hh := gH_b (d.had.l.take k) hA.1
        have hl2 : (d.had.l.take k).length ≤ 300 := by rw [List.length_take]; omega
        have g2 := gH_snoc (n := m) hr
        generalize gH (d.had.l.take k) m = z at hh g2 ⊢
        have c1 := mn_ge (lenI_ge r.num) (show (0 : Int) ≤ 3000 by omega)
        have c2 := mn_ge (lenI_ge r.den) (show (0 : Int) ≤ 3000 by omega)
        have k1 := mn_le (lenI r.num) 3000
        have k2 := mn_le (lenI r.den) 3000
        have u1 : IntKind.i64.wrap (z + mn (lenI r.num) 3000) = z + mn (lenI r.num) 3000 := wrap_i64 (by omega) (by omega)
        have u2 : IntKind.i64.wrap (z + mn (lenI r.num) 3000 + mn (lenI r.den) 3000) = gB r z := wrap_i64 (by omega) (by omega)
        have hkI : (k : Int) < lenI d.had := by unfold lenI; omega
        (repeat' (first | refine wSeq rfl ?_ | refine wBlock rfl ?_ | refine wSkip rfl ?_ | refine wExit rfl ?_ | refine wRet rfl ?_ | refine wCondT rfl rfl ?_ | refine wCondF rfl rfl ?_ | refine wOps rfl ?_ | refine wDraw rfl rfl ?_ | simp only [seval, push_cast, ↓reduceIte, ↓bP_some, ↓aP_true, reduceCtorEq, iaQ_nlv hj, hd, hj, iaQ_nlv hk1, hr, hk1, hk2, hkI, mn_eq, lenI_eq, u1, u2, wrap_succ (show k < 9223372036854775807 by omega)]))
        exact qR_n (by rw [g2]) rfl trivial
      · intro _
        have wj := wrap_succ (show j < 9223372036854775807 by omega)
        by_cases hq : d.had.l.length ≤ 300
        · have e1 : min d.had.l.length 300 = d.had.l.length := Nat.min_eq_left hq
          have e2 : d.had.l.take 300 = d.had.l.take d.had.l.length := by rw [List.take_of_length_le hq, take_all]
          rw [e1]
          rw [e2] at gs
          (repeat' (first | refine wSeq rfl ?_ | refine wBlock rfl ?_ | refine wSkip rfl ?_ | refine wExit rfl ?_ | refine wRet rfl ?_ | refine wCondT rfl rfl ?_ | refine wCondF rfl rfl ?_ | refine wOps rfl ?_ | refine wDraw rfl rfl ?_ | simp only [seval, push_cast, ↓reduceIte, ↓bP_some, ↓aP_true, reduceCtorEq, iaQ_nlv hj, hd, hj, wj]))
          exact qR_n (by rw [gs]) rfl trivial
        · have e1 : min d.had.l.length 300 = 300 := Nat.min_eq_right (by omega)
          have h3 : 300 < d.had.l.length := by omega
          have h4 : ¬ (((300 : Nat) : Int) < 300) := by omega
          rw [e1]
          have h5 : (300 : Int) < (d.had.l.length : Int) := by omega
          have h6 : ¬ ((300 : Int) < 300) := by omega
          (repeat' (first | refine wSeq rfl ?_ | refine wBlock rfl ?_ | refine wSkip rfl ?_ | refine wExit rfl ?_ | refine wRet rfl ?_ | refine wCondT rfl rfl ?_ | refine wCondF rfl rfl ?_ | refine wOps rfl ?_ | refine wDraw rfl rfl ?_ | simp only [seval, push_cast, ↓reduceIte, ↓bP_some, ↓aP_true, reduceCtorEq, iaQ_nlv hj, hd, hj, h3, h4, h5, h6, wj]))
          exact qR_n (by rw [gs]) rfl trivial
    · intro _
      rw [take_all]
      have hS0 : 0 ≤ S := by omega
      have hn := gR_b o.rounds.l hS0
      have hl1 : (o.rounds.l.length : Int) ≤ 200 := by
        have : lenI o.rounds ≤ 200 := by omega
        exact this
      have hl2 : (o.ties.l.length : Int) ≤ 200 := by
        have : lenI o.ties ≤ 200 := by omega
        exact this
      rw [show greatO o = decide (3000 < gT o.ties.l (gR o.rounds.l S)) by unfold greatO; rw [hS, if_neg hg]]
      generalize gR o.rounds.l S = m at hn ⊢
      (repeat' (first | refine wSeq rfl ?_ | refine wBlock rfl ?_ | refine wSkip rfl ?_ | refine wExit rfl ?_ | refine wRet rfl ?_ | refine wCondT rfl rfl ?_ | refine wCondF rfl rfl ?_ | refine wOps rfl ?_ | refine wDraw rfl rfl ?_ | simp only [seval, push_cast, ↓reduceIte, ↓bP_some, ↓aP_true, reduceCtorEq]))
      refine wCnt rfl 6 o.ties.l.length (fun j => [(3, .int .i64 (gT (o.ties.l.take j) m))]) (fun _ => True) rfl trivial ?_ ?_
      · intro j hj _
        obtain ⟨t, ht, _⟩ := get_of hj
        have hh := gT_b (o.ties.l.take j) hn.1
        have hl3 : (o.ties.l.take j).length ≤ 200 := by rw [List.length_take]; omega
        have g2 := gT_snoc (n := m) ht
        generalize gT (o.ties.l.take j) m = z at hh g2 ⊢
        have c1 := mn_ge (lenI_ge t.among) (show (0 : Int) ≤ 300 by omega)
        have k1 := mn_le (lenI t.among) 300
        have u1 : IntKind.i64.wrap (z + mn (lenI t.among) 300) = z + mn (lenI t.among) 300 := wrap_i64 (by omega) (by omega)
        have hjI : (j : Int) < lenI o.ties := by unfold lenI; omega
        (repeat' (first | refine wSeq rfl ?_ | refine wBlock rfl ?_ | refine wSkip rfl ?_ | refine wExit rfl ?_ | refine wRet rfl ?_ | refine wCondT rfl rfl ?_ | refine wCondF rfl rfl ?_ | refine wOps rfl ?_ | refine wDraw rfl rfl ?_ | simp only [seval, push_cast, ↓reduceIte, ↓bP_some, ↓aP_true, reduceCtorEq, iaQ_nlv hj, ht, hj, hjI, mn_eq, lenI_eq, u1, wrap_succ (show j < 9223372036854775807 by omega)]))
        exact qR_n (by rw [g2]) rfl trivial
      · intro _
        rw [take_all]
        (repeat' (first | refine wSeq rfl ?_ | refine wBlock rfl ?_ | refine wSkip rfl ?_ | refine wExit rfl ?_ | refine wRet rfl ?_ | refine wCondT rfl rfl ?_ | refine wCondF rfl rfl ?_ | refine wOps rfl ?_ | refine wDraw rfl rfl ?_ | simp only [seval, push_cast, ↓reduceIte, ↓bP_some, ↓aP_true, reduceCtorEq]))
        exact FnQ.ret rfl rfl
end Go.Proofs.YtkpfhnicdlgjiaaGreat
set_option maxRecDepth 100000
set_option maxHeartbeats 4000000
set_option linter.unusedVariables false
set_option linter.unusedSimpArgs false
namespace Go.Proofs.YtkpfhnicdlgjiaaGreat
theorem row_set {α : Type} {f : α → List V} {l : List α} {i : Nat} {x : α} : (l.map f).set i (f x) = (l.set i x).map f := (List.map_set).symm
theorem mrow_set1 {l : List Int} {i : Nat} {x : Int} : (l.map mrow).set i [.int .i64 x] = (l.set i x).map mrow := row_set (f := mrow)
def seatsV (el : List Int) (n : Int) : V := match seatsL el n with | none => .tup [.lst 0 [] (some 0), .int .i64 2] | some r => .tup [tl mrow 1 r (some r.length), .int .i64 0]
theorem frz_cap {α : Type} {f : α → List V} (hf : ∀ x, (f x).all V.closed = true) {H : Heap} {fz : List Nat} {a n : Nat} {l : List α} {m : Nat} {c : Option Nat} (hm : l.length = m) (hn : 0 < n) (ha : fz.contains a = true) (h : H.get a = some (.arr n (l.map f))) : V.ren (sgOf H [] fz) (.ref a n 0 m c) = tl f n l c := by
  subst hm; exact frz_ref hf hn ha h
variable {L : Lib} (hL : L.T = tab.get)
include hL
theorem seats_v (o : Oc) (ho : okO o) (n : Int) : VFn L 8 [ocv o, .int .i64 n] (seatsV o.el.l n) := by
  refine VFn.start (F := T8.1) (by rw [hL]; rfl) rfl (by simp [V.closeds, closed_ocv, V.closed]) (by unfold seatsV; split <;> rfl) ?_
  obtain ⟨b1, _⟩ := ho
  unfold okI at b1
  by_cases h1 : n < 1
  · (repeat' (first | refine wSeq rfl ?_ | refine wBlock rfl ?_ | refine wSkip rfl ?_ | refine wExit rfl ?_ | refine wRet rfl ?_ | refine wCondT rfl rfl ?_ | refine wCondF rfl rfl ?_ | refine wOps rfl ?_ | refine wDraw rfl rfl ?_ | simp only [seval, push_cast, ↓reduceIte, ↓bP_some, ↓aP_true, reduceCtorEq, ocv, occs, h1]))
    rw [show seatsV o.el.l n = .tup [.lst 0 [] (some 0), .int .i64 2] by unfold seatsV seatsL; rw [if_pos (.inl h1)]]
    exact FnQ.ret rfl rfl
  by_cases h2 : 10 < n
  · (repeat' (first | refine wSeq rfl ?_ | refine wBlock rfl ?_ | refine wSkip rfl ?_ | refine wExit rfl ?_ | refine wRet rfl ?_ | refine wCondT rfl rfl ?_ | refine wCondF rfl rfl ?_ | refine wOps rfl ?_ | refine wDraw rfl rfl ?_ | simp only [seval, push_cast, ↓reduceIte, ↓bP_some, ↓aP_true, reduceCtorEq, ocv, occs, h1, h2]))
    rw [show seatsV o.el.l n = .tup [.lst 0 [] (some 0), .int .i64 2] by unfold seatsV seatsL; rw [if_pos (.inr h2)]]
    exact FnQ.ret rfl rfl
  obtain ⟨m, rfl⟩ : ∃ m : Nat, n = m := ⟨n.toNat, by omega⟩
  have e0 : seatsL o.el.l m = seatsGo m o.el.l (List.replicate m 0) := by unfold seatsL; rw [if_neg (by omega), Int.toNat_natCast]
  have q1 : m ≤ m ∧ m * 8 ≤ 140737488355328 ∧ m < 9223372036854775808 ∧ ([V.int IntKind.i64 0] : List V).length = 1 := ⟨Nat.le_refl _, by omega, by omega, rfl⟩
  have q2 : m * 8 ≤ 140737488355328 := by omega
  have q3 : m < 9223372036854775808 := by omega
  (repeat' (first | refine wSeq rfl ?_ | refine wBlock rfl ?_ | refine wSkip rfl ?_ | refine wExit rfl ?_ | refine wRet rfl ?_ | refine wCondT rfl rfl ?_ | refine wCondF rfl rfl ?_ | refine wOps rfl ?_ | refine wDraw rfl rfl ?_ | simp only [seval, push_cast, ↓reduceIte, ↓bP_some, ↓aP_true, reduceCtorEq, ocv, occs, h1, h2, q1, q2, q3, List.length_singleton]))
  refine wCntH rfl 20 o.el.l.length (fun _ => []) (fun j => [some (.arr 3 [[nlv mrow 1 o.el, nlv rdrow 6 o.rounds, nlv tirow 2 o.ties]]), some (.arr 1 (((seatsGo m (o.el.l.take j) (List.replicate m 0)).getD []).map mrow))]) (fun j => ∃ r, seatsGo m (o.el.l.take j) (List.replicate m 0) = some r) rfl ?_ ⟨_, rfl⟩ ?_ ?_
  · rw [List.take_zero, seatsGo, Option.getD_some, List.map_replicate]; rfl
  · rintro j hj ⟨r, hr⟩
    obtain ⟨a, ha, _⟩ := get_of hj
    have w := wrap_succ (show j < 9223372036854775807 by omega)
    have hlen := seatsGo_len m hr
    rw [List.length_replicate] at hlen
    have hle := seatsGo_le m hr (b := 0) (fun x hx => by rw [List.eq_of_mem_replicate hx]; omega)
    have hs := seatsGo_snoc (x := a) m hr
    have ht := take_snoc ha
    rw [hr, Option.getD_some]
    by_cases e1 : a < 0
    · rw [if_pos (.inl e1), ← ht] at hs
      (repeat' (first | refine wSeq rfl ?_ | refine wBlock rfl ?_ | refine wSkip rfl ?_ | refine wExit rfl ?_ | refine wRet rfl ?_ | refine wCondT rfl rfl ?_ | refine wCondF rfl rfl ?_ | refine wOps rfl ?_ | refine wDraw rfl rfl ?_ | simp only [seval, push_cast, ↓reduceIte, ↓bP_some, ↓aP_true, reduceCtorEq, iaQ_nlv hj, ha, hj, e1]))
      have := seatsGo_none m (m := o.el.l.drop (j + 1)) hs
      rw [List.take_append_drop] at this
      rw [show seatsV o.el.l m = .tup [.lst 0 [] (some 0), .int .i64 2] by unfold seatsV; rw [e0, this]]
      exact FnQ.ret rfl rfl
    by_cases e2 : (m : Int) ≤ a
    · rw [if_pos (.inr e2), ← ht] at hs
      (repeat' (first | refine wSeq rfl ?_ | refine wBlock rfl ?_ | refine wSkip rfl ?_ | refine wExit rfl ?_ | refine wRet rfl ?_ | refine wCondT rfl rfl ?_ | refine wCondF rfl rfl ?_ | refine wOps rfl ?_ | refine wDraw rfl rfl ?_ | simp only [seval, push_cast, ↓reduceIte, ↓bP_some, ↓aP_true, reduceCtorEq, iaQ_nlv hj, ha, hj, e1, e2]))
      have := seatsGo_none m (m := o.el.l.drop (j + 1)) hs
      rw [List.take_append_drop] at this
      rw [show seatsV o.el.l m = .tup [.lst 0 [] (some 0), .int .i64 2] by unfold seatsV; rw [e0, this]]
      exact FnQ.ret rfl rfl
    obtain ⟨c, rfl⟩ : ∃ c : Nat, a = c := ⟨a.toNat, by omega⟩
    rw [if_neg (by omega), ← ht, Int.toNat_natCast] at hs
    have hc : c < m := by omega
    obtain ⟨v, hv, mv⟩ := get_of (show c < r.length by omega)
    have hvb := hle v mv
    have hv' : r.getD c 0 = v := by simp [hv]
    rw [hv'] at hs
    have hl3 : (o.el.l.take j).length ≤ j := by rw [List.length_take]; omega
    have wv : IntKind.i64.wrap (v + 1) = v + 1 := wrap_i64 (by omega) (by omega)
    (repeat' (first | refine wSeq rfl ?_ | refine wBlock rfl ?_ | refine wSkip rfl ?_ | refine wExit rfl ?_ | refine wRet rfl ?_ | refine wCondT rfl rfl ?_ | refine wCondF rfl rfl ?_ | refine wOps rfl ?_ | refine wDraw rfl rfl ?_ | simp only [seval, push_cast, ↓reduceIte, ↓bP_some, ↓aP_true, reduceCtorEq, iaQ_nlv hj, ha, hj, e1, e2, hc, hv, row_tl, wv, w, mrow_set1]))
    exact qR_n rfl (by rw [hs, Option.getD_some]) ⟨_, hs⟩
  · rintro ⟨r, hr⟩
    rw [take_all] at hr ⊢
    have hlen := seatsGo_len m hr
    rw [List.length_replicate] at hlen
    rw [hr, Option.getD_some]
    (repeat' (first | refine wSeq rfl ?_ | refine wBlock rfl ?_ | refine wSkip rfl ?_ | refine wExit rfl ?_ | refine wRet rfl ?_ | refine wCondT rfl rfl ?_ | refine wCondF rfl rfl ?_ | refine wOps rfl ?_ | refine wDraw rfl rfl ?_ | simp only [seval, push_cast, ↓reduceIte, ↓bP_some, ↓aP_true, reduceCtorEq]))
    rw [show seatsV o.el.l m = .tup [tl mrow 1 r (some m), .int .i64 0] by unfold seatsV; rw [e0, hr, ← hlen]]
    refine FnQ.frz [1] rfl ?_
    exact congrArg (fun v => V.tup [v, .int .i64 0]) (frz_cap closed_mrow hlen (by decide) rfl rfl)
end Go.Proofs.YtkpfhnicdlgjiaaGreat
