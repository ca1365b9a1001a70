/- Calls of closures; results; lists that may be nil. · Generic functions of the library, walked: copies. Lists that may be nil. · Generic functions of the library that take functions, walked: IndexFunc, DeleteFunc. · Ballots: the reference, walked: Keep, Turned, Rename. · Plain laws of what is kept of a ballot. · Ballots: the program's Keep, walked. · Ballots: the law BallotKept, walked. -/
import Derived.Test.YtnhfbabenifbkaaGreatDoorAlWk
import Derived.Test.YtnhfbabenifbkaaGreatDoorAlXl
import Derived.Test.YtnhfbabenifbkaaGreatDoorWg1
import Derived.Test.YtnhfbabenifbkaaGreatDoorBPl5
import Derived.Test.YtnhfbabenifbkaaGreatDoorWb2
import Derived.Test.YtnhfbabenifbkaaGreatDoorWl1m
set_option maxRecDepth 100000
set_option maxHeartbeats 4000000
set_option linter.unusedVariables false
set_option linter.unusedSimpArgs false
namespace Go.Proofs.YtnhfbabenifbkaaGreatDoor
/-- A call of whatever is called, in a smaller memory: src are the blocks handed over. -/
theorem opsP_frm {L : Lib} {l : List AI} {K : Env → Heap → Prop} {E : Env} {H : Heap} {d : Option Nat} {anc : List Nat} (src : List Nat) {c : ACallee} {args : List AOpd} {k : Nat} {vs vs' : List V} {H0 : Heap} {Post : V → Heap → Prop} (hv : callee L.G E.get c args = some (.fn k, vs)) (hn : nodupO (src.map some) = true) (hlt : (src.all fun a => Nat.blt a H.length) = true) (hvs : vs.map (V.ren (sgOf H (src.map some) [])) = vs') (hH : H.sh (src.map some) [] = H0) (hf : AFn L (.fn k) vs' H0 Post) (h : ∀ r h', Post r h' → opsP L l K (E.put d (r.ren (outσ H.length src))) (H.back src h')) : opsP L (⟨d, .call c args, none, anc⟩ :: l) K E H := by
  show stepP L ⟨d, .call c args, none, anc⟩ (opsP L l K) E H
  unfold stepP AI.goes
  show CallP L E.get H c args _
  unfold CallP
  rw [hv]
  show AFn L (.fn k) vs H _
  refine AFn.frame (k' := .fn k) src [] rfl hn hlt ?_
  rw [hvs, hH]
  exact hf.mono fun r h' hp => ⟨rfl, h r h' hp⟩
/-- A call as it stands. -/
theorem opsP_all {L : Lib} {l : List AI} {K : Env → Heap → Prop} {E : Env} {H : Heap} {d : Option Nat} {anc : List Nat} {c : ACallee} {args : List AOpd} {k : Nat} {vs : List V} {Post : V → Heap → Prop} (hv : callee L.G E.get c args = some (.fn k, vs)) (hf : AFn L (.fn k) vs H Post) (h : ∀ r h', Post r h' → opsP L l K (E.put d r) h') : opsP L (⟨d, .call c args, none, anc⟩ :: l) K E H := by
  show stepP L ⟨d, .call c args, none, anc⟩ (opsP L l K) E H
  unfold stepP AI.goes
  show CallP L E.get H c args _
  unfold CallP
  rw [hv]
  show AFn L (.fn k) vs H _
  exact hf.mono h
theorem FnQ.at {F : AFunc} {n0 : Nat} {P : V → Heap → Prop} {E : Env} {H : Heap} {r : V} (h : resV E.get H.get F.results = some r) (hP : P r H) : FnQ F n0 P .ret E H := by
  have : ResP F.results n0 P E H := by
    unfold ResP
    rw [h]
    exact .inl hP
  exact this
theorem FnQ.sh {F : AFunc} {n0 : Nat} {P : V → Heap → Prop} {E : Env} {H : Heap} {r0 r : V} {H1 : Heap} (src : List (Option Nat)) (fz : List Nat) (ho : okSh n0 src = true) (h : resV E.get H.get F.results = some r0) (hr : r0.ren (sgOf H src fz) = r) (hH : H.sh src fz = H1) (hP : P r H1) : FnQ F n0 P .ret E H := by
  have : ResP F.results n0 P E H := by
    unfold ResP
    rw [h]
    refine .inr ⟨src, fz, ho, ?_⟩
    rw [hr, hH]; exact hP
  exact this
theorem rel_nilcase {N : Nums} {w : World} {S : Nat → Prop} {β : Nat → Option Nat} {s : Nat} {c : Option Nat} {x : Value} (h : Rel N w S β (.lst s [] c) x) : Rel N w S β (.lst 0 [] c) x ∨ Rel N w S β (.lst 1000003 [] c) x := by
  cases h with
  | lst _ _ _ _ a cc b off ys hc hlc ha hn hr hy h hz =>
    by_cases e : a = none
    · exact .inl (.lst β 0 [] c a cc b off ys hc hlc ha hn (fun i row h => by simp at h) (fun i row j x h => by simp at h) (fun i row j x h => by simp at h) ⟨fun _ _ => e, fun h => by simp at h⟩)
    · exact .inr (.lst β 1000003 [] c a cc b off ys hc hlc ha hn (fun i row h => by simp at h) (fun i row j x h => by simp at h) (fun i row j x h => by simp at h) ⟨fun h => by simp at h, fun _ _ => e⟩)
theorem rel_weak {N : Nums} {w : World} {S : Nat → Prop} {β : Nat → Option Nat} {s : Nat} {c : Option Nat} {x : Value} (h : Rel N w S β (.lst s [] c) x) : Rel N w S β (.lst 1 [] none) x := by
  cases h with
  | lst _ _ _ _ a cc b off ys hc hlc ha hn hr hy h hz =>
    exact .lst β 1 [] none a cc b off ys (fun k h => by cases h) hlc ha hn (fun i row h => by simp at h) (fun i row j x h => by simp at h) (fun i row j x h => by simp at h) ⟨fun h => by simp at h, fun h => by simp at h⟩
theorem AFn.nilcase {L : Lib} {k : Tgt} {s : Nat} {c : Option Nat} {H : Heap} {Post : V → Heap → Prop} (h0 : AFn L k [.lst 0 [] c] H Post) (h1 : AFn L k [.lst 1000003 [] c] H Post) : AFn L k [.lst s [] c] H Post := by
  intro C hC A w β vs hA hd hh hg ha
  obtain ⟨hn, har⟩ := ha
  have hsz : vs.size = 1 := hn
  have hr := har 0 _ vs[0] rfl (by simp [hsz])
  have go : ∀ v, Rel C.N w (Imm A w β H.get) β v vs[0] → RArgs C w (Imm A w β H.get) β [v] vs := fun v hv => ⟨hn, fun i u x hu hx => by
    match i with
    | 0 =>
      have hu : some v = some u := hu
      cases hu
      rw [Array.getElem?_eq_getElem (by omega)] at hx
      cases hx
      exact hv
    | i + 1 => simp at hu⟩
  rcases rel_nilcase hr with h | h
  · exact h0 C hC A w β vs hA hd hh hg (go _ h)
  · exact h1 C hC A w β vs hA hd hh hg (go _ h)
theorem AFn.weakE {L : Lib} {k : Tgt} {args : List V} {H H1 : Heap} (h : AFn L k args H (fun r H' => (∃ s c, r = .lst s [] c) ∧ H' = H1)) : AFn L k args H (fun r H' => r = .lst 1 [] none ∧ H' = H1) := by
  intro C hC A w β vs hA hd hh hg ha
  refine (h C hC A w β vs hA hd hh hg ha).mono ?_
  rintro e w' ⟨v, r, H', β', h1, ⟨⟨s, c, rfl⟩, rfl⟩, h3, h4, h5, h6, h7, h8⟩
  exact ⟨v, _, _, β', h1, ⟨rfl, rfl⟩, h3, h4, h5, h6, rel_weak h7, h8⟩
end Go.Proofs.YtnhfbabenifbkaaGreatDoor
set_option maxRecDepth 100000
set_option maxHeartbeats 4000000
set_option linter.unusedVariables false
set_option linter.unusedSimpArgs false
namespace Go.Proofs.YtnhfbabenifbkaaGreatDoor
theorem isnil_tl {α : Type} {f : α → List V} {s : Nat} {l : List α} {c : Option Nat} (h : l ≠ []) : isnilQ 0 false (tl f s l c) = some (.bool false) := by
  have : ¬ l.length = 0 := fun e => h (List.length_eq_zero_iff.1 e)
  simp [isnilQ, isnilV, tl, this, h]
theorem rowsOf_tl {α : Type} {f : α → List V} {s : Nat} {l : List α} {c : Option Nat} {g : Nat → Option Blk} : rowsOf s g (tl f s l c) = some (l.map f, []) := by
  unfold tl
  simp [rowsOf]
variable {L : Lib} (hL : L.T = tab.get)
include hL
theorem clone_e (s : Nat) (c : Option Nat) : VFn L 46 [tl mrow s [] c] (tl mrow 1 [] none) := by
  refine ⟨rfl, rfl, AFn.weakE (AFn.nilcase (s := s) ?_ ?_)⟩
  · refine AFn.of_body (F := T46.1) (by rw [hL]; rfl) rfl ?_
    (repeat' (first | refine wSeq rfl ?_ | refine wBlock rfl ?_ | refine wSkip rfl ?_ | refine wExit rfl ?_ | refine wRet rfl ?_ | refine wCondT rfl rfl ?_ | refine wCondF rfl rfl ?_ | refine wOps rfl ?_ | refine wDraw rfl rfl ?_ | simp only [seval, push_cast, ↓reduceIte, ↓bP_some, ↓aP_true, reduceCtorEq]))
    exact FnQ.at rfl ⟨⟨_, _, rfl⟩, rfl⟩
  · refine AFn.of_body (F := T46.1) (by rw [hL]; rfl) rfl ?_
    (repeat' (first | refine wSeq rfl ?_ | refine wBlock rfl ?_ | refine wSkip rfl ?_ | refine wExit rfl ?_ | refine wRet rfl ?_ | refine wCondT rfl rfl ?_ | refine wCondF rfl rfl ?_ | refine wOps rfl ?_ | refine wDraw rfl rfl ?_ | simp only [seval, push_cast, ↓reduceIte, ↓bP_some, ↓aP_true, reduceCtorEq, isnilQ_non]))
    exact FnQ.sh [] [0] rfl rfl rfl rfl ⟨⟨_, _, rfl⟩, rfl⟩
theorem clone_v (l : List Int) (c : Option Nat) (hne : l ≠ []) (hl : l.length ≤ 17592186043904) : MFn L 46 [tl mrow 1 l c] (.ref 0 1 0 l.length none) [some (.arr 1 (l.map mrow))] := by
  refine ⟨rfl, ?_⟩
  refine AFn.of_body (F := T46.1) (by rw [hL]; rfl) rfl ?_
  have hne' : ¬ l.length ≤ 0 := fun e => hne (List.length_eq_zero_iff.1 (Nat.le_zero.1 e))
  have hroom : l.length * 8 ≤ 140737488355328 := by omega
  (repeat' (first | refine wSeq rfl ?_ | refine wBlock rfl ?_ | refine wSkip rfl ?_ | refine wExit rfl ?_ | refine wRet rfl ?_ | refine wCondT rfl rfl ?_ | refine wCondF rfl rfl ?_ | refine wOps rfl ?_ | refine wDraw rfl rfl ?_ | simp only [seval, push_cast, ↓reduceIte, ↓bP_some, ↓aP_true, reduceCtorEq, isnil_tl hne, rowsOf_tl, hne', hroom]))
  exact FnQ.sh [some 1] [] rfl rfl rfl (sh_c (sh_b closed_mrow rfl) sh_n) ⟨rfl, rfl⟩
end Go.Proofs.YtnhfbabenifbkaaGreatDoor
set_option maxRecDepth 100000
set_option maxHeartbeats 4000000
set_option linter.unusedVariables false
set_option linter.unusedSimpArgs false
namespace Go.Proofs.YtnhfbabenifbkaaGreatDoor
/-- A value is a slice of these things in this memory. -/
structure IsSl (H : Heap) (v : V) (l : List Int) : Prop where
  len : lenQ v = some (.int .i64 l.length)
  at' : ∀ i x, l[i]? = some x → ∃ p, iaQ 1 v i = some p ∧ loadQ H.get 1 true p = some (.int .i64 x)
theorem IsSl.tl {H : Heap} {s : Nat} {l : List Int} {c : Option Nat} (hs : s = 1 ∨ l = []) : IsSl H (tl mrow s l c) l :=
  ⟨lenQ_tl, fun i x hx => by
    have hi := (List.getElem?_eq_some_iff.1 hx).1
    obtain rfl := size_of hs hi
    refine ⟨_, iaQ_tl hi, ?_⟩
    rw [loadQ_iptr, row_tl, hx]; rfl⟩
/-- The first place where p holds, or -1. -/
def findL (p : Int → Bool) (l : List Int) (j : Nat) : Int := match l with | [] => -1 | x :: r => if p x then (j : Int) else findL p r (j + 1)
theorem drop_at' {α : Type} {l : List α} {j : Nat} {x : α} (h : l[j]? = some x) : l.drop j = x :: l.drop (j + 1) := by
  obtain ⟨h1, rfl⟩ := List.getElem?_eq_some_iff.1 h
  exact List.drop_eq_getElem_cons h1
variable {L : Lib} (hL : L.T = tab.get)
include hL
theorem indexFunc_a {H : Heap} {v : V} {l : List Int} {kf : Nat} {fs cs : List V} {p : Int → Bool} (hv : IsSl H v l) (hl : l.length < 4611686018427387904) (hf : ∀ x ∈ l, AFn L (.fn kf) (fs ++ [.int .i64 x] ++ cs) H (fun r H' => r = .bool (p x) ∧ H' = H)) : AFn L (.fn 60) [v, .fn kf fs cs] H (fun r H' => r = .int .i64 (findL p l 0) ∧ H' = H) := by
  refine AFn.of_body (F := T60.1) (by rw [hL]; rfl) rfl ?_
  (repeat' (first | refine wSeq rfl ?_ | refine wBlock rfl ?_ | refine wSkip rfl ?_ | refine wExit rfl ?_ | refine wRet rfl ?_ | refine wCondT rfl rfl ?_ | refine wCondF rfl rfl ?_ | refine wOps rfl ?_ | refine wDraw rfl rfl ?_ | simp only [seval, push_cast, ↓reduceIte, ↓bP_some, ↓aP_true, reduceCtorEq, hv.len]))
  refine wCnt rfl 8 l.length (fun _ => []) (fun j => findL p l 0 = findL p (l.drop j) j) rfl rfl ?_ ?_
  · intro j hj hI
    obtain ⟨x, hx, hm⟩ := get_of hj
    obtain ⟨q, hq1, hq2⟩ := hv.at' j x hx
    have hd := drop_at' hx
    (repeat' (first | refine wSeq rfl ?_ | refine wBlock rfl ?_ | refine wSkip rfl ?_ | refine wExit rfl ?_ | refine wRet rfl ?_ | refine wCondT rfl rfl ?_ | refine wCondF rfl rfl ?_ | refine wOpsP rfl ?_ | refine wDraw rfl rfl ?_ | simp only [seval, push_cast, ↓reduceIte, ↓bP_some, ↓aP_true, reduceCtorEq, hj, hq1, hq2]))
    refine opsP_all (k := kf) (vs := fs ++ [.int .i64 x] ++ cs) rfl (hf x hm) ?_
    rintro r h' ⟨rfl, rfl⟩
    cases hp : p x with
    | true =>
      (repeat' (first | refine wSeq rfl ?_ | refine wBlock rfl ?_ | refine wSkip rfl ?_ | refine wExit rfl ?_ | refine wRet rfl ?_ | refine wCondT rfl rfl ?_ | refine wCondF rfl rfl ?_ | refine wOps rfl ?_ | refine wDraw rfl rfl ?_ | simp only [seval, push_cast, ↓reduceIte, ↓bP_some, ↓aP_true, reduceCtorEq]))
      rw [show findL p l 0 = (j : Int) by rw [hI, hd]; exact if_pos hp]
      exact FnQ.at rfl ⟨rfl, rfl⟩
    | false =>
      (repeat' (first | refine wSeq rfl ?_ | refine wBlock rfl ?_ | refine wSkip rfl ?_ | refine wExit rfl ?_ | refine wRet rfl ?_ | refine wCondT rfl rfl ?_ | refine wCondF rfl rfl ?_ | refine wOps rfl ?_ | refine wDraw rfl rfl ?_ | simp only [seval, push_cast, ↓reduceIte, ↓bP_some, ↓aP_true, reduceCtorEq, wrap_succ (show j < 9223372036854775807 by omega)]))
      refine qR_n rfl rfl ?_
      rw [hI, hd]
      exact if_neg (by rw [hp]; simp)
  · intro hI
    (repeat' (first | refine wSeq rfl ?_ | refine wBlock rfl ?_ | refine wSkip rfl ?_ | refine wExit rfl ?_ | refine wRet rfl ?_ | refine wCondT rfl rfl ?_ | refine wCondF rfl rfl ?_ | refine wOps rfl ?_ | refine wDraw rfl rfl ?_ | simp only [seval, push_cast, ↓reduceIte, ↓bP_some, ↓aP_true, reduceCtorEq]))
    rw [show findL p l 0 = -1 by rw [hI, List.drop_eq_nil_of_le (Nat.le_refl _)]; rfl]
    exact FnQ.at rfl ⟨rfl, rfl⟩
omit hL
/-- What DeleteFunc keeps, and how it gets there: i places are filled, j looked at. -/
theorem findL_ge (p : Int → Bool) : ∀ (l : List Int) (j : Nat), findL p l j = -1 ∧ (∀ x ∈ l, p x = false) ∨ ∃ i, i < l.length ∧ findL p l j = ((j + i : Nat) : Int) ∧ (∀ x ∈ l.take i, p x = false) ∧ ∃ x, l[i]? = some x ∧ p x = true
  | [], j => .inl ⟨rfl, fun x h => by cases h⟩
  | a :: r, j => by
    unfold findL
    cases hp : p a with
    | true => exact .inr ⟨0, by simp, by simp, fun x h => by simp at h, a, rfl, hp⟩
    | false =>
      rw [if_neg (by simp)]
      rcases findL_ge p r (j + 1) with ⟨h1, h2⟩ | ⟨i, h1, h2, h3, x, h4, h5⟩
      · left
        refine ⟨h1, fun x hx => ?_⟩
        rcases List.mem_cons.1 hx with rfl | hx
        · exact hp
        · exact h2 x hx
      · right
        refine ⟨i + 1, by simp; omega, by rw [h2]; congr 1; omega, fun x hx => ?_, x, h4, h5⟩
        rw [List.take_succ_cons] at hx
        rcases List.mem_cons.1 hx with rfl | hx
        · exact hp
        · exact h3 x hx
def clrR (size : Nat) (zero : List V) (a off len : Nat) : Option Blk → Option Eff
  | some (.arr s rows) => if s = size ∧ off + len ≤ rows.length then some { v := .tup [], need := [a], upd := [(a, some (.arr size (over rows off (List.replicate len zero))))] } else none
  | _ => none
theorem clrV_ref {g : Nat → Option Blk} {size : Nat} {zero : List V} {a off len : Nat} {c : Option Nat} : clrV size zero g (.ref a size off len c) = clrR size zero a off len (g a) := by
  unfold clrV clrR
  dsimp only
  cases g a with
  | none => rfl
  | some k => cases k <;> simp
theorem clrR_arr {size : Nat} {zero : List V} {a off len : Nat} {rows : List (List V)} : clrR size zero a off len (some (.arr size rows)) = if off + len ≤ rows.length then some { v := .tup [], need := [a], upd := [(a, some (.arr size (over rows off (List.replicate len zero))))] } else none := by simp [clrR]
theorem mrow_set {r : List Int} {i : Nat} {x : Int} : (r.map mrow).set i [.int .i64 x] = (r.set i x).map mrow := by rw [List.map_set]; rfl
theorem over_zero {r : List Int} {i n : Nat} : over (r.map mrow) i (List.replicate n [.int .i64 0]) = (r.take i ++ (List.replicate n 0 ++ r.drop (i + n))).map mrow := by
  unfold over
  simp [List.map_take, List.map_drop, mrow]
theorem set_fill {l r : List Int} {p : Int → Bool} {i j : Nat} {x : Int} (hx : l[j]? = some x) (hij : i ≤ j) (hr : r.length = l.length) (h1 : r.take i = (l.take j).filter fun x => !p x) (h2 : r.drop j = l.drop j) (hp : p x = false) : (r.set i x).take (i + 1) = (l.take (j + 1)).filter (fun x => !p x) ∧ (r.set i x).drop (j + 1) = l.drop (j + 1) := by
  have hj := (List.getElem?_eq_some_iff.1 hx).1
  constructor
  · rw [take_snoc hx, List.filter_append, ← h1, List.take_add_one]
    have e1 : (r.set i x).take i = r.take i := by rw [List.take_set_of_le (Nat.le_refl _)]
    rw [e1]
    congr 1
    rw [List.getElem?_set_self (by omega)]
    simp [hp]
  · rw [List.drop_set_of_lt (by omega)]
    have := congrArg (List.drop 1) h2
    rw [List.drop_drop, List.drop_drop] at this
    exact this
include hL
theorem deleteFunc_a {Hc : Heap} {l : List Int} {kf : Nat} {fs cs : List V} {p : Int → Bool} (hl : l.length < 4611686018427387904) (hf : ∀ (b : Blk) (x : Int), AFn L (.fn kf) (fs ++ [.int .i64 x] ++ cs) (some b :: Hc) (fun r H' => r = .bool (p x) ∧ H' = some b :: Hc)) :
    AFn L (.fn 47) [.ref 0 1 0 l.length none, .fn kf fs cs] (some (.arr 1 (l.map mrow)) :: Hc) (fun r H' => r = .ref 0 1 0 (l.filter fun x => !p x).length none ∧ ∃ t : List Int, H' = some (.arr 1 (((l.filter fun x => !p x) ++ t).map mrow)) :: Hc) := by
  refine AFn.of_body (F := T47.1) (by rw [hL]; rfl) rfl ?_
  have hv : IsSl (some (.arr 1 (l.map mrow)) :: Hc) (.ref 0 1 0 l.length none) l := ⟨rfl, fun i x hx => by
    have hi := (List.getElem?_eq_some_iff.1 hx).1
    refine ⟨.ptr 0 1 (0 + i) 0, by rw [iaQ_ref, if_pos ⟨rfl, hi⟩], ?_⟩
    rw [loadQ_ptr, Heap.get_cons0, loadB_arr, Nat.zero_add, row_tl, hx]; rfl⟩
  (repeat' (first | refine wSeq rfl ?_ | refine wBlock rfl ?_ | refine wSkip rfl ?_ | refine wExit rfl ?_ | refine wRet rfl ?_ | refine wCondT rfl rfl ?_ | refine wCondF rfl rfl ?_ | refine wOpsP rfl ?_ | refine wDraw rfl rfl ?_ | simp only [seval, push_cast, ↓reduceIte, ↓bP_some, ↓aP_true, reduceCtorEq]))
  refine opsP_all (vs := [.ref 0 1 0 l.length none, .fn kf fs cs]) rfl (indexFunc_a hL hv hl (fun x _ => hf _ x)) ?_
  rintro r h' ⟨rfl, rfl⟩
  rcases findL_ge p l 0 with ⟨h1, h2⟩ | ⟨i, h1, h2, h3, x, h4, h5⟩
  · (repeat' (first | refine wSeq rfl ?_ | refine wBlock rfl ?_ | refine wSkip rfl ?_ | refine wExit rfl ?_ | refine wRet rfl ?_ | refine wCondT rfl rfl ?_ | refine wCondF rfl rfl ?_ | refine wOps rfl ?_ | refine wDraw rfl rfl ?_ | simp only [seval, push_cast, ↓reduceIte, ↓bP_some, ↓aP_true, reduceCtorEq, h1]))
    have e : (l.filter fun x => !p x) = l := List.filter_eq_self.2 fun x hx => by rw [h2 x hx]; rfl
    refine FnQ.at rfl ⟨by rw [e], [], by rw [e, List.append_nil]⟩
  · rw [Nat.zero_add] at h2
    (repeat' (first | refine wSeq rfl ?_ | refine wBlock rfl ?_ | refine wSkip rfl ?_ | refine wExit rfl ?_ | refine wRet rfl ?_ | refine wCondT rfl rfl ?_ | refine wCondF rfl rfl ?_ | refine wOps rfl ?_ | refine wDraw rfl rfl ?_ | simp only [seval, push_cast, ↓reduceIte, ↓bP_some, ↓aP_true, reduceCtorEq, h2, wrap_succ (show i < 9223372036854775807 by omega)]))
    refine wWhile rfl (fun s : Nat × Nat × List Int => [(0, .ref 0 1 0 l.length none), (1, .fn kf fs cs), (5, .int .i64 (s.2.1 : Nat)), (6, .int .i64 (s.1 : Nat))]) (fun s => some (.arr 1 (s.2.2.map mrow)) :: Hc) (fun s => l.length - s.1) (fun s => s.2.1 ≤ s.1 ∧ s.1 ≤ l.length ∧ s.2.2.length = l.length ∧ s.2.2.take s.2.1 = (l.take s.1).filter (fun x => !p x) ∧ s.2.2.drop s.1 = l.drop s.1) (i + 1, i, l) rfl rfl ?_ ?_
    · refine ⟨Nat.le_succ i, h1, rfl, ?_, rfl⟩
      show l.take i = (l.take (i + 1)).filter _
      rw [take_snoc h4, List.filter_append]
      have e1 : (l.take i).filter (fun x => !p x) = l.take i := List.filter_eq_self.2 fun x hx => by rw [h3 x hx]; rfl
      rw [e1]; simp [h5]
    · rintro ⟨j, i', r⟩ ⟨g1, g2, g3, g4, g5⟩
      dsimp only at g1 g2 g3 g4 g5 ⊢
      by_cases hj : j < l.length
      · obtain ⟨x, hx, hm⟩ := get_of hj
        have hrx : r[j]? = some x := by
          have := congrArg (fun q => q[0]?) g5
          simp only [List.getElem?_drop, Nat.add_zero] at this
          rw [this, hx]
        have hi' : i' < l.length := by omega
        (repeat' (first | refine wSeq rfl ?_ | refine wBlock rfl ?_ | refine wSkip rfl ?_ | refine wExit rfl ?_ | refine wRet rfl ?_ | refine wCondT rfl rfl ?_ | refine wCondF rfl rfl ?_ | refine wOpsP rfl ?_ | refine wDraw rfl rfl ?_ | simp only [seval, push_cast, ↓reduceIte, ↓bP_some, ↓aP_true, reduceCtorEq, hj, hrx]))
        refine opsP_all (k := kf) (vs := fs ++ [.int .i64 x] ++ cs) rfl (hf _ x) ?_
        rintro v h' ⟨rfl, rfl⟩
        have hw := wrap_succ (show j < 9223372036854775807 by omega)
        have hw2 := wrap_succ (show i' < 9223372036854775807 by omega)
        cases hp : p x with
        | true =>
          (repeat' (first | refine wSeq rfl ?_ | refine wBlock rfl ?_ | refine wSkip rfl ?_ | refine wExit rfl ?_ | refine wRet rfl ?_ | refine wCondT rfl rfl ?_ | refine wCondF rfl rfl ?_ | refine wOps rfl ?_ | refine wDraw rfl rfl ?_ | simp only [seval, push_cast, ↓reduceIte, ↓bP_some, ↓aP_true, reduceCtorEq, hw]))
          refine qW_n (j + 1, i', r) rfl rfl ⟨by dsimp only; omega, by dsimp only; omega, hj, g3, ?_, ?_⟩
          · dsimp only; rw [g4, take_snoc hx, List.filter_append]; simp [hp]
          · dsimp only
            have := congrArg (List.drop 1) g5
            rw [List.drop_drop, List.drop_drop] at this
            exact this
        | false =>
          obtain ⟨f1, f2⟩ := set_fill hx g1 g3 g4 g5 hp
          obtain ⟨z, hz, _⟩ := get_of (show i' < r.length by omega)
          (repeat' (first | refine wSeq rfl ?_ | refine wBlock rfl ?_ | refine wSkip rfl ?_ | refine wExit rfl ?_ | refine wRet rfl ?_ | refine wCondT rfl rfl ?_ | refine wCondF rfl rfl ?_ | refine wOps rfl ?_ | refine wDraw rfl rfl ?_ | simp only [seval, push_cast, ↓reduceIte, ↓bP_some, ↓aP_true, reduceCtorEq, hw, hw2, hi', hz, mrow_set, Nat.succ_pos Hc.length]))
          exact qW_n (j + 1, i' + 1, r.set i' x) rfl rfl ⟨by dsimp only; omega, by dsimp only; omega, hj, by dsimp only; rw [List.length_set, g3], f1, f2⟩
      · obtain rfl : j = l.length := by omega
        have q1 : i' + (l.length - i') ≤ r.length := by omega
        have q2 : i' ≤ l.length := g1
        (repeat' (first | refine wSeq rfl ?_ | refine wBlock rfl ?_ | refine wSkip rfl ?_ | refine wExit rfl ?_ | refine wRet rfl ?_ | refine wCondT rfl rfl ?_ | refine wCondF rfl rfl ?_ | refine wOps rfl ?_ | refine wDraw rfl rfl ?_ | simp only [seval, push_cast, ↓reduceIte, ↓bP_some, ↓aP_true, reduceCtorEq, q2, clrV_ref, clrR_arr, q1, over_zero, Nat.succ_pos Hc.length, Nat.zero_le, Nat.sub_zero]))
        rw [take_all] at g4
        have g6 : (l.filter fun x => !p x).length = i' := by rw [← g4, List.length_take]; omega
        rw [g4]
        exact FnQ.at rfl ⟨by rw [g6], _, rfl⟩
end Go.Proofs.YtnhfbabenifbkaaGreatDoor
set_option maxRecDepth 100000
set_option maxHeartbeats 4000000
set_option linter.unusedVariables false
set_option linter.unusedSimpArgs false
namespace Go.Proofs.YtnhfbabenifbkaaGreatDoor
variable {L : Lib} (hL : L.T = tab.get)
omit hL
/-- What one mark adds to what is kept. -/
def keep1 (k : Int) (left : List Bool) (j : Nat) (x : Int) : List Int := if k = 1 ∨ k = 2 then (if isLeft left x then [x] else []) else if k = 3 then [if left[j]?.getD false then x else 0] else [x]
theorem keep_step {k : Int} {l : List Int} {left : List Bool} {j : Nat} {x : Int} (hx : l[j]? = some x) : keepL k (l.take (j + 1)) left = keepL k (l.take j) left ++ keep1 k left j x := by
  have hj := (List.getElem?_eq_some_iff.1 hx).1
  rw [take_snoc hx]
  unfold keepL keep1
  by_cases h : k = 1 ∨ k = 2
  · rw [if_pos h, if_pos h, if_pos h, List.filter_append]
    cases hq : isLeft left x <;> simp [hq]
  · rw [if_neg h, if_neg h, if_neg h]
    by_cases h3 : k = 3
    · rw [if_pos h3, if_pos h3, if_pos h3, List.mapIdx_append]
      simp [Nat.min_eq_left (Nat.le_of_lt hj)]
    · rw [if_neg h3, if_neg h3, if_neg h3]
theorem keep_len (k : Int) (l : List Int) (left : List Bool) : (keepL k l left).length ≤ l.length := by
  unfold keepL
  split
  · exact List.length_filter_le _ _
  · split <;> simp
theorem isLeft_in {left : List Bool} {n : Nat} {b : Bool} (h : left[n]? = some b) : isLeft left n = b := by simp [isLeft, h]
theorem isLeft_neg {left : List Bool} {x : Int} (h : ¬ 0 ≤ x) : isLeft left x = false := by simp [isLeft, h]
theorem isLeft_big {left : List Bool} {n : Nat} (h : ¬ n < left.length) : isLeft left n = false := by
  simp [isLeft, List.getElem?_eq_none (show left.length ≤ n by omega)]
include hL
theorem rkeep_v (k : Int) (s t : Nat) (l : List Int) (left : List Bool) (c d : Option Nat) (hs : s = 1 ∨ l = []) (hl : l.length ≤ 17592186043904) (ht : t = 1 ∨ left = []) (hm : left.length < 4611686018427387904) : ∃ t' c', (t' = 1 ∨ keepL k l left = []) ∧ VFn L 22 [(.agg [.int .u8 k, tl mrow s (l) c]), tl brow t left d] (.agg [.int .u8 k, tl mrow t' (keepL k l left) c']) := by
  obtain ⟨s', c', hs', hfz⟩ := frz_acc (f := mrow) closed_mrow (n := 1) (a := 3) (r := keepL k l left) (H := [some (Blk.arr 2 [[V.int IntKind.u8 k, tl mrow s l c]]), some (Blk.arr 2 [[V.int IntKind.u8 k, accV 3 1 (keepL k l left)]]), some (Blk.arr 2 [[V.int IntKind.u8 k, accV 3 1 (keepL k l left)]]), accB mrow 1 (keepL k l left)]) (fz := [3]) (by decide) rfl rfl
  refine ⟨s', c', hs', ?_⟩
  refine VFn.start (F := T22.1) (by rw [hL]; rfl) rfl rfl rfl ?_
  (repeat' (first | refine wSeq rfl ?_ | refine wBlock rfl ?_ | refine wSkip rfl ?_ | refine wExit rfl ?_ | refine wRet rfl ?_ | refine wCondT rfl rfl ?_ | refine wCondF rfl rfl ?_ | refine wOps rfl ?_ | refine wDraw rfl rfl ?_ | simp only [seval, push_cast, ↓reduceIte, ↓bP_some, ↓aP_true, reduceCtorEq]))
  have h0 : keepL k (l.take 0) left = [] := List.length_eq_zero_iff.1 (Nat.le_zero.1 (keep_len k (l.take 0) left))
  refine wPad [some 0, some 1, some 2, none] rfl rfl rfl ?_
  refine wCntH rfl 6 l.length (fun _ => []) (fun j => [some (Blk.arr 2 [[V.int IntKind.u8 k, tl mrow s l c]]), some (Blk.arr 2 [[V.int IntKind.u8 0, V.lst 0 [] (some 0)]]), some (Blk.arr 2 [[V.int IntKind.u8 k, accV 3 1 (keepL k (l.take j) left)]]), accB mrow 1 (keepL k (l.take j) left)]) (fun j => True) rfl (by rw [h0]; rfl) trivial ?_ ?_
  · intro j hj hI
    obtain ⟨x, hx, _⟩ := get_of hj
    obtain rfl := size_of hs hj
    have hst := keep_step (k := k) (left := left) hx
    have hlen := keep_len k (l.take j) left
    rw [List.length_take] at hlen
    have hw := wrap_succ (show j < 9223372036854775807 by omega)
    rw [hst]
    generalize keepL k (l.take j) left = r at *
    have hroom : (r.length + 1) * 8 ≤ 140737488355328 := by omega
    have hV : accV 3 1 r = .lst 0 [] (some 0) ∧ accB mrow 1 r = none ∧ r = [] ∨ accV 3 1 r = .ref 3 1 0 r.length none ∧ accB mrow 1 r = some (.arr 1 (r.map mrow)) ∧ r ≠ [] := by
      by_cases hr : r = []
      · subst hr; exact .inl ⟨rfl, rfl, rfl⟩
      · exact .inr ⟨accV_cons hr, accB_cons hr, hr⟩
    by_cases h3 : k = 3
    · subst h3
      have e1 : keep1 3 left j x = [if left[j]?.getD false then x else 0] := rfl
      rw [e1]
      by_cases q1 : left.length ≤ j
      · rw [show (if left[j]?.getD false = true then x else 0) = 0 by rw [List.getElem?_eq_none q1]; rfl]
        rcases hV with ⟨hV, hB, rfl⟩ | ⟨hV, hB, hr⟩
        · (repeat' (first | refine wSeq rfl ?_ | refine wBlock rfl ?_ | refine wSkip rfl ?_ | refine wExit rfl ?_ | refine wRet rfl ?_ | refine wCondT rfl rfl ?_ | refine wCondF rfl rfl ?_ | refine wOps rfl ?_ | refine wDraw rfl rfl ?_ | simp only [seval, push_cast, ↓reduceIte, ↓bP_some, ↓aP_true, reduceCtorEq, hj, hx, iaQ_tl hj, hV, hB, hw, q1]))
          exact qR_s [some 0, some 1, some 2, some 5] [] rfl rfl rfl trivial
        · (repeat' (first | refine wSeq rfl ?_ | refine wBlock rfl ?_ | refine wSkip rfl ?_ | refine wExit rfl ?_ | refine wRet rfl ?_ | refine wCondT rfl rfl ?_ | refine wCondF rfl rfl ?_ | refine wOps rfl ?_ | refine wDraw rfl rfl ?_ | simp only [seval, push_cast, ↓reduceIte, ↓bP_some, ↓aP_true, reduceCtorEq, hj, hx, iaQ_tl hj, hV, hB, hw, hroom, q1]))
          exact qR_s [some 0, some 1, some 2, some 5] [] rfl rfl (by (simp only [accV_snoc, accB_snoc, accV_nil, accB_nil]; (repeat (first | exact sh_n | refine sh_c (sh_b closed_mrow rfl) ?_ | refine sh_c rfl ?_)))) trivial
      · have q2 : j < left.length := by omega
        obtain ⟨b, hb, _⟩ := get_of q2
        obtain rfl := size_of ht q2
        rw [hb]
        cases b with
        | true =>
          rw [show (if (some true).getD false = true then x else 0) = x from rfl]
          rcases hV with ⟨hV, hB, rfl⟩ | ⟨hV, hB, hr⟩
          · (repeat' (first | refine wSeq rfl ?_ | refine wBlock rfl ?_ | refine wSkip rfl ?_ | refine wExit rfl ?_ | refine wRet rfl ?_ | refine wCondT rfl rfl ?_ | refine wCondF rfl rfl ?_ | refine wOps rfl ?_ | refine wDraw rfl rfl ?_ | simp only [seval, push_cast, ↓reduceIte, ↓bP_some, ↓aP_true, reduceCtorEq, hj, hx, iaQ_tl hj, hV, hB, hw, q1, hb, iaQ_tl q2]))
            exact qR_s [some 0, some 1, some 2, some 5] [] rfl rfl rfl trivial
          · (repeat' (first | refine wSeq rfl ?_ | refine wBlock rfl ?_ | refine wSkip rfl ?_ | refine wExit rfl ?_ | refine wRet rfl ?_ | refine wCondT rfl rfl ?_ | refine wCondF rfl rfl ?_ | refine wOps rfl ?_ | refine wDraw rfl rfl ?_ | simp only [seval, push_cast, ↓reduceIte, ↓bP_some, ↓aP_true, reduceCtorEq, hj, hx, iaQ_tl hj, hV, hB, hw, hroom, q1, hb, iaQ_tl q2]))
            exact qR_s [some 0, some 1, some 2, some 5] [] rfl rfl (by (simp only [accV_snoc, accB_snoc, accV_nil, accB_nil]; (repeat (first | exact sh_n | refine sh_c (sh_b closed_mrow rfl) ?_ | refine sh_c rfl ?_)))) trivial
        | false =>
          rw [show (if (some false).getD false = true then x else 0) = 0 from rfl]
          rcases hV with ⟨hV, hB, rfl⟩ | ⟨hV, hB, hr⟩
          · (repeat' (first | refine wSeq rfl ?_ | refine wBlock rfl ?_ | refine wSkip rfl ?_ | refine wExit rfl ?_ | refine wRet rfl ?_ | refine wCondT rfl rfl ?_ | refine wCondF rfl rfl ?_ | refine wOps rfl ?_ | refine wDraw rfl rfl ?_ | simp only [seval, push_cast, ↓reduceIte, ↓bP_some, ↓aP_true, reduceCtorEq, hj, hx, iaQ_tl hj, hV, hB, hw, q1, hb, iaQ_tl q2]))
            exact qR_s [some 0, some 1, some 2, some 5] [] rfl rfl rfl trivial
          · (repeat' (first | refine wSeq rfl ?_ | refine wBlock rfl ?_ | refine wSkip rfl ?_ | refine wExit rfl ?_ | refine wRet rfl ?_ | refine wCondT rfl rfl ?_ | refine wCondF rfl rfl ?_ | refine wOps rfl ?_ | refine wDraw rfl rfl ?_ | simp only [seval, push_cast, ↓reduceIte, ↓bP_some, ↓aP_true, reduceCtorEq, hj, hx, iaQ_tl hj, hV, hB, hw, hroom, q1, hb, iaQ_tl q2]))
            exact qR_s [some 0, some 1, some 2, some 5] [] rfl rfl (by (simp only [accV_snoc, accB_snoc, accV_nil, accB_nil]; (repeat (first | exact sh_n | refine sh_c (sh_b closed_mrow rfl) ?_ | refine sh_c rfl ?_)))) trivial
    · by_cases h12 : k = 1 ∨ k = 2
      · have e1 : keep1 k left j x = if isLeft left x then [x] else [] := if_pos h12
        rw [e1]
        by_cases q1 : 0 ≤ x
        · obtain ⟨n, rfl⟩ : ∃ n : Nat, x = n := ⟨x.toNat, by omega⟩
          by_cases q2 : n < left.length
          · obtain ⟨b, hb, _⟩ := get_of q2
            obtain rfl := size_of ht q2
            rw [isLeft_in hb]
            cases b with
            | true =>
              rw [if_pos rfl]
              rcases h12 with rfl | rfl
              all_goals
                rcases hV with ⟨hV, hB, rfl⟩ | ⟨hV, hB, hr⟩
                · (repeat' (first | refine wSeq rfl ?_ | refine wBlock rfl ?_ | refine wSkip rfl ?_ | refine wExit rfl ?_ | refine wRet rfl ?_ | refine wCondT rfl rfl ?_ | refine wCondF rfl rfl ?_ | refine wOps rfl ?_ | refine wDraw rfl rfl ?_ | simp only [seval, push_cast, ↓reduceIte, ↓bP_some, ↓aP_true, reduceCtorEq, hj, hx, iaQ_tl hj, hV, hB, hw, q1, q2, hb, iaQ_tl q2]))
                  exact qR_s [some 0, some 1, some 2, some 5] [] rfl rfl rfl trivial
                · (repeat' (first | refine wSeq rfl ?_ | refine wBlock rfl ?_ | refine wSkip rfl ?_ | refine wExit rfl ?_ | refine wRet rfl ?_ | refine wCondT rfl rfl ?_ | refine wCondF rfl rfl ?_ | refine wOps rfl ?_ | refine wDraw rfl rfl ?_ | simp only [seval, push_cast, ↓reduceIte, ↓bP_some, ↓aP_true, reduceCtorEq, hj, hx, iaQ_tl hj, hV, hB, hw, hroom, q1, q2, hb, iaQ_tl q2]))
                  exact qR_s [some 0, some 1, some 2, some 5] [] rfl rfl (by (simp only [accV_snoc, accB_snoc, accV_nil, accB_nil]; (repeat (first | exact sh_n | refine sh_c (sh_b closed_mrow rfl) ?_ | refine sh_c rfl ?_)))) trivial
            | false =>
              rw [if_neg (by decide)]
              rcases h12 with rfl | rfl
              all_goals
                rw [List.append_nil]
                (repeat' (first | refine wSeq rfl ?_ | refine wBlock rfl ?_ | refine wSkip rfl ?_ | refine wExit rfl ?_ | refine wRet rfl ?_ | refine wCondT rfl rfl ?_ | refine wCondF rfl rfl ?_ | refine wOps rfl ?_ | refine wDraw rfl rfl ?_ | simp only [seval, push_cast, ↓reduceIte, ↓bP_some, ↓aP_true, reduceCtorEq, hj, hx, iaQ_tl hj, hw, q1, q2, hb, iaQ_tl q2]))
                exact qR_n rfl rfl trivial
          · rw [isLeft_big q2, if_neg (by decide)]
            rcases h12 with rfl | rfl
            all_goals
              rw [List.append_nil]
              (repeat' (first | refine wSeq rfl ?_ | refine wBlock rfl ?_ | refine wSkip rfl ?_ | refine wExit rfl ?_ | refine wRet rfl ?_ | refine wCondT rfl rfl ?_ | refine wCondF rfl rfl ?_ | refine wOps rfl ?_ | refine wDraw rfl rfl ?_ | simp only [seval, push_cast, ↓reduceIte, ↓bP_some, ↓aP_true, reduceCtorEq, hj, hx, iaQ_tl hj, hw, q1, q2]))
              exact qR_n rfl rfl trivial
        · rw [isLeft_neg q1, if_neg (by decide)]
          rcases h12 with rfl | rfl
          all_goals
            rw [List.append_nil]
            (repeat' (first | refine wSeq rfl ?_ | refine wBlock rfl ?_ | refine wSkip rfl ?_ | refine wExit rfl ?_ | refine wRet rfl ?_ | refine wCondT rfl rfl ?_ | refine wCondF rfl rfl ?_ | refine wOps rfl ?_ | refine wDraw rfl rfl ?_ | simp only [seval, push_cast, ↓reduceIte, ↓bP_some, ↓aP_true, reduceCtorEq, hj, hx, iaQ_tl hj, hw, q1]))
            exact qR_n rfl rfl trivial
      · have e1 : keep1 k left j x = [x] := by unfold keep1; rw [if_neg h12, if_neg h3]
        rw [e1]
        have h1 : ¬ k = 1 := fun h => h12 (.inl h)
        have h2 : ¬ k = 2 := fun h => h12 (.inr h)
        rcases hV with ⟨hV, hB, rfl⟩ | ⟨hV, hB, hr⟩
        · (repeat' (first | refine wSeq rfl ?_ | refine wBlock rfl ?_ | refine wSkip rfl ?_ | refine wExit rfl ?_ | refine wRet rfl ?_ | refine wCondT rfl rfl ?_ | refine wCondF rfl rfl ?_ | refine wOps rfl ?_ | refine wDraw rfl rfl ?_ | simp only [seval, push_cast, ↓reduceIte, ↓bP_some, ↓aP_true, reduceCtorEq, hj, hx, iaQ_tl hj, hV, hB, hw, h1, h2, h3]))
          exact qR_s [some 0, some 1, some 2, some 5] [] rfl rfl rfl trivial
        · (repeat' (first | refine wSeq rfl ?_ | refine wBlock rfl ?_ | refine wSkip rfl ?_ | refine wExit rfl ?_ | refine wRet rfl ?_ | refine wCondT rfl rfl ?_ | refine wCondF rfl rfl ?_ | refine wOps rfl ?_ | refine wDraw rfl rfl ?_ | simp only [seval, push_cast, ↓reduceIte, ↓bP_some, ↓aP_true, reduceCtorEq, hj, hx, iaQ_tl hj, hV, hB, hw, hroom, h1, h2, h3]))
          exact qR_s [some 0, some 1, some 2, some 5] [] rfl rfl (by (simp only [accV_snoc, accB_snoc, accV_nil, accB_nil]; (repeat (first | exact sh_n | refine sh_c (sh_b closed_mrow rfl) ?_ | refine sh_c rfl ?_)))) trivial
  · intro _
    rw [take_all]
    (repeat' (first | refine wSeq rfl ?_ | refine wBlock rfl ?_ | refine wSkip rfl ?_ | refine wExit rfl ?_ | refine wRet rfl ?_ | refine wCondT rfl rfl ?_ | refine wCondF rfl rfl ?_ | refine wOps rfl ?_ | refine wDraw rfl rfl ?_ | simp only [seval, push_cast, ↓reduceIte, ↓bP_some, ↓aP_true, reduceCtorEq]))
    refine FnQ.frz [3] rfl ?_
    show V.agg [V.int IntKind.u8 k, V.ren _ (accV 3 1 (keepL k l left))] = _
    rw [hfz]
end Go.Proofs.YtnhfbabenifbkaaGreatDoor
set_option linter.unusedVariables false
set_option linter.unusedSimpArgs false
namespace Go.Proofs.YtnhfbabenifbkaaGreatDoor
theorem isLeft_zip (one two : List Bool) (x : Int) : isLeft (List.zipWith and one two) x = (isLeft one x && isLeft two x) := by
  unfold isLeft
  rw [List.getElem?_zipWith]
  cases one[x.toNat]? with
  | none => simp
  | some a =>
    cases two[x.toNat]? with
    | none => simp
    | some b => cases a <;> cases b <;> simp
theorem getD_zip (one two : List Bool) (i : Nat) : (List.zipWith and one two)[i]?.getD false = (one[i]?.getD false && two[i]?.getD false) := by
  rw [List.getElem?_zipWith]
  cases one[i]? with
  | none => simp
  | some a =>
    cases two[i]? with
    | none => simp
    | some b => simp
theorem keep_keep (k : Int) (l : List Int) (one two : List Bool) : keepL k (keepL k l one) two = keepL k l (List.zipWith and one two) := by
  unfold keepL
  by_cases h : k = 1 ∨ k = 2
  · rw [if_pos h, if_pos h, if_pos h, List.filter_filter]
    congr 1
    funext x
    rw [isLeft_zip, Bool.and_comm]
  · rw [if_neg h, if_neg h, if_neg h]
    by_cases h3 : k = 3
    · rw [if_pos h3, if_pos h3, if_pos h3]
      apply List.ext_getElem?
      intro i
      simp only [List.getElem?_mapIdx, Option.map_map]
      congr 1
      funext m
      simp only [Function.comp, getD_zip]
      cases one[i]?.getD false <;> cases two[i]?.getD false <;> rfl
    · rw [if_neg h3, if_neg h3, if_neg h3]
theorem check_zero {k : Int} {l : List Int} {c : Int} : checkL k l c = 0 ↔ (1 ≤ c ∧ c ≤ 10) ∧ fineL k l c = true := by
  unfold checkL
  by_cases h : c < 1 ∨ 10 < c
  · rw [if_pos h]; constructor
    · intro h; omega
    · intro h2; omega
  · rw [if_neg h]
    cases fineL k l c with
    | true => simp; omega
    | false => simp
theorem keep_right {k : Int} {l : List Int} {c : Int} {left : List Bool} (h : checkL k l c = 0) : checkL k (keepL k l left) c = 0 := by
  rw [check_zero] at h ⊢
  refine ⟨h.1, ?_⟩
  have hf := h.2
  unfold keepL
  by_cases h12 : k = 1 ∨ k = 2
  · rw [if_pos h12]
    have hsub : (l.filter (isLeft left)).Sublist l := List.filter_sublist
    rcases h12 with rfl | rfl
    · simp only [fineL, Bool.and_eq_true, List.all_eq_true, decide_eq_true_eq] at hf ⊢
      simp at hf ⊢
      exact ⟨fun m hm => .inr (hf.1 m hm), hf.2.sublist hsub⟩
    · simp only [fineL, Bool.and_eq_true, List.all_eq_true, decide_eq_true_eq] at hf ⊢
      simp at hf ⊢
      exact ⟨fun m hm => .inr (hf.1 m hm), hf.2.sublist hsub⟩
  · rw [if_neg h12]
    by_cases h3 : k = 3
    · subst h3
      rw [if_pos rfl]
      have e : ∀ m : List Int, fineL 3 m c = (m.all (inB 0 11) && decide ((m.length : Int) = c)) := fun m => rfl
      rw [e, Bool.and_eq_true, List.all_eq_true] at hf ⊢
      refine ⟨fun m hm => ?_, by rw [List.length_mapIdx]; exact hf.2⟩
      obtain ⟨i, hi, rfl⟩ := List.mem_mapIdx.1 hm
      split
      · exact hf.1 _ (List.getElem_mem hi)
      · rfl
    · rw [if_neg h3]; exact hf
theorem place_self (a : Int) (r : List Int) : placeL (a :: r) a = 0 := if_pos rfl
theorem place_skip {a x : Int} (r : List Int) (h : a ≠ x) : placeL (a :: r) x = if placeL r x < 0 then -1 else placeL r x + 1 := if_neg h
/-- Filtering keeps who is there, and in which order. -/
theorem place_filter {p : Int → Bool} {x y : Int} (hx : p x = true) (hy : p y = true) : ∀ l : List Int, (placeL (l.filter p) x < 0 ↔ placeL l x < 0) ∧ (placeL (l.filter p) y < 0 ↔ placeL l y < 0) ∧ (0 ≤ placeL l x → 0 ≤ placeL l y → (placeL (l.filter p) x < placeL (l.filter p) y ↔ placeL l x < placeL l y))
  | [] => by simp [placeL]
  | a :: r => by
    obtain ⟨i1, i2, i3⟩ := place_filter hx hy r
    have g1 := place_ge r x
    have g2 := place_ge r y
    have g3 := place_ge (r.filter p) x
    have g4 := place_ge (r.filter p) y
    cases ha : p a with
    | false =>
      have nx : a ≠ x := fun e => by rw [e, hx] at ha; cases ha
      have ny : a ≠ y := fun e => by rw [e, hy] at ha; cases ha
      rw [List.filter_cons, if_neg (by rw [ha]; decide), place_skip r nx, place_skip r ny]
      refine ⟨?_, ?_, ?_⟩
      · rw [i1]; split <;> omega
      · rw [i2]; split <;> omega
      · split
        · omega
        · split
          · omega
          · intro _ _; rw [i3 (by omega) (by omega)]; omega
    | true =>
      rw [List.filter_cons, if_pos ha]
      by_cases ex : a = x
      · subst ex
        rw [place_self, place_self]
        by_cases ey : a = y
        · subst ey; rw [place_self, place_self]; omega
        · rw [place_skip _ ey, place_skip _ ey]
          refine ⟨by omega, ?_, ?_⟩
          · split <;> split <;> omega
          · split <;> split <;> omega
      · by_cases ey : a = y
        · subst ey
          rw [place_self, place_self, place_skip _ ex, place_skip _ ex]
          refine ⟨?_, by omega, ?_⟩
          · split <;> split <;> omega
          · split <;> split <;> omega
        · rw [place_skip _ ex, place_skip _ ex, place_skip _ ey, place_skip _ ey]
          refine ⟨?_, ?_, ?_⟩
          · split <;> split <;> omega
          · split <;> split <;> omega
          · intro q1 q2
            have q3 : ¬ placeL r x < 0 := fun h => by rw [if_pos h] at q1; omega
            have q4 : ¬ placeL r y < 0 := fun h => by rw [if_pos h] at q2; omega
            rw [if_neg q3, if_neg q4, if_neg (fun h => q3 (i1.1 h)), if_neg (fun h => q4 (i2.1 h))]
            have := i3 (by omega) (by omega)
            omega
theorem prefers_irr (k : Int) (l : List Int) (x : Int) : prefersL k l x x = false := by
  unfold prefersL
  split
  · rfl
  · split
    · cases h : decide (0 ≤ placeL l x) with
      | false => rfl
      | true =>
        have := of_decide_eq_true h
        simp; omega
    · split
      · cases h : decide (0 ≤ placeL l x) with
        | false => rfl
        | true =>
          have := of_decide_eq_true h
          simp; omega
      · split
        · simp
        · rfl
theorem prefers_asym {k : Int} {l : List Int} {x y : Int} (h : prefersL k l x y = true) : prefersL k l y x = false := by
  unfold prefersL at h ⊢
  by_cases h0 : x < 0 ∨ y < 0
  · rw [if_pos h0] at h; cases h
  · rw [if_neg h0] at h
    rw [if_neg (by omega)]
    by_cases h1 : k = 1
    · rw [if_pos h1] at h ⊢
      simp at h ⊢
      omega
    · rw [if_neg h1] at h ⊢
      by_cases h2 : k = 2
      · rw [if_pos h2] at h ⊢
        simp at h ⊢
        omega
      · rw [if_neg h2] at h ⊢
        by_cases h3 : k = 3
        · rw [if_pos h3] at h ⊢
          simp at h ⊢
          omega
        · rw [if_neg h3] at h; cases h
theorem isLeft_nat {left : List Bool} {n : Nat} (h : left[n]? = some true) : isLeft left n = true := by simp [isLeft, h]
theorem prefers_keep {k : Int} {l : List Int} {left : List Bool} {n m : Nat} (hx : left[n]? = some true) (hy : left[m]? = some true) : prefersL k (keepL k l left) n m = prefersL k l n m := by
  unfold prefersL
  have h0 : ¬ ((n : Int) < 0 ∨ (m : Int) < 0) := by omega
  rw [if_neg h0, if_neg h0]
  by_cases h1 : k = 1
  · rw [if_pos h1, if_pos h1]
    have e : keepL k l left = l.filter (isLeft left) := if_pos (.inl h1)
    rw [e]
    obtain ⟨i1, i2, i3⟩ := place_filter (isLeft_nat hx) (isLeft_nat hy) l
    rw [Bool.eq_iff_iff]
    simp
    constructor
    · rintro ⟨a, b⟩
      omega
    · rintro ⟨a, b⟩
      omega
  · rw [if_neg h1, if_neg h1]
    by_cases h2 : k = 2
    · rw [if_pos h2, if_pos h2]
      have e : keepL k l left = l.filter (isLeft left) := if_pos (.inr h2)
      rw [e]
      obtain ⟨i1, i2, i3⟩ := place_filter (isLeft_nat hx) (isLeft_nat hy) l
      rw [Bool.eq_iff_iff]
      simp
      omega
    · rw [if_neg h2, if_neg h2]
      by_cases h3 : k = 3
      · rw [if_pos h3, if_pos h3]
        have e : keepL k l left = l.mapIdx fun i m => if left[i]?.getD false then m else 0 := by unfold keepL; rw [if_neg (by omega), if_pos h3]
        rw [e]
        simp [List.getElem?_mapIdx, hx, hy]
      · rw [if_neg h3, if_neg h3]
end Go.Proofs.YtnhfbabenifbkaaGreatDoor
set_option maxRecDepth 100000
set_option maxHeartbeats 4000000
set_option linter.unusedVariables false
set_option linter.unusedSimpArgs false
namespace Go.Proofs.YtnhfbabenifbkaaGreatDoor
theorem ren_up_ref {n a s o m : Nat} {c : Option Nat} : V.ren (upσ n) (.ref a s o m c) = .ref (n + a) s o m c := by simp [V.ren, upσ]
theorem cells_fn {f : Nat} {a b : List V} : V.cells (.fn f a b) = [.fn f a b] := rfl
theorem isVal_fn {f : Nat} {a b : List V} : V.isVal (.fn f a b) = true := rfl
attribute [push_cast] cells_fn isVal_fn
theorem frz_part {α : Type} {f : α → List V} (hf : ∀ x, (f x).all V.closed = true) {H : Heap} {fz : List Nat} {a n : Nat} {l t : List α} {c : Option Nat} (hn : 0 < n) (ha : fz.contains a = true) (h : H.get a = some (.arr n ((l ++ t).map f))) : V.ren (sgOf H [] fz) (.ref a n 0 l.length c) = tl f n l c := by
  have e : sgOf H [] fz a = .frz n ((l ++ t).map f) := by
    unfold sgOf
    simp only [posIn, ha, h, closeds_tl hf, cond_true]
  rw [V.ren, e]
  have e2 : ((l ++ t).map f).take l.length = l.map f := by rw [← List.map_take, List.take_left]
  simp only [true_and, hn, Nat.zero_add, List.length_map, List.length_append, Nat.le_add_right, and_self, if_true, List.drop_zero, e2]
  rfl
theorem ren_del {H : Heap} {m : Nat} : V.ren (outσ H.length [4, 1, 3]) (.ref 0 1 0 m none) = .ref 4 1 0 m none := rfl
theorem back_del {B0 B2 B3 B4 B5 : Option Blk} {t kf : Nat} {left : List Bool} {d : Option Nat} {q : List Int} : Heap.back [B0, some (.arr 1 [[tl brow t left d]]), B2, B3, B4, B5] [4, 1, 3] [some (.arr 1 (q.map mrow)), some (.arr 1 [[tl brow t left d]]), some (.arr 1 [[.fn kf [] [.ptr 1 1 0 0]]])] = [B0, some (.arr 1 [[tl brow t left d]]), B2, some (.arr 1 [[.fn kf [] [.ptr 1 1 0 0]]]), some (.arr 1 (q.map mrow)), B5] := by
  show [B0, _, B2, _, Option.map (Blk.ren (outσ 6 [4, 1, 3])) (some (.arr 1 (q.map mrow))), B5] = _
  rw [Option.map_some, ren_tl closed_mrow]
  rfl
theorem keep_nil (k : Int) (left : List Bool) : keepL k [] left = [] := List.length_eq_zero_iff.1 (Nat.le_zero.1 (keep_len k [] left))
theorem keep_12 {k : Int} (h : k = 1 ∨ k = 2) (l : List Int) (left : List Bool) : (l.filter fun x => !(!isLeft left x)) = keepL k l left := by
  unfold keepL
  rw [if_pos h]
  congr 1
  funext x
  rw [Bool.not_not]
theorem keep_3len (l : List Int) (left : List Bool) : (keepL 3 l left).length = l.length := by
  unfold keepL
  simp
variable {L : Lib} (hL : L.T = tab.get)
include hL
/-- The closure that tells who is left. -/
theorem is_a {H : Heap} {a t : Nat} {left : List Bool} {d : Option Nat} (ha : H.get a = some (.arr 1 [[tl brow t left d]])) (ht : t = 1 ∨ left = []) (hm : left.length < 4611686018427387904) (x : Int) : AFn L (.fn 45) [.int .i64 x, .ptr a 1 0 0] H (fun r H' => r = .bool (isLeft left x) ∧ H' = H) := by
  refine AFn.of_body (F := T45.1) (by rw [hL]; rfl) rfl ?_
  by_cases q1 : 0 ≤ x
  · obtain ⟨n, rfl⟩ : ∃ n : Nat, x = n := ⟨x.toNat, by omega⟩
    by_cases q2 : n < left.length
    · obtain ⟨b, hb, _⟩ := get_of q2
      obtain rfl := size_of ht q2
      rw [isLeft_in hb]
      (repeat' (first | refine wSeq rfl ?_ | refine wBlock rfl ?_ | refine wSkip rfl ?_ | refine wExit rfl ?_ | refine wRet rfl ?_ | refine wCondT rfl rfl ?_ | refine wCondF rfl rfl ?_ | refine wOps rfl ?_ | refine wDraw rfl rfl ?_ | refine opsV_call rfl rfl (within_v hL _ _ _) ?_ | simp only [seval, push_cast, ↓reduceIte, ↓bP_some, ↓aP_true, reduceCtorEq, ha, q1, q2, hb, iaQ_tl q2]))
      exact FnQ.at rfl ⟨rfl, rfl⟩
    · rw [isLeft_big q2]
      (repeat' (first | refine wSeq rfl ?_ | refine wBlock rfl ?_ | refine wSkip rfl ?_ | refine wExit rfl ?_ | refine wRet rfl ?_ | refine wCondT rfl rfl ?_ | refine wCondF rfl rfl ?_ | refine wOps rfl ?_ | refine wDraw rfl rfl ?_ | refine opsV_call rfl rfl (within_v hL _ _ _) ?_ | simp only [seval, push_cast, ↓reduceIte, ↓bP_some, ↓aP_true, reduceCtorEq, ha, q1, q2]))
      exact FnQ.at rfl ⟨rfl, rfl⟩
  · rw [isLeft_neg q1]
    (repeat' (first | refine wSeq rfl ?_ | refine wBlock rfl ?_ | refine wSkip rfl ?_ | refine wExit rfl ?_ | refine wRet rfl ?_ | refine wCondT rfl rfl ?_ | refine wCondF rfl rfl ?_ | refine wOps rfl ?_ | refine wDraw rfl rfl ?_ | refine opsV_call rfl rfl (within_v hL _ _ _) ?_ | simp only [seval, push_cast, ↓reduceIte, ↓bP_some, ↓aP_true, reduceCtorEq, ha, q1]))
    exact FnQ.at rfl ⟨rfl, rfl⟩
/-- The closure that tells who is to be deleted. -/
theorem isnt_a {H : Heap} {a b t : Nat} {left : List Bool} {d : Option Nat} (ha : H.get a = some (.arr 1 [[tl brow t left d]])) (hb : H.get b = some (.arr 1 [[.fn 45 [] [.ptr a 1 0 0]]])) (ht : t = 1 ∨ left = []) (hm : left.length < 4611686018427387904) (x : Int) : AFn L (.fn 48) [.int .i64 x, .ptr b 1 0 0] H (fun r H' => r = .bool (!isLeft left x) ∧ H' = H) := by
  refine AFn.of_body (F := T48.1) (by rw [hL]; rfl) rfl ?_
  (repeat' (first | refine wSeq rfl ?_ | refine wBlock rfl ?_ | refine wSkip rfl ?_ | refine wExit rfl ?_ | refine wRet rfl ?_ | refine wCondT rfl rfl ?_ | refine wCondF rfl rfl ?_ | refine wOpsP rfl ?_ | refine wDraw rfl rfl ?_ | simp only [seval, push_cast, ↓reduceIte, ↓bP_some, ↓aP_true, reduceCtorEq, hb]))
  refine opsP_all (k := 45) (vs := [.int .i64 x, .ptr a 1 0 0]) rfl (is_a hL ha ht hm x) ?_
  rintro r h' ⟨rfl, rfl⟩
  (repeat' (first | refine wSeq rfl ?_ | refine wBlock rfl ?_ | refine wSkip rfl ?_ | refine wExit rfl ?_ | refine wRet rfl ?_ | refine wCondT rfl rfl ?_ | refine wCondF rfl rfl ?_ | refine wOps rfl ?_ | refine wDraw rfl rfl ?_ | simp only [seval, push_cast, ↓reduceIte, ↓bP_some, ↓aP_true, reduceCtorEq]))
  exact FnQ.at rfl ⟨rfl, rfl⟩
theorem delete_e {H : Heap} {kf : Nat} {fs cs : List V} : AFn L (.fn 47) [tl mrow 1 [] none, .fn kf fs cs] H (fun r H' => r = tl mrow 1 [] none ∧ H' = H) := by
  refine AFn.of_body (F := T47.1) (by rw [hL]; rfl) rfl ?_
  (repeat' (first | refine wSeq rfl ?_ | refine wBlock rfl ?_ | refine wSkip rfl ?_ | refine wExit rfl ?_ | refine wRet rfl ?_ | refine wCondT rfl rfl ?_ | refine wCondF rfl rfl ?_ | refine wOpsP rfl ?_ | refine wDraw rfl rfl ?_ | simp only [seval, push_cast, ↓reduceIte, ↓bP_some, ↓aP_true, reduceCtorEq]))
  refine opsP_all (vs := [tl mrow 1 [] none, .fn kf fs cs]) rfl (indexFunc_a (p := fun _ => false) hL (IsSl.tl (l := []) (.inl rfl)) (by decide) (fun x h => by cases h)) ?_
  rintro r h' ⟨rfl, rfl⟩
  (repeat' (first | refine wSeq rfl ?_ | refine wBlock rfl ?_ | refine wSkip rfl ?_ | refine wExit rfl ?_ | refine wRet rfl ?_ | refine wCondT rfl rfl ?_ | refine wCondF rfl rfl ?_ | refine wOps rfl ?_ | refine wDraw rfl rfl ?_ | simp only [seval, push_cast, ↓reduceIte, ↓bP_some, ↓aP_true, reduceCtorEq, show findL (fun _ => false) [] 0 = -1 from rfl]))
  exact FnQ.at rfl ⟨rfl, rfl⟩
theorem keep_v (k : Int) (s t : Nat) (l : List Int) (left : List Bool) (c d : Option Nat) (hs : s = 1 ∨ l = []) (hl : l.length ≤ 17592186043904) (ht : t = 1 ∨ left = []) (hm : left.length < 4611686018427387904) : VFn L 21 [(.agg [.int .u8 k, tl mrow s (l) c]), tl brow t left d] (.agg [.int .u8 k, tl mrow 1 (keepL k l left) none]) := by
  by_cases hne : l = []
  · subst hne
    refine VFn.start (F := T21.1) (by rw [hL]; rfl) rfl rfl rfl ?_
    rw [keep_nil]
    (repeat' (first | refine wSeq rfl ?_ | refine wBlock rfl ?_ | refine wSkip rfl ?_ | refine wExit rfl ?_ | refine wRet rfl ?_ | refine wCondT rfl rfl ?_ | refine wCondF rfl rfl ?_ | refine wOps rfl ?_ | refine wDraw rfl rfl ?_ | refine opsV_call rfl rfl (clone_e hL s c) ?_ | simp only [seval, push_cast, ↓reduceIte, ↓bP_some, ↓aP_true, reduceCtorEq]))
    by_cases h12 : k = 1 ∨ k = 2
    · rcases h12 with rfl | rfl
      all_goals
        (repeat' (first | refine wSeq rfl ?_ | refine wBlock rfl ?_ | refine wSkip rfl ?_ | refine wExit rfl ?_ | refine wRet rfl ?_ | refine wCondT rfl rfl ?_ | refine wCondF rfl rfl ?_ | refine wOpsP rfl ?_ | refine wDraw rfl rfl ?_ | simp only [seval, push_cast, ↓reduceIte, ↓bP_some, ↓aP_true, reduceCtorEq]))
        refine opsP_all (vs := [tl mrow 1 [] none, .fn 48 [] [.ptr 3 1 0 0]]) rfl (delete_e hL) ?_
        rintro r h' ⟨rfl, rfl⟩
        (repeat' (first | refine wSeq rfl ?_ | refine wBlock rfl ?_ | refine wSkip rfl ?_ | refine wExit rfl ?_ | refine wRet rfl ?_ | refine wCondT rfl rfl ?_ | refine wCondF rfl rfl ?_ | refine wOps rfl ?_ | refine wDraw rfl rfl ?_ | simp only [seval, push_cast, ↓reduceIte, ↓bP_some, ↓aP_true, reduceCtorEq]))
        exact FnQ.frz [] rfl rfl
    · have h1 : ¬ k = 1 := fun h => h12 (.inl h)
      have h2 : ¬ k = 2 := fun h => h12 (.inr h)
      by_cases h3 : k = 3
      · subst h3
        (repeat' (first | refine wSeq rfl ?_ | refine wBlock rfl ?_ | refine wSkip rfl ?_ | refine wExit rfl ?_ | refine wRet rfl ?_ | refine wCondT rfl rfl ?_ | refine wCondF rfl rfl ?_ | refine wOps rfl ?_ | refine wDraw rfl rfl ?_ | simp only [seval, push_cast, ↓reduceIte, ↓bP_some, ↓aP_true, reduceCtorEq]))
        refine wCnt rfl 30 0 (fun _ => []) (fun _ => True) rfl trivial (fun j hj => absurd hj (by omega)) (fun _ => ?_)
        (repeat' (first | refine wSeq rfl ?_ | refine wBlock rfl ?_ | refine wSkip rfl ?_ | refine wExit rfl ?_ | refine wRet rfl ?_ | refine wCondT rfl rfl ?_ | refine wCondF rfl rfl ?_ | refine wOps rfl ?_ | refine wDraw rfl rfl ?_ | simp only [seval, push_cast, ↓reduceIte, ↓bP_some, ↓aP_true, reduceCtorEq]))
        exact FnQ.frz [] rfl rfl
      · (repeat' (first | refine wSeq rfl ?_ | refine wBlock rfl ?_ | refine wSkip rfl ?_ | refine wExit rfl ?_ | refine wRet rfl ?_ | refine wCondT rfl rfl ?_ | refine wCondF rfl rfl ?_ | refine wOps rfl ?_ | refine wDraw rfl rfl ?_ | simp only [seval, push_cast, ↓reduceIte, ↓bP_some, ↓aP_true, reduceCtorEq, h1, h2, h3]))
        exact FnQ.frz [] rfl rfl
  · obtain rfl := hs.resolve_right hne
    refine VFn.start (F := T21.1) (by rw [hL]; rfl) rfl rfl rfl ?_
    (repeat' (first | refine wSeq rfl ?_ | refine wBlock rfl ?_ | refine wSkip rfl ?_ | refine wExit rfl ?_ | refine wRet rfl ?_ | refine wCondT rfl rfl ?_ | refine wCondF rfl rfl ?_ | refine wOpsM [46] rfl ?_ | refine wDrawM [46] rfl rfl ?_ | refine opsV_make rfl rfl (clone_v hL l c hne hl) ?_ | simp only [seval, push_cast, ↓reduceIte, ↓bP_some, ↓aP_true, reduceCtorEq, ren_up_ref, ren_tl closed_mrow]))
    by_cases h12 : k = 1 ∨ k = 2
    · have ek := keep_12 h12 l left
      rcases h12 with rfl | rfl
      all_goals
        (repeat' (first | refine wSeq rfl ?_ | refine wBlock rfl ?_ | refine wSkip rfl ?_ | refine wExit rfl ?_ | refine wRet rfl ?_ | refine wCondT rfl rfl ?_ | refine wCondF rfl rfl ?_ | refine wOpsP rfl ?_ | refine wDraw rfl rfl ?_ | simp only [seval, push_cast, ↓reduceIte, ↓bP_some, ↓aP_true, reduceCtorEq]))
        refine opsP_frm (k := 47) (vs := [.ref 4 1 0 l.length none, .fn 48 [] [.ptr 3 1 0 0]]) (vs' := [.ref 0 1 0 l.length none, .fn 48 [] [.ptr 2 1 0 0]]) (H0 := [some (.arr 1 (l.map mrow)), some (.arr 1 [[tl brow t left d]]), some (.arr 1 [[.fn 45 [] [.ptr 1 1 0 0]]])]) [4, 1, 3] rfl rfl rfl rfl (sh_c (sh_b closed_mrow rfl) (sh_c rfl (sh_c rfl sh_n))) (deleteFunc_a (p := fun x => !isLeft left x) hL (by omega) (fun b x => isnt_a (a := 1) (b := 2) hL rfl rfl ht hm x)) ?_
        rintro r h' ⟨rfl, q, rfl⟩
        rw [ek, back_del, ren_del]
        (repeat' (first | refine wSeq rfl ?_ | refine wBlock rfl ?_ | refine wSkip rfl ?_ | refine wExit rfl ?_ | refine wRet rfl ?_ | refine wCondT rfl rfl ?_ | refine wCondF rfl rfl ?_ | refine wOps rfl ?_ | refine wDraw rfl rfl ?_ | simp only [seval, push_cast, ↓reduceIte, ↓bP_some, ↓aP_true, reduceCtorEq]))
        refine FnQ.frz [4] rfl ?_
        exact congrArg (fun v => V.agg [V.int IntKind.u8 _, v]) (frz_part (t := q) closed_mrow (by decide) rfl rfl)
    · have h1 : ¬ k = 1 := fun h => h12 (.inl h)
      have h2 : ¬ k = 2 := fun h => h12 (.inr h)
      by_cases h3 : k = 3
      · subst h3
        (repeat' (first | refine wSeq rfl ?_ | refine wBlock rfl ?_ | refine wSkip rfl ?_ | refine wExit rfl ?_ | refine wRet rfl ?_ | refine wCondT rfl rfl ?_ | refine wCondF rfl rfl ?_ | refine wOps rfl ?_ | refine wDraw rfl rfl ?_ | simp only [seval, push_cast, ↓reduceIte, ↓bP_some, ↓aP_true, reduceCtorEq]))
        refine wCntH rfl 30 l.length (fun _ => []) (fun j => [some (Blk.arr 2 [[V.int IntKind.u8 3, tl mrow 1 l c]]), some (Blk.arr 1 [[tl brow t left d]]), some (Blk.arr 2 [[V.int IntKind.u8 0, V.lst 0 [] (some 0)]]), some (Blk.arr 1 [[V.fn 45 [] [V.ptr 1 1 0 0]]]), some (Blk.arr 1 ((keepL 3 (l.take j) left ++ l.drop j).map mrow)), some (Blk.arr 2 [[V.int IntKind.u8 3, V.ref 4 1 0 l.length none]])]) (fun _ => True) rfl (by rw [List.take_zero, keep_nil]; rfl) trivial ?_ ?_
        · intro j hj _
          obtain ⟨x, hx, _⟩ := get_of hj
          have hk := keep_step (k := 3) (left := left) hx
          have hlen := keep_3len (l.take j) left
          rw [List.length_take, Nat.min_eq_left (Nat.le_of_lt hj)] at hlen
          have hd := drop_at' hx
          have hw := wrap_succ (show j < 9223372036854775807 by omega)
          (repeat' (first | refine wSeq rfl ?_ | refine wBlock rfl ?_ | refine wSkip rfl ?_ | refine wExit rfl ?_ | refine wRet rfl ?_ | refine wCondT rfl rfl ?_ | refine wCondF rfl rfl ?_ | refine wOpsP rfl ?_ | refine wDraw rfl rfl ?_ | simp only [seval, push_cast, ↓reduceIte, ↓bP_some, ↓aP_true, reduceCtorEq, hj]))
          refine opsP_all (k := 45) (vs := [.int .i64 (j : Nat), .ptr 1 1 0 0]) rfl (is_a hL rfl ht hm j) ?_
          rintro r h' ⟨rfl, rfl⟩
          have hil : isLeft left (j : Int) = left[j]?.getD false := by simp [isLeft]
          have e1 : keep1 3 left j x = [if left[j]?.getD false then x else 0] := rfl
          rw [e1] at hk
          rw [hil]
          cases hb : left[j]?.getD false with
          | true =>
            rw [hb, if_pos rfl] at hk
            (repeat' (first | refine wSeq rfl ?_ | refine wBlock rfl ?_ | refine wSkip rfl ?_ | refine wExit rfl ?_ | refine wRet rfl ?_ | refine wCondT rfl rfl ?_ | refine wCondF rfl rfl ?_ | refine wOps rfl ?_ | refine wDraw rfl rfl ?_ | simp only [seval, push_cast, ↓reduceIte, ↓bP_some, ↓aP_true, reduceCtorEq, hw]))
            exact qR_n rfl (by rw [hk, hd, List.append_assoc]; rfl) trivial
          | false =>
            rw [hb, if_neg (by decide)] at hk
            have hz : (keepL 3 (l.take j) left ++ l.drop j)[j]? = some x := by rw [hd, List.getElem?_append_right (by omega), hlen, Nat.sub_self]; rfl
            have hset : (keepL 3 (l.take j) left ++ l.drop j).set j 0 = keepL 3 (l.take (j + 1)) left ++ l.drop (j + 1) := by
              rw [hk, hd, List.set_append_right _ _ (by omega), hlen, Nat.sub_self, List.append_assoc]; rfl
            (repeat' (first | refine wSeq rfl ?_ | refine wBlock rfl ?_ | refine wSkip rfl ?_ | refine wExit rfl ?_ | refine wRet rfl ?_ | refine wCondT rfl rfl ?_ | refine wCondF rfl rfl ?_ | refine wOps rfl ?_ | refine wDraw rfl rfl ?_ | simp only [seval, push_cast, ↓reduceIte, ↓bP_some, ↓aP_true, reduceCtorEq, hw, hj, hz, mrow_set, hset]))
            exact qR_n rfl rfl trivial
        · intro _
          rw [take_all, List.drop_eq_nil_of_le (Nat.le_refl _)]
          (repeat' (first | refine wSeq rfl ?_ | refine wBlock rfl ?_ | refine wSkip rfl ?_ | refine wExit rfl ?_ | refine wRet rfl ?_ | refine wCondT rfl rfl ?_ | refine wCondF rfl rfl ?_ | refine wOps rfl ?_ | refine wDraw rfl rfl ?_ | simp only [seval, push_cast, ↓reduceIte, ↓bP_some, ↓aP_true, reduceCtorEq]))
          refine FnQ.frz [4] rfl ?_
          rw [← keep_3len l left]
          exact congrArg (fun v => V.agg [V.int IntKind.u8 3, v]) (frz_ref (l := keepL 3 l left) closed_mrow (by decide) rfl rfl)
      · have ek : keepL k l left = l := by unfold keepL; rw [if_neg h12, if_neg h3]
        rw [ek]
        (repeat' (first | refine wSeq rfl ?_ | refine wBlock rfl ?_ | refine wSkip rfl ?_ | refine wExit rfl ?_ | refine wRet rfl ?_ | refine wCondT rfl rfl ?_ | refine wCondF rfl rfl ?_ | refine wOps rfl ?_ | refine wDraw rfl rfl ?_ | simp only [seval, push_cast, ↓reduceIte, ↓bP_some, ↓aP_true, reduceCtorEq, h1, h2, h3]))
        refine FnQ.frz [4] rfl ?_
        exact congrArg (fun v => V.agg [V.int IntKind.u8 k, v]) (frz_ref closed_mrow (by decide) rfl rfl)
end Go.Proofs.YtnhfbabenifbkaaGreatDoor
set_option maxRecDepth 100000
set_option maxHeartbeats 4000000
set_option linter.unusedVariables false
set_option linter.unusedSimpArgs false
namespace Go.Proofs.YtnhfbabenifbkaaGreatDoor
theorem brow_set {r : List Bool} {i : Nat} {x : Bool} : (r.map brow).set i [.bool x] = (r.set i x).map brow := by rw [List.map_set]; rfl
theorem row_brow {r : List Bool} {i : Nat} : (r.map brow)[i]? = (r[i]?).map brow := List.getElem?_map
theorem fill_get {r : List Bool} {j n : Nat} (hj : j < r.length) (hn : n = r.length) : (r.take j ++ List.replicate (n - j) false)[j]? = some false := by
  have h : (r.take j).length = j := by rw [List.length_take]; omega
  rw [List.getElem?_append_right (by omega), h, Nat.sub_self, List.getElem?_replicate, if_pos (by omega)]
theorem fill_set {r : List Bool} {j n : Nat} {v : Bool} (hv : r[j]? = some v) (hn : n = r.length) : (r.take j ++ List.replicate (n - j) false).set j v = r.take (j + 1) ++ List.replicate (n - (j + 1)) false := by
  have hj := (List.getElem?_eq_some_iff.1 hv).1
  have h : (r.take j).length = j := by rw [List.length_take]; omega
  rw [List.set_append_right _ _ (by omega), h, Nat.sub_self, take_snoc hv, List.append_assoc]
  congr 1
  obtain ⟨m, hm⟩ : ∃ m, n - j = m + 1 := ⟨n - j - 1, by omega⟩
  rw [hm, show n - (j + 1) = m by omega]
  rfl
theorem frz_src {α : Type} {f : α → List V} (hf : ∀ x, (f x).all V.closed = true) {H : Heap} {src : List (Option Nat)} {fz : List Nat} {a n : Nat} {l : List α} {c : Option Nat} (hp : posIn src a 0 = none) (hn : 0 < n) (ha : fz.contains a = true) (h : H.get a = some (.arr n (l.map f))) : V.ren (sgOf H src fz) (.ref a n 0 l.length c) = tl f n l c := by
  have e : sgOf H src fz a = .frz n (l.map f) := by
    unfold sgOf
    simp only [hp, ha, h, closeds_tl hf, cond_true]
  rw [V.ren, e]
  simp only [true_and, hn, Nat.zero_add, List.length_map, Nat.le_refl, and_self, if_true, List.drop_zero]
  rw [List.take_of_length_le (by simp)]; rfl
theorem closed_brow (x : Bool) : (brow x).all V.closed = true := rfl
theorem same_self (k : Int) (l : List Int) : sameL k l k l = true := by simp [sameL]
theorem dec_self {α : Type} [DecidableEq α] (a : α) : (a = a) = True := by simp
variable {L : Lib} (hL : L.T = tab.get)
include hL
theorem right_v (k cands : Int) (s : Nat) (l : List Int) (c : Option Nat) (hs : s = 1 ∨ l = []) (hl : l.length < 4611686018427387904) : VFn L 30 [(.agg [.int .u8 k, tl mrow s (l) c]), .int .i64 cands] (.bool (decide (checkL k l cands = 0))) := by
  refine VFn.start (F := T30.1) (by rw [hL]; rfl) rfl rfl rfl ?_
  (repeat' (first | refine wSeq rfl ?_ | refine wBlock rfl ?_ | refine wSkip rfl ?_ | refine wExit rfl ?_ | refine wRet rfl ?_ | refine wCondT rfl rfl ?_ | refine wCondF rfl rfl ?_ | refine wOps rfl ?_ | refine wDraw rfl rfl ?_ | refine opsV_call rfl rfl (rcheck_v hL _ _ _ _ _ hs hl) ?_ | simp only [seval, push_cast, ↓reduceIte, ↓bP_some, ↓aP_true, reduceCtorEq]))
  exact FnQ.ret rfl rfl
theorem kept_v (hw : VFn L 10 [] (.bool true)) (k cands x y : Int) (l : List Int) (one two : List Bool) (hl : l.length ≤ 17592186043904) (h1 : one.length ≤ 140737488351232) (h2 : two.length ≤ 140737488351232) : VFn L 5 [(.agg [.int .u8 k, tl mrow 1 (l) none]), .int .i64 cands, tl brow 1 one none, tl brow 1 two none, .int .i64 x, .int .i64 y] (.bool true) := by
  refine VFn.start (F := T5.1) (by rw [hL]; rfl) rfl rfl rfl ?_
  cases hr : decide (checkL k l cands = 0) with
  | false =>
    (repeat' (first | refine wSeq rfl ?_ | refine wBlock rfl ?_ | refine wSkip rfl ?_ | refine wExit rfl ?_ | refine wRet rfl ?_ | refine wCondT rfl rfl ?_ | refine wCondF rfl rfl ?_ | refine wOps rfl ?_ | refine wDraw rfl rfl ?_ | refine opsV_call rfl rfl (right_v hL _ _ _ _ _ (.inl rfl) (show l.length < 4611686018427387904 by omega)) ?_ | refine opsV_call rfl rfl (hw) ?_ | simp only [seval, push_cast, ↓reduceIte, ↓bP_some, ↓aP_true, reduceCtorEq, hr]))
    exact FnQ.ret rfl rfl
  | true =>
    by_cases g1 : (60 : Int) < one.length
    · (repeat' (first | refine wSeq rfl ?_ | refine wBlock rfl ?_ | refine wSkip rfl ?_ | refine wExit rfl ?_ | refine wRet rfl ?_ | refine wCondT rfl rfl ?_ | refine wCondF rfl rfl ?_ | refine wOps rfl ?_ | refine wDraw rfl rfl ?_ | refine opsV_call rfl rfl (right_v hL _ _ _ _ _ (.inl rfl) (show l.length < 4611686018427387904 by omega)) ?_ | refine opsV_call rfl rfl (hw) ?_ | simp only [seval, push_cast, ↓reduceIte, ↓bP_some, ↓aP_true, reduceCtorEq, hr, g1]))
      exact FnQ.ret rfl rfl
    · by_cases g2 : (60 : Int) < two.length
      · (repeat' (first | refine wSeq rfl ?_ | refine wBlock rfl ?_ | refine wSkip rfl ?_ | refine wExit rfl ?_ | refine wRet rfl ?_ | refine wCondT rfl rfl ?_ | refine wCondF rfl rfl ?_ | refine wOps rfl ?_ | refine wDraw rfl rfl ?_ | refine opsV_call rfl rfl (right_v hL _ _ _ _ _ (.inl rfl) (show l.length < 4611686018427387904 by omega)) ?_ | refine opsV_call rfl rfl (hw) ?_ | simp only [seval, push_cast, ↓reduceIte, ↓bP_some, ↓aP_true, reduceCtorEq, hr, g1, g2]))
        exact FnQ.ret rfl rfl
      · have hmin : (if two.length < one.length then (two.length : Int) else (one.length : Int)) = ((List.zipWith and one two).length : Nat) := by
          rw [List.length_zipWith]
          split <;> congr 1 <;> omega
        have hn1 : (List.zipWith and one two).length ≤ one.length := by rw [List.length_zipWith]; omega
        have hn2 : (List.zipWith and one two).length ≤ two.length := by rw [List.length_zipWith]; omega
        have hq1 : (List.zipWith and one two).length * 1 ≤ 140737488355328 := by omega
        have hq2 : (List.zipWith and one two).length < 9223372036854775808 := by omega
        have hq3 : ∀ (i : Nat) (a b : Bool), one[i]? = some a → two[i]? = some b → (List.zipWith and one two)[i]? = some (a && b) := fun i a b ha hb => by rw [List.getElem?_zipWith, ha, hb]
        have hkk := keep_keep k l one two
        have hfin : checkL k (keepL k l (List.zipWith and one two)) cands = 0 := keep_right (of_decide_eq_true hr)
        (repeat' (first | refine wSeq rfl ?_ | refine wBlock rfl ?_ | refine wSkip rfl ?_ | refine wExit rfl ?_ | refine wRet rfl ?_ | refine wCondT rfl rfl ?_ | refine wCondF rfl rfl ?_ | refine wOps rfl ?_ | refine wDraw rfl rfl ?_ | refine opsV_call rfl rfl (right_v hL _ _ _ _ _ (.inl rfl) (show l.length < 4611686018427387904 by omega)) ?_ | refine opsV_call rfl rfl (hw) ?_ | simp only [seval, push_cast, ↓reduceIte, ↓bP_some, ↓aP_true, reduceCtorEq, hr, g1, g2, hmin, hq1, hq2]))
        generalize List.zipWith and one two = both at *
        refine wCntH rfl 14 both.length (fun _ => []) (fun j => [some (Blk.arr 2 [[V.int IntKind.u8 k, tl mrow 1 l none]]), some (Blk.arr 1 ((both.take j ++ List.replicate (both.length - j) false).map brow))]) (fun _ => True) rfl (by rw [List.take_zero, List.nil_append, Nat.sub_zero, List.map_replicate]; rfl) trivial ?_ ?_
        · intro j hj _
          have hj1 : j < one.length := by omega
          have hj2 : j < two.length := by omega
          obtain ⟨a, ha, _⟩ := get_of hj1
          obtain ⟨b, hb, _⟩ := get_of hj2
          have hab := hq3 j a b ha hb
          have hz := fill_get hj rfl
          have hset := fill_set hab rfl
          have hw' := wrap_succ (show j < 9223372036854775807 by omega)
          cases a with
          | false =>
            have hset' : (both.take j ++ List.replicate (both.length - j) false).set j false = both.take (j + 1) ++ List.replicate (both.length - (j + 1)) false := hset
            (repeat' (first | refine wSeq rfl ?_ | refine wBlock rfl ?_ | refine wSkip rfl ?_ | refine wExit rfl ?_ | refine wRet rfl ?_ | refine wCondT rfl rfl ?_ | refine wCondF rfl rfl ?_ | refine wOps rfl ?_ | refine wDraw rfl rfl ?_ | simp only [seval, push_cast, ↓reduceIte, ↓bP_some, ↓aP_true, reduceCtorEq, hj, ha, hb, iaQ_tl hj1, iaQ_tl hj2, row_brow, hz, brow_set, hset', hw']))
            exact qR_n rfl rfl trivial
          | true =>
            have hset' : (both.take j ++ List.replicate (both.length - j) false).set j b = both.take (j + 1) ++ List.replicate (both.length - (j + 1)) false := hset
            cases b with
            | false =>
              (repeat' (first | refine wSeq rfl ?_ | refine wBlock rfl ?_ | refine wSkip rfl ?_ | refine wExit rfl ?_ | refine wRet rfl ?_ | refine wCondT rfl rfl ?_ | refine wCondF rfl rfl ?_ | refine wOps rfl ?_ | refine wDraw rfl rfl ?_ | simp only [seval, push_cast, ↓reduceIte, ↓bP_some, ↓aP_true, reduceCtorEq, hj, ha, hb, iaQ_tl hj1, iaQ_tl hj2, row_brow, hz, brow_set, hset', hw']))
              exact qR_n rfl rfl trivial
            | true =>
              (repeat' (first | refine wSeq rfl ?_ | refine wBlock rfl ?_ | refine wSkip rfl ?_ | refine wExit rfl ?_ | refine wRet rfl ?_ | refine wCondT rfl rfl ?_ | refine wCondF rfl rfl ?_ | refine wOps rfl ?_ | refine wDraw rfl rfl ?_ | simp only [seval, push_cast, ↓reduceIte, ↓bP_some, ↓aP_true, reduceCtorEq, hj, ha, hb, iaQ_tl hj1, iaQ_tl hj2, row_brow, hz, brow_set, hset', hw']))
              exact qR_n rfl rfl trivial
        · intro _
          rw [take_all, Nat.sub_self, List.replicate_zero, List.append_nil]
          (repeat' (first | refine wSeq rfl ?_ | refine wBlock rfl ?_ | refine wSkip rfl ?_ | refine wExit rfl ?_ | refine wRet rfl ?_ | refine wCondT rfl rfl ?_ | refine wCondF rfl rfl ?_ | refine wOpsP rfl ?_ | refine wDraw rfl rfl ?_ | simp only [seval, push_cast, ↓reduceIte, ↓bP_some, ↓aP_true, reduceCtorEq]))
          refine opsP_all rfl ((keep_v hL k 1 1 l one none none (.inl rfl) hl (.inl rfl) (by omega)).at _) ?_
          rintro r h' ⟨rfl, rfl⟩
          (repeat' (first | refine wSeq rfl ?_ | refine wBlock rfl ?_ | refine wSkip rfl ?_ | refine wExit rfl ?_ | refine wRet rfl ?_ | refine wCondT rfl rfl ?_ | refine wCondF rfl rfl ?_ | refine wOpsP rfl ?_ | refine wDraw rfl rfl ?_ | simp only [seval, push_cast, ↓reduceIte, ↓bP_some, ↓aP_true, reduceCtorEq]))
          refine opsP_all rfl ((keep_v hL k 1 1 (keepL k l one) two none none (.inl rfl) (Nat.le_trans (keep_len k l one) hl) (.inl rfl) (by omega)).at _) ?_
          rintro r h' ⟨rfl, rfl⟩
          simp only [seval, push_cast, ↓reduceIte, ↓bP_some, ↓aP_true, reduceCtorEq]
          rw [hkk]
          have hl2 : l.length < 4611686018427387904 := by omega
          have hk2 : (keepL k l both).length < 4611686018427387904 := Nat.lt_of_le_of_lt (keep_len k l both) hl2
          have bt1 : (true == true) = true := rfl
          have bt2 : (false == false) = true := rfl
          have bt3 : (true == false) = false := rfl
          have bt4 : (false == true) = false := rfl
          refine wShift [some 0, some 2] [1] (E1 := [(1, V.int IntKind.i64 cands), (4, V.int IntKind.i64 x), (5, V.int IntKind.i64 y), (6, V.ptr 0 2 0 0), (13, tl brow 1 both (some both.length)), (15, V.ptr 1 2 0 0)]) (H1 := [some (Blk.arr 2 [[V.int IntKind.u8 k, tl mrow 1 l none]]), some (Blk.arr 2 [[V.int IntKind.u8 k, tl mrow 1 (keepL k l both) none]])]) rfl (congrArg (fun v => [(1, V.int IntKind.i64 cands), (4, V.int IntKind.i64 x), (5, V.int IntKind.i64 y), (6, V.ptr 0 2 0 0), (13, v), (15, V.ptr 1 2 0 0)]) (frz_src closed_brow rfl (by decide) rfl rfl)) rfl ?_
          (repeat' (first | refine wSeq rfl ?_ | refine wBlock rfl ?_ | refine wSkip rfl ?_ | refine wExit rfl ?_ | refine wRet rfl ?_ | refine wCondT rfl rfl ?_ | refine wCondF rfl rfl ?_ | refine wOps rfl ?_ | refine wDraw rfl rfl ?_ | refine opsV_call rfl rfl (right_v hL _ _ _ _ _ (.inl rfl) hk2) ?_ | refine opsV_call rfl rfl (hw) ?_ | refine opsV_call rfl rfl (rsame_v hL _ _ _ _ _ _ _ _ (.inl rfl) (.inl rfl) hk2 hk2) ?_ | refine opsV_call rfl rfl (keep_v hL _ _ _ _ _ _ _ (.inl rfl) hl (.inl rfl) (by omega)) ?_ | refine opsV_call rfl rfl (prefers_v hL _ _ _ _ _ _ (.inl rfl) hk2) ?_ | refine opsV_call rfl rfl (prefers_v hL _ _ _ _ _ _ (.inl rfl) hl2) ?_ | simp only [seval, push_cast, ↓reduceIte, ↓bP_some, ↓aP_true, reduceCtorEq, same_self, hfin]))
          by_cases x0 : 0 ≤ x
          · obtain ⟨n, rfl⟩ : ∃ n : Nat, x = n := ⟨x.toNat, by omega⟩
            by_cases y0 : 0 ≤ y
            · obtain ⟨m, rfl⟩ : ∃ m : Nat, y = m := ⟨y.toNat, by omega⟩
              by_cases xn : n < both.length
              · by_cases yn : m < both.length
                · obtain ⟨a, ha, _⟩ := get_of xn
                  obtain ⟨b, hb, _⟩ := get_of yn
                  cases a with
                  | false =>
                    cases hp : prefersL k l n m with
                    | false =>
                      (repeat' (first | refine wSeq rfl ?_ | refine wBlock rfl ?_ | refine wSkip rfl ?_ | refine wExit rfl ?_ | refine wRet rfl ?_ | refine wCondT rfl rfl ?_ | refine wCondF rfl rfl ?_ | refine wOps rfl ?_ | refine wDraw rfl rfl ?_ | refine opsV_call rfl rfl (right_v hL _ _ _ _ _ (.inl rfl) hk2) ?_ | refine opsV_call rfl rfl (hw) ?_ | refine opsV_call rfl rfl (rsame_v hL _ _ _ _ _ _ _ _ (.inl rfl) (.inl rfl) hk2 hk2) ?_ | refine opsV_call rfl rfl (keep_v hL _ _ _ _ _ _ _ (.inl rfl) hl (.inl rfl) (by omega)) ?_ | refine opsV_call rfl rfl (prefers_v hL _ _ _ _ _ _ (.inl rfl) hk2) ?_ | refine opsV_call rfl rfl (prefers_v hL _ _ _ _ _ _ (.inl rfl) hl2) ?_ | simp only [seval, push_cast, ↓reduceIte, ↓bP_some, ↓aP_true, reduceCtorEq, hp, prefers_irr, bt1, bt2, bt3, bt4, x0, y0, xn, yn, ha, row_brow, iaQ_tl xn]))
                      exact FnQ.ret rfl rfl
                    | true =>
                      have hp2 := prefers_asym hp
                      (repeat' (first | refine wSeq rfl ?_ | refine wBlock rfl ?_ | refine wSkip rfl ?_ | refine wExit rfl ?_ | refine wRet rfl ?_ | refine wCondT rfl rfl ?_ | refine wCondF rfl rfl ?_ | refine wOps rfl ?_ | refine wDraw rfl rfl ?_ | refine opsV_call rfl rfl (right_v hL _ _ _ _ _ (.inl rfl) hk2) ?_ | refine opsV_call rfl rfl (hw) ?_ | refine opsV_call rfl rfl (rsame_v hL _ _ _ _ _ _ _ _ (.inl rfl) (.inl rfl) hk2 hk2) ?_ | refine opsV_call rfl rfl (keep_v hL _ _ _ _ _ _ _ (.inl rfl) hl (.inl rfl) (by omega)) ?_ | refine opsV_call rfl rfl (prefers_v hL _ _ _ _ _ _ (.inl rfl) hk2) ?_ | refine opsV_call rfl rfl (prefers_v hL _ _ _ _ _ _ (.inl rfl) hl2) ?_ | simp only [seval, push_cast, ↓reduceIte, ↓bP_some, ↓aP_true, reduceCtorEq, hp, prefers_irr, bt1, bt2, bt3, bt4, x0, y0, xn, yn, ha, row_brow, iaQ_tl xn, hp2]))
                      exact FnQ.ret rfl rfl
                  | true =>
                    cases b with
                    | false =>
                      cases hp : prefersL k l n m with
                      | false =>
                        (repeat' (first | refine wSeq rfl ?_ | refine wBlock rfl ?_ | refine wSkip rfl ?_ | refine wExit rfl ?_ | refine wRet rfl ?_ | refine wCondT rfl rfl ?_ | refine wCondF rfl rfl ?_ | refine wOps rfl ?_ | refine wDraw rfl rfl ?_ | refine opsV_call rfl rfl (right_v hL _ _ _ _ _ (.inl rfl) hk2) ?_ | refine opsV_call rfl rfl (hw) ?_ | refine opsV_call rfl rfl (rsame_v hL _ _ _ _ _ _ _ _ (.inl rfl) (.inl rfl) hk2 hk2) ?_ | refine opsV_call rfl rfl (keep_v hL _ _ _ _ _ _ _ (.inl rfl) hl (.inl rfl) (by omega)) ?_ | refine opsV_call rfl rfl (prefers_v hL _ _ _ _ _ _ (.inl rfl) hk2) ?_ | refine opsV_call rfl rfl (prefers_v hL _ _ _ _ _ _ (.inl rfl) hl2) ?_ | simp only [seval, push_cast, ↓reduceIte, ↓bP_some, ↓aP_true, reduceCtorEq, hp, prefers_irr, bt1, bt2, bt3, bt4, x0, y0, xn, yn, ha, hb, row_brow, iaQ_tl xn, iaQ_tl yn]))
                        exact FnQ.ret rfl rfl
                      | true =>
                        have hp2 := prefers_asym hp
                        (repeat' (first | refine wSeq rfl ?_ | refine wBlock rfl ?_ | refine wSkip rfl ?_ | refine wExit rfl ?_ | refine wRet rfl ?_ | refine wCondT rfl rfl ?_ | refine wCondF rfl rfl ?_ | refine wOps rfl ?_ | refine wDraw rfl rfl ?_ | refine opsV_call rfl rfl (right_v hL _ _ _ _ _ (.inl rfl) hk2) ?_ | refine opsV_call rfl rfl (hw) ?_ | refine opsV_call rfl rfl (rsame_v hL _ _ _ _ _ _ _ _ (.inl rfl) (.inl rfl) hk2 hk2) ?_ | refine opsV_call rfl rfl (keep_v hL _ _ _ _ _ _ _ (.inl rfl) hl (.inl rfl) (by omega)) ?_ | refine opsV_call rfl rfl (prefers_v hL _ _ _ _ _ _ (.inl rfl) hk2) ?_ | refine opsV_call rfl rfl (prefers_v hL _ _ _ _ _ _ (.inl rfl) hl2) ?_ | simp only [seval, push_cast, ↓reduceIte, ↓bP_some, ↓aP_true, reduceCtorEq, hp, prefers_irr, bt1, bt2, bt3, bt4, x0, y0, xn, yn, ha, hb, row_brow, iaQ_tl xn, iaQ_tl yn, hp2]))
                        exact FnQ.ret rfl rfl
                    | true =>
                      have hpk := prefers_keep (k := k) (l := l) ha hb
                      cases hp : prefersL k l n m with
                      | false =>
                        (repeat' (first | refine wSeq rfl ?_ | refine wBlock rfl ?_ | refine wSkip rfl ?_ | refine wExit rfl ?_ | refine wRet rfl ?_ | refine wCondT rfl rfl ?_ | refine wCondF rfl rfl ?_ | refine wOps rfl ?_ | refine wDraw rfl rfl ?_ | refine opsV_call rfl rfl (right_v hL _ _ _ _ _ (.inl rfl) hk2) ?_ | refine opsV_call rfl rfl (hw) ?_ | refine opsV_call rfl rfl (rsame_v hL _ _ _ _ _ _ _ _ (.inl rfl) (.inl rfl) hk2 hk2) ?_ | refine opsV_call rfl rfl (keep_v hL _ _ _ _ _ _ _ (.inl rfl) hl (.inl rfl) (by omega)) ?_ | refine opsV_call rfl rfl (prefers_v hL _ _ _ _ _ _ (.inl rfl) hk2) ?_ | refine opsV_call rfl rfl (prefers_v hL _ _ _ _ _ _ (.inl rfl) hl2) ?_ | simp only [seval, push_cast, ↓reduceIte, ↓bP_some, ↓aP_true, reduceCtorEq, hp, prefers_irr, bt1, bt2, bt3, bt4, x0, y0, xn, yn, ha, hb, row_brow, iaQ_tl xn, iaQ_tl yn, hpk]))
                        exact FnQ.ret rfl rfl
                      | true =>
                        have hp2 := prefers_asym hp
                        (repeat' (first | refine wSeq rfl ?_ | refine wBlock rfl ?_ | refine wSkip rfl ?_ | refine wExit rfl ?_ | refine wRet rfl ?_ | refine wCondT rfl rfl ?_ | refine wCondF rfl rfl ?_ | refine wOps rfl ?_ | refine wDraw rfl rfl ?_ | refine opsV_call rfl rfl (right_v hL _ _ _ _ _ (.inl rfl) hk2) ?_ | refine opsV_call rfl rfl (hw) ?_ | refine opsV_call rfl rfl (rsame_v hL _ _ _ _ _ _ _ _ (.inl rfl) (.inl rfl) hk2 hk2) ?_ | refine opsV_call rfl rfl (keep_v hL _ _ _ _ _ _ _ (.inl rfl) hl (.inl rfl) (by omega)) ?_ | refine opsV_call rfl rfl (prefers_v hL _ _ _ _ _ _ (.inl rfl) hk2) ?_ | refine opsV_call rfl rfl (prefers_v hL _ _ _ _ _ _ (.inl rfl) hl2) ?_ | simp only [seval, push_cast, ↓reduceIte, ↓bP_some, ↓aP_true, reduceCtorEq, hp, prefers_irr, bt1, bt2, bt3, bt4, x0, y0, xn, yn, ha, hb, row_brow, iaQ_tl xn, iaQ_tl yn, hpk, hp2]))
                        exact FnQ.ret rfl rfl
                · cases hp : prefersL k l n m with
                  | false =>
                    (repeat' (first | refine wSeq rfl ?_ | refine wBlock rfl ?_ | refine wSkip rfl ?_ | refine wExit rfl ?_ | refine wRet rfl ?_ | refine wCondT rfl rfl ?_ | refine wCondF rfl rfl ?_ | refine wOps rfl ?_ | refine wDraw rfl rfl ?_ | refine opsV_call rfl rfl (right_v hL _ _ _ _ _ (.inl rfl) hk2) ?_ | refine opsV_call rfl rfl (hw) ?_ | refine opsV_call rfl rfl (rsame_v hL _ _ _ _ _ _ _ _ (.inl rfl) (.inl rfl) hk2 hk2) ?_ | refine opsV_call rfl rfl (keep_v hL _ _ _ _ _ _ _ (.inl rfl) hl (.inl rfl) (by omega)) ?_ | refine opsV_call rfl rfl (prefers_v hL _ _ _ _ _ _ (.inl rfl) hk2) ?_ | refine opsV_call rfl rfl (prefers_v hL _ _ _ _ _ _ (.inl rfl) hl2) ?_ | simp only [seval, push_cast, ↓reduceIte, ↓bP_some, ↓aP_true, reduceCtorEq, hp, prefers_irr, bt1, bt2, bt3, bt4, x0, y0, xn, yn]))
                    exact FnQ.ret rfl rfl
                  | true =>
                    have hp2 := prefers_asym hp
                    (repeat' (first | refine wSeq rfl ?_ | refine wBlock rfl ?_ | refine wSkip rfl ?_ | refine wExit rfl ?_ | refine wRet rfl ?_ | refine wCondT rfl rfl ?_ | refine wCondF rfl rfl ?_ | refine wOps rfl ?_ | refine wDraw rfl rfl ?_ | refine opsV_call rfl rfl (right_v hL _ _ _ _ _ (.inl rfl) hk2) ?_ | refine opsV_call rfl rfl (hw) ?_ | refine opsV_call rfl rfl (rsame_v hL _ _ _ _ _ _ _ _ (.inl rfl) (.inl rfl) hk2 hk2) ?_ | refine opsV_call rfl rfl (keep_v hL _ _ _ _ _ _ _ (.inl rfl) hl (.inl rfl) (by omega)) ?_ | refine opsV_call rfl rfl (prefers_v hL _ _ _ _ _ _ (.inl rfl) hk2) ?_ | refine opsV_call rfl rfl (prefers_v hL _ _ _ _ _ _ (.inl rfl) hl2) ?_ | simp only [seval, push_cast, ↓reduceIte, ↓bP_some, ↓aP_true, reduceCtorEq, hp, prefers_irr, bt1, bt2, bt3, bt4, x0, y0, xn, yn, hp2]))
                    exact FnQ.ret rfl rfl
              · cases hp : prefersL k l n m with
                | false =>
                  (repeat' (first | refine wSeq rfl ?_ | refine wBlock rfl ?_ | refine wSkip rfl ?_ | refine wExit rfl ?_ | refine wRet rfl ?_ | refine wCondT rfl rfl ?_ | refine wCondF rfl rfl ?_ | refine wOps rfl ?_ | refine wDraw rfl rfl ?_ | refine opsV_call rfl rfl (right_v hL _ _ _ _ _ (.inl rfl) hk2) ?_ | refine opsV_call rfl rfl (hw) ?_ | refine opsV_call rfl rfl (rsame_v hL _ _ _ _ _ _ _ _ (.inl rfl) (.inl rfl) hk2 hk2) ?_ | refine opsV_call rfl rfl (keep_v hL _ _ _ _ _ _ _ (.inl rfl) hl (.inl rfl) (by omega)) ?_ | refine opsV_call rfl rfl (prefers_v hL _ _ _ _ _ _ (.inl rfl) hk2) ?_ | refine opsV_call rfl rfl (prefers_v hL _ _ _ _ _ _ (.inl rfl) hl2) ?_ | simp only [seval, push_cast, ↓reduceIte, ↓bP_some, ↓aP_true, reduceCtorEq, hp, prefers_irr, bt1, bt2, bt3, bt4, x0, y0, xn]))
                  exact FnQ.ret rfl rfl
                | true =>
                  have hp2 := prefers_asym hp
                  (repeat' (first | refine wSeq rfl ?_ | refine wBlock rfl ?_ | refine wSkip rfl ?_ | refine wExit rfl ?_ | refine wRet rfl ?_ | refine wCondT rfl rfl ?_ | refine wCondF rfl rfl ?_ | refine wOps rfl ?_ | refine wDraw rfl rfl ?_ | refine opsV_call rfl rfl (right_v hL _ _ _ _ _ (.inl rfl) hk2) ?_ | refine opsV_call rfl rfl (hw) ?_ | refine opsV_call rfl rfl (rsame_v hL _ _ _ _ _ _ _ _ (.inl rfl) (.inl rfl) hk2 hk2) ?_ | refine opsV_call rfl rfl (keep_v hL _ _ _ _ _ _ _ (.inl rfl) hl (.inl rfl) (by omega)) ?_ | refine opsV_call rfl rfl (prefers_v hL _ _ _ _ _ _ (.inl rfl) hk2) ?_ | refine opsV_call rfl rfl (prefers_v hL _ _ _ _ _ _ (.inl rfl) hl2) ?_ | simp only [seval, push_cast, ↓reduceIte, ↓bP_some, ↓aP_true, reduceCtorEq, hp, prefers_irr, bt1, bt2, bt3, bt4, x0, y0, xn, hp2]))
                  exact FnQ.ret rfl rfl
            · cases hp : prefersL k l n y with
              | false =>
                (repeat' (first | refine wSeq rfl ?_ | refine wBlock rfl ?_ | refine wSkip rfl ?_ | refine wExit rfl ?_ | refine wRet rfl ?_ | refine wCondT rfl rfl ?_ | refine wCondF rfl rfl ?_ | refine wOps rfl ?_ | refine wDraw rfl rfl ?_ | refine opsV_call rfl rfl (right_v hL _ _ _ _ _ (.inl rfl) hk2) ?_ | refine opsV_call rfl rfl (hw) ?_ | refine opsV_call rfl rfl (rsame_v hL _ _ _ _ _ _ _ _ (.inl rfl) (.inl rfl) hk2 hk2) ?_ | refine opsV_call rfl rfl (keep_v hL _ _ _ _ _ _ _ (.inl rfl) hl (.inl rfl) (by omega)) ?_ | refine opsV_call rfl rfl (prefers_v hL _ _ _ _ _ _ (.inl rfl) hk2) ?_ | refine opsV_call rfl rfl (prefers_v hL _ _ _ _ _ _ (.inl rfl) hl2) ?_ | simp only [seval, push_cast, ↓reduceIte, ↓bP_some, ↓aP_true, reduceCtorEq, hp, prefers_irr, bt1, bt2, bt3, bt4, x0, y0]))
                exact FnQ.ret rfl rfl
              | true =>
                have hp2 := prefers_asym hp
                (repeat' (first | refine wSeq rfl ?_ | refine wBlock rfl ?_ | refine wSkip rfl ?_ | refine wExit rfl ?_ | refine wRet rfl ?_ | refine wCondT rfl rfl ?_ | refine wCondF rfl rfl ?_ | refine wOps rfl ?_ | refine wDraw rfl rfl ?_ | refine opsV_call rfl rfl (right_v hL _ _ _ _ _ (.inl rfl) hk2) ?_ | refine opsV_call rfl rfl (hw) ?_ | refine opsV_call rfl rfl (rsame_v hL _ _ _ _ _ _ _ _ (.inl rfl) (.inl rfl) hk2 hk2) ?_ | refine opsV_call rfl rfl (keep_v hL _ _ _ _ _ _ _ (.inl rfl) hl (.inl rfl) (by omega)) ?_ | refine opsV_call rfl rfl (prefers_v hL _ _ _ _ _ _ (.inl rfl) hk2) ?_ | refine opsV_call rfl rfl (prefers_v hL _ _ _ _ _ _ (.inl rfl) hl2) ?_ | simp only [seval, push_cast, ↓reduceIte, ↓bP_some, ↓aP_true, reduceCtorEq, hp, prefers_irr, bt1, bt2, bt3, bt4, x0, y0, hp2]))
                exact FnQ.ret rfl rfl
          · cases hp : prefersL k l x y with
            | false =>
              (repeat' (first | refine wSeq rfl ?_ | refine wBlock rfl ?_ | refine wSkip rfl ?_ | refine wExit rfl ?_ | refine wRet rfl ?_ | refine wCondT rfl rfl ?_ | refine wCondF rfl rfl ?_ | refine wOps rfl ?_ | refine wDraw rfl rfl ?_ | refine opsV_call rfl rfl (right_v hL _ _ _ _ _ (.inl rfl) hk2) ?_ | refine opsV_call rfl rfl (hw) ?_ | refine opsV_call rfl rfl (rsame_v hL _ _ _ _ _ _ _ _ (.inl rfl) (.inl rfl) hk2 hk2) ?_ | refine opsV_call rfl rfl (keep_v hL _ _ _ _ _ _ _ (.inl rfl) hl (.inl rfl) (by omega)) ?_ | refine opsV_call rfl rfl (prefers_v hL _ _ _ _ _ _ (.inl rfl) hk2) ?_ | refine opsV_call rfl rfl (prefers_v hL _ _ _ _ _ _ (.inl rfl) hl2) ?_ | simp only [seval, push_cast, ↓reduceIte, ↓bP_some, ↓aP_true, reduceCtorEq, hp, prefers_irr, bt1, bt2, bt3, bt4, x0]))
              exact FnQ.ret rfl rfl
            | true =>
              have hp2 := prefers_asym hp
              (repeat' (first | refine wSeq rfl ?_ | refine wBlock rfl ?_ | refine wSkip rfl ?_ | refine wExit rfl ?_ | refine wRet rfl ?_ | refine wCondT rfl rfl ?_ | refine wCondF rfl rfl ?_ | refine wOps rfl ?_ | refine wDraw rfl rfl ?_ | refine opsV_call rfl rfl (right_v hL _ _ _ _ _ (.inl rfl) hk2) ?_ | refine opsV_call rfl rfl (hw) ?_ | refine opsV_call rfl rfl (rsame_v hL _ _ _ _ _ _ _ _ (.inl rfl) (.inl rfl) hk2 hk2) ?_ | refine opsV_call rfl rfl (keep_v hL _ _ _ _ _ _ _ (.inl rfl) hl (.inl rfl) (by omega)) ?_ | refine opsV_call rfl rfl (prefers_v hL _ _ _ _ _ _ (.inl rfl) hk2) ?_ | refine opsV_call rfl rfl (prefers_v hL _ _ _ _ _ _ (.inl rfl) hl2) ?_ | simp only [seval, push_cast, ↓reduceIte, ↓bP_some, ↓aP_true, reduceCtorEq, hp, prefers_irr, bt1, bt2, bt3, bt4, x0, hp2]))
              exact FnQ.ret rfl rfl
omit hL
theorem kept_al (k : Int) (l : List Int) (hk : 0 ≤ k ∧ k ≤ 255) (hl : l.length ≤ 17592186043904) (hb : ∀ n ∈ l, -9223372036854775808 ≤ n ∧ n ≤ 9223372036854775807) (cands : Int) (hc : -9223372036854775808 ≤ cands ∧ cands ≤ 9223372036854775807) (one : List Bool) (h1 : one.length ≤ 140737488351232) (two : List Bool) (h2 : two.length ≤ 140737488351232) (x : Int) (hx : -9223372036854775808 ≤ x ∧ x ≤ 9223372036854775807) (y : Int) (hy : -9223372036854775808 ≤ y ∧ y ≤ 9223372036854775807) : VFn LL 5 [(.agg [.int .u8 k, tl mrow 1 (l) none]), .int .i64 cands, tl brow 1 one none, tl brow 1 two none, .int .i64 x, .int .i64 y] (.bool true) :=
  kept_v rfl wakes_v k cands x y l one two hl h1 h2
end Go.Proofs.YtnhfbabenifbkaaGreatDoor
