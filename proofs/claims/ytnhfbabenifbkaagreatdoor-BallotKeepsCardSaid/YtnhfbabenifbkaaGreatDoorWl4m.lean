/- Calls of closures; results; lists that may be nil. · Generic functions of the library, walked: copies. Lists that may be nil. · Generic functions of the library that take functions, walked: IndexFunc, DeleteFunc. · Ballots: the reference, walked: Keep, Turned, Rename. · Plain laws of what is kept of a ballot. · Ballots: the program's Keep, walked. · Sorting numbers: the library's insertion sort, walked. · Sorting few numbers: Sort, walked. · Ranges over functions: rounds; slices.Values, Collect, Sorted, walked. · Ballots: the program's turned, walked. · Plain laws of permutations and of sorted lists. · Ballots: the program's Rename, walked. · Plain laws of renaming a ballot. · Plain laws: the favorite follows the names. · Ballots: the reference, walked: Turned, Rename. · Ballots: what the laws share: right, booleans in blocks. · A number's place within a range, as the law reckons it. · Ballots: the law BallotRenames, walked. -/
import Derived.Test.YtnhfbabenifbkaaGreatDoorAlWk
import Derived.Test.YtnhfbabenifbkaaGreatDoorAlXl
import Derived.Test.YtnhfbabenifbkaaGreatDoorWg1
import Derived.Test.YtnhfbabenifbkaaGreatDoorBPl5
import Derived.Test.YtnhfbabenifbkaaGreatDoorWb2
import Derived.Test.YtnhfbabenifbkaaGreatDoorWr1
import Derived.Test.YtnhfbabenifbkaaGreatDoorWl1m
set_option maxRecDepth 100000
set_option maxHeartbeats 4000000
set_option linter.unusedVariables false
set_option linter.unusedSimpArgs false
namespace Go.Proofs.YtnhfbabenifbkaaGreatDoor
/-- A call of whatever is called, in a smaller memory: src are the blocks handed over. -/
theorem opsP_frm {L : Lib} {l : List AI} {K : Env → Heap → Prop} {E : Env} {H : Heap} {d : Option Nat} {anc : List Nat} (src : List Nat) {c : ACallee} {args : List AOpd} {k : Nat} {vs vs' : List V} {H0 : Heap} {Post : V → Heap → Prop} (hv : callee L.G E.get c args = some (.fn k, vs)) (hn : nodupO (src.map some) = true) (hlt : (src.all fun a => Nat.blt a H.length) = true) (hvs : vs.map (V.ren (sgOf H (src.map some) [])) = vs') (hH : H.sh (src.map some) [] = H0) (hf : AFn L (.fn k) vs' H0 Post) (h : ∀ r h', Post r h' → opsP L l K (E.put d (r.ren (outσ H.length src))) (H.back src h')) : opsP L (⟨d, .call c args, none, anc⟩ :: l) K E H := by
  show stepP L ⟨d, .call c args, none, anc⟩ (opsP L l K) E H
  unfold stepP AI.goes
  show CallP L E.get H c args _
  unfold CallP
  rw [hv]
  show AFn L (.fn k) vs H _
  refine AFn.frame (k' := .fn k) src [] rfl hn hlt ?_
  rw [hvs, hH]
  exact hf.mono fun r h' hp => ⟨rfl, h r h' hp⟩
/-- A call as it stands. -/
theorem opsP_all {L : Lib} {l : List AI} {K : Env → Heap → Prop} {E : Env} {H : Heap} {d : Option Nat} {anc : List Nat} {c : ACallee} {args : List AOpd} {k : Nat} {vs : List V} {Post : V → Heap → Prop} (hv : callee L.G E.get c args = some (.fn k, vs)) (hf : AFn L (.fn k) vs H Post) (h : ∀ r h', Post r h' → opsP L l K (E.put d r) h') : opsP L (⟨d, .call c args, none, anc⟩ :: l) K E H := by
  show stepP L ⟨d, .call c args, none, anc⟩ (opsP L l K) E H
  unfold stepP AI.goes
  show CallP L E.get H c args _
  unfold CallP
  rw [hv]
  show AFn L (.fn k) vs H _
  exact hf.mono h
theorem FnQ.at {F : AFunc} {n0 : Nat} {P : V → Heap → Prop} {E : Env} {H : Heap} {r : V} (h : resV E.get H.get F.results = some r) (hP : P r H) : FnQ F n0 P .ret E H := by
  have : ResP F.results n0 P E H := by
    unfold ResP
    rw [h]
    exact .inl hP
  exact this
theorem FnQ.sh {F : AFunc} {n0 : Nat} {P : V → Heap → Prop} {E : Env} {H : Heap} {r0 r : V} {H1 : Heap} (src : List (Option Nat)) (fz : List Nat) (ho : okSh n0 src = true) (h : resV E.get H.get F.results = some r0) (hr : r0.ren (sgOf H src fz) = r) (hH : H.sh src fz = H1) (hP : P r H1) : FnQ F n0 P .ret E H := by
  have : ResP F.results n0 P E H := by
    unfold ResP
    rw [h]
    refine .inr ⟨src, fz, ho, ?_⟩
    rw [hr, hH]; exact hP
  exact this
theorem rel_nilcase {N : Nums} {w : World} {S : Nat → Prop} {β : Nat → Option Nat} {s : Nat} {c : Option Nat} {x : Value} (h : Rel N w S β (.lst s [] c) x) : Rel N w S β (.lst 0 [] c) x ∨ Rel N w S β (.lst 1000003 [] c) x := by
  cases h with
  | lst _ _ _ _ a cc b off ys hc hlc ha hn hr hy h hz =>
    by_cases e : a = none
    · exact .inl (.lst β 0 [] c a cc b off ys hc hlc ha hn (fun i row h => by simp at h) (fun i row j x h => by simp at h) (fun i row j x h => by simp at h) ⟨fun _ _ => e, fun h => by simp at h⟩)
    · exact .inr (.lst β 1000003 [] c a cc b off ys hc hlc ha hn (fun i row h => by simp at h) (fun i row j x h => by simp at h) (fun i row j x h => by simp at h) ⟨fun h => by simp at h, fun _ _ => e⟩)
theorem rel_weak {N : Nums} {w : World} {S : Nat → Prop} {β : Nat → Option Nat} {s : Nat} {c : Option Nat} {x : Value} (h : Rel N w S β (.lst s [] c) x) : Rel N w S β (.lst 1 [] none) x := by
  cases h with
  | lst _ _ _ _ a cc b off ys hc hlc ha hn hr hy h hz =>
    exact .lst β 1 [] none a cc b off ys (fun k h => by cases h) hlc ha hn (fun i row h => by simp at h) (fun i row j x h => by simp at h) (fun i row j x h => by simp at h) ⟨fun h => by simp at h, fun h => by simp at h⟩
theorem AFn.nilcase {L : Lib} {k : Tgt} {s : Nat} {c : Option Nat} {H : Heap} {Post : V → Heap → Prop} (h0 : AFn L k [.lst 0 [] c] H Post) (h1 : AFn L k [.lst 1000003 [] c] H Post) : AFn L k [.lst s [] c] H Post := by
  intro C hC A w β vs hA hd hh hg ha
  obtain ⟨hn, har⟩ := ha
  have hsz : vs.size = 1 := hn
  have hr := har 0 _ vs[0] rfl (by simp [hsz])
  have go : ∀ v, Rel C.N w (Imm A w β H.get) β v vs[0] → RArgs C w (Imm A w β H.get) β [v] vs := fun v hv => ⟨hn, fun i u x hu hx => by
    match i with
    | 0 =>
      have hu : some v = some u := hu
      cases hu
      rw [Array.getElem?_eq_getElem (by omega)] at hx
      cases hx
      exact hv
    | i + 1 => simp at hu⟩
  rcases rel_nilcase hr with h | h
  · exact h0 C hC A w β vs hA hd hh hg (go _ h)
  · exact h1 C hC A w β vs hA hd hh hg (go _ h)
theorem AFn.weakE {L : Lib} {k : Tgt} {args : List V} {H H1 : Heap} (h : AFn L k args H (fun r H' => (∃ s c, r = .lst s [] c) ∧ H' = H1)) : AFn L k args H (fun r H' => r = .lst 1 [] none ∧ H' = H1) := by
  intro C hC A w β vs hA hd hh hg ha
  refine (h C hC A w β vs hA hd hh hg ha).mono ?_
  rintro e w' ⟨v, r, H', β', h1, ⟨⟨s, c, rfl⟩, rfl⟩, h3, h4, h5, h6, h7, h8⟩
  exact ⟨v, _, _, β', h1, ⟨rfl, rfl⟩, h3, h4, h5, h6, rel_weak h7, h8⟩
end Go.Proofs.YtnhfbabenifbkaaGreatDoor
set_option maxRecDepth 100000
set_option maxHeartbeats 4000000
set_option linter.unusedVariables false
set_option linter.unusedSimpArgs false
namespace Go.Proofs.YtnhfbabenifbkaaGreatDoor
theorem isnil_tl {α : Type} {f : α → List V} {s : Nat} {l : List α} {c : Option Nat} (h : l ≠ []) : isnilQ 0 false (tl f s l c) = some (.bool false) := by
  have : ¬ l.length = 0 := fun e => h (List.length_eq_zero_iff.1 e)
  simp [isnilQ, isnilV, tl, this, h]
theorem rowsOf_tl {α : Type} {f : α → List V} {s : Nat} {l : List α} {c : Option Nat} {g : Nat → Option Blk} : rowsOf s g (tl f s l c) = some (l.map f, []) := by
  unfold tl
  simp [rowsOf]
variable {L : Lib} (hL : L.T = tab.get)
include hL
theorem clone_e (s : Nat) (c : Option Nat) : VFn L 46 [tl mrow s [] c] (tl mrow 1 [] none) := by
  refine ⟨rfl, rfl, AFn.weakE (AFn.nilcase (s := s) ?_ ?_)⟩
  · refine AFn.of_body (F := T46.1) (by rw [hL]; rfl) rfl ?_
    (repeat' (first | refine wSeq rfl ?_ | refine wBlock rfl ?_ | refine wSkip rfl ?_ | refine wExit rfl ?_ | refine wRet rfl ?_ | refine wCondT rfl rfl ?_ | refine wCondF rfl rfl ?_ | refine wOps rfl ?_ | refine wDraw rfl rfl ?_ | simp only [seval, push_cast, ↓reduceIte, ↓bP_some, ↓aP_true, reduceCtorEq]))
    exact FnQ.at rfl ⟨⟨_, _, rfl⟩, rfl⟩
  · refine AFn.of_body (F := T46.1) (by rw [hL]; rfl) rfl ?_
    (repeat' (first | refine wSeq rfl ?_ | refine wBlock rfl ?_ | refine wSkip rfl ?_ | refine wExit rfl ?_ | refine wRet rfl ?_ | refine wCondT rfl rfl ?_ | refine wCondF rfl rfl ?_ | refine wOps rfl ?_ | refine wDraw rfl rfl ?_ | simp only [seval, push_cast, ↓reduceIte, ↓bP_some, ↓aP_true, reduceCtorEq, isnilQ_non]))
    exact FnQ.sh [] [0] rfl rfl rfl rfl ⟨⟨_, _, rfl⟩, rfl⟩
theorem clone_v (l : List Int) (c : Option Nat) (hne : l ≠ []) (hl : l.length ≤ 17592186043904) : MFn L 46 [tl mrow 1 l c] (.ref 0 1 0 l.length none) [some (.arr 1 (l.map mrow))] := by
  refine ⟨rfl, ?_⟩
  refine AFn.of_body (F := T46.1) (by rw [hL]; rfl) rfl ?_
  have hne' : ¬ l.length ≤ 0 := fun e => hne (List.length_eq_zero_iff.1 (Nat.le_zero.1 e))
  have hroom : l.length * 8 ≤ 140737488355328 := by omega
  (repeat' (first | refine wSeq rfl ?_ | refine wBlock rfl ?_ | refine wSkip rfl ?_ | refine wExit rfl ?_ | refine wRet rfl ?_ | refine wCondT rfl rfl ?_ | refine wCondF rfl rfl ?_ | refine wOps rfl ?_ | refine wDraw rfl rfl ?_ | simp only [seval, push_cast, ↓reduceIte, ↓bP_some, ↓aP_true, reduceCtorEq, isnil_tl hne, rowsOf_tl, hne', hroom]))
  exact FnQ.sh [some 1] [] rfl rfl rfl (sh_c (sh_b closed_mrow rfl) sh_n) ⟨rfl, rfl⟩
end Go.Proofs.YtnhfbabenifbkaaGreatDoor
set_option maxRecDepth 100000
set_option maxHeartbeats 4000000
set_option linter.unusedVariables false
set_option linter.unusedSimpArgs false
namespace Go.Proofs.YtnhfbabenifbkaaGreatDoor
/-- A value is a slice of these things in this memory. -/
structure IsSl (H : Heap) (v : V) (l : List Int) : Prop where
  len : lenQ v = some (.int .i64 l.length)
  at' : ∀ i x, l[i]? = some x → ∃ p, iaQ 1 v i = some p ∧ loadQ H.get 1 true p = some (.int .i64 x)
theorem IsSl.tl {H : Heap} {s : Nat} {l : List Int} {c : Option Nat} (hs : s = 1 ∨ l = []) : IsSl H (tl mrow s l c) l :=
  ⟨lenQ_tl, fun i x hx => by
    have hi := (List.getElem?_eq_some_iff.1 hx).1
    obtain rfl := size_of hs hi
    refine ⟨_, iaQ_tl hi, ?_⟩
    rw [loadQ_iptr, row_tl, hx]; rfl⟩
/-- The first place where p holds, or -1. -/
def findL (p : Int → Bool) (l : List Int) (j : Nat) : Int := match l with | [] => -1 | x :: r => if p x then (j : Int) else findL p r (j + 1)
theorem drop_at' {α : Type} {l : List α} {j : Nat} {x : α} (h : l[j]? = some x) : l.drop j = x :: l.drop (j + 1) := by
  obtain ⟨h1, rfl⟩ := List.getElem?_eq_some_iff.1 h
  exact List.drop_eq_getElem_cons h1
variable {L : Lib} (hL : L.T = tab.get)
include hL
theorem indexFunc_a {H : Heap} {v : V} {l : List Int} {kf : Nat} {fs cs : List V} {p : Int → Bool} (hv : IsSl H v l) (hl : l.length < 4611686018427387904) (hf : ∀ x ∈ l, AFn L (.fn kf) (fs ++ [.int .i64 x] ++ cs) H (fun r H' => r = .bool (p x) ∧ H' = H)) : AFn L (.fn 60) [v, .fn kf fs cs] H (fun r H' => r = .int .i64 (findL p l 0) ∧ H' = H) := by
  refine AFn.of_body (F := T60.1) (by rw [hL]; rfl) rfl ?_
  (repeat' (first | refine wSeq rfl ?_ | refine wBlock rfl ?_ | refine wSkip rfl ?_ | refine wExit rfl ?_ | refine wRet rfl ?_ | refine wCondT rfl rfl ?_ | refine wCondF rfl rfl ?_ | refine wOps rfl ?_ | refine wDraw rfl rfl ?_ | simp only [seval, push_cast, ↓reduceIte, ↓bP_some, ↓aP_true, reduceCtorEq, hv.len]))
  refine wCnt rfl 8 l.length (fun _ => []) (fun j => findL p l 0 = findL p (l.drop j) j) rfl rfl ?_ ?_
  · intro j hj hI
    obtain ⟨x, hx, hm⟩ := get_of hj
    obtain ⟨q, hq1, hq2⟩ := hv.at' j x hx
    have hd := drop_at' hx
    (repeat' (first | refine wSeq rfl ?_ | refine wBlock rfl ?_ | refine wSkip rfl ?_ | refine wExit rfl ?_ | refine wRet rfl ?_ | refine wCondT rfl rfl ?_ | refine wCondF rfl rfl ?_ | refine wOpsP rfl ?_ | refine wDraw rfl rfl ?_ | simp only [seval, push_cast, ↓reduceIte, ↓bP_some, ↓aP_true, reduceCtorEq, hj, hq1, hq2]))
    refine opsP_all (k := kf) (vs := fs ++ [.int .i64 x] ++ cs) rfl (hf x hm) ?_
    rintro r h' ⟨rfl, rfl⟩
    cases hp : p x with
    | true =>
      (repeat' (first | refine wSeq rfl ?_ | refine wBlock rfl ?_ | refine wSkip rfl ?_ | refine wExit rfl ?_ | refine wRet rfl ?_ | refine wCondT rfl rfl ?_ | refine wCondF rfl rfl ?_ | refine wOps rfl ?_ | refine wDraw rfl rfl ?_ | simp only [seval, push_cast, ↓reduceIte, ↓bP_some, ↓aP_true, reduceCtorEq]))
      rw [show findL p l 0 = (j : Int) by rw [hI, hd]; exact if_pos hp]
      exact FnQ.at rfl ⟨rfl, rfl⟩
    | false =>
      (repeat' (first | refine wSeq rfl ?_ | refine wBlock rfl ?_ | refine wSkip rfl ?_ | refine wExit rfl ?_ | refine wRet rfl ?_ | refine wCondT rfl rfl ?_ | refine wCondF rfl rfl ?_ | refine wOps rfl ?_ | refine wDraw rfl rfl ?_ | simp only [seval, push_cast, ↓reduceIte, ↓bP_some, ↓aP_true, reduceCtorEq, wrap_succ (show j < 9223372036854775807 by omega)]))
      refine qR_n rfl rfl ?_
      rw [hI, hd]
      exact if_neg (by rw [hp]; simp)
  · intro hI
    (repeat' (first | refine wSeq rfl ?_ | refine wBlock rfl ?_ | refine wSkip rfl ?_ | refine wExit rfl ?_ | refine wRet rfl ?_ | refine wCondT rfl rfl ?_ | refine wCondF rfl rfl ?_ | refine wOps rfl ?_ | refine wDraw rfl rfl ?_ | simp only [seval, push_cast, ↓reduceIte, ↓bP_some, ↓aP_true, reduceCtorEq]))
    rw [show findL p l 0 = -1 by rw [hI, List.drop_eq_nil_of_le (Nat.le_refl _)]; rfl]
    exact FnQ.at rfl ⟨rfl, rfl⟩
omit hL
/-- What DeleteFunc keeps, and how it gets there: i places are filled, j looked at. -/
theorem findL_ge (p : Int → Bool) : ∀ (l : List Int) (j : Nat), findL p l j = -1 ∧ (∀ x ∈ l, p x = false) ∨ ∃ i, i < l.length ∧ findL p l j = ((j + i : Nat) : Int) ∧ (∀ x ∈ l.take i, p x = false) ∧ ∃ x, l[i]? = some x ∧ p x = true
  | [], j => .inl ⟨rfl, fun x h => by cases h⟩
  | a :: r, j => by
    unfold findL
    cases hp : p a with
    | true => exact .inr ⟨0, by simp, by simp, fun x h => by simp at h, a, rfl, hp⟩
    | false =>
      rw [if_neg (by simp)]
      rcases findL_ge p r (j + 1) with ⟨h1, h2⟩ | ⟨i, h1, h2, h3, x, h4, h5⟩
      · left
        refine ⟨h1, fun x hx => ?_⟩
        rcases List.mem_cons.1 hx with rfl | hx
        · exact hp
        · exact h2 x hx
      · right
        refine ⟨i + 1, by simp; omega, by rw [h2]; congr 1; omega, fun x hx => ?_, x, h4, h5⟩
        rw [List.take_succ_cons] at hx
        rcases List.mem_cons.1 hx with rfl | hx
        · exact hp
        · exact h3 x hx
def clrR (size : Nat) (zero : List V) (a off len : Nat) : Option Blk → Option Eff
  | some (.arr s rows) => if s = size ∧ off + len ≤ rows.length then some { v := .tup [], need := [a], upd := [(a, some (.arr size (over rows off (List.replicate len zero))))] } else none
  | _ => none
theorem clrV_ref {g : Nat → Option Blk} {size : Nat} {zero : List V} {a off len : Nat} {c : Option Nat} : clrV size zero g (.ref a size off len c) = clrR size zero a off len (g a) := by
  unfold clrV clrR
  dsimp only
  cases g a with
  | none => rfl
  | some k => cases k <;> simp
theorem clrR_arr {size : Nat} {zero : List V} {a off len : Nat} {rows : List (List V)} : clrR size zero a off len (some (.arr size rows)) = if off + len ≤ rows.length then some { v := .tup [], need := [a], upd := [(a, some (.arr size (over rows off (List.replicate len zero))))] } else none := by simp [clrR]
theorem mrow_set {r : List Int} {i : Nat} {x : Int} : (r.map mrow).set i [.int .i64 x] = (r.set i x).map mrow := by rw [List.map_set]; rfl
theorem over_zero {r : List Int} {i n : Nat} : over (r.map mrow) i (List.replicate n [.int .i64 0]) = (r.take i ++ (List.replicate n 0 ++ r.drop (i + n))).map mrow := by
  unfold over
  simp [List.map_take, List.map_drop, mrow]
theorem set_fill {l r : List Int} {p : Int → Bool} {i j : Nat} {x : Int} (hx : l[j]? = some x) (hij : i ≤ j) (hr : r.length = l.length) (h1 : r.take i = (l.take j).filter fun x => !p x) (h2 : r.drop j = l.drop j) (hp : p x = false) : (r.set i x).take (i + 1) = (l.take (j + 1)).filter (fun x => !p x) ∧ (r.set i x).drop (j + 1) = l.drop (j + 1) := by
  have hj := (List.getElem?_eq_some_iff.1 hx).1
  constructor
  · rw [take_snoc hx, List.filter_append, ← h1, List.take_add_one]
    have e1 : (r.set i x).take i = r.take i := by rw [List.take_set_of_le (Nat.le_refl _)]
    rw [e1]
    congr 1
    rw [List.getElem?_set_self (by omega)]
    simp [hp]
  · rw [List.drop_set_of_lt (by omega)]
    have := congrArg (List.drop 1) h2
    rw [List.drop_drop, List.drop_drop] at this
    exact this
include hL
theorem deleteFunc_a {Hc : Heap} {l : List Int} {kf : Nat} {fs cs : List V} {p : Int → Bool} (hl : l.length < 4611686018427387904) (hf : ∀ (b : Blk) (x : Int), AFn L (.fn kf) (fs ++ [.int .i64 x] ++ cs) (some b :: Hc) (fun r H' => r = .bool (p x) ∧ H' = some b :: Hc)) :
    AFn L (.fn 47) [.ref 0 1 0 l.length none, .fn kf fs cs] (some (.arr 1 (l.map mrow)) :: Hc) (fun r H' => r = .ref 0 1 0 (l.filter fun x => !p x).length none ∧ ∃ t : List Int, H' = some (.arr 1 (((l.filter fun x => !p x) ++ t).map mrow)) :: Hc) := by
  refine AFn.of_body (F := T47.1) (by rw [hL]; rfl) rfl ?_
  have hv : IsSl (some (.arr 1 (l.map mrow)) :: Hc) (.ref 0 1 0 l.length none) l := ⟨rfl, fun i x hx => by
    have hi := (List.getElem?_eq_some_iff.1 hx).1
    refine ⟨.ptr 0 1 (0 + i) 0, by rw [iaQ_ref, if_pos ⟨rfl, hi⟩], ?_⟩
    rw [loadQ_ptr, Heap.get_cons0, loadB_arr, Nat.zero_add, row_tl, hx]; rfl⟩
  (repeat' (first | refine wSeq rfl ?_ | refine wBlock rfl ?_ | refine wSkip rfl ?_ | refine wExit rfl ?_ | refine wRet rfl ?_ | refine wCondT rfl rfl ?_ | refine wCondF rfl rfl ?_ | refine wOpsP rfl ?_ | refine wDraw rfl rfl ?_ | simp only [seval, push_cast, ↓reduceIte, ↓bP_some, ↓aP_true, reduceCtorEq]))
  refine opsP_all (vs := [.ref 0 1 0 l.length none, .fn kf fs cs]) rfl (indexFunc_a hL hv hl (fun x _ => hf _ x)) ?_
  rintro r h' ⟨rfl, rfl⟩
  rcases findL_ge p l 0 with ⟨h1, h2⟩ | ⟨i, h1, h2, h3, x, h4, h5⟩
  · (repeat' (first | refine wSeq rfl ?_ | refine wBlock rfl ?_ | refine wSkip rfl ?_ | refine wExit rfl ?_ | refine wRet rfl ?_ | refine wCondT rfl rfl ?_ | refine wCondF rfl rfl ?_ | refine wOps rfl ?_ | refine wDraw rfl rfl ?_ | simp only [seval, push_cast, ↓reduceIte, ↓bP_some, ↓aP_true, reduceCtorEq, h1]))
    have e : (l.filter fun x => !p x) = l := List.filter_eq_self.2 fun x hx => by rw [h2 x hx]; rfl
    refine FnQ.at rfl ⟨by rw [e], [], by rw [e, List.append_nil]⟩
  · rw [Nat.zero_add] at h2
    (repeat' (first | refine wSeq rfl ?_ | refine wBlock rfl ?_ | refine wSkip rfl ?_ | refine wExit rfl ?_ | refine wRet rfl ?_ | refine wCondT rfl rfl ?_ | refine wCondF rfl rfl ?_ | refine wOps rfl ?_ | refine wDraw rfl rfl ?_ | simp only [seval, push_cast, ↓reduceIte, ↓bP_some, ↓aP_true, reduceCtorEq, h2, wrap_succ (show i < 9223372036854775807 by omega)]))
    refine wWhile rfl (fun s : Nat × Nat × List Int => [(0, .ref 0 1 0 l.length none), (1, .fn kf fs cs), (5, .int .i64 (s.2.1 : Nat)), (6, .int .i64 (s.1 : Nat))]) (fun s => some (.arr 1 (s.2.2.map mrow)) :: Hc) (fun s => l.length - s.1) (fun s => s.2.1 ≤ s.1 ∧ s.1 ≤ l.length ∧ s.2.2.length = l.length ∧ s.2.2.take s.2.1 = (l.take s.1).filter (fun x => !p x) ∧ s.2.2.drop s.1 = l.drop s.1) (i + 1, i, l) rfl rfl ?_ ?_
    · refine ⟨Nat.le_succ i, h1, rfl, ?_, rfl⟩
      show l.take i = (l.take (i + 1)).filter _
      rw [take_snoc h4, List.filter_append]
      have e1 : (l.take i).filter (fun x => !p x) = l.take i := List.filter_eq_self.2 fun x hx => by rw [h3 x hx]; rfl
      rw [e1]; simp [h5]
    · rintro ⟨j, i', r⟩ ⟨g1, g2, g3, g4, g5⟩
      dsimp only at g1 g2 g3 g4 g5 ⊢
      by_cases hj : j < l.length
      · obtain ⟨x, hx, hm⟩ := get_of hj
        have hrx : r[j]? = some x := by
          have := congrArg (fun q => q[0]?) g5
          simp only [List.getElem?_drop, Nat.add_zero] at this
          rw [this, hx]
        have hi' : i' < l.length := by omega
        (repeat' (first | refine wSeq rfl ?_ | refine wBlock rfl ?_ | refine wSkip rfl ?_ | refine wExit rfl ?_ | refine wRet rfl ?_ | refine wCondT rfl rfl ?_ | refine wCondF rfl rfl ?_ | refine wOpsP rfl ?_ | refine wDraw rfl rfl ?_ | simp only [seval, push_cast, ↓reduceIte, ↓bP_some, ↓aP_true, reduceCtorEq, hj, hrx]))
        refine opsP_all (k := kf) (vs := fs ++ [.int .i64 x] ++ cs) rfl (hf _ x) ?_
        rintro v h' ⟨rfl, rfl⟩
        have hw := wrap_succ (show j < 9223372036854775807 by omega)
        have hw2 := wrap_succ (show i' < 9223372036854775807 by omega)
        cases hp : p x with
        | true =>
          (repeat' (first | refine wSeq rfl ?_ | refine wBlock rfl ?_ | refine wSkip rfl ?_ | refine wExit rfl ?_ | refine wRet rfl ?_ | refine wCondT rfl rfl ?_ | refine wCondF rfl rfl ?_ | refine wOps rfl ?_ | refine wDraw rfl rfl ?_ | simp only [seval, push_cast, ↓reduceIte, ↓bP_some, ↓aP_true, reduceCtorEq, hw]))
          refine qW_n (j + 1, i', r) rfl rfl ⟨by dsimp only; omega, by dsimp only; omega, hj, g3, ?_, ?_⟩
          · dsimp only; rw [g4, take_snoc hx, List.filter_append]; simp [hp]
          · dsimp only
            have := congrArg (List.drop 1) g5
            rw [List.drop_drop, List.drop_drop] at this
            exact this
        | false =>
          obtain ⟨f1, f2⟩ := set_fill hx g1 g3 g4 g5 hp
          obtain ⟨z, hz, _⟩ := get_of (show i' < r.length by omega)
          (repeat' (first | refine wSeq rfl ?_ | refine wBlock rfl ?_ | refine wSkip rfl ?_ | refine wExit rfl ?_ | refine wRet rfl ?_ | refine wCondT rfl rfl ?_ | refine wCondF rfl rfl ?_ | refine wOps rfl ?_ | refine wDraw rfl rfl ?_ | simp only [seval, push_cast, ↓reduceIte, ↓bP_some, ↓aP_true, reduceCtorEq, hw, hw2, hi', hz, mrow_set, Nat.succ_pos Hc.length]))
          exact qW_n (j + 1, i' + 1, r.set i' x) rfl rfl ⟨by dsimp only; omega, by dsimp only; omega, hj, by dsimp only; rw [List.length_set, g3], f1, f2⟩
      · obtain rfl : j = l.length := by omega
        have q1 : i' + (l.length - i') ≤ r.length := by omega
        have q2 : i' ≤ l.length := g1
        (repeat' (first | refine wSeq rfl ?_ | refine wBlock rfl ?_ | refine wSkip rfl ?_ | refine wExit rfl ?_ | refine wRet rfl ?_ | refine wCondT rfl rfl ?_ | refine wCondF rfl rfl ?_ | refine wOps rfl ?_ | refine wDraw rfl rfl ?_ | simp only [seval, push_cast, ↓reduceIte, ↓bP_some, ↓aP_true, reduceCtorEq, q2, clrV_ref, clrR_arr, q1, over_zero, Nat.succ_pos Hc.length, Nat.zero_le, Nat.sub_zero]))
        rw [take_all] at g4
        have g6 : (l.filter fun x => !p x).length = i' := by rw [← g4, List.length_take]; omega
        rw [g4]
        exact FnQ.at rfl ⟨by rw [g6], _, rfl⟩
end Go.Proofs.YtnhfbabenifbkaaGreatDoor
set_option maxRecDepth 100000
set_option maxHeartbeats 4000000
set_option linter.unusedVariables false
set_option linter.unusedSimpArgs false
namespace Go.Proofs.YtnhfbabenifbkaaGreatDoor
variable {L : Lib} (hL : L.T = tab.get)
omit hL
/-- What one mark adds to what is kept. -/
def keep1 (k : Int) (left : List Bool) (j : Nat) (x : Int) : List Int := if k = 1 ∨ k = 2 then (if isLeft left x then [x] else []) else if k = 3 then [if left[j]?.getD false then x else 0] else [x]
theorem keep_step {k : Int} {l : List Int} {left : List Bool} {j : Nat} {x : Int} (hx : l[j]? = some x) : keepL k (l.take (j + 1)) left = keepL k (l.take j) left ++ keep1 k left j x := by
  have hj := (List.getElem?_eq_some_iff.1 hx).1
  rw [take_snoc hx]
  unfold keepL keep1
  by_cases h : k = 1 ∨ k = 2
  · rw [if_pos h, if_pos h, if_pos h, List.filter_append]
    cases hq : isLeft left x <;> simp [hq]
  · rw [if_neg h, if_neg h, if_neg h]
    by_cases h3 : k = 3
    · rw [if_pos h3, if_pos h3, if_pos h3, List.mapIdx_append]
      simp [Nat.min_eq_left (Nat.le_of_lt hj)]
    · rw [if_neg h3, if_neg h3, if_neg h3]
theorem keep_len (k : Int) (l : List Int) (left : List Bool) : (keepL k l left).length ≤ l.length := by
  unfold keepL
  split
  · exact List.length_filter_le _ _
  · split <;> simp
theorem isLeft_in {left : List Bool} {n : Nat} {b : Bool} (h : left[n]? = some b) : isLeft left n = b := by simp [isLeft, h]
theorem isLeft_neg {left : List Bool} {x : Int} (h : ¬ 0 ≤ x) : isLeft left x = false := by simp [isLeft, h]
theorem isLeft_big {left : List Bool} {n : Nat} (h : ¬ n < left.length) : isLeft left n = false := by
  simp [isLeft, List.getElem?_eq_none (show left.length ≤ n by omega)]
include hL
theorem rkeep_v (k : Int) (s t : Nat) (l : List Int) (left : List Bool) (c d : Option Nat) (hs : s = 1 ∨ l = []) (hl : l.length ≤ 17592186043904) (ht : t = 1 ∨ left = []) (hm : left.length < 4611686018427387904) : ∃ t' c', (t' = 1 ∨ keepL k l left = []) ∧ VFn L 22 [(.agg [.int .u8 k, tl mrow s (l) c]), tl brow t left d] (.agg [.int .u8 k, tl mrow t' (keepL k l left) c']) := by
  obtain ⟨s', c', hs', hfz⟩ := frz_acc (f := mrow) closed_mrow (n := 1) (a := 3) (r := keepL k l left) (H := [some (Blk.arr 2 [[V.int IntKind.u8 k, tl mrow s l c]]), some (Blk.arr 2 [[V.int IntKind.u8 k, accV 3 1 (keepL k l left)]]), some (Blk.arr 2 [[V.int IntKind.u8 k, accV 3 1 (keepL k l left)]]), accB mrow 1 (keepL k l left)]) (fz := [3]) (by decide) rfl rfl
  refine ⟨s', c', hs', ?_⟩
  refine VFn.start (F := T22.1) (by rw [hL]; rfl) rfl rfl rfl ?_
  (repeat' (first | refine wSeq rfl ?_ | refine wBlock rfl ?_ | refine wSkip rfl ?_ | refine wExit rfl ?_ | refine wRet rfl ?_ | refine wCondT rfl rfl ?_ | refine wCondF rfl rfl ?_ | refine wOps rfl ?_ | refine wDraw rfl rfl ?_ | simp only [seval, push_cast, ↓reduceIte, ↓bP_some, ↓aP_true, reduceCtorEq]))
  have h0 : keepL k (l.take 0) left = [] := List.length_eq_zero_iff.1 (Nat.le_zero.1 (keep_len k (l.take 0) left))
  refine wPad [some 0, some 1, some 2, none] rfl rfl rfl ?_
  refine wCntH rfl 6 l.length (fun _ => []) (fun j => [some (Blk.arr 2 [[V.int IntKind.u8 k, tl mrow s l c]]), some (Blk.arr 2 [[V.int IntKind.u8 0, V.lst 0 [] (some 0)]]), some (Blk.arr 2 [[V.int IntKind.u8 k, accV 3 1 (keepL k (l.take j) left)]]), accB mrow 1 (keepL k (l.take j) left)]) (fun j => True) rfl (by rw [h0]; rfl) trivial ?_ ?_
  · intro j hj hI
    obtain ⟨x, hx, _⟩ := get_of hj
    obtain rfl := size_of hs hj
    have hst := keep_step (k := k) (left := left) hx
    have hlen := keep_len k (l.take j) left
    rw [List.length_take] at hlen
    have hw := wrap_succ (show j < 9223372036854775807 by omega)
    rw [hst]
    generalize keepL k (l.take j) left = r at *
    have hroom : (r.length + 1) * 8 ≤ 140737488355328 := by omega
    have hV : accV 3 1 r = .lst 0 [] (some 0) ∧ accB mrow 1 r = none ∧ r = [] ∨ accV 3 1 r = .ref 3 1 0 r.length none ∧ accB mrow 1 r = some (.arr 1 (r.map mrow)) ∧ r ≠ [] := by
      by_cases hr : r = []
      · subst hr; exact .inl ⟨rfl, rfl, rfl⟩
      · exact .inr ⟨accV_cons hr, accB_cons hr, hr⟩
    by_cases h3 : k = 3
    · subst h3
      have e1 : keep1 3 left j x = [if left[j]?.getD false then x else 0] := rfl
      rw [e1]
      by_cases q1 : left.length ≤ j
      · rw [show (if left[j]?.getD false = true then x else 0) = 0 by rw [List.getElem?_eq_none q1]; rfl]
        rcases hV with ⟨hV, hB, rfl⟩ | ⟨hV, hB, hr⟩
        · (repeat' (first | refine wSeq rfl ?_ | refine wBlock rfl ?_ | refine wSkip rfl ?_ | refine wExit rfl ?_ | refine wRet rfl ?_ | refine wCondT rfl rfl ?_ | refine wCondF rfl rfl ?_ | refine wOps rfl ?_ | refine wDraw rfl rfl ?_ | simp only [seval, push_cast, ↓reduceIte, ↓bP_some, ↓aP_true, reduceCtorEq, hj, hx, iaQ_tl hj, hV, hB, hw, q1]))
          exact qR_s [some 0, some 1, some 2, some 5] [] rfl rfl rfl trivial
        · (repeat' (first | refine wSeq rfl ?_ | refine wBlock rfl ?_ | refine wSkip rfl ?_ | refine wExit rfl ?_ | refine wRet rfl ?_ | refine wCondT rfl rfl ?_ | refine wCondF rfl rfl ?_ | refine wOps rfl ?_ | refine wDraw rfl rfl ?_ | simp only [seval, push_cast, ↓reduceIte, ↓bP_some, ↓aP_true, reduceCtorEq, hj, hx, iaQ_tl hj, hV, hB, hw, hroom, q1]))
          exact qR_s [some 0, some 1, some 2, some 5] [] rfl rfl (by (simp only [accV_snoc, accB_snoc, accV_nil, accB_nil]; (repeat (first | exact sh_n | refine sh_c (sh_b closed_mrow rfl) ?_ | refine sh_c rfl ?_)))) trivial
      · have q2 : j < left.length := by omega
        obtain ⟨b, hb, _⟩ := get_of q2
        obtain rfl := size_of ht q2
        rw [hb]
        cases b with
        | true =>
          rw [show (if (some true).getD false = true then x else 0) = x from rfl]
          rcases hV with ⟨hV, hB, rfl⟩ | ⟨hV, hB, hr⟩
          · (repeat' (first | refine wSeq rfl ?_ | refine wBlock rfl ?_ | refine wSkip rfl ?_ | refine wExit rfl ?_ | refine wRet rfl ?_ | refine wCondT rfl rfl ?_ | refine wCondF rfl rfl ?_ | refine wOps rfl ?_ | refine wDraw rfl rfl ?_ | simp only [seval, push_cast, ↓reduceIte, ↓bP_some, ↓aP_true, reduceCtorEq, hj, hx, iaQ_tl hj, hV, hB, hw, q1, hb, iaQ_tl q2]))
            exact qR_s [some 0, some 1, some 2, some 5] [] rfl rfl rfl trivial
          · (repeat' (first | refine wSeq rfl ?_ | refine wBlock rfl ?_ | refine wSkip rfl ?_ | refine wExit rfl ?_ | refine wRet rfl ?_ | refine wCondT rfl rfl ?_ | refine wCondF rfl rfl ?_ | refine wOps rfl ?_ | refine wDraw rfl rfl ?_ | simp only [seval, push_cast, ↓reduceIte, ↓bP_some, ↓aP_true, reduceCtorEq, hj, hx, iaQ_tl hj, hV, hB, hw, hroom, q1, hb, iaQ_tl q2]))
            exact qR_s [some 0, some 1, some 2, some 5] [] rfl rfl (by (simp only [accV_snoc, accB_snoc, accV_nil, accB_nil]; (repeat (first | exact sh_n | refine sh_c (sh_b closed_mrow rfl) ?_ | refine sh_c rfl ?_)))) trivial
        | false =>
          rw [show (if (some false).getD false = true then x else 0) = 0 from rfl]
          rcases hV with ⟨hV, hB, rfl⟩ | ⟨hV, hB, hr⟩
          · (repeat' (first | refine wSeq rfl ?_ | refine wBlock rfl ?_ | refine wSkip rfl ?_ | refine wExit rfl ?_ | refine wRet rfl ?_ | refine wCondT rfl rfl ?_ | refine wCondF rfl rfl ?_ | refine wOps rfl ?_ | refine wDraw rfl rfl ?_ | simp only [seval, push_cast, ↓reduceIte, ↓bP_some, ↓aP_true, reduceCtorEq, hj, hx, iaQ_tl hj, hV, hB, hw, q1, hb, iaQ_tl q2]))
            exact qR_s [some 0, some 1, some 2, some 5] [] rfl rfl rfl trivial
          · (repeat' (first | refine wSeq rfl ?_ | refine wBlock rfl ?_ | refine wSkip rfl ?_ | refine wExit rfl ?_ | refine wRet rfl ?_ | refine wCondT rfl rfl ?_ | refine wCondF rfl rfl ?_ | refine wOps rfl ?_ | refine wDraw rfl rfl ?_ | simp only [seval, push_cast, ↓reduceIte, ↓bP_some, ↓aP_true, reduceCtorEq, hj, hx, iaQ_tl hj, hV, hB, hw, hroom, q1, hb, iaQ_tl q2]))
            exact qR_s [some 0, some 1, some 2, some 5] [] rfl rfl (by (simp only [accV_snoc, accB_snoc, accV_nil, accB_nil]; (repeat (first | exact sh_n | refine sh_c (sh_b closed_mrow rfl) ?_ | refine sh_c rfl ?_)))) trivial
    · by_cases h12 : k = 1 ∨ k = 2
      · have e1 : keep1 k left j x = if isLeft left x then [x] else [] := if_pos h12
        rw [e1]
        by_cases q1 : 0 ≤ x
        · obtain ⟨n, rfl⟩ : ∃ n : Nat, x = n := ⟨x.toNat, by omega⟩
          by_cases q2 : n < left.length
          · obtain ⟨b, hb, _⟩ := get_of q2
            obtain rfl := size_of ht q2
            rw [isLeft_in hb]
            cases b with
            | true =>
              rw [if_pos rfl]
              rcases h12 with rfl | rfl
              all_goals
                rcases hV with ⟨hV, hB, rfl⟩ | ⟨hV, hB, hr⟩
                · (repeat' (first | refine wSeq rfl ?_ | refine wBlock rfl ?_ | refine wSkip rfl ?_ | refine wExit rfl ?_ | refine wRet rfl ?_ | refine wCondT rfl rfl ?_ | refine wCondF rfl rfl ?_ | refine wOps rfl ?_ | refine wDraw rfl rfl ?_ | simp only [seval, push_cast, ↓reduceIte, ↓bP_some, ↓aP_true, reduceCtorEq, hj, hx, iaQ_tl hj, hV, hB, hw, q1, q2, hb, iaQ_tl q2]))
                  exact qR_s [some 0, some 1, some 2, some 5] [] rfl rfl rfl trivial
                · (repeat' (first | refine wSeq rfl ?_ | refine wBlock rfl ?_ | refine wSkip rfl ?_ | refine wExit rfl ?_ | refine wRet rfl ?_ | refine wCondT rfl rfl ?_ | refine wCondF rfl rfl ?_ | refine wOps rfl ?_ | refine wDraw rfl rfl ?_ | simp only [seval, push_cast, ↓reduceIte, ↓bP_some, ↓aP_true, reduceCtorEq, hj, hx, iaQ_tl hj, hV, hB, hw, hroom, q1, q2, hb, iaQ_tl q2]))
                  exact qR_s [some 0, some 1, some 2, some 5] [] rfl rfl (by (simp only [accV_snoc, accB_snoc, accV_nil, accB_nil]; (repeat (first | exact sh_n | refine sh_c (sh_b closed_mrow rfl) ?_ | refine sh_c rfl ?_)))) trivial
            | false =>
              rw [if_neg (by decide)]
              rcases h12 with rfl | rfl
              all_goals
                rw [List.append_nil]
                (repeat' (first | refine wSeq rfl ?_ | refine wBlock rfl ?_ | refine wSkip rfl ?_ | refine wExit rfl ?_ | refine wRet rfl ?_ | refine wCondT rfl rfl ?_ | refine wCondF rfl rfl ?_ | refine wOps rfl ?_ | refine wDraw rfl rfl ?_ | simp only [seval, push_cast, ↓reduceIte, ↓bP_some, ↓aP_true, reduceCtorEq, hj, hx, iaQ_tl hj, hw, q1, q2, hb, iaQ_tl q2]))
                exact qR_n rfl rfl trivial
          · rw [isLeft_big q2, if_neg (by decide)]
            rcases h12 with rfl | rfl
            all_goals
              rw [List.append_nil]
              (repeat' (first | refine wSeq rfl ?_ | refine wBlock rfl ?_ | refine wSkip rfl ?_ | refine wExit rfl ?_ | refine wRet rfl ?_ | refine wCondT rfl rfl ?_ | refine wCondF rfl rfl ?_ | refine wOps rfl ?_ | refine wDraw rfl rfl ?_ | simp only [seval, push_cast, ↓reduceIte, ↓bP_some, ↓aP_true, reduceCtorEq, hj, hx, iaQ_tl hj, hw, q1, q2]))
              exact qR_n rfl rfl trivial
        · rw [isLeft_neg q1, if_neg (by decide)]
          rcases h12 with rfl | rfl
          all_goals
            rw [List.append_nil]
            (repeat' (first | refine wSeq rfl ?_ | refine wBlock rfl ?_ | refine wSkip rfl ?_ | refine wExit rfl ?_ | refine wRet rfl ?_ | refine wCondT rfl rfl ?_ | refine wCondF rfl rfl ?_ | refine wOps rfl ?_ | refine wDraw rfl rfl ?_ | simp only [seval, push_cast, ↓reduceIte, ↓bP_some, ↓aP_true, reduceCtorEq, hj, hx, iaQ_tl hj, hw, q1]))
            exact qR_n rfl rfl trivial
      · have e1 : keep1 k left j x = [x] := by unfold keep1; rw [if_neg h12, if_neg h3]
        rw [e1]
        have h1 : ¬ k = 1 := fun h => h12 (.inl h)
        have h2 : ¬ k = 2 := fun h => h12 (.inr h)
        rcases hV with ⟨hV, hB, rfl⟩ | ⟨hV, hB, hr⟩
        · (repeat' (first | refine wSeq rfl ?_ | refine wBlock rfl ?_ | refine wSkip rfl ?_ | refine wExit rfl ?_ | refine wRet rfl ?_ | refine wCondT rfl rfl ?_ | refine wCondF rfl rfl ?_ | refine wOps rfl ?_ | refine wDraw rfl rfl ?_ | simp only [seval, push_cast, ↓reduceIte, ↓bP_some, ↓aP_true, reduceCtorEq, hj, hx, iaQ_tl hj, hV, hB, hw, h1, h2, h3]))
          exact qR_s [some 0, some 1, some 2, some 5] [] rfl rfl rfl trivial
        · (repeat' (first | refine wSeq rfl ?_ | refine wBlock rfl ?_ | refine wSkip rfl ?_ | refine wExit rfl ?_ | refine wRet rfl ?_ | refine wCondT rfl rfl ?_ | refine wCondF rfl rfl ?_ | refine wOps rfl ?_ | refine wDraw rfl rfl ?_ | simp only [seval, push_cast, ↓reduceIte, ↓bP_some, ↓aP_true, reduceCtorEq, hj, hx, iaQ_tl hj, hV, hB, hw, hroom, h1, h2, h3]))
          exact qR_s [some 0, some 1, some 2, some 5] [] rfl rfl (by (simp only [accV_snoc, accB_snoc, accV_nil, accB_nil]; (repeat (first | exact sh_n | refine sh_c (sh_b closed_mrow rfl) ?_ | refine sh_c rfl ?_)))) trivial
  · intro _
    rw [take_all]
    (repeat' (first | refine wSeq rfl ?_ | refine wBlock rfl ?_ | refine wSkip rfl ?_ | refine wExit rfl ?_ | refine wRet rfl ?_ | refine wCondT rfl rfl ?_ | refine wCondF rfl rfl ?_ | refine wOps rfl ?_ | refine wDraw rfl rfl ?_ | simp only [seval, push_cast, ↓reduceIte, ↓bP_some, ↓aP_true, reduceCtorEq]))
    refine FnQ.frz [3] rfl ?_
    show V.agg [V.int IntKind.u8 k, V.ren _ (accV 3 1 (keepL k l left))] = _
    rw [hfz]
end Go.Proofs.YtnhfbabenifbkaaGreatDoor
set_option linter.unusedVariables false
set_option linter.unusedSimpArgs false
namespace Go.Proofs.YtnhfbabenifbkaaGreatDoor
theorem isLeft_zip (one two : List Bool) (x : Int) : isLeft (List.zipWith and one two) x = (isLeft one x && isLeft two x) := by
  unfold isLeft
  rw [List.getElem?_zipWith]
  cases one[x.toNat]? with
  | none => simp
  | some a =>
    cases two[x.toNat]? with
    | none => simp
    | some b => cases a <;> cases b <;> simp
theorem getD_zip (one two : List Bool) (i : Nat) : (List.zipWith and one two)[i]?.getD false = (one[i]?.getD false && two[i]?.getD false) := by
  rw [List.getElem?_zipWith]
  cases one[i]? with
  | none => simp
  | some a =>
    cases two[i]? with
    | none => simp
    | some b => simp
theorem keep_keep (k : Int) (l : List Int) (one two : List Bool) : keepL k (keepL k l one) two = keepL k l (List.zipWith and one two) := by
  unfold keepL
  by_cases h : k = 1 ∨ k = 2
  · rw [if_pos h, if_pos h, if_pos h, List.filter_filter]
    congr 1
    funext x
    rw [isLeft_zip, Bool.and_comm]
  · rw [if_neg h, if_neg h, if_neg h]
    by_cases h3 : k = 3
    · rw [if_pos h3, if_pos h3, if_pos h3]
      apply List.ext_getElem?
      intro i
      simp only [List.getElem?_mapIdx, Option.map_map]
      congr 1
      funext m
      simp only [Function.comp, getD_zip]
      cases one[i]?.getD false <;> cases two[i]?.getD false <;> rfl
    · rw [if_neg h3, if_neg h3, if_neg h3]
theorem check_zero {k : Int} {l : List Int} {c : Int} : checkL k l c = 0 ↔ (1 ≤ c ∧ c ≤ 10) ∧ fineL k l c = true := by
  unfold checkL
  by_cases h : c < 1 ∨ 10 < c
  · rw [if_pos h]; constructor
    · intro h; omega
    · intro h2; omega
  · rw [if_neg h]
    cases fineL k l c with
    | true => simp; omega
    | false => simp
theorem keep_right {k : Int} {l : List Int} {c : Int} {left : List Bool} (h : checkL k l c = 0) : checkL k (keepL k l left) c = 0 := by
  rw [check_zero] at h ⊢
  refine ⟨h.1, ?_⟩
  have hf := h.2
  unfold keepL
  by_cases h12 : k = 1 ∨ k = 2
  · rw [if_pos h12]
    have hsub : (l.filter (isLeft left)).Sublist l := List.filter_sublist
    rcases h12 with rfl | rfl
    · simp only [fineL, Bool.and_eq_true, List.all_eq_true, decide_eq_true_eq] at hf ⊢
      simp at hf ⊢
      exact ⟨fun m hm => .inr (hf.1 m hm), hf.2.sublist hsub⟩
    · simp only [fineL, Bool.and_eq_true, List.all_eq_true, decide_eq_true_eq] at hf ⊢
      simp at hf ⊢
      exact ⟨fun m hm => .inr (hf.1 m hm), hf.2.sublist hsub⟩
  · rw [if_neg h12]
    by_cases h3 : k = 3
    · subst h3
      rw [if_pos rfl]
      have e : ∀ m : List Int, fineL 3 m c = (m.all (inB 0 11) && decide ((m.length : Int) = c)) := fun m => rfl
      rw [e, Bool.and_eq_true, List.all_eq_true] at hf ⊢
      refine ⟨fun m hm => ?_, by rw [List.length_mapIdx]; exact hf.2⟩
      obtain ⟨i, hi, rfl⟩ := List.mem_mapIdx.1 hm
      split
      · exact hf.1 _ (List.getElem_mem hi)
      · rfl
    · rw [if_neg h3]; exact hf
theorem place_self (a : Int) (r : List Int) : placeL (a :: r) a = 0 := if_pos rfl
theorem place_skip {a x : Int} (r : List Int) (h : a ≠ x) : placeL (a :: r) x = if placeL r x < 0 then -1 else placeL r x + 1 := if_neg h
/-- Filtering keeps who is there, and in which order. -/
theorem place_filter {p : Int → Bool} {x y : Int} (hx : p x = true) (hy : p y = true) : ∀ l : List Int, (placeL (l.filter p) x < 0 ↔ placeL l x < 0) ∧ (placeL (l.filter p) y < 0 ↔ placeL l y < 0) ∧ (0 ≤ placeL l x → 0 ≤ placeL l y → (placeL (l.filter p) x < placeL (l.filter p) y ↔ placeL l x < placeL l y))
  | [] => by simp [placeL]
  | a :: r => by
    obtain ⟨i1, i2, i3⟩ := place_filter hx hy r
    have g1 := place_ge r x
    have g2 := place_ge r y
    have g3 := place_ge (r.filter p) x
    have g4 := place_ge (r.filter p) y
    cases ha : p a with
    | false =>
      have nx : a ≠ x := fun e => by rw [e, hx] at ha; cases ha
      have ny : a ≠ y := fun e => by rw [e, hy] at ha; cases ha
      rw [List.filter_cons, if_neg (by rw [ha]; decide), place_skip r nx, place_skip r ny]
      refine ⟨?_, ?_, ?_⟩
      · rw [i1]; split <;> omega
      · rw [i2]; split <;> omega
      · split
        · omega
        · split
          · omega
          · intro _ _; rw [i3 (by omega) (by omega)]; omega
    | true =>
      rw [List.filter_cons, if_pos ha]
      by_cases ex : a = x
      · subst ex
        rw [place_self, place_self]
        by_cases ey : a = y
        · subst ey; rw [place_self, place_self]; omega
        · rw [place_skip _ ey, place_skip _ ey]
          refine ⟨by omega, ?_, ?_⟩
          · split <;> split <;> omega
          · split <;> split <;> omega
      · by_cases ey : a = y
        · subst ey
          rw [place_self, place_self, place_skip _ ex, place_skip _ ex]
          refine ⟨?_, by omega, ?_⟩
          · split <;> split <;> omega
          · split <;> split <;> omega
        · rw [place_skip _ ex, place_skip _ ex, place_skip _ ey, place_skip _ ey]
          refine ⟨?_, ?_, ?_⟩
          · split <;> split <;> omega
          · split <;> split <;> omega
          · intro q1 q2
            have q3 : ¬ placeL r x < 0 := fun h => by rw [if_pos h] at q1; omega
            have q4 : ¬ placeL r y < 0 := fun h => by rw [if_pos h] at q2; omega
            rw [if_neg q3, if_neg q4, if_neg (fun h => q3 (i1.1 h)), if_neg (fun h => q4 (i2.1 h))]
            have := i3 (by omega) (by omega)
            omega
theorem prefers_irr (k : Int) (l : List Int) (x : Int) : prefersL k l x x = false := by
  unfold prefersL
  split
  · rfl
  · split
    · cases h : decide (0 ≤ placeL l x) with
      | false => rfl
      | true =>
        have := of_decide_eq_true h
        simp; omega
    · split
      · cases h : decide (0 ≤ placeL l x) with
        | false => rfl
        | true =>
          have := of_decide_eq_true h
          simp; omega
      · split
        · simp
        · rfl
theorem prefers_asym {k : Int} {l : List Int} {x y : Int} (h : prefersL k l x y = true) : prefersL k l y x = false := by
  unfold prefersL at h ⊢
  by_cases h0 : x < 0 ∨ y < 0
  · rw [if_pos h0] at h; cases h
  · rw [if_neg h0] at h
    rw [if_neg (by omega)]
    by_cases h1 : k = 1
    · rw [if_pos h1] at h ⊢
      simp at h ⊢
      omega
    · rw [if_neg h1] at h ⊢
      by_cases h2 : k = 2
      · rw [if_pos h2] at h ⊢
        simp at h ⊢
        omega
      · rw [if_neg h2] at h ⊢
        by_cases h3 : k = 3
        · rw [if_pos h3] at h ⊢
          simp at h ⊢
          omega
        · rw [if_neg h3] at h; cases h
theorem isLeft_nat {left : List Bool} {n : Nat} (h : left[n]? = some true) : isLeft left n = true := by simp [isLeft, h]
theorem prefers_keep {k : Int} {l : List Int} {left : List Bool} {n m : Nat} (hx : left[n]? = some true) (hy : left[m]? = some true) : prefersL k (keepL k l left) n m = prefersL k l n m := by
  unfold prefersL
  have h0 : ¬ ((n : Int) < 0 ∨ (m : Int) < 0) := by omega
  rw [if_neg h0, if_neg h0]
  by_cases h1 : k = 1
  · rw [if_pos h1, if_pos h1]
    have e : keepL k l left = l.filter (isLeft left) := if_pos (.inl h1)
    rw [e]
    obtain ⟨i1, i2, i3⟩ := place_filter (isLeft_nat hx) (isLeft_nat hy) l
    rw [Bool.eq_iff_iff]
    simp
    constructor
    · rintro ⟨a, b⟩
      omega
    · rintro ⟨a, b⟩
      omega
  · rw [if_neg h1, if_neg h1]
    by_cases h2 : k = 2
    · rw [if_pos h2, if_pos h2]
      have e : keepL k l left = l.filter (isLeft left) := if_pos (.inr h2)
      rw [e]
      obtain ⟨i1, i2, i3⟩ := place_filter (isLeft_nat hx) (isLeft_nat hy) l
      rw [Bool.eq_iff_iff]
      simp
      omega
    · rw [if_neg h2, if_neg h2]
      by_cases h3 : k = 3
      · rw [if_pos h3, if_pos h3]
        have e : keepL k l left = l.mapIdx fun i m => if left[i]?.getD false then m else 0 := by unfold keepL; rw [if_neg (by omega), if_pos h3]
        rw [e]
        simp [List.getElem?_mapIdx, hx, hy]
      · rw [if_neg h3, if_neg h3]
end Go.Proofs.YtnhfbabenifbkaaGreatDoor
set_option maxRecDepth 100000
set_option maxHeartbeats 4000000
set_option linter.unusedVariables false
set_option linter.unusedSimpArgs false
namespace Go.Proofs.YtnhfbabenifbkaaGreatDoor
theorem ren_up_ref {n a s o m : Nat} {c : Option Nat} : V.ren (upσ n) (.ref a s o m c) = .ref (n + a) s o m c := by simp [V.ren, upσ]
theorem cells_fn {f : Nat} {a b : List V} : V.cells (.fn f a b) = [.fn f a b] := rfl
theorem isVal_fn {f : Nat} {a b : List V} : V.isVal (.fn f a b) = true := rfl
attribute [push_cast] cells_fn isVal_fn
theorem frz_part {α : Type} {f : α → List V} (hf : ∀ x, (f x).all V.closed = true) {H : Heap} {fz : List Nat} {a n : Nat} {l t : List α} {c : Option Nat} (hn : 0 < n) (ha : fz.contains a = true) (h : H.get a = some (.arr n ((l ++ t).map f))) : V.ren (sgOf H [] fz) (.ref a n 0 l.length c) = tl f n l c := by
  have e : sgOf H [] fz a = .frz n ((l ++ t).map f) := by
    unfold sgOf
    simp only [posIn, ha, h, closeds_tl hf, cond_true]
  rw [V.ren, e]
  have e2 : ((l ++ t).map f).take l.length = l.map f := by rw [← List.map_take, List.take_left]
  simp only [true_and, hn, Nat.zero_add, List.length_map, List.length_append, Nat.le_add_right, and_self, if_true, List.drop_zero, e2]
  rfl
theorem ren_del {H : Heap} {m : Nat} : V.ren (outσ H.length [4, 1, 3]) (.ref 0 1 0 m none) = .ref 4 1 0 m none := rfl
theorem back_del {B0 B2 B3 B4 B5 : Option Blk} {t kf : Nat} {left : List Bool} {d : Option Nat} {q : List Int} : Heap.back [B0, some (.arr 1 [[tl brow t left d]]), B2, B3, B4, B5] [4, 1, 3] [some (.arr 1 (q.map mrow)), some (.arr 1 [[tl brow t left d]]), some (.arr 1 [[.fn kf [] [.ptr 1 1 0 0]]])] = [B0, some (.arr 1 [[tl brow t left d]]), B2, some (.arr 1 [[.fn kf [] [.ptr 1 1 0 0]]]), some (.arr 1 (q.map mrow)), B5] := by
  show [B0, _, B2, _, Option.map (Blk.ren (outσ 6 [4, 1, 3])) (some (.arr 1 (q.map mrow))), B5] = _
  rw [Option.map_some, ren_tl closed_mrow]
  rfl
theorem keep_nil (k : Int) (left : List Bool) : keepL k [] left = [] := List.length_eq_zero_iff.1 (Nat.le_zero.1 (keep_len k [] left))
theorem keep_12 {k : Int} (h : k = 1 ∨ k = 2) (l : List Int) (left : List Bool) : (l.filter fun x => !(!isLeft left x)) = keepL k l left := by
  unfold keepL
  rw [if_pos h]
  congr 1
  funext x
  rw [Bool.not_not]
theorem keep_3len (l : List Int) (left : List Bool) : (keepL 3 l left).length = l.length := by
  unfold keepL
  simp
variable {L : Lib} (hL : L.T = tab.get)
include hL
/-- The closure that tells who is left. -/
theorem is_a {H : Heap} {a t : Nat} {left : List Bool} {d : Option Nat} (ha : H.get a = some (.arr 1 [[tl brow t left d]])) (ht : t = 1 ∨ left = []) (hm : left.length < 4611686018427387904) (x : Int) : AFn L (.fn 45) [.int .i64 x, .ptr a 1 0 0] H (fun r H' => r = .bool (isLeft left x) ∧ H' = H) := by
  refine AFn.of_body (F := T45.1) (by rw [hL]; rfl) rfl ?_
  by_cases q1 : 0 ≤ x
  · obtain ⟨n, rfl⟩ : ∃ n : Nat, x = n := ⟨x.toNat, by omega⟩
    by_cases q2 : n < left.length
    · obtain ⟨b, hb, _⟩ := get_of q2
      obtain rfl := size_of ht q2
      rw [isLeft_in hb]
      (repeat' (first | refine wSeq rfl ?_ | refine wBlock rfl ?_ | refine wSkip rfl ?_ | refine wExit rfl ?_ | refine wRet rfl ?_ | refine wCondT rfl rfl ?_ | refine wCondF rfl rfl ?_ | refine wOps rfl ?_ | refine wDraw rfl rfl ?_ | refine opsV_call rfl rfl (within_v hL _ _ _) ?_ | simp only [seval, push_cast, ↓reduceIte, ↓bP_some, ↓aP_true, reduceCtorEq, ha, q1, q2, hb, iaQ_tl q2]))
      exact FnQ.at rfl ⟨rfl, rfl⟩
    · rw [isLeft_big q2]
      (repeat' (first | refine wSeq rfl ?_ | refine wBlock rfl ?_ | refine wSkip rfl ?_ | refine wExit rfl ?_ | refine wRet rfl ?_ | refine wCondT rfl rfl ?_ | refine wCondF rfl rfl ?_ | refine wOps rfl ?_ | refine wDraw rfl rfl ?_ | refine opsV_call rfl rfl (within_v hL _ _ _) ?_ | simp only [seval, push_cast, ↓reduceIte, ↓bP_some, ↓aP_true, reduceCtorEq, ha, q1, q2]))
      exact FnQ.at rfl ⟨rfl, rfl⟩
  · rw [isLeft_neg q1]
    (repeat' (first | refine wSeq rfl ?_ | refine wBlock rfl ?_ | refine wSkip rfl ?_ | refine wExit rfl ?_ | refine wRet rfl ?_ | refine wCondT rfl rfl ?_ | refine wCondF rfl rfl ?_ | refine wOps rfl ?_ | refine wDraw rfl rfl ?_ | refine opsV_call rfl rfl (within_v hL _ _ _) ?_ | simp only [seval, push_cast, ↓reduceIte, ↓bP_some, ↓aP_true, reduceCtorEq, ha, q1]))
    exact FnQ.at rfl ⟨rfl, rfl⟩
/-- The closure that tells who is to be deleted. -/
theorem isnt_a {H : Heap} {a b t : Nat} {left : List Bool} {d : Option Nat} (ha : H.get a = some (.arr 1 [[tl brow t left d]])) (hb : H.get b = some (.arr 1 [[.fn 45 [] [.ptr a 1 0 0]]])) (ht : t = 1 ∨ left = []) (hm : left.length < 4611686018427387904) (x : Int) : AFn L (.fn 48) [.int .i64 x, .ptr b 1 0 0] H (fun r H' => r = .bool (!isLeft left x) ∧ H' = H) := by
  refine AFn.of_body (F := T48.1) (by rw [hL]; rfl) rfl ?_
  (repeat' (first | refine wSeq rfl ?_ | refine wBlock rfl ?_ | refine wSkip rfl ?_ | refine wExit rfl ?_ | refine wRet rfl ?_ | refine wCondT rfl rfl ?_ | refine wCondF rfl rfl ?_ | refine wOpsP rfl ?_ | refine wDraw rfl rfl ?_ | simp only [seval, push_cast, ↓reduceIte, ↓bP_some, ↓aP_true, reduceCtorEq, hb]))
  refine opsP_all (k := 45) (vs := [.int .i64 x, .ptr a 1 0 0]) rfl (is_a hL ha ht hm x) ?_
  rintro r h' ⟨rfl, rfl⟩
  (repeat' (first | refine wSeq rfl ?_ | refine wBlock rfl ?_ | refine wSkip rfl ?_ | refine wExit rfl ?_ | refine wRet rfl ?_ | refine wCondT rfl rfl ?_ | refine wCondF rfl rfl ?_ | refine wOps rfl ?_ | refine wDraw rfl rfl ?_ | simp only [seval, push_cast, ↓reduceIte, ↓bP_some, ↓aP_true, reduceCtorEq]))
  exact FnQ.at rfl ⟨rfl, rfl⟩
theorem delete_e {H : Heap} {kf : Nat} {fs cs : List V} : AFn L (.fn 47) [tl mrow 1 [] none, .fn kf fs cs] H (fun r H' => r = tl mrow 1 [] none ∧ H' = H) := by
  refine AFn.of_body (F := T47.1) (by rw [hL]; rfl) rfl ?_
  (repeat' (first | refine wSeq rfl ?_ | refine wBlock rfl ?_ | refine wSkip rfl ?_ | refine wExit rfl ?_ | refine wRet rfl ?_ | refine wCondT rfl rfl ?_ | refine wCondF rfl rfl ?_ | refine wOpsP rfl ?_ | refine wDraw rfl rfl ?_ | simp only [seval, push_cast, ↓reduceIte, ↓bP_some, ↓aP_true, reduceCtorEq]))
  refine opsP_all (vs := [tl mrow 1 [] none, .fn kf fs cs]) rfl (indexFunc_a (p := fun _ => false) hL (IsSl.tl (l := []) (.inl rfl)) (by decide) (fun x h => by cases h)) ?_
  rintro r h' ⟨rfl, rfl⟩
  (repeat' (first | refine wSeq rfl ?_ | refine wBlock rfl ?_ | refine wSkip rfl ?_ | refine wExit rfl ?_ | refine wRet rfl ?_ | refine wCondT rfl rfl ?_ | refine wCondF rfl rfl ?_ | refine wOps rfl ?_ | refine wDraw rfl rfl ?_ | simp only [seval, push_cast, ↓reduceIte, ↓bP_some, ↓aP_true, reduceCtorEq, show findL (fun _ => false) [] 0 = -1 from rfl]))
  exact FnQ.at rfl ⟨rfl, rfl⟩
theorem keep_v (k : Int) (s t : Nat) (l : List Int) (left : List Bool) (c d : Option Nat) (hs : s = 1 ∨ l = []) (hl : l.length ≤ 17592186043904) (ht : t = 1 ∨ left = []) (hm : left.length < 4611686018427387904) : VFn L 21 [(.agg [.int .u8 k, tl mrow s (l) c]), tl brow t left d] (.agg [.int .u8 k, tl mrow 1 (keepL k l left) none]) := by
  by_cases hne : l = []
  · subst hne
    refine VFn.start (F := T21.1) (by rw [hL]; rfl) rfl rfl rfl ?_
    rw [keep_nil]
    (repeat' (first | refine wSeq rfl ?_ | refine wBlock rfl ?_ | refine wSkip rfl ?_ | refine wExit rfl ?_ | refine wRet rfl ?_ | refine wCondT rfl rfl ?_ | refine wCondF rfl rfl ?_ | refine wOps rfl ?_ | refine wDraw rfl rfl ?_ | refine opsV_call rfl rfl (clone_e hL s c) ?_ | simp only [seval, push_cast, ↓reduceIte, ↓bP_some, ↓aP_true, reduceCtorEq]))
    by_cases h12 : k = 1 ∨ k = 2
    · rcases h12 with rfl | rfl
      all_goals
        (repeat' (first | refine wSeq rfl ?_ | refine wBlock rfl ?_ | refine wSkip rfl ?_ | refine wExit rfl ?_ | refine wRet rfl ?_ | refine wCondT rfl rfl ?_ | refine wCondF rfl rfl ?_ | refine wOpsP rfl ?_ | refine wDraw rfl rfl ?_ | simp only [seval, push_cast, ↓reduceIte, ↓bP_some, ↓aP_true, reduceCtorEq]))
        refine opsP_all (vs := [tl mrow 1 [] none, .fn 48 [] [.ptr 3 1 0 0]]) rfl (delete_e hL) ?_
        rintro r h' ⟨rfl, rfl⟩
        (repeat' (first | refine wSeq rfl ?_ | refine wBlock rfl ?_ | refine wSkip rfl ?_ | refine wExit rfl ?_ | refine wRet rfl ?_ | refine wCondT rfl rfl ?_ | refine wCondF rfl rfl ?_ | refine wOps rfl ?_ | refine wDraw rfl rfl ?_ | simp only [seval, push_cast, ↓reduceIte, ↓bP_some, ↓aP_true, reduceCtorEq]))
        exact FnQ.frz [] rfl rfl
    · have h1 : ¬ k = 1 := fun h => h12 (.inl h)
      have h2 : ¬ k = 2 := fun h => h12 (.inr h)
      by_cases h3 : k = 3
      · subst h3
        (repeat' (first | refine wSeq rfl ?_ | refine wBlock rfl ?_ | refine wSkip rfl ?_ | refine wExit rfl ?_ | refine wRet rfl ?_ | refine wCondT rfl rfl ?_ | refine wCondF rfl rfl ?_ | refine wOps rfl ?_ | refine wDraw rfl rfl ?_ | simp only [seval, push_cast, ↓reduceIte, ↓bP_some, ↓aP_true, reduceCtorEq]))
        refine wCnt rfl 30 0 (fun _ => []) (fun _ => True) rfl trivial (fun j hj => absurd hj (by omega)) (fun _ => ?_)
        (repeat' (first | refine wSeq rfl ?_ | refine wBlock rfl ?_ | refine wSkip rfl ?_ | refine wExit rfl ?_ | refine wRet rfl ?_ | refine wCondT rfl rfl ?_ | refine wCondF rfl rfl ?_ | refine wOps rfl ?_ | refine wDraw rfl rfl ?_ | simp only [seval, push_cast, ↓reduceIte, ↓bP_some, ↓aP_true, reduceCtorEq]))
        exact FnQ.frz [] rfl rfl
      · (repeat' (first | refine wSeq rfl ?_ | refine wBlock rfl ?_ | refine wSkip rfl ?_ | refine wExit rfl ?_ | refine wRet rfl ?_ | refine wCondT rfl rfl ?_ | refine wCondF rfl rfl ?_ | refine wOps rfl ?_ | refine wDraw rfl rfl ?_ | simp only [seval, push_cast, ↓reduceIte, ↓bP_some, ↓aP_true, reduceCtorEq, h1, h2, h3]))
        exact FnQ.frz [] rfl rfl
  · obtain rfl := hs.resolve_right hne
    refine VFn.start (F := T21.1) (by rw [hL]; rfl) rfl rfl rfl ?_
    (repeat' (first | refine wSeq rfl ?_ | refine wBlock rfl ?_ | refine wSkip rfl ?_ | refine wExit rfl ?_ | refine wRet rfl ?_ | refine wCondT rfl rfl ?_ | refine wCondF rfl rfl ?_ | refine wOpsM [46] rfl ?_ | refine wDrawM [46] rfl rfl ?_ | refine opsV_make rfl rfl (clone_v hL l c hne hl) ?_ | simp only [seval, push_cast, ↓reduceIte, ↓bP_some, ↓aP_true, reduceCtorEq, ren_up_ref, ren_tl closed_mrow]))
    by_cases h12 : k = 1 ∨ k = 2
    · have ek := keep_12 h12 l left
      rcases h12 with rfl | rfl
      all_goals
        (repeat' (first | refine wSeq rfl ?_ | refine wBlock rfl ?_ | refine wSkip rfl ?_ | refine wExit rfl ?_ | refine wRet rfl ?_ | refine wCondT rfl rfl ?_ | refine wCondF rfl rfl ?_ | refine wOpsP rfl ?_ | refine wDraw rfl rfl ?_ | simp only [seval, push_cast, ↓reduceIte, ↓bP_some, ↓aP_true, reduceCtorEq]))
        refine opsP_frm (k := 47) (vs := [.ref 4 1 0 l.length none, .fn 48 [] [.ptr 3 1 0 0]]) (vs' := [.ref 0 1 0 l.length none, .fn 48 [] [.ptr 2 1 0 0]]) (H0 := [some (.arr 1 (l.map mrow)), some (.arr 1 [[tl brow t left d]]), some (.arr 1 [[.fn 45 [] [.ptr 1 1 0 0]]])]) [4, 1, 3] rfl rfl rfl rfl (sh_c (sh_b closed_mrow rfl) (sh_c rfl (sh_c rfl sh_n))) (deleteFunc_a (p := fun x => !isLeft left x) hL (by omega) (fun b x => isnt_a (a := 1) (b := 2) hL rfl rfl ht hm x)) ?_
        rintro r h' ⟨rfl, q, rfl⟩
        rw [ek, back_del, ren_del]
        (repeat' (first | refine wSeq rfl ?_ | refine wBlock rfl ?_ | refine wSkip rfl ?_ | refine wExit rfl ?_ | refine wRet rfl ?_ | refine wCondT rfl rfl ?_ | refine wCondF rfl rfl ?_ | refine wOps rfl ?_ | refine wDraw rfl rfl ?_ | simp only [seval, push_cast, ↓reduceIte, ↓bP_some, ↓aP_true, reduceCtorEq]))
        refine FnQ.frz [4] rfl ?_
        exact congrArg (fun v => V.agg [V.int IntKind.u8 _, v]) (frz_part (t := q) closed_mrow (by decide) rfl rfl)
    · have h1 : ¬ k = 1 := fun h => h12 (.inl h)
      have h2 : ¬ k = 2 := fun h => h12 (.inr h)
      by_cases h3 : k = 3
      · subst h3
        (repeat' (first | refine wSeq rfl ?_ | refine wBlock rfl ?_ | refine wSkip rfl ?_ | refine wExit rfl ?_ | refine wRet rfl ?_ | refine wCondT rfl rfl ?_ | refine wCondF rfl rfl ?_ | refine wOps rfl ?_ | refine wDraw rfl rfl ?_ | simp only [seval, push_cast, ↓reduceIte, ↓bP_some, ↓aP_true, reduceCtorEq]))
        refine wCntH rfl 30 l.length (fun _ => []) (fun j => [some (Blk.arr 2 [[V.int IntKind.u8 3, tl mrow 1 l c]]), some (Blk.arr 1 [[tl brow t left d]]), some (Blk.arr 2 [[V.int IntKind.u8 0, V.lst 0 [] (some 0)]]), some (Blk.arr 1 [[V.fn 45 [] [V.ptr 1 1 0 0]]]), some (Blk.arr 1 ((keepL 3 (l.take j) left ++ l.drop j).map mrow)), some (Blk.arr 2 [[V.int IntKind.u8 3, V.ref 4 1 0 l.length none]])]) (fun _ => True) rfl (by rw [List.take_zero, keep_nil]; rfl) trivial ?_ ?_
        · intro j hj _
          obtain ⟨x, hx, _⟩ := get_of hj
          have hk := keep_step (k := 3) (left := left) hx
          have hlen := keep_3len (l.take j) left
          rw [List.length_take, Nat.min_eq_left (Nat.le_of_lt hj)] at hlen
          have hd := drop_at' hx
          have hw := wrap_succ (show j < 9223372036854775807 by omega)
          (repeat' (first | refine wSeq rfl ?_ | refine wBlock rfl ?_ | refine wSkip rfl ?_ | refine wExit rfl ?_ | refine wRet rfl ?_ | refine wCondT rfl rfl ?_ | refine wCondF rfl rfl ?_ | refine wOpsP rfl ?_ | refine wDraw rfl rfl ?_ | simp only [seval, push_cast, ↓reduceIte, ↓bP_some, ↓aP_true, reduceCtorEq, hj]))
          refine opsP_all (k := 45) (vs := [.int .i64 (j : Nat), .ptr 1 1 0 0]) rfl (is_a hL rfl ht hm j) ?_
          rintro r h' ⟨rfl, rfl⟩
          have hil : isLeft left (j : Int) = left[j]?.getD false := by simp [isLeft]
          have e1 : keep1 3 left j x = [if left[j]?.getD false then x else 0] := rfl
          rw [e1] at hk
          rw [hil]
          cases hb : left[j]?.getD false with
          | true =>
            rw [hb, if_pos rfl] at hk
            (repeat' (first | refine wSeq rfl ?_ | refine wBlock rfl ?_ | refine wSkip rfl ?_ | refine wExit rfl ?_ | refine wRet rfl ?_ | refine wCondT rfl rfl ?_ | refine wCondF rfl rfl ?_ | refine wOps rfl ?_ | refine wDraw rfl rfl ?_ | simp only [seval, push_cast, ↓reduceIte, ↓bP_some, ↓aP_true, reduceCtorEq, hw]))
            exact qR_n rfl (by rw [hk, hd, List.append_assoc]; rfl) trivial
          | false =>
            rw [hb, if_neg (by decide)] at hk
            have hz : (keepL 3 (l.take j) left ++ l.drop j)[j]? = some x := by rw [hd, List.getElem?_append_right (by omega), hlen, Nat.sub_self]; rfl
            have hset : (keepL 3 (l.take j) left ++ l.drop j).set j 0 = keepL 3 (l.take (j + 1)) left ++ l.drop (j + 1) := by
              rw [hk, hd, List.set_append_right _ _ (by omega), hlen, Nat.sub_self, List.append_assoc]; rfl
            (repeat' (first | refine wSeq rfl ?_ | refine wBlock rfl ?_ | refine wSkip rfl ?_ | refine wExit rfl ?_ | refine wRet rfl ?_ | refine wCondT rfl rfl ?_ | refine wCondF rfl rfl ?_ | refine wOps rfl ?_ | refine wDraw rfl rfl ?_ | simp only [seval, push_cast, ↓reduceIte, ↓bP_some, ↓aP_true, reduceCtorEq, hw, hj, hz, mrow_set, hset]))
            exact qR_n rfl rfl trivial
        · intro _
          rw [take_all, List.drop_eq_nil_of_le (Nat.le_refl _)]
          (repeat' (first | refine wSeq rfl ?_ | refine wBlock rfl ?_ | refine wSkip rfl ?_ | refine wExit rfl ?_ | refine wRet rfl ?_ | refine wCondT rfl rfl ?_ | refine wCondF rfl rfl ?_ | refine wOps rfl ?_ | refine wDraw rfl rfl ?_ | simp only [seval, push_cast, ↓reduceIte, ↓bP_some, ↓aP_true, reduceCtorEq]))
          refine FnQ.frz [4] rfl ?_
          rw [← keep_3len l left]
          exact congrArg (fun v => V.agg [V.int IntKind.u8 3, v]) (frz_ref (l := keepL 3 l left) closed_mrow (by decide) rfl rfl)
      · have ek : keepL k l left = l := by unfold keepL; rw [if_neg h12, if_neg h3]
        rw [ek]
        (repeat' (first | refine wSeq rfl ?_ | refine wBlock rfl ?_ | refine wSkip rfl ?_ | refine wExit rfl ?_ | refine wRet rfl ?_ | refine wCondT rfl rfl ?_ | refine wCondF rfl rfl ?_ | refine wOps rfl ?_ | refine wDraw rfl rfl ?_ | simp only [seval, push_cast, ↓reduceIte, ↓bP_some, ↓aP_true, reduceCtorEq, h1, h2, h3]))
        refine FnQ.frz [4] rfl ?_
        exact congrArg (fun v => V.agg [V.int IntKind.u8 k, v]) (frz_ref closed_mrow (by decide) rfl rfl)
end Go.Proofs.YtnhfbabenifbkaaGreatDoor
set_option maxRecDepth 100000
set_option maxHeartbeats 4000000
set_option linter.unusedVariables false
set_option linter.unusedSimpArgs false
namespace Go.Proofs.YtnhfbabenifbkaaGreatDoor
/-- All pairs up to i are in order, but for those that end at j. -/
def UpBut (r : List Int) (i j : Nat) : Prop := ∀ (p q : Nat) (x y : Int), p < q → q ≤ i → q ≠ j → r[p]? = some x → r[q]? = some y → x ≤ y
def UpTo (r : List Int) (i : Nat) : Prop := ∀ (p q : Nat) (x y : Int), p < q → q < i → r[p]? = some x → r[q]? = some y → x ≤ y
theorem upBut_start {r : List Int} {i : Nat} (h : UpTo r i) : UpBut r i i := fun p q x y h1 h2 h3 hx hy => h p q x y h1 (by omega) hx hy
theorem upBut_stop {r : List Int} {i j : Nat} (h : UpBut r i j) (hs : ∀ x y, 0 < j → r[j - 1]? = some x → r[j]? = some y → x ≤ y) : UpTo r (i + 1) := fun p q x y h1 h2 hx hy => by
  by_cases e : q = j
  · subst e
    by_cases e2 : p = q - 1
    · subst e2; exact hs x y (by omega) hx hy
    · have hq := (List.getElem?_eq_some_iff.1 hy).1
      obtain ⟨z, hz, _⟩ := get_of (show q - 1 < r.length by omega)
      have a1 := h p (q - 1) x z (by omega) (by omega) (by omega) hx hz
      have a2 := hs z y (by omega) hz hy
      omega
  · exact h p q x y h1 (by omega) e hx hy
theorem upBut_swap {r : List Int} {i j : Nat} {a b : Int} (hj : 0 < j) (hji : j ≤ i) (ha : r[j - 1]? = some a) (hb : r[j]? = some b) (hab : b < a) (h : UpBut r i j) : UpBut ((r.set j a).set (j - 1) b) i (j - 1) := by
  have hl := (List.getElem?_eq_some_iff.1 hb).1
  intro p q x y h1 h2 h3 hx hy
  have key : ∀ s, ((r.set j a).set (j - 1) b)[s]? = if s = j - 1 then (if j - 1 < r.length then some b else none) else if s = j then some a else r[s]? := fun s => by
    rw [List.getElem?_set, List.length_set]
    by_cases e : j - 1 = s
    · subst e; simp
    · rw [if_neg e, if_neg (fun h => e h.symm), List.getElem?_set]
      by_cases e2 : j = s
      · subst e2; simp [hl]
      · rw [if_neg e2, if_neg (fun h => e2 h.symm)]
  rw [key] at hx hy
  rw [if_neg h3] at hy
  have hl' : j - 1 < r.length := by omega
  by_cases eq : q = j
  · subst eq
    rw [if_pos rfl] at hy
    rw [← Option.some.inj hy]
    by_cases ep : p = q - 1
    · rw [if_pos ep, if_pos hl'] at hx
      have := Option.some.inj hx
      omega
    · rw [if_neg ep, if_neg (by omega)] at hx
      exact h p (q - 1) x a (by omega) (by omega) (by omega) hx ha
  · rw [if_neg eq] at hy
    by_cases ep : p = j - 1
    · rw [if_pos ep, if_pos hl'] at hx
      rw [← Option.some.inj hx]
      exact h j q b y (by omega) h2 eq hb hy
    · rw [if_neg ep] at hx
      by_cases ep2 : p = j
      · rw [if_pos ep2] at hx
        rw [← Option.some.inj hx]
        exact h (j - 1) q a y (by omega) h2 eq ha hy
      · rw [if_neg ep2] at hx
        exact h p q x y h1 h2 eq hx hy
theorem swap_perm {r : List Int} {j : Nat} {a b : Int} (ha : r[j - 1]? = some a) (hb : r[j]? = some b) : ((r.set j a).set (j - 1) b).Perm r := by
  obtain ⟨h1, rfl⟩ := List.getElem?_eq_some_iff.1 ha
  obtain ⟨h2, rfl⟩ := List.getElem?_eq_some_iff.1 hb
  exact List.set_set_perm h2 h1
theorem upTo_sorted {r : List Int} (h : UpTo r r.length) : r.Pairwise (· ≤ ·) := by
  rw [List.pairwise_iff_getElem]
  intro i j hi hj hij
  exact h i j _ _ hij hj (List.getElem?_eq_getElem hi) (List.getElem?_eq_getElem hj)
theorem FnQ.atN {F : AFunc} {n0 : Nat} {P : V → Heap → Prop} {E : Env} {H : Heap} {r : V} (h : resV E.get H.get F.results = some r) (hP : P r H) : FnQ F n0 P .normal E H := by
  have : ResP F.results n0 P E H := by
    unfold ResP
    rw [h]
    exact .inl hP
  exact this
variable {L : Lib} (hL : L.T = tab.get)
include hL
theorem insertion_a {Hc : Heap} {l : List Int} {c : Option Nat} (hl : l.length < 4611686018427387904) :
    AFn L (.fn 73) [.ref 0 1 0 l.length c, .int .i64 0, .int .i64 l.length] (some (.arr 1 (l.map mrow)) :: Hc) (fun r H' => r = .tup [] ∧ ∃ m : List Int, m.Perm l ∧ m.Pairwise (· ≤ ·) ∧ H' = some (.arr 1 (m.map mrow)) :: Hc) := by
  refine AFn.of_body (F := T73.1) (by rw [hL]; rfl) rfl ?_
  (repeat' (first | refine wSeq rfl ?_ | refine wBlock rfl ?_ | refine wSkip rfl ?_ | refine wExit rfl ?_ | refine wRet rfl ?_ | refine wCondT rfl rfl ?_ | refine wCondF rfl rfl ?_ | refine wOps rfl ?_ | refine wDraw rfl rfl ?_ | simp only [seval, push_cast, ↓reduceIte, ↓bP_some, ↓aP_true, reduceCtorEq]))
  refine wWhile rfl (fun s : Nat × List Int => [(0, .ref 0 1 0 l.length c), (1, .int .i64 0), (2, .int .i64 l.length), (6, .int .i64 (s.1 : Nat))]) (fun s => some (.arr 1 (s.2.map mrow)) :: Hc) (fun s => l.length - s.1) (fun s => 1 ≤ s.1 ∧ s.2.Perm l ∧ UpTo s.2 s.1) (1, l) rfl rfl ⟨Nat.le_refl 1, .refl _, fun p q x y h1 h2 => by omega⟩ ?_
  rintro ⟨i, r⟩ ⟨g1, g2, g3⟩
  dsimp only at g1 g2 g3 ⊢
  have hrl := g2.length_eq
  by_cases hi : i < l.length
  · (repeat' (first | refine wSeq rfl ?_ | refine wBlock rfl ?_ | refine wSkip rfl ?_ | refine wExit rfl ?_ | refine wRet rfl ?_ | refine wCondT rfl rfl ?_ | refine wCondF rfl rfl ?_ | refine wOps rfl ?_ | refine wDraw rfl rfl ?_ | simp only [seval, push_cast, ↓reduceIte, ↓bP_some, ↓aP_true, reduceCtorEq, hi]))
    refine wWhile rfl (fun s : Nat × List Int => [(0, .ref 0 1 0 l.length c), (1, .int .i64 0), (2, .int .i64 l.length), (6, .int .i64 (i : Nat)), (7, .int .i64 (s.1 : Nat))]) (fun s => some (.arr 1 (s.2.map mrow)) :: Hc) (fun s => s.1) (fun s => s.1 ≤ i ∧ s.2.Perm l ∧ UpBut s.2 i s.1) (i, r) rfl rfl ⟨Nat.le_refl i, g2, upBut_start g3⟩ ?_
    rintro ⟨j, t⟩ ⟨f1, f2, f3⟩
    dsimp only at f1 f2 f3 ⊢
    have htl := f2.length_eq
    have hw := wrap_succ (show i < 9223372036854775807 by omega)
    cases j with
    | zero =>
      (repeat' (first | refine wSeq rfl ?_ | refine wBlock rfl ?_ | refine wSkip rfl ?_ | refine wExit rfl ?_ | refine wRet rfl ?_ | refine wCondT rfl rfl ?_ | refine wCondF rfl rfl ?_ | refine wOps rfl ?_ | refine wDraw rfl rfl ?_ | simp only [seval, push_cast, ↓reduceIte, ↓bP_some, ↓aP_true, reduceCtorEq, hw]))
      exact qW_n (i + 1, t) rfl rfl ⟨by dsimp only; omega, by dsimp only; omega, f2, upBut_stop f3 (fun x y h => by omega)⟩
    | succ j =>
      obtain ⟨b, hb, _⟩ := get_of (show j + 1 < t.length by omega)
      obtain ⟨a, ha, _⟩ := get_of (show j < t.length by omega)
      have hj1 : j + 1 < l.length := by omega
      have hj2 : j < l.length := by omega
      have hpos : (0 : Int) < (j : Int) + 1 := by omega
      have hwj : IntKind.i64.wrap (j : Int) = j := wrap_nat (by omega)
      have hz2 : (t.set (j + 1) a)[j]? = some a := by rw [List.getElem?_set_ne (by omega)]; exact ha
      by_cases hab : b < a
      · (repeat' (first | refine wSeq rfl ?_ | refine wBlock rfl ?_ | refine wSkip rfl ?_ | refine wExit rfl ?_ | refine wRet rfl ?_ | refine wCondT rfl rfl ?_ | refine wCondF rfl rfl ?_ | refine wOps rfl ?_ | refine wDraw rfl rfl ?_ | refine opsV_call rfl rfl (less_v hL _ _) ?_ | simp only [seval, push_cast, ↓reduceIte, ↓bP_some, ↓aP_true, reduceCtorEq, hw, ha, hb, hab, hj1, hj2, hpos, hwj, hz2, mrow_set, Nat.succ_pos Hc.length]))
        exact qW_n (j, (t.set (j + 1) a).set j b) rfl rfl ⟨Nat.lt_succ_self j, by dsimp only; omega, (swap_perm (j := j + 1) ha hb).trans f2, upBut_swap (j := j + 1) (Nat.succ_pos j) f1 ha hb hab f3⟩
      · (repeat' (first | refine wSeq rfl ?_ | refine wBlock rfl ?_ | refine wSkip rfl ?_ | refine wExit rfl ?_ | refine wRet rfl ?_ | refine wCondT rfl rfl ?_ | refine wCondF rfl rfl ?_ | refine wOps rfl ?_ | refine wDraw rfl rfl ?_ | refine opsV_call rfl rfl (less_v hL _ _) ?_ | simp only [seval, push_cast, ↓reduceIte, ↓bP_some, ↓aP_true, reduceCtorEq, hw, ha, hb, hab, hj1, hj2, hpos, hwj]))
        exact qW_n (i + 1, t) rfl rfl ⟨by dsimp only; omega, by dsimp only; omega, f2, upBut_stop f3 (fun x y _ hx hy => by
          have hx : t[j]? = some x := hx
          rw [ha] at hx; rw [hb] at hy
          have e1 := Option.some.inj hx
          have e2 := Option.some.inj hy
          omega)⟩
  · (repeat' (first | refine wSeq rfl ?_ | refine wBlock rfl ?_ | refine wSkip rfl ?_ | refine wExit rfl ?_ | refine wRet rfl ?_ | refine wCondT rfl rfl ?_ | refine wCondF rfl rfl ?_ | refine wOps rfl ?_ | refine wDraw rfl rfl ?_ | simp only [seval, push_cast, ↓reduceIte, ↓bP_some, ↓aP_true, reduceCtorEq, hi]))
    refine Eq.mpr (if_pos rfl) ?_
    refine FnQ.atN rfl ⟨rfl, r, g2, upTo_sorted ?_, rfl⟩
    intro p q x y h1 h2 hx hy
    exact g3 p q x y h1 (by omega) hx hy
end Go.Proofs.YtnhfbabenifbkaaGreatDoor
set_option maxRecDepth 100000
set_option maxHeartbeats 4000000
set_option linter.unusedVariables false
set_option linter.unusedSimpArgs false
namespace Go.Proofs.YtnhfbabenifbkaaGreatDoor
variable {L : Lib} (hL : L.T = tab.get)
include hL
omit hL
theorem lit_get {l : List UInt8} {n : Nat} {b : UInt8} (h : l[n]? = some b) : (some n : Option Nat).bind (fun i => Option.map (fun b : UInt8 => V.int IntKind.u8 b.toNat) l[i]?) = some (.int .u8 b.toNat) := by
  show Option.map _ l[n]? = _
  rw [h]; rfl
include hL
theorem len64_v (n : Int) (h0 : 0 ≤ n) (h : n ≤ 12) : ∃ v : Int, VFn L 82 [.int .u64 n] (.int .i64 v) := by
  have : n = 0 ∨ n = 1 ∨ n = 2 ∨ n = 3 ∨ n = 4 ∨ n = 5 ∨ n = 6 ∨ n = 7 ∨ n = 8 ∨ n = 9 ∨ n = 10 ∨ n = 11 ∨ n = 12 := by omega
  have w1 : ¬ (4294967296 : Int) ≤ n := by omega
  have w2 : ¬ (65536 : Int) ≤ n := by omega
  have w3 : ¬ (256 : Int) ≤ n := by omega
  rcases this with rfl | rfl | rfl | rfl | rfl | rfl | rfl | rfl | rfl | rfl | rfl | rfl | rfl
  · refine ⟨0, ?_⟩
    refine VFn.start (F := T82.1) (by rw [hL]; rfl) rfl rfl rfl ?_
    (repeat' (first | refine wSeq rfl ?_ | refine wBlock rfl ?_ | refine wSkip rfl ?_ | refine wExit rfl ?_ | refine wRet rfl ?_ | refine wCondT rfl rfl ?_ | refine wCondF rfl rfl ?_ | refine wOps rfl ?_ | refine wDraw rfl rfl ?_ | simp only [seval, push_cast, ↓reduceIte, ↓bP_some, ↓aP_true, reduceCtorEq, w1, w2, w3]))
    refine ⟨_, rfl, ?_⟩
    refine ⟨_, rfl, ?_⟩
    refine ⟨_, rfl, ?_⟩
    (repeat' (first | refine wSeq rfl ?_ | refine wBlock rfl ?_ | refine wSkip rfl ?_ | refine wExit rfl ?_ | refine wRet rfl ?_ | refine wCondT rfl rfl ?_ | refine wCondF rfl rfl ?_ | refine wOps rfl ?_ | refine wDraw rfl rfl ?_ | simp only [seval, push_cast, ↓reduceIte, ↓bP_some, ↓aP_true, reduceCtorEq]))
    exact FnQ.ret rfl rfl
  · refine ⟨1, ?_⟩
    refine VFn.start (F := T82.1) (by rw [hL]; rfl) rfl rfl rfl ?_
    (repeat' (first | refine wSeq rfl ?_ | refine wBlock rfl ?_ | refine wSkip rfl ?_ | refine wExit rfl ?_ | refine wRet rfl ?_ | refine wCondT rfl rfl ?_ | refine wCondF rfl rfl ?_ | refine wOps rfl ?_ | refine wDraw rfl rfl ?_ | simp only [seval, push_cast, ↓reduceIte, ↓bP_some, ↓aP_true, reduceCtorEq, w1, w2, w3]))
    refine ⟨_, rfl, ?_⟩
    refine ⟨_, rfl, ?_⟩
    refine ⟨_, rfl, ?_⟩
    (repeat' (first | refine wSeq rfl ?_ | refine wBlock rfl ?_ | refine wSkip rfl ?_ | refine wExit rfl ?_ | refine wRet rfl ?_ | refine wCondT rfl rfl ?_ | refine wCondF rfl rfl ?_ | refine wOps rfl ?_ | refine wDraw rfl rfl ?_ | simp only [seval, push_cast, ↓reduceIte, ↓bP_some, ↓aP_true, reduceCtorEq]))
    exact FnQ.ret rfl rfl
  · refine ⟨2, ?_⟩
    refine VFn.start (F := T82.1) (by rw [hL]; rfl) rfl rfl rfl ?_
    (repeat' (first | refine wSeq rfl ?_ | refine wBlock rfl ?_ | refine wSkip rfl ?_ | refine wExit rfl ?_ | refine wRet rfl ?_ | refine wCondT rfl rfl ?_ | refine wCondF rfl rfl ?_ | refine wOps rfl ?_ | refine wDraw rfl rfl ?_ | simp only [seval, push_cast, ↓reduceIte, ↓bP_some, ↓aP_true, reduceCtorEq, w1, w2, w3]))
    refine ⟨_, rfl, ?_⟩
    refine ⟨_, rfl, ?_⟩
    refine ⟨_, rfl, ?_⟩
    (repeat' (first | refine wSeq rfl ?_ | refine wBlock rfl ?_ | refine wSkip rfl ?_ | refine wExit rfl ?_ | refine wRet rfl ?_ | refine wCondT rfl rfl ?_ | refine wCondF rfl rfl ?_ | refine wOps rfl ?_ | refine wDraw rfl rfl ?_ | simp only [seval, push_cast, ↓reduceIte, ↓bP_some, ↓aP_true, reduceCtorEq]))
    exact FnQ.ret rfl rfl
  · refine ⟨2, ?_⟩
    refine VFn.start (F := T82.1) (by rw [hL]; rfl) rfl rfl rfl ?_
    (repeat' (first | refine wSeq rfl ?_ | refine wBlock rfl ?_ | refine wSkip rfl ?_ | refine wExit rfl ?_ | refine wRet rfl ?_ | refine wCondT rfl rfl ?_ | refine wCondF rfl rfl ?_ | refine wOps rfl ?_ | refine wDraw rfl rfl ?_ | simp only [seval, push_cast, ↓reduceIte, ↓bP_some, ↓aP_true, reduceCtorEq, w1, w2, w3]))
    refine ⟨_, rfl, ?_⟩
    refine ⟨_, rfl, ?_⟩
    refine ⟨_, rfl, ?_⟩
    (repeat' (first | refine wSeq rfl ?_ | refine wBlock rfl ?_ | refine wSkip rfl ?_ | refine wExit rfl ?_ | refine wRet rfl ?_ | refine wCondT rfl rfl ?_ | refine wCondF rfl rfl ?_ | refine wOps rfl ?_ | refine wDraw rfl rfl ?_ | simp only [seval, push_cast, ↓reduceIte, ↓bP_some, ↓aP_true, reduceCtorEq]))
    exact FnQ.ret rfl rfl
  · refine ⟨3, ?_⟩
    refine VFn.start (F := T82.1) (by rw [hL]; rfl) rfl rfl rfl ?_
    (repeat' (first | refine wSeq rfl ?_ | refine wBlock rfl ?_ | refine wSkip rfl ?_ | refine wExit rfl ?_ | refine wRet rfl ?_ | refine wCondT rfl rfl ?_ | refine wCondF rfl rfl ?_ | refine wOps rfl ?_ | refine wDraw rfl rfl ?_ | simp only [seval, push_cast, ↓reduceIte, ↓bP_some, ↓aP_true, reduceCtorEq, w1, w2, w3]))
    refine ⟨_, rfl, ?_⟩
    refine ⟨_, rfl, ?_⟩
    refine ⟨_, rfl, ?_⟩
    (repeat' (first | refine wSeq rfl ?_ | refine wBlock rfl ?_ | refine wSkip rfl ?_ | refine wExit rfl ?_ | refine wRet rfl ?_ | refine wCondT rfl rfl ?_ | refine wCondF rfl rfl ?_ | refine wOps rfl ?_ | refine wDraw rfl rfl ?_ | simp only [seval, push_cast, ↓reduceIte, ↓bP_some, ↓aP_true, reduceCtorEq]))
    exact FnQ.ret rfl rfl
  · refine ⟨3, ?_⟩
    refine VFn.start (F := T82.1) (by rw [hL]; rfl) rfl rfl rfl ?_
    (repeat' (first | refine wSeq rfl ?_ | refine wBlock rfl ?_ | refine wSkip rfl ?_ | refine wExit rfl ?_ | refine wRet rfl ?_ | refine wCondT rfl rfl ?_ | refine wCondF rfl rfl ?_ | refine wOps rfl ?_ | refine wDraw rfl rfl ?_ | simp only [seval, push_cast, ↓reduceIte, ↓bP_some, ↓aP_true, reduceCtorEq, w1, w2, w3]))
    refine ⟨_, rfl, ?_⟩
    refine ⟨_, rfl, ?_⟩
    refine ⟨_, rfl, ?_⟩
    (repeat' (first | refine wSeq rfl ?_ | refine wBlock rfl ?_ | refine wSkip rfl ?_ | refine wExit rfl ?_ | refine wRet rfl ?_ | refine wCondT rfl rfl ?_ | refine wCondF rfl rfl ?_ | refine wOps rfl ?_ | refine wDraw rfl rfl ?_ | simp only [seval, push_cast, ↓reduceIte, ↓bP_some, ↓aP_true, reduceCtorEq]))
    exact FnQ.ret rfl rfl
  · refine ⟨3, ?_⟩
    refine VFn.start (F := T82.1) (by rw [hL]; rfl) rfl rfl rfl ?_
    (repeat' (first | refine wSeq rfl ?_ | refine wBlock rfl ?_ | refine wSkip rfl ?_ | refine wExit rfl ?_ | refine wRet rfl ?_ | refine wCondT rfl rfl ?_ | refine wCondF rfl rfl ?_ | refine wOps rfl ?_ | refine wDraw rfl rfl ?_ | simp only [seval, push_cast, ↓reduceIte, ↓bP_some, ↓aP_true, reduceCtorEq, w1, w2, w3]))
    refine ⟨_, rfl, ?_⟩
    refine ⟨_, rfl, ?_⟩
    refine ⟨_, rfl, ?_⟩
    (repeat' (first | refine wSeq rfl ?_ | refine wBlock rfl ?_ | refine wSkip rfl ?_ | refine wExit rfl ?_ | refine wRet rfl ?_ | refine wCondT rfl rfl ?_ | refine wCondF rfl rfl ?_ | refine wOps rfl ?_ | refine wDraw rfl rfl ?_ | simp only [seval, push_cast, ↓reduceIte, ↓bP_some, ↓aP_true, reduceCtorEq]))
    exact FnQ.ret rfl rfl
  · refine ⟨3, ?_⟩
    refine VFn.start (F := T82.1) (by rw [hL]; rfl) rfl rfl rfl ?_
    (repeat' (first | refine wSeq rfl ?_ | refine wBlock rfl ?_ | refine wSkip rfl ?_ | refine wExit rfl ?_ | refine wRet rfl ?_ | refine wCondT rfl rfl ?_ | refine wCondF rfl rfl ?_ | refine wOps rfl ?_ | refine wDraw rfl rfl ?_ | simp only [seval, push_cast, ↓reduceIte, ↓bP_some, ↓aP_true, reduceCtorEq, w1, w2, w3]))
    refine ⟨_, rfl, ?_⟩
    refine ⟨_, rfl, ?_⟩
    refine ⟨_, rfl, ?_⟩
    (repeat' (first | refine wSeq rfl ?_ | refine wBlock rfl ?_ | refine wSkip rfl ?_ | refine wExit rfl ?_ | refine wRet rfl ?_ | refine wCondT rfl rfl ?_ | refine wCondF rfl rfl ?_ | refine wOps rfl ?_ | refine wDraw rfl rfl ?_ | simp only [seval, push_cast, ↓reduceIte, ↓bP_some, ↓aP_true, reduceCtorEq]))
    exact FnQ.ret rfl rfl
  · refine ⟨4, ?_⟩
    refine VFn.start (F := T82.1) (by rw [hL]; rfl) rfl rfl rfl ?_
    (repeat' (first | refine wSeq rfl ?_ | refine wBlock rfl ?_ | refine wSkip rfl ?_ | refine wExit rfl ?_ | refine wRet rfl ?_ | refine wCondT rfl rfl ?_ | refine wCondF rfl rfl ?_ | refine wOps rfl ?_ | refine wDraw rfl rfl ?_ | simp only [seval, push_cast, ↓reduceIte, ↓bP_some, ↓aP_true, reduceCtorEq, w1, w2, w3]))
    refine ⟨_, rfl, ?_⟩
    refine ⟨_, rfl, ?_⟩
    refine ⟨_, rfl, ?_⟩
    (repeat' (first | refine wSeq rfl ?_ | refine wBlock rfl ?_ | refine wSkip rfl ?_ | refine wExit rfl ?_ | refine wRet rfl ?_ | refine wCondT rfl rfl ?_ | refine wCondF rfl rfl ?_ | refine wOps rfl ?_ | refine wDraw rfl rfl ?_ | simp only [seval, push_cast, ↓reduceIte, ↓bP_some, ↓aP_true, reduceCtorEq]))
    exact FnQ.ret rfl rfl
  · refine ⟨4, ?_⟩
    refine VFn.start (F := T82.1) (by rw [hL]; rfl) rfl rfl rfl ?_
    (repeat' (first | refine wSeq rfl ?_ | refine wBlock rfl ?_ | refine wSkip rfl ?_ | refine wExit rfl ?_ | refine wRet rfl ?_ | refine wCondT rfl rfl ?_ | refine wCondF rfl rfl ?_ | refine wOps rfl ?_ | refine wDraw rfl rfl ?_ | simp only [seval, push_cast, ↓reduceIte, ↓bP_some, ↓aP_true, reduceCtorEq, w1, w2, w3]))
    refine ⟨_, rfl, ?_⟩
    refine ⟨_, rfl, ?_⟩
    refine ⟨_, rfl, ?_⟩
    (repeat' (first | refine wSeq rfl ?_ | refine wBlock rfl ?_ | refine wSkip rfl ?_ | refine wExit rfl ?_ | refine wRet rfl ?_ | refine wCondT rfl rfl ?_ | refine wCondF rfl rfl ?_ | refine wOps rfl ?_ | refine wDraw rfl rfl ?_ | simp only [seval, push_cast, ↓reduceIte, ↓bP_some, ↓aP_true, reduceCtorEq]))
    exact FnQ.ret rfl rfl
  · refine ⟨4, ?_⟩
    refine VFn.start (F := T82.1) (by rw [hL]; rfl) rfl rfl rfl ?_
    (repeat' (first | refine wSeq rfl ?_ | refine wBlock rfl ?_ | refine wSkip rfl ?_ | refine wExit rfl ?_ | refine wRet rfl ?_ | refine wCondT rfl rfl ?_ | refine wCondF rfl rfl ?_ | refine wOps rfl ?_ | refine wDraw rfl rfl ?_ | simp only [seval, push_cast, ↓reduceIte, ↓bP_some, ↓aP_true, reduceCtorEq, w1, w2, w3]))
    refine ⟨_, rfl, ?_⟩
    refine ⟨_, rfl, ?_⟩
    refine ⟨_, rfl, ?_⟩
    (repeat' (first | refine wSeq rfl ?_ | refine wBlock rfl ?_ | refine wSkip rfl ?_ | refine wExit rfl ?_ | refine wRet rfl ?_ | refine wCondT rfl rfl ?_ | refine wCondF rfl rfl ?_ | refine wOps rfl ?_ | refine wDraw rfl rfl ?_ | simp only [seval, push_cast, ↓reduceIte, ↓bP_some, ↓aP_true, reduceCtorEq]))
    exact FnQ.ret rfl rfl
  · refine ⟨4, ?_⟩
    refine VFn.start (F := T82.1) (by rw [hL]; rfl) rfl rfl rfl ?_
    (repeat' (first | refine wSeq rfl ?_ | refine wBlock rfl ?_ | refine wSkip rfl ?_ | refine wExit rfl ?_ | refine wRet rfl ?_ | refine wCondT rfl rfl ?_ | refine wCondF rfl rfl ?_ | refine wOps rfl ?_ | refine wDraw rfl rfl ?_ | simp only [seval, push_cast, ↓reduceIte, ↓bP_some, ↓aP_true, reduceCtorEq, w1, w2, w3]))
    refine ⟨_, rfl, ?_⟩
    refine ⟨_, rfl, ?_⟩
    refine ⟨_, rfl, ?_⟩
    (repeat' (first | refine wSeq rfl ?_ | refine wBlock rfl ?_ | refine wSkip rfl ?_ | refine wExit rfl ?_ | refine wRet rfl ?_ | refine wCondT rfl rfl ?_ | refine wCondF rfl rfl ?_ | refine wOps rfl ?_ | refine wDraw rfl rfl ?_ | simp only [seval, push_cast, ↓reduceIte, ↓bP_some, ↓aP_true, reduceCtorEq]))
    exact FnQ.ret rfl rfl
  · refine ⟨4, ?_⟩
    refine VFn.start (F := T82.1) (by rw [hL]; rfl) rfl rfl rfl ?_
    (repeat' (first | refine wSeq rfl ?_ | refine wBlock rfl ?_ | refine wSkip rfl ?_ | refine wExit rfl ?_ | refine wRet rfl ?_ | refine wCondT rfl rfl ?_ | refine wCondF rfl rfl ?_ | refine wOps rfl ?_ | refine wDraw rfl rfl ?_ | simp only [seval, push_cast, ↓reduceIte, ↓bP_some, ↓aP_true, reduceCtorEq, w1, w2, w3]))
    refine ⟨_, rfl, ?_⟩
    refine ⟨_, rfl, ?_⟩
    refine ⟨_, rfl, ?_⟩
    (repeat' (first | refine wSeq rfl ?_ | refine wBlock rfl ?_ | refine wSkip rfl ?_ | refine wExit rfl ?_ | refine wRet rfl ?_ | refine wCondT rfl rfl ?_ | refine wCondF rfl rfl ?_ | refine wOps rfl ?_ | refine wDraw rfl rfl ?_ | simp only [seval, push_cast, ↓reduceIte, ↓bP_some, ↓aP_true, reduceCtorEq]))
    exact FnQ.ret rfl rfl
theorem len_v (n : Int) (h0 : 0 ≤ n) (h : n ≤ 12) : ∃ v : Int, VFn L 64 [.int .u64 n] (.int .i64 v) := by
  obtain ⟨v, hv⟩ := len64_v hL n h0 h
  refine ⟨v, ?_⟩
  refine VFn.start (F := T64.1) (by rw [hL]; rfl) rfl rfl rfl ?_
  (repeat' (first | refine wSeq rfl ?_ | refine wBlock rfl ?_ | refine wSkip rfl ?_ | refine wExit rfl ?_ | refine wRet rfl ?_ | refine wCondT rfl rfl ?_ | refine wCondF rfl rfl ?_ | refine wOps rfl ?_ | refine wDraw rfl rfl ?_ | refine opsV_call rfl rfl (hv) ?_ | simp only [seval, push_cast, ↓reduceIte, ↓bP_some, ↓aP_true, reduceCtorEq]))
  exact FnQ.ret rfl rfl
theorem pdq_a {Hc : Heap} {l : List Int} {c : Option Nat} {m : Int} (hl : l.length ≤ 12) :
    AFn L (.fn 63) [.ref 0 1 0 l.length c, .int .i64 0, .int .i64 l.length, .int .i64 m] (some (.arr 1 (l.map mrow)) :: Hc) (fun r H' => r = .tup [] ∧ ∃ m : List Int, m.Perm l ∧ m.Pairwise (· ≤ ·) ∧ H' = some (.arr 1 (m.map mrow)) :: Hc) := by
  refine AFn.of_body (F := T63.1) (by rw [hL]; rfl) rfl ?_
  have h12 : (l.length : Int) ≤ 12 := by omega
  have hw : IntKind.i64.wrap ((l.length : Int)) = l.length := wrap_nat (by omega)
  (repeat' (first | refine wSeq rfl ?_ | refine wBlock rfl ?_ | refine wSkip rfl ?_ | refine wExit rfl ?_ | refine wRet rfl ?_ | refine wCondT rfl rfl ?_ | refine wCondF rfl rfl ?_ | refine wOps rfl ?_ | refine wDraw rfl rfl ?_ | simp only [seval, push_cast, ↓reduceIte, ↓bP_some, ↓aP_true, reduceCtorEq]))
  refine wWhile rfl (fun _ : Unit => [(0, .ref 0 1 0 l.length c), (1, .int .i64 0), (2, .int .i64 l.length), (3, .int .i64 m), (8, .bool true), (9, .bool true)]) (fun _ => some (.arr 1 (l.map mrow)) :: Hc) (fun _ => 0) (fun _ => True) () rfl rfl trivial (fun _ _ => ?_)
  (repeat' (first | refine wSeq rfl ?_ | refine wBlock rfl ?_ | refine wSkip rfl ?_ | refine wExit rfl ?_ | refine wRet rfl ?_ | refine wCondT rfl rfl ?_ | refine wCondF rfl rfl ?_ | refine wOpsP rfl ?_ | refine wDraw rfl rfl ?_ | simp only [seval, push_cast, ↓reduceIte, ↓bP_some, ↓aP_true, reduceCtorEq, hw, h12, Int.sub_zero]))
  refine opsP_all rfl (insertion_a hL (c := c) (Hc := Hc) (by omega)) ?_
  rintro r h' ⟨rfl, q, q1, q2, rfl⟩
  (repeat' (first | refine wSeq rfl ?_ | refine wBlock rfl ?_ | refine wSkip rfl ?_ | refine wExit rfl ?_ | refine wRet rfl ?_ | refine wCondT rfl rfl ?_ | refine wCondF rfl rfl ?_ | refine wOps rfl ?_ | refine wDraw rfl rfl ?_ | simp only [seval, push_cast, ↓reduceIte, ↓bP_some, ↓aP_true, reduceCtorEq]))
  exact FnQ.at rfl ⟨rfl, q, q1, q2, rfl⟩
theorem sort_a {Hc : Heap} {l : List Int} {c : Option Nat} (hl : l.length ≤ 12) :
    AFn L (.fn 50) [.ref 0 1 0 l.length c] (some (.arr 1 (l.map mrow)) :: Hc) (fun r H' => r = .tup [] ∧ ∃ m : List Int, m.Perm l ∧ m.Pairwise (· ≤ ·) ∧ H' = some (.arr 1 (m.map mrow)) :: Hc) := by
  refine AFn.of_body (F := T50.1) (by rw [hL]; rfl) rfl ?_
  obtain ⟨v, hv⟩ := len_v hL (l.length : Int) (by omega) (by omega)
  have h13 : 13 ≤ limN .u64 := by decide
  have hw : IntKind.u64.wrap ((l.length : Nat) : Int) = l.length := wrap_pos (Nat.ble_eq_true_of_le (Nat.le_trans (Nat.succ_le_succ hl) h13))
  (repeat' (first | refine wSeq rfl ?_ | refine wBlock rfl ?_ | refine wSkip rfl ?_ | refine wExit rfl ?_ | refine wRet rfl ?_ | refine wCondT rfl rfl ?_ | refine wCondF rfl rfl ?_ | refine wOpsP rfl ?_ | refine wDraw rfl rfl ?_ | simp only [seval, push_cast, ↓reduceIte, ↓bP_some, ↓aP_true, reduceCtorEq, hw]))
  refine opsP_all rfl (hv.at _) ?_
  rintro r h' ⟨rfl, rfl⟩
  (repeat' (first | refine wSeq rfl ?_ | refine wBlock rfl ?_ | refine wSkip rfl ?_ | refine wExit rfl ?_ | refine wRet rfl ?_ | refine wCondT rfl rfl ?_ | refine wCondF rfl rfl ?_ | refine wOpsP rfl ?_ | refine wDraw rfl rfl ?_ | simp only [seval, push_cast, ↓reduceIte, ↓bP_some, ↓aP_true, reduceCtorEq]))
  refine opsP_all rfl (pdq_a hL (c := c) (Hc := Hc) (m := v) hl) ?_
  rintro r h' ⟨rfl, q, q1, q2, rfl⟩
  (repeat' (first | refine wSeq rfl ?_ | refine wBlock rfl ?_ | refine wSkip rfl ?_ | refine wExit rfl ?_ | refine wRet rfl ?_ | refine wCondT rfl rfl ?_ | refine wCondF rfl rfl ?_ | refine wOps rfl ?_ | refine wDraw rfl rfl ?_ | simp only [seval, push_cast, ↓reduceIte, ↓bP_some, ↓aP_true, reduceCtorEq]))
  exact FnQ.atN rfl ⟨rfl, q, q1, q2, rfl⟩
end Go.Proofs.YtnhfbabenifbkaaGreatDoor
set_option maxRecDepth 100000
set_option maxHeartbeats 4000000
set_option linter.unusedVariables false
set_option linter.unusedSimpArgs false
namespace Go.Proofs.YtnhfbabenifbkaaGreatDoor
/-- What a function leaves may be numbered anew. -/
theorem AFn.shift {L : Lib} {k : Tgt} {args : List V} {H : Heap} {P : V → Heap → Prop} (h : AFn L k args H (fun r H' => ∃ src fz, okSh H.length src = true ∧ P (r.ren (sgOf H' src fz)) (H'.sh src fz))) : AFn L k args H P := by
  intro C hC A w β vs hA hd hh hg ha
  refine (h C hC A w β vs hA hd hh hg ha).mono ?_
  rintro e w' ⟨v, r, H', β', h1, ⟨src, fz, hok, hp⟩, h3, h4, h5, h6, h7, h8, h9⟩
  simp only [okSh, Bool.and_eq_true, List.all_eq_true] at hok
  obtain ⟨hn, hall⟩ := hok
  have hid : ∀ i, i < H.length → src[i]? = some (some i) := fun i hi => by
    have := hall i (List.mem_range.2 hi)
    split at this
    · rename_i j hj
      have : j = i := by simpa using this
      rw [hj, this]
    · cases this
  have hlive : ∀ b, Live (shβ src β') (H'.sh src fz).get b → Live β' H'.get b := fun b hb => by
    obtain ⟨k, a, h1, h2, h3⟩ := sh_live (Agr.self H' src fz) hb
    exact ⟨a, h2, h3⟩
  have himm : ∀ b, Imm A w' β' H'.get b → Imm A w' (shβ src β') (H'.sh src fz).get b := fun b hb => ⟨hb.lt, fun h => hb.free (hlive b h), hb.al, hb.arr⟩
  have hren : RenOk C.N w' (Imm A w' (shβ src β') (H'.sh src fz).get) (sgOf H' src fz) β' (shβ src β') := sh_renOk (Agr.self H' src fz) h6 himm (fun a b s rows h1 h2 h3 h4 => by
    have h3' : H'.get a ≠ none := by rw [h3]; simp
    obtain ⟨b', g1, g2, g3⟩ := h6.at' a _ h3
    rw [h4] at g1; cases g1
    refine ⟨g2, fun hl => ?_, hA b (h8 b ⟨a, h3', h4⟩), ?_⟩
    rotate_left
    · obtain ⟨cells, T, fz', q1, _⟩ := g3
      exact ⟨cells, T, fz', q1⟩
    · obtain ⟨k, a', g1, g2, g3⟩ := sh_live (Agr.self H' src fz) hl
      have := h6.inj a a' b h3' g2 h4 g3
      subst this
      exact posIn_none h2 k g1)
  refine ⟨v, _, _, shβ src β', h1, hp, ?_, fun i hi => ?_, fun i hi => ?_, sh_heap (Agr.self H' src fz) hn h6 himm hren, h7.ren himm hren, fun b hb => h8 b (hlive b hb), h9⟩
  · unfold Heap.sh
    rw [List.length_map]
    rcases Nat.eq_zero_or_pos H.length with h0 | h0
    · omega
    · have := (List.getElem?_eq_some_iff.1 (hid (H.length - 1) (by omega))).1; omega
  · have : src[i]? = none := List.getElem?_eq_none (by unfold Heap.sh at hi; simpa using hi)
    simp [shβ, this]
  · rw [shβ_to (hid i hi)]; exact h5 i hi
theorem opsP_any {L : Lib} {l : List AI} {K : Env → Heap → Prop} {E : Env} {H : Heap} {d : Option Nat} {anc : List Nat} {c : ACallee} {args : List AOpd} {k : Tgt} {vs : List V} {Post : V → Heap → Prop} (hv : callee L.G E.get c args = some (k, vs)) (hf : AFn L k vs H Post) (h : ∀ r h', Post r h' → opsP L l K (E.put d r) h') : opsP L (⟨d, .call c args, none, anc⟩ :: l) K E H := by
  show stepP L ⟨d, .call c args, none, anc⟩ (opsP L l K) E H
  unfold stepP AI.goes
  show CallP L E.get H c args _
  unfold CallP
  rw [hv]
  exact hf.mono h
def AC.ps : AC → List Nat
  | .range _ ps _ _ => ps
  | _ => []
theorem wRange {L : Lib} {n0 N : Nat} {Q : Exit → Env → Heap → Prop} {E : Env} {H : Heap} {c : AC} {k : Nat} {fs cs : List V} (h : c.tag = 7) (hg : opval L.G E.get c.c = some (.fn k fs cs)) (hf : AFn L (.fn k) (fs ++ [.yld H.length] ++ cs) (H ++ [some (.loop N E c.ps c.l c.r)]) (fun _ H' => RangeP H.length Q E H')) : SWP L n0 N c Q E H := by
  cases c with
  | range g ps a b => exact SWP.range hg hf
  | ops d _ _ => cases d <;> cases h
  | _ => cases h
section
variable {L : Lib} {n0 nt a : Nat} {ps : List Nat} {ad body : AC} {E0 E : Env} {H : Heap} {Q : Exit → Env → Heap → Prop} {Post : V → Heap → Prop}
theorem roundA_n : RoundA L n0 nt body Q .normal E H = SWP L n0 nt body Q E H := rfl
theorem roundQ_n : RoundQ a nt E0 ps ad body Post .normal E H = (H.get a = none ∧ Post (.bool true) (H.set a (some (.loop nt E0 ps ad body)))) := rfl
end
attribute [push_cast] roundA_n roundQ_n
theorem ren_yld {σ : Nat → Sg} {y : Nat} (h : σ y = .to y) : V.ren σ (.yld y) = .yld y := by simp [V.ren, h]
def accT (r : List Int) : Heap := if r = [] then [] else [some (.arr 1 (r.map mrow))]
theorem ren_tup0 {σ : Nat → Sg} : V.ren σ (.tup []) = .tup [] := rfl
theorem back_one {B0 B1 : Option Blk} {q : List Int} : Heap.back [B0, B1] [1] [some (.arr 1 (q.map mrow))] = [B0, some (.arr 1 (q.map mrow))] := by
  show [B0, Option.map (Blk.ren (outσ 2 [1])) (some (.arr 1 (q.map mrow)))] = _
  rw [Option.map_some, ren_tl closed_mrow]
theorem accT_nil : accT [] = [] := rfl
variable {L : Lib} (hL : L.T = tab.get)
include hL
/-- The iterator of slices.Values, over memory numbered by its rounds. -/
theorem valuesIt_a {p : List Int} {s : Nat} {c : Option Nat} {y : Nat} (hs : s = 1 ∨ p = []) (hl : p.length < 4611686018427387904) (HS : Nat → Heap) (h0 : (HS 0).get 0 = some (.arr 1 [[tl mrow s p c]]))
    (hy : ∀ j x, p[j]? = some x → ∃ HY src, AFn L (.yl y) [.int .i64 x] (HS j) (fun r H' => r = .bool true ∧ H' = HY) ∧ okSh (HS 0).length src = true ∧ sgOf HY src [] y = .to y ∧ HY.sh src [] = HS (j + 1)) : AFn L (.fn 72) [.yld y, .ptr 0 1 0 0] (HS 0) (fun r H' => r = .tup [] ∧ H' = HS p.length) := by
  refine AFn.of_body (F := T72.1) (by rw [hL]; rfl) rfl ?_
  (repeat' (first | refine wSeq rfl ?_ | refine wBlock rfl ?_ | refine wSkip rfl ?_ | refine wExit rfl ?_ | refine wRet rfl ?_ | refine wCondT rfl rfl ?_ | refine wCondF rfl rfl ?_ | refine wOps rfl ?_ | refine wDraw rfl rfl ?_ | simp only [seval, push_cast, ↓reduceIte, ↓bP_some, ↓aP_true, reduceCtorEq, h0]))
  refine wCntH rfl 7 p.length (fun _ => []) HS (fun _ => True) rfl rfl trivial ?_ ?_
  · intro j hj _
    obtain ⟨x, hx, _⟩ := get_of hj
    obtain rfl := size_of hs hj
    have hw := wrap_succ (show j < 9223372036854775807 by omega)
    obtain ⟨HY, src, y1, y2, y3, y4⟩ := hy j x hx
    (repeat' (first | refine wSeq rfl ?_ | refine wBlock rfl ?_ | refine wSkip rfl ?_ | refine wExit rfl ?_ | refine wRet rfl ?_ | refine wCondT rfl rfl ?_ | refine wCondF rfl rfl ?_ | refine wOpsP rfl ?_ | refine wDraw rfl rfl ?_ | simp only [seval, push_cast, ↓reduceIte, ↓bP_some, ↓aP_true, reduceCtorEq, hj, hx, iaQ_tl hj]))
    refine opsP_any rfl y1 ?_
    rintro r h' ⟨rfl, rfl⟩
    (repeat' (first | refine wSeq rfl ?_ | refine wBlock rfl ?_ | refine wSkip rfl ?_ | refine wExit rfl ?_ | refine wRet rfl ?_ | refine wCondT rfl rfl ?_ | refine wCondF rfl rfl ?_ | refine wOps rfl ?_ | refine wDraw rfl rfl ?_ | simp only [seval, push_cast, ↓reduceIte, ↓bP_some, ↓aP_true, reduceCtorEq, hw]))
    refine qR_s src [] y2 ?_ y4 trivial
    simp only [Env.sh, List.map_cons, List.map_nil, ren_yld y3]
    rfl
  · intro _
    (repeat' (first | refine wSeq rfl ?_ | refine wBlock rfl ?_ | refine wSkip rfl ?_ | refine wExit rfl ?_ | refine wRet rfl ?_ | refine wCondT rfl rfl ?_ | refine wCondF rfl rfl ?_ | refine wOps rfl ?_ | refine wDraw rfl rfl ?_ | simp only [seval, push_cast, ↓reduceIte, ↓bP_some, ↓aP_true, reduceCtorEq]))
    refine Eq.mpr (if_pos rfl) ?_
    exact FnQ.atN rfl ⟨rfl, rfl⟩
theorem values_v (s : Nat) (p : List Int) (c : Option Nat) : AFn L (.fn 62) [tl mrow s p c] [] (fun r H' => r = .fn 72 [] [.ptr 0 1 0 0] ∧ H' = [some (.arr 1 [[tl mrow s p c]])]) := by
  refine AFn.of_body (F := T62.1) (by rw [hL]; rfl) rfl ?_
  (repeat' (first | refine wSeq rfl ?_ | refine wBlock rfl ?_ | refine wSkip rfl ?_ | refine wExit rfl ?_ | refine wRet rfl ?_ | refine wCondT rfl rfl ?_ | refine wCondF rfl rfl ?_ | refine wOps rfl ?_ | refine wDraw rfl rfl ?_ | simp only [seval, push_cast, ↓reduceIte, ↓bP_some, ↓aP_true, reduceCtorEq]))
  exact FnQ.at rfl ⟨rfl, rfl⟩
theorem appendSeq_a (s : Nat) (p : List Int) (c : Option Nat) (hs : s = 1 ∨ p = []) (hne : p ≠ []) (hl : p.length ≤ 17592186043904) : AFn L (.fn 92) [.lst 0 [] (some 0), .fn 72 [] [.ptr 0 1 0 0]] [some (.arr 1 [[tl mrow s p c]])] (fun r H' => r = .ref 1 1 0 p.length none ∧ H' = [some (.arr 1 [[tl mrow s p c]]), some (.arr 1 (p.map mrow))]) := by
  refine AFn.of_body (F := T92.1) (by rw [hL]; rfl) rfl ?_
  (repeat' (first | refine wSeq rfl ?_ | refine wBlock rfl ?_ | refine wSkip rfl ?_ | refine wExit rfl ?_ | refine wRet rfl ?_ | refine wCondT rfl rfl ?_ | refine wCondF rfl rfl ?_ | refine wOps rfl ?_ | refine wDraw rfl rfl ?_ | simp only [seval, push_cast, ↓reduceIte, ↓bP_some, ↓aP_true, reduceCtorEq]))
  refine wRange rfl rfl ?_
  refine AFn.mono (valuesIt_a (y := 2) hL hs (by omega) (fun j => some (.arr 1 [[tl mrow s p c]]) :: some (.arr 1 [[accV 3 1 (p.take j)]]) :: some (.loop T92.1.ntmps [(2, V.ptr 1 1 0 0), (6, V.fn 72 [] [V.ptr 0 1 0 0])] T92.1.body.r.l.r.l.ps T92.1.body.r.l.r.l.l T92.1.body.r.l.r.l.r) :: accT (p.take j)) rfl ?_) ?_
  · intro j x hx
    have hj := (List.getElem?_eq_some_iff.1 hx).1
    have hlen : (p.take j).length = j := by rw [List.length_take]; omega
    rw [take_snoc hx]
    generalize p.take j = r at hlen ⊢
    have hput : putArgs [(2, V.ptr 1 1 0 0), (6, V.fn 72 [] [V.ptr 0 1 0 0])] T92.1.body.r.l.r.l.ps [V.int IntKind.i64 x] = [(2, V.ptr 1 1 0 0), (6, V.fn 72 [] [V.ptr 0 1 0 0]), (7, V.int .i64 x)] := rfl
    have hroom : (r.length + 1) * 8 ≤ 140737488355328 := by omega
    by_cases hr : r = []
    · subst hr
      refine ⟨[some (.arr 1 [[tl mrow s p c]]), some (.arr 1 [[.ref 4 1 0 1 none]]), some (.loop T92.1.ntmps [(2, V.ptr 1 1 0 0), (6, V.fn 72 [] [V.ptr 0 1 0 0])] T92.1.body.r.l.r.l.ps T92.1.body.r.l.r.l.l T92.1.body.r.l.r.l.r), some (.arr 1 [[.int .i64 x]]), some (.arr 1 [[.int .i64 x]])], [some 0, some 1, some 2, some 4], AFn.of_round rfl rfl rfl ?_, rfl, rfl, ?_⟩
      · (repeat' (first | refine wSeq rfl ?_ | refine wBlock rfl ?_ | refine wSkip rfl ?_ | refine wExit rfl ?_ | refine wRet rfl ?_ | refine wCondT rfl rfl ?_ | refine wCondF rfl rfl ?_ | refine wOps rfl ?_ | refine wDraw rfl rfl ?_ | simp only [seval, push_cast, ↓reduceIte, ↓bP_some, ↓aP_true, reduceCtorEq, accV_nil, hput, accT_nil]))
      · exact sh_c rfl (sh_c rfl (sh_c rfl (sh_c rfl sh_n)))
    · refine ⟨[some (.arr 1 [[tl mrow s p c]]), some (.arr 1 [[.ref 5 1 0 (r.length + 1) none]]), some (.loop T92.1.ntmps [(2, V.ptr 1 1 0 0), (6, V.fn 72 [] [V.ptr 0 1 0 0])] T92.1.body.r.l.r.l.ps T92.1.body.r.l.r.l.l T92.1.body.r.l.r.l.r), none, some (.arr 1 [[.int .i64 x]]), some (.arr 1 ((r ++ [x]).map mrow))], [some 0, some 1, some 2, some 5], ?_, rfl, rfl, ?_⟩
      · rw [show accT r = [some (.arr 1 (r.map mrow))] from if_neg hr]
        refine AFn.of_round rfl rfl rfl ?_
        (repeat' (first | refine wSeq rfl ?_ | refine wBlock rfl ?_ | refine wSkip rfl ?_ | refine wExit rfl ?_ | refine wRet rfl ?_ | refine wCondT rfl rfl ?_ | refine wCondF rfl rfl ?_ | refine wOps rfl ?_ | refine wDraw rfl rfl ?_ | simp only [seval, push_cast, ↓reduceIte, ↓bP_some, ↓aP_true, reduceCtorEq, accV_cons hr, hroom, hput]))
      · rw [accV_snoc, show accT (r ++ [x]) = [some (.arr 1 ((r ++ [x]).map mrow))] from if_neg (by simp)]
        exact sh_c rfl (sh_c rfl (sh_c rfl (sh_c (sh_b closed_mrow rfl) sh_n)))
  · rintro r h' ⟨rfl, rfl⟩
    rw [take_all]
    rw [show accT p = [some (.arr 1 (p.map mrow))] from if_neg hne, accV_cons hne]
    show qB _ (qN _ _ _ _ (FnQ _ _ _)) .normal _ _
    (repeat' (first | refine wSeq rfl ?_ | refine wBlock rfl ?_ | refine wSkip rfl ?_ | refine wExit rfl ?_ | refine wRet rfl ?_ | refine wCondT rfl rfl ?_ | refine wCondF rfl rfl ?_ | refine wOps rfl ?_ | refine wDraw rfl rfl ?_ | simp only [seval, push_cast, ↓reduceIte, ↓bP_some, ↓aP_true, reduceCtorEq]))
    exact FnQ.sh [some 0, some 3] [] rfl rfl rfl (sh_c rfl (sh_c (sh_b closed_mrow rfl) sh_n)) ⟨rfl, rfl⟩
theorem collect_a (s : Nat) (p : List Int) (c : Option Nat) (hs : s = 1 ∨ p = []) (hne : p ≠ []) (hl : p.length ≤ 17592186043904) : AFn L (.fn 71) [.fn 72 [] [.ptr 0 1 0 0]] [some (.arr 1 [[tl mrow s p c]])] (fun r H' => r = .ref 1 1 0 p.length none ∧ H' = [some (.arr 1 [[tl mrow s p c]]), some (.arr 1 (p.map mrow))]) := by
  refine AFn.of_body (F := T71.1) (by rw [hL]; rfl) rfl ?_
  (repeat' (first | refine wSeq rfl ?_ | refine wBlock rfl ?_ | refine wSkip rfl ?_ | refine wExit rfl ?_ | refine wRet rfl ?_ | refine wCondT rfl rfl ?_ | refine wCondF rfl rfl ?_ | refine wOpsP rfl ?_ | refine wDraw rfl rfl ?_ | simp only [seval, push_cast, ↓reduceIte, ↓bP_some, ↓aP_true, reduceCtorEq]))
  refine opsP_any rfl (appendSeq_a hL s p c hs hne hl) ?_
  rintro r h' ⟨rfl, rfl⟩
  (repeat' (first | refine wSeq rfl ?_ | refine wBlock rfl ?_ | refine wSkip rfl ?_ | refine wExit rfl ?_ | refine wRet rfl ?_ | refine wCondT rfl rfl ?_ | refine wCondF rfl rfl ?_ | refine wOps rfl ?_ | refine wDraw rfl rfl ?_ | simp only [seval, push_cast, ↓reduceIte, ↓bP_some, ↓aP_true, reduceCtorEq]))
  exact FnQ.at rfl ⟨rfl, rfl⟩
theorem sorted_a (s : Nat) (p : List Int) (c : Option Nat) (hs : s = 1 ∨ p = []) (hne : p ≠ []) (hl : p.length ≤ 12) : AFn L (.fn 61) [.fn 72 [] [.ptr 0 1 0 0]] [some (.arr 1 [[tl mrow s p c]])] (fun r H' => r = .ref 1 1 0 p.length none ∧ ∃ m : List Int, m.Perm p ∧ m.Pairwise (· ≤ ·) ∧ H' = [some (.arr 1 [[tl mrow s p c]]), some (.arr 1 (m.map mrow))]) := by
  refine AFn.of_body (F := T61.1) (by rw [hL]; rfl) rfl ?_
  (repeat' (first | refine wSeq rfl ?_ | refine wBlock rfl ?_ | refine wSkip rfl ?_ | refine wExit rfl ?_ | refine wRet rfl ?_ | refine wCondT rfl rfl ?_ | refine wCondF rfl rfl ?_ | refine wOpsP rfl ?_ | refine wDraw rfl rfl ?_ | simp only [seval, push_cast, ↓reduceIte, ↓bP_some, ↓aP_true, reduceCtorEq]))
  refine opsP_any rfl (collect_a hL s p c hs hne (by omega)) ?_
  rintro r h' ⟨rfl, rfl⟩
  (repeat' (first | refine wSeq rfl ?_ | refine wBlock rfl ?_ | refine wSkip rfl ?_ | refine wExit rfl ?_ | refine wRet rfl ?_ | refine wCondT rfl rfl ?_ | refine wCondF rfl rfl ?_ | refine wOpsP rfl ?_ | refine wDraw rfl rfl ?_ | simp only [seval, push_cast, ↓reduceIte, ↓bP_some, ↓aP_true, reduceCtorEq]))
  refine opsP_frm (k := 50) (vs' := [.ref 0 1 0 p.length none]) (H0 := [some (.arr 1 (p.map mrow))]) [1] rfl rfl rfl rfl (sh_c (sh_b closed_mrow rfl) sh_n) (sort_a (Hc := []) hL hl) ?_
  rintro r h' ⟨rfl, q, q1, q2, rfl⟩
  rw [back_one, ren_tup0]
  (repeat' (first | refine wSeq rfl ?_ | refine wBlock rfl ?_ | refine wSkip rfl ?_ | refine wExit rfl ?_ | refine wRet rfl ?_ | refine wCondT rfl rfl ?_ | refine wCondF rfl rfl ?_ | refine wOps rfl ?_ | refine wDraw rfl rfl ?_ | simp only [seval, push_cast, ↓reduceIte, ↓bP_some, ↓aP_true, reduceCtorEq]))
  exact FnQ.at rfl ⟨rfl, q, q1, q2, rfl⟩
end Go.Proofs.YtnhfbabenifbkaaGreatDoor
set_option maxRecDepth 100000
set_option maxHeartbeats 4000000
set_option linter.unusedVariables false
set_option linter.unusedSimpArgs false
namespace Go.Proofs.YtnhfbabenifbkaaGreatDoor
theorem pw_at {m : List Int} (hs : m.Pairwise (· ≤ ·)) {i j : Nat} {x y : Int} (hij : i ≤ j) (hx : m[i]? = some x) (hy : m[j]? = some y) : x ≤ y := by
  obtain ⟨h1, rfl⟩ := List.getElem?_eq_some_iff.1 hx
  obtain ⟨h2, rfl⟩ := List.getElem?_eq_some_iff.1 hy
  by_cases e : i = j
  · subst e; exact Int.le_refl _
  · exact List.pairwise_iff_getElem.1 hs i j h1 h2 (by omega)
/-- Sorted numbers among which all up to their count are: each is at least its place. -/
theorem up_place {m : List Int} (hs : m.Pairwise (· ≤ ·)) (ha : ∀ i : Nat, i < m.length → (i : Int) ∈ m) : ∀ (d v : Nat) (x : Int), v + d = m.length → m[v]? = some x → (v : Int) ≤ x
  | 0, v, x, h, hx => by
    have := (List.getElem?_eq_some_iff.1 hx).1
    omega
  | d + 1, v, x, h, hx => by
    obtain ⟨i, hi⟩ := List.mem_iff_getElem?.1 (ha v (by omega))
    by_cases hiv : i ≤ v
    · exact pw_at hs hiv hi hx
    · have h2 := (List.getElem?_eq_some_iff.1 hi).1
      have key : ∀ (e w : Nat) (z : Int), w + e = m.length → v < w → m[w]? = some z → (w : Int) ≤ z := fun e w z h3 h4 h5 => by
        have : e ≤ d := by omega
        exact up_place hs ha e w z h3 h5
      have := key (m.length - i) i v (by omega) (by omega) hi
      omega
termination_by d => d
theorem turned_at {m : List Int} {j : Nat} {x : Int} (hs : m.Pairwise (· ≤ ·)) (ha : ∀ i : Nat, i < m.length → (i : Int) ∈ m) (hI : ∀ i : Nat, i < j → m[i]? = some (i : Int)) (hx : m[j]? = some x) : x = (j : Int) := by
  have hj := (List.getElem?_eq_some_iff.1 hx).1
  have h1 := up_place hs ha (m.length - j) j x (by omega) hx
  obtain ⟨i, hi⟩ := List.mem_iff_getElem?.1 (ha j hj)
  by_cases hij : i < j
  · have := hI i hij
    rw [hi] at this
    have := Option.some.inj this
    omega
  · have := pw_at hs (show j ≤ i by omega) hx hi
    omega
theorem turned_bad {p m : List Int} {j : Nat} {x : Int} (hp : m.Perm p) (hs : m.Pairwise (· ≤ ·)) (hI : ∀ i : Nat, i < j → m[i]? = some (i : Int)) (hx : m[j]? = some x) (hne : x ≠ (j : Int)) : turnedL p = false := by
  cases ht : turnedL p with
  | false => rfl
  | true =>
    exfalso
    unfold turnedL at ht
    rw [Bool.and_eq_true, List.all_eq_true] at ht
    refine hne (turned_at hs (fun i hi => ?_) hI hx)
    have := ht.2 i (by rw [List.mem_range, ← hp.length_eq]; exact hi)
    exact hp.mem_iff.2 (of_decide_eq_true this)
theorem turned_good {p m : List Int} (hp : m.Perm p) (h1 : 1 ≤ p.length ∧ p.length ≤ 10) (hI : ∀ i : Nat, i < p.length → m[i]? = some (i : Int)) : turnedL p = true := by
  unfold turnedL
  rw [Bool.and_eq_true, List.all_eq_true]
  refine ⟨decide_eq_true h1, fun i hi => decide_eq_true ?_⟩
  exact hp.mem_iff.1 (List.mem_of_getElem? (hI i (List.mem_range.1 hi)))
variable {L : Lib} (hL : L.T = tab.get)
include hL
theorem turned_v (s : Nat) (p : List Int) (c : Option Nat) (hs : s = 1 ∨ p = []) (hp : p.length < 4611686018427387904) : VFn L 49 [tl mrow s p c] (.bool (turnedL p)) := by
  refine VFn.start (F := T49.1) (by rw [hL]; rfl) rfl rfl rfl ?_
  by_cases h1 : (1 : Int) ≤ p.length
  · by_cases h2 : (p.length : Int) < 11
    · have hn : 1 ≤ p.length ∧ p.length ≤ 10 := by omega
      have hne : p ≠ [] := fun e => by rw [e] at hn; simp at hn
      (repeat' (first | refine wSeq rfl ?_ | refine wBlock rfl ?_ | refine wSkip rfl ?_ | refine wExit rfl ?_ | refine wRet rfl ?_ | refine wCondT rfl rfl ?_ | refine wCondF rfl rfl ?_ | refine wOpsP rfl ?_ | refine wDraw rfl rfl ?_ | simp only [seval, push_cast, ↓reduceIte, ↓bP_some, ↓aP_true, reduceCtorEq, h1, h2]))
      refine opsP_any rfl ((within_v hL _ _ _).at _) ?_
      rintro r h' ⟨rfl, rfl⟩
      (repeat' (first | refine wSeq rfl ?_ | refine wBlock rfl ?_ | refine wSkip rfl ?_ | refine wExit rfl ?_ | refine wRet rfl ?_ | refine wCondT rfl rfl ?_ | refine wCondF rfl rfl ?_ | refine wOpsP rfl ?_ | refine wDraw rfl rfl ?_ | simp only [seval, push_cast, ↓reduceIte, ↓bP_some, ↓aP_true, reduceCtorEq, h1, h2]))
      refine opsP_any rfl (values_v hL s p c) ?_
      rintro r h' ⟨rfl, rfl⟩
      (repeat' (first | refine wSeq rfl ?_ | refine wBlock rfl ?_ | refine wSkip rfl ?_ | refine wExit rfl ?_ | refine wRet rfl ?_ | refine wCondT rfl rfl ?_ | refine wCondF rfl rfl ?_ | refine wOpsP rfl ?_ | refine wDraw rfl rfl ?_ | simp only [seval, push_cast, ↓reduceIte, ↓bP_some, ↓aP_true, reduceCtorEq]))
      refine opsP_any rfl (sorted_a hL s p c hs hne (by omega)) ?_
      rintro r h' ⟨rfl, m, m1, m2, rfl⟩
      (repeat' (first | refine wSeq rfl ?_ | refine wBlock rfl ?_ | refine wSkip rfl ?_ | refine wExit rfl ?_ | refine wRet rfl ?_ | refine wCondT rfl rfl ?_ | refine wCondF rfl rfl ?_ | refine wOps rfl ?_ | refine wDraw rfl rfl ?_ | simp only [seval, push_cast, ↓reduceIte, ↓bP_some, ↓aP_true, reduceCtorEq]))
      refine wCnt rfl 14 p.length (fun _ => []) (fun j => ∀ i : Nat, i < j → m[i]? = some (i : Int)) rfl (fun i h => by omega) ?_ ?_
      · intro j hj hI
        have hw := wrap_succ (show j < 9223372036854775807 by omega)
        obtain ⟨x, hx, _⟩ := get_of (show j < m.length by rw [m1.length_eq]; exact hj)
        by_cases e : x = (j : Int)
        · subst e
          (repeat' (first | refine wSeq rfl ?_ | refine wBlock rfl ?_ | refine wSkip rfl ?_ | refine wExit rfl ?_ | refine wRet rfl ?_ | refine wCondT rfl rfl ?_ | refine wCondF rfl rfl ?_ | refine wOps rfl ?_ | refine wDraw rfl rfl ?_ | simp only [seval, push_cast, ↓reduceIte, ↓bP_some, ↓aP_true, reduceCtorEq, hj, hx, hw]))
          refine qR_n rfl rfl fun i hi => ?_
          by_cases e : i = j
          · subst e; exact hx
          · exact hI i (by omega)
        · (repeat' (first | refine wSeq rfl ?_ | refine wBlock rfl ?_ | refine wSkip rfl ?_ | refine wExit rfl ?_ | refine wRet rfl ?_ | refine wCondT rfl rfl ?_ | refine wCondF rfl rfl ?_ | refine wOps rfl ?_ | refine wDraw rfl rfl ?_ | simp only [seval, push_cast, ↓reduceIte, ↓bP_some, ↓aP_true, reduceCtorEq, hj, hx, hw, e]))
          rw [turned_bad m1 m2 hI hx e]
          exact FnQ.ret rfl rfl
      · intro hI
        (repeat' (first | refine wSeq rfl ?_ | refine wBlock rfl ?_ | refine wSkip rfl ?_ | refine wExit rfl ?_ | refine wRet rfl ?_ | refine wCondT rfl rfl ?_ | refine wCondF rfl rfl ?_ | refine wOps rfl ?_ | refine wDraw rfl rfl ?_ | simp only [seval, push_cast, ↓reduceIte, ↓bP_some, ↓aP_true, reduceCtorEq]))
        rw [turned_good m1 hn hI]
        exact FnQ.ret rfl rfl
    · have ht : turnedL p = false := by unfold turnedL; rw [decide_eq_false (by omega)]; rfl
      (repeat' (first | refine wSeq rfl ?_ | refine wBlock rfl ?_ | refine wSkip rfl ?_ | refine wExit rfl ?_ | refine wRet rfl ?_ | refine wCondT rfl rfl ?_ | refine wCondF rfl rfl ?_ | refine wOps rfl ?_ | refine wDraw rfl rfl ?_ | refine opsV_call rfl rfl (within_v hL _ _ _) ?_ | simp only [seval, push_cast, ↓reduceIte, ↓bP_some, ↓aP_true, reduceCtorEq, h1, h2]))
      rw [ht]
      exact FnQ.ret rfl rfl
  · have ht : turnedL p = false := by unfold turnedL; rw [decide_eq_false (by omega)]; rfl
    (repeat' (first | refine wSeq rfl ?_ | refine wBlock rfl ?_ | refine wSkip rfl ?_ | refine wExit rfl ?_ | refine wRet rfl ?_ | refine wCondT rfl rfl ?_ | refine wCondF rfl rfl ?_ | refine wOps rfl ?_ | refine wDraw rfl rfl ?_ | refine opsV_call rfl rfl (within_v hL _ _ _) ?_ | simp only [seval, push_cast, ↓reduceIte, ↓bP_some, ↓aP_true, reduceCtorEq, h1]))
    rw [ht]
    exact FnQ.ret rfl rfl
end Go.Proofs.YtnhfbabenifbkaaGreatDoor
set_option linter.unusedVariables false
set_option linter.unusedSimpArgs false
namespace Go.Proofs.YtnhfbabenifbkaaGreatDoor
theorem sorted_of (p : List Int) : ∃ m : List Int, m.Perm p ∧ m.Pairwise (· ≤ ·) := by
  refine ⟨p.mergeSort (fun a b => decide (a ≤ b)), List.mergeSort_perm p _, ?_⟩
  have := List.pairwise_mergeSort (le := fun (a b : Int) => decide (a ≤ b)) (fun a b c h1 h2 => by simp at *; omega) (fun a b => by simp; omega) p
  exact this.imp (fun h => of_decide_eq_true h)
/-- A permutation's numbers are in order 0, 1, .. -/
theorem turned_all {p m : List Int} (ht : turnedL p = true) (hp : m.Perm p) (hs : m.Pairwise (· ≤ ·)) : ∀ j : Nat, j < p.length → m[j]? = some (j : Int) := by
  unfold turnedL at ht
  rw [Bool.and_eq_true, List.all_eq_true] at ht
  have ha : ∀ i : Nat, i < m.length → (i : Int) ∈ m := fun i hi => hp.mem_iff.2 (of_decide_eq_true (ht.2 i (by rw [List.mem_range, ← hp.length_eq]; exact hi)))
  intro j
  induction j using Nat.strongRecOn with
  | ind j ih =>
    intro hj
    obtain ⟨x, hx, _⟩ := get_of (show j < m.length by rw [hp.length_eq]; exact hj)
    rw [hx, turned_at hs ha (fun i hi => ih i hi (by omega)) hx]
theorem turned_nodup {p : List Int} (ht : turnedL p = true) : p.Nodup := by
  obtain ⟨m, hp, hs⟩ := sorted_of p
  refine hp.nodup_iff.1 ?_
  rw [List.nodup_iff_pairwise_ne, List.pairwise_iff_getElem]
  intro i j hi hj hij e
  have h1 := turned_all ht hp hs i (by rw [← hp.length_eq]; exact hi)
  have h2 := turned_all ht hp hs j (by rw [← hp.length_eq]; exact hj)
  rw [List.getElem?_eq_getElem hi] at h1
  rw [List.getElem?_eq_getElem hj] at h2
  have e1 := Option.some.inj h1
  have e2 := Option.some.inj h2
  omega
theorem turned_range {p : List Int} (ht : turnedL p = true) {x : Int} (hx : x ∈ p) : 0 ≤ x ∧ x < p.length := by
  obtain ⟨m, hp, hs⟩ := sorted_of p
  obtain ⟨j, hj⟩ := List.mem_iff_getElem?.1 (hp.mem_iff.2 hx)
  have hl := (List.getElem?_eq_some_iff.1 hj).1
  rw [hp.length_eq] at hl
  rw [turned_all ht hp hs j hl] at hj
  have := Option.some.inj hj
  omega
theorem turned_len {p : List Int} (ht : turnedL p = true) : 1 ≤ p.length ∧ p.length ≤ 10 := by
  unfold turnedL at ht
  rw [Bool.and_eq_true] at ht
  exact of_decide_eq_true ht.1
/-- Sorted lists with the same members, none twice, are the same. -/
theorem sorted_unique : ∀ {l m : List Int}, l.Pairwise (· < ·) → m.Pairwise (· < ·) → (∀ x, x ∈ l ↔ x ∈ m) → l = m
  | [], [], _, _, _ => rfl
  | [], b :: m, _, _, h => by have := (h b).2 (by simp); simp at this
  | a :: l, [], _, _, h => by have := (h a).1 (by simp); simp at this
  | a :: l, b :: m, h1, h2, h => by
    have g1 := List.pairwise_cons.1 h1
    have g2 := List.pairwise_cons.1 h2
    have e : a = b := by
      have k1 := (h a).1 (by simp)
      have k2 := (h b).2 (by simp)
      rcases List.mem_cons.1 k1 with k1 | k1
      · exact k1
      · rcases List.mem_cons.1 k2 with k2 | k2
        · exact k2.symm
        · have := g1.1 b k2
          have := g2.1 a k1
          omega
    subst e
    congr 1
    refine sorted_unique g1.2 g2.2 fun x => ?_
    constructor
    · intro hx
      have := (h x).1 (by simp [hx])
      rcases List.mem_cons.1 this with k | k
      · have := g1.1 x hx; omega
      · exact k
    · intro hx
      have := (h x).2 (by simp [hx])
      rcases List.mem_cons.1 this with k | k
      · have := g2.1 x hx; omega
      · exact k
theorem nodup_at {p : List Int} (hd : p.Nodup) {i j : Nat} {x : Int} (hi : p[i]? = some x) (hj : p[j]? = some x) : i = j := by
  obtain ⟨h1, e1⟩ := List.getElem?_eq_some_iff.1 hi
  obtain ⟨h2, e2⟩ := List.getElem?_eq_some_iff.1 hj
  rw [List.nodup_iff_pairwise_ne, List.pairwise_iff_getElem] at hd
  rcases Nat.lt_trichotomy i j with h | h | h
  · exact absurd (e1.trans e2.symm) (hd i j h1 h2 h)
  · exact h
  · exact absurd (e2.trans e1.symm) (hd j i h2 h1 h)
theorem place_nodup {p : List Int} (hd : p.Nodup) {i : Nat} {x : Int} (hi : p[i]? = some x) : placeL p x = (i : Int) := by
  have hm := List.mem_of_getElem? hi
  have h0 := (place_nonneg p x).2 hm
  have := nodup_at hd (place_get p x hm) hi
  omega
theorem up_len : ∀ {l : List Int} {lo hi : Int}, l.Pairwise (· < ·) → (∀ x ∈ l, lo ≤ x ∧ x < hi) → l = [] ∨ (l.length : Int) ≤ hi - lo
  | [], _, _, _, _ => .inl rfl
  | a :: l, lo, hi, h, hb => by
    have g := List.pairwise_cons.1 h
    have ha := hb a (by simp)
    rcases up_len (lo := a + 1) (hi := hi) g.2 (fun x hx => ⟨by have := g.1 x hx; omega, (hb x (by simp [hx])).2⟩) with e | e
    · subst e; right; simp; omega
    · right; simp; omega
theorem fine_up {l : List Int} {c : Int} (h : fineL 2 l c = true) : l.Pairwise (· < ·) ∧ ∀ x ∈ l, 0 ≤ x ∧ x < c := by
  have e : fineL 2 l c = (l.all (inB 0 c) && decide (l.Pairwise (· < ·))) := rfl
  rw [e, Bool.and_eq_true, List.all_eq_true] at h
  exact ⟨of_decide_eq_true h.2, fun x hx => of_decide_eq_true (h.1 x hx)⟩
theorem turned_mem {p : List Int} (ht : turnedL p = true) {i : Nat} (hi : i < p.length) : (i : Int) ∈ p := by
  unfold turnedL at ht
  rw [Bool.and_eq_true, List.all_eq_true] at ht
  exact of_decide_eq_true (ht.2 i (List.mem_range.2 hi))
theorem rename_sorted {l p q : List Int} (ht : turnedL p = true) (hf : fineL 2 l p.length = true) (hq : q.Perm (l.map (imL p))) (hs : q.Pairwise (· ≤ ·)) : q = ((List.range p.length).map Int.ofNat).filter fun c => decide (placeL p c ∈ l) := by
  obtain ⟨hu, hr⟩ := fine_up hf
  have hd := turned_nodup ht
  have im : ∀ x ∈ l, ∃ i : Nat, x = i ∧ p[i]? = some (imL p x) := fun x hx => by
    have := hr x hx
    obtain ⟨i, rfl⟩ : ∃ i : Nat, x = i := ⟨x.toNat, by omega⟩
    obtain ⟨y, hy, _⟩ := get_of (show i < p.length by omega)
    exact ⟨i, rfl, by rw [hy]; simp [imL, hy]⟩
  have hqd : q.Nodup := by
    refine hq.nodup_iff.2 ?_
    rw [List.nodup_iff_pairwise_ne, List.pairwise_map]
    refine (hu.imp_of_mem ?_)
    intro a b ha hb hab e
    obtain ⟨i, rfl, hi⟩ := im a ha
    obtain ⟨j, rfl, hj⟩ := im b hb
    rw [← e] at hj
    have := nodup_at hd hi hj
    omega
  refine sorted_unique ((pw_lt_iff q).2 ⟨hs, hqd⟩) (List.Pairwise.filter _ ?_) fun x => ?_
  · rw [List.pairwise_map]
    exact List.pairwise_lt_range.imp fun h => Int.ofNat_lt.2 h
  · rw [hq.mem_iff, List.mem_map, List.mem_filter, List.mem_map]
    constructor
    · rintro ⟨a, ha, rfl⟩
      obtain ⟨i, rfl, hi⟩ := im a ha
      have hx := turned_range ht (List.mem_of_getElem? hi)
      refine ⟨⟨(imL p i).toNat, List.mem_range.2 (by omega), by show (((imL p i).toNat : Nat) : Int) = _; omega⟩, decide_eq_true ?_⟩
      rw [place_nodup hd hi]; exact ha
    · rintro ⟨⟨i, hi, rfl⟩, h⟩
      have h := of_decide_eq_true h
      have hm := turned_mem ht (List.mem_range.1 hi)
      refine ⟨_, h, ?_⟩
      have := place_get p (i : Int) hm
      unfold imL
      show p[(placeL p (i : Int)).toNat]?.getD 0 = _
      rw [this]; rfl
end Go.Proofs.YtnhfbabenifbkaaGreatDoor
set_option maxRecDepth 100000
set_option maxHeartbeats 4000000
set_option linter.unusedVariables false
set_option linter.unusedSimpArgs false
namespace Go.Proofs.YtnhfbabenifbkaaGreatDoor
theorem fillI_get {α : Type} {r : List α} {z : α} {j n : Nat} (hj : r.length = j) (hn : j < n) : (r ++ List.replicate (n - j) z)[j]? = some z := by
  rw [List.getElem?_append_right (by omega), hj, Nat.sub_self, List.getElem?_replicate, if_pos (by omega)]
theorem fillI_set {α : Type} {r : List α} {z v : α} {j n : Nat} (hj : r.length = j) (hn : j < n) : (r ++ List.replicate (n - j) z).set j v = (r ++ [v]) ++ List.replicate (n - (j + 1)) z := by
  rw [List.set_append_right _ _ (by omega), hj, Nat.sub_self, List.append_assoc]
  congr 1
  obtain ⟨m, hm⟩ : ∃ m, n - j = m + 1 := ⟨n - j - 1, by omega⟩
  rw [hm, show n - (j + 1) = m by omega]
  rfl
theorem im_at {p : List Int} {n : Nat} {y : Int} (h : p[n]? = some y) : imL p n = y := by simp [imL, h]
theorem back_two {B0 B1 B2 B3 : Option Blk} {q : List Int} : Heap.back [B0, B1, B2, B3] [2] [some (.arr 1 (q.map mrow))] = [B0, B1, some (.arr 1 (q.map mrow)), B3] := by
  show [B0, B1, Option.map (Blk.ren (outσ 4 [2])) (some (.arr 1 (q.map mrow))), B3] = _
  rw [Option.map_some, ren_tl closed_mrow]
/-- Scores renamed, as far as j. -/
def scoreTo (l p : List Int) (j : Nat) : List Int := (List.range p.length).map fun (c : Nat) => if placeL p (c : Int) < (j : Int) then l[(placeL p (c : Int)).toNat]?.getD 0 else 0
theorem score_len (l p : List Int) (j : Nat) : (scoreTo l p j).length = p.length := by simp [scoreTo]
theorem score_get {l p : List Int} {j c : Nat} (hc : c < p.length) : (scoreTo l p j)[c]? = some (if placeL p (c : Int) < (j : Int) then l[(placeL p (c : Int)).toNat]?.getD 0 else 0) := by
  simp [scoreTo, hc]
theorem score_zero {l p : List Int} (ht : turnedL p = true) : scoreTo l p 0 = List.replicate p.length 0 := by
  apply List.ext_getElem?
  intro c
  by_cases hc : c < p.length
  · have := (place_nonneg p (c : Int)).2 (turned_mem ht hc)
    rw [score_get hc, List.getElem?_replicate, if_pos hc, if_neg (by omega)]
  · rw [List.getElem?_eq_none (by rw [score_len]; omega), List.getElem?_eq_none (by simp; omega)]
theorem score_step {l p : List Int} {j m : Nat} {x : Int} (ht : turnedL p = true) (hm : p[j]? = some (m : Int)) (hx : l[j]? = some x) (hmp : m < p.length) : (scoreTo l p j).set m x = scoreTo l p (j + 1) := by
  have hpl := place_nodup (turned_nodup ht) hm
  apply List.ext_getElem?
  intro c
  rw [List.getElem?_set, score_len]
  by_cases e : m = c
  · subst e
    rw [if_pos rfl, if_pos hmp, score_get hmp, hpl, if_pos (by omega)]
    simp [hx]
  · rw [if_neg e]
    by_cases hc : c < p.length
    · rw [score_get hc, score_get hc]
      have hmem := turned_mem ht hc
      have h0 := (place_nonneg p (c : Int)).2 hmem
      have hg := place_get p (c : Int) hmem
      have hne : placeL p (c : Int) ≠ (j : Int) := fun h => by
        rw [h] at hg
        have hg : p[j]? = some (c : Int) := hg
        rw [hm] at hg
        have := Option.some.inj hg
        omega
      by_cases h : placeL p (c : Int) < (j : Int)
      · rw [if_pos h, if_pos (by omega)]
      · rw [if_neg h, if_neg (by omega)]
    · rw [List.getElem?_eq_none (by rw [score_len]; omega), List.getElem?_eq_none (by rw [score_len]; omega)]
theorem score_all {l p : List Int} : scoreTo l p p.length = (List.range p.length).map fun (c : Nat) => l[(placeL p (c : Int)).toNat]?.getD 0 := by
  unfold scoreTo
  exact List.map_congr_left fun c hc => if_pos (place_lt p c)
variable {L : Lib} (hL : L.T = tab.get)
include hL
theorem rename_1 (s u : Nat) (l p : List Int) (c d : Option Nat) (ht : turnedL p = true) (hf : fineL 1 l p.length = true) (hs : s = 1 ∨ l = []) (hl : l.length ≤ 17592186043904) (hu : u = 1 ∨ p = []) (hp : p.length < 4611686018427387904) : VFn L 23 [(.agg [.int .u8 1, tl mrow s (l) c]), tl mrow u p d] (.tup [(.agg [.int .u8 1, tl mrow 1 (l.map (imL p)) (some l.length)]), .int .i64 0]) := by
  have h10 := turned_len ht
  have hroom : l.length * 8 ≤ 140737488355328 := by omega
  have hsz : l.length < 9223372036854775808 := by omega
  refine VFn.start (F := T23.1) (by rw [hL]; rfl) rfl rfl rfl ?_
  (repeat' (first | refine wSeq rfl ?_ | refine wBlock rfl ?_ | refine wSkip rfl ?_ | refine wExit rfl ?_ | refine wRet rfl ?_ | refine wCondT rfl rfl ?_ | refine wCondF rfl rfl ?_ | refine wOps rfl ?_ | refine wDraw rfl rfl ?_ | refine opsV_call rfl rfl (turned_v hL _ _ _ hu hp) ?_ | refine opsV_call rfl rfl (fine_v hL _ _ _ _ _ hs (show l.length < 4611686018427387904 by omega) (show ((p.length : Nat) : Int) ≤ 10 by omega)) ?_ | simp only [seval, push_cast, ↓reduceIte, ↓bP_some, ↓aP_true, reduceCtorEq, ht, hf, hroom, hsz]))
  refine wCntH rfl 29 l.length (fun _ => []) (fun j => [some (Blk.arr 2 [[V.int IntKind.u8 1, tl mrow s l c]]), some (Blk.arr 2 [[V.int IntKind.u8 0, V.lst 0 [] (some 0)]]), some (Blk.arr 1 (((l.take j).map (imL p) ++ List.replicate (l.length - j) 0).map mrow)), some (Blk.arr 2 [[V.int IntKind.u8 1, V.ref 2 1 0 l.length (some l.length)]])]) (fun _ => True) rfl (by rw [List.take_zero, List.map_nil, List.nil_append, Nat.sub_zero, List.map_replicate]; rfl) trivial ?_ ?_
  · intro j hj _
    obtain ⟨x, hx, _⟩ := get_of hj
    obtain rfl := size_of hs hj
    have hrg : 0 ≤ x ∧ x < p.length := Decidable.byContradiction fun h => by rw [fine_out (by decide) hx h] at hf; cases hf
    obtain ⟨n, rfl⟩ : ∃ n : Nat, x = n := ⟨x.toNat, by omega⟩
    have hn : n < p.length := by omega
    obtain ⟨y, hy, _⟩ := get_of hn
    obtain rfl := size_of hu hn
    have hw := wrap_succ (show j < 9223372036854775807 by omega)
    have hst : (l.take (j + 1)).map (imL p) = (l.take j).map (imL p) ++ [y] := by rw [take_snoc hx, List.map_append]; simp [imL, hy]
    have hlen : ((l.take j).map (imL p)).length = j := by simp; omega
    have hz := fillI_get (z := (0 : Int)) hlen hj
    have hset := fillI_set (z := (0 : Int)) (v := y) hlen hj
    rw [← hst] at hset
    (repeat' (first | refine wSeq rfl ?_ | refine wBlock rfl ?_ | refine wSkip rfl ?_ | refine wExit rfl ?_ | refine wRet rfl ?_ | refine wCondT rfl rfl ?_ | refine wCondF rfl rfl ?_ | refine wOps rfl ?_ | refine wDraw rfl rfl ?_ | simp only [seval, push_cast, ↓reduceIte, ↓bP_some, ↓aP_true, reduceCtorEq, hj, hx, hy, iaQ_tl hj, iaQ_tl hn, hw, hz, mrow_set, hset]))
    exact qR_n rfl rfl trivial
  · intro _
    rw [take_all, Nat.sub_self, List.replicate_zero, List.append_nil]
    (repeat' (first | refine wSeq rfl ?_ | refine wBlock rfl ?_ | refine wSkip rfl ?_ | refine wExit rfl ?_ | refine wRet rfl ?_ | refine wCondT rfl rfl ?_ | refine wCondF rfl rfl ?_ | refine wOps rfl ?_ | refine wDraw rfl rfl ?_ | simp only [seval, push_cast, ↓reduceIte, ↓bP_some, ↓aP_true, reduceCtorEq]))
    refine FnQ.frz [2] rfl ?_
    rw [show l.length = (l.map (imL p)).length by simp]
    exact congrArg (fun v => V.tup [V.agg [V.int IntKind.u8 1, v], V.int IntKind.i64 0]) (frz_ref closed_mrow (by decide) rfl rfl)
theorem rename_2 (s u : Nat) (l p : List Int) (c d : Option Nat) (ht : turnedL p = true) (hf : fineL 2 l p.length = true) (hs : s = 1 ∨ l = []) (hl : l.length ≤ 17592186043904) (hu : u = 1 ∨ p = []) (hp : p.length < 4611686018427387904) : VFn L 23 [(.agg [.int .u8 2, tl mrow s (l) c]), tl mrow u p d] (.tup [(.agg [.int .u8 2, tl mrow 1 (((List.range p.length).map Int.ofNat).filter fun c => decide (placeL p c ∈ l)) (some l.length)]), .int .i64 0]) := by
  have h10 := turned_len ht
  have hroom : l.length * 8 ≤ 140737488355328 := by omega
  have hsz : l.length < 9223372036854775808 := by omega
  refine VFn.start (F := T23.1) (by rw [hL]; rfl) rfl rfl rfl ?_
  (repeat' (first | refine wSeq rfl ?_ | refine wBlock rfl ?_ | refine wSkip rfl ?_ | refine wExit rfl ?_ | refine wRet rfl ?_ | refine wCondT rfl rfl ?_ | refine wCondF rfl rfl ?_ | refine wOps rfl ?_ | refine wDraw rfl rfl ?_ | refine opsV_call rfl rfl (turned_v hL _ _ _ hu hp) ?_ | refine opsV_call rfl rfl (fine_v hL _ _ _ _ _ hs (show l.length < 4611686018427387904 by omega) (show ((p.length : Nat) : Int) ≤ 10 by omega)) ?_ | simp only [seval, push_cast, ↓reduceIte, ↓bP_some, ↓aP_true, reduceCtorEq, ht, hf, hroom, hsz]))
  refine wCntH rfl 29 l.length (fun _ => []) (fun j => [some (Blk.arr 2 [[V.int IntKind.u8 2, tl mrow s l c]]), some (Blk.arr 2 [[V.int IntKind.u8 0, V.lst 0 [] (some 0)]]), some (Blk.arr 1 (((l.take j).map (imL p) ++ List.replicate (l.length - j) 0).map mrow)), some (Blk.arr 2 [[V.int IntKind.u8 2, V.ref 2 1 0 l.length (some l.length)]])]) (fun _ => True) rfl (by rw [List.take_zero, List.map_nil, List.nil_append, Nat.sub_zero, List.map_replicate]; rfl) trivial ?_ ?_
  · intro j hj _
    obtain ⟨x, hx, _⟩ := get_of hj
    obtain rfl := size_of hs hj
    have hrg : 0 ≤ x ∧ x < p.length := Decidable.byContradiction fun h => by rw [fine_out (by decide) hx h] at hf; cases hf
    obtain ⟨n, rfl⟩ : ∃ n : Nat, x = n := ⟨x.toNat, by omega⟩
    have hn : n < p.length := by omega
    obtain ⟨y, hy, _⟩ := get_of hn
    obtain rfl := size_of hu hn
    have hw := wrap_succ (show j < 9223372036854775807 by omega)
    have hst : (l.take (j + 1)).map (imL p) = (l.take j).map (imL p) ++ [y] := by rw [take_snoc hx, List.map_append]; simp [imL, hy]
    have hlen : ((l.take j).map (imL p)).length = j := by simp; omega
    have hz := fillI_get (z := (0 : Int)) hlen hj
    have hset := fillI_set (z := (0 : Int)) (v := y) hlen hj
    rw [← hst] at hset
    (repeat' (first | refine wSeq rfl ?_ | refine wBlock rfl ?_ | refine wSkip rfl ?_ | refine wExit rfl ?_ | refine wRet rfl ?_ | refine wCondT rfl rfl ?_ | refine wCondF rfl rfl ?_ | refine wOps rfl ?_ | refine wDraw rfl rfl ?_ | simp only [seval, push_cast, ↓reduceIte, ↓bP_some, ↓aP_true, reduceCtorEq, hj, hx, hy, iaQ_tl hj, iaQ_tl hn, hw, hz, mrow_set, hset]))
    exact qR_n rfl rfl trivial
  · intro _
    rw [take_all, Nat.sub_self, List.replicate_zero, List.append_nil]
    have hml : (l.map (imL p)).length = l.length := by simp
    have h12 : (l.map (imL p)).length ≤ 12 := by
      rw [hml]
      obtain ⟨hu, hr⟩ := fine_up hf
      rcases up_len hu hr with e | e
      · rw [e]; simp
      · omega
    have hso := sort_a hL (Hc := []) (c := some l.length) h12
    rw [hml] at hso
    (repeat' (first | refine wSeq rfl ?_ | refine wBlock rfl ?_ | refine wSkip rfl ?_ | refine wExit rfl ?_ | refine wRet rfl ?_ | refine wCondT rfl rfl ?_ | refine wCondF rfl rfl ?_ | refine wOpsP rfl ?_ | refine wDraw rfl rfl ?_ | simp only [seval, push_cast, ↓reduceIte, ↓bP_some, ↓aP_true, reduceCtorEq]))
    refine opsP_frm (k := 50) (vs' := [.ref 0 1 0 l.length (some l.length)]) (H0 := [some (.arr 1 ((l.map (imL p)).map mrow))]) [2] rfl rfl rfl rfl (sh_c (sh_b closed_mrow rfl) sh_n) hso ?_
    rintro r h' ⟨rfl, q, q1, q2, rfl⟩
    rw [back_two, ren_tup0, rename_sorted ht hf q1 q2]
    have hql : l.length = (((List.range p.length).map Int.ofNat).filter fun c => decide (placeL p c ∈ l)).length := by rw [← rename_sorted ht hf q1 q2, q1.length_eq, hml]
    generalize (((List.range p.length).map Int.ofNat).filter fun c => decide (placeL p c ∈ l)) = z at hql ⊢
    (repeat' (first | refine wSeq rfl ?_ | refine wBlock rfl ?_ | refine wSkip rfl ?_ | refine wExit rfl ?_ | refine wRet rfl ?_ | refine wCondT rfl rfl ?_ | refine wCondF rfl rfl ?_ | refine wOps rfl ?_ | refine wDraw rfl rfl ?_ | simp only [seval, push_cast, ↓reduceIte, ↓bP_some, ↓aP_true, reduceCtorEq]))
    refine FnQ.frz [2] rfl ?_
    rw [hql]
    exact congrArg (fun v => V.tup [V.agg [V.int IntKind.u8 2, v], V.int IntKind.i64 0]) (frz_ref closed_mrow (by decide) rfl rfl)
theorem rename_3 (s u : Nat) (l p : List Int) (c d : Option Nat) (ht : turnedL p = true) (hf : fineL 3 l p.length = true) (hs : s = 1 ∨ l = []) (hl : l.length ≤ 17592186043904) (hu : u = 1 ∨ p = []) (hp : p.length < 4611686018427387904) : VFn L 23 [(.agg [.int .u8 3, tl mrow s (l) c]), tl mrow u p d] (.tup [(.agg [.int .u8 3, tl mrow 1 ((List.range p.length).map fun (c : Nat) => l[(placeL p (c : Int)).toNat]?.getD 0) (some l.length)]), .int .i64 0]) := by
  have h10 := turned_len ht
  have hroom : l.length * 8 ≤ 140737488355328 := by omega
  have hsz : l.length < 9223372036854775808 := by omega
  have hll : l.length = p.length := by
    have e : fineL 3 l p.length = (l.all (inB 0 11) && decide ((l.length : Int) = p.length)) := rfl
    rw [e, Bool.and_eq_true] at hf
    have := of_decide_eq_true hf.2
    omega
  refine VFn.start (F := T23.1) (by rw [hL]; rfl) rfl rfl rfl ?_
  (repeat' (first | refine wSeq rfl ?_ | refine wBlock rfl ?_ | refine wSkip rfl ?_ | refine wExit rfl ?_ | refine wRet rfl ?_ | refine wCondT rfl rfl ?_ | refine wCondF rfl rfl ?_ | refine wOps rfl ?_ | refine wDraw rfl rfl ?_ | refine opsV_call rfl rfl (turned_v hL _ _ _ hu hp) ?_ | refine opsV_call rfl rfl (fine_v hL _ _ _ _ _ hs (show l.length < 4611686018427387904 by omega) (show ((p.length : Nat) : Int) ≤ 10 by omega)) ?_ | simp only [seval, push_cast, ↓reduceIte, ↓bP_some, ↓aP_true, reduceCtorEq, ht, hf, hroom, hsz]))
  refine wCntH rfl 29 l.length (fun _ => []) (fun j => [some (Blk.arr 2 [[V.int IntKind.u8 3, tl mrow s l c]]), some (Blk.arr 2 [[V.int IntKind.u8 0, V.lst 0 [] (some 0)]]), some (Blk.arr 1 ((scoreTo l p j).map mrow)), some (Blk.arr 2 [[V.int IntKind.u8 3, V.ref 2 1 0 l.length (some l.length)]])]) (fun _ => True) rfl (by rw [score_zero ht, List.map_replicate, hll]; rfl) trivial ?_ ?_
  · intro j hj _
    obtain ⟨x, hx, _⟩ := get_of hj
    obtain rfl := size_of hs hj
    have hjp : j < p.length := by omega
    obtain ⟨y, hy, hym⟩ := get_of hjp
    obtain rfl := size_of hu hjp
    have hyr := turned_range ht hym
    obtain ⟨m, rfl⟩ : ∃ m : Nat, y = m := ⟨y.toNat, by omega⟩
    have hmp : m < p.length := by omega
    have hml : m < l.length := by omega
    have hw := wrap_succ (show j < 9223372036854775807 by omega)
    have hz := score_get (l := l) (j := j) hmp
    have hset := score_step ht hy hx hmp
    (repeat' (first | refine wSeq rfl ?_ | refine wBlock rfl ?_ | refine wSkip rfl ?_ | refine wExit rfl ?_ | refine wRet rfl ?_ | refine wCondT rfl rfl ?_ | refine wCondF rfl rfl ?_ | refine wOps rfl ?_ | refine wDraw rfl rfl ?_ | simp only [seval, push_cast, ↓reduceIte, ↓bP_some, ↓aP_true, reduceCtorEq, hj, hx, hy, iaQ_tl hj, iaQ_tl hjp, hml, hw, hz, mrow_set, hset]))
    exact qR_n rfl rfl trivial
  · intro _
    have hsa : scoreTo l p l.length = (List.range p.length).map fun (c : Nat) => l[(placeL p (c : Int)).toNat]?.getD 0 := by rw [hll]; exact score_all
    rw [hsa]
    (repeat' (first | refine wSeq rfl ?_ | refine wBlock rfl ?_ | refine wSkip rfl ?_ | refine wExit rfl ?_ | refine wRet rfl ?_ | refine wCondT rfl rfl ?_ | refine wCondF rfl rfl ?_ | refine wOps rfl ?_ | refine wDraw rfl rfl ?_ | simp only [seval, push_cast, ↓reduceIte, ↓bP_some, ↓aP_true, reduceCtorEq]))
    refine FnQ.frz [2] rfl ?_
    rw [show l.length = ((List.range p.length).map fun (c : Nat) => l[(placeL p (c : Int)).toNat]?.getD 0).length by simp [hll]]
    exact congrArg (fun v => V.tup [V.agg [V.int IntKind.u8 3, v], V.int IntKind.i64 0]) (frz_ref closed_mrow (by decide) rfl rfl)
theorem rename_v (k : Int) (s u : Nat) (l p : List Int) (c d : Option Nat) (ht : turnedL p = true) (hf : fineL k l p.length = true) (hs : s = 1 ∨ l = []) (hl : l.length ≤ 17592186043904) (hu : u = 1 ∨ p = []) (hp : p.length < 4611686018427387904) : VFn L 23 [(.agg [.int .u8 k, tl mrow s (l) c]), tl mrow u p d] (.tup [(.agg [.int .u8 k, tl mrow 1 ((renameL k l p).1.2) (some l.length)]), .int .i64 0]) := by
  by_cases h1 : k = 1
  · subst h1
    rw [show renameL 1 l p = ((1, l.map (imL p)), 0) by unfold renameL; rw [if_neg (by rw [ht]; simp), if_neg (by rw [hf]; simp), if_pos rfl]]
    exact rename_1 hL s u l p c d ht hf hs hl hu hp
  · by_cases h2 : k = 2
    · subst h2
      rw [show renameL 2 l p = ((2, ((List.range p.length).map Int.ofNat).filter fun c => decide (placeL p c ∈ l)), 0) by unfold renameL; rw [if_neg (by rw [ht]; simp), if_neg (by rw [hf]; simp), if_neg (by decide), if_pos rfl]]
      exact rename_2 hL s u l p c d ht hf hs hl hu hp
    · have h3 : k = 3 := Decidable.byContradiction fun h => by rw [fine_else h1 h2 h] at hf; cases hf
      subst h3
      rw [show renameL 3 l p = ((3, (List.range p.length).map fun (c : Nat) => l[(placeL p (c : Int)).toNat]?.getD 0), 0) by unfold renameL; rw [if_neg (by rw [ht]; simp), if_neg (by rw [hf]; simp), if_neg (by decide), if_neg (by decide)]]
      exact rename_3 hL s u l p c d ht hf hs hl hu hp
end Go.Proofs.YtnhfbabenifbkaaGreatDoor
set_option linter.unusedVariables false
set_option linter.unusedSimpArgs false
namespace Go.Proofs.YtnhfbabenifbkaaGreatDoor
theorem im_at' {p : List Int} {n : Nat} {y : Int} (h : p[n]? = some y) : imL p n = y := by simp [imL, h]
/-- The permutation that leads back. -/
def backL (p : List Int) : List Int := (List.range p.length).map fun (c : Nat) => placeL p (c : Int)
theorem back_len (p : List Int) : (backL p).length = p.length := by simp [backL]
theorem back_at {p : List Int} {c : Nat} (hc : c < p.length) : (backL p)[c]? = some (placeL p (c : Int)) := by simp [backL, hc]
theorem back_turned {p : List Int} (ht : turnedL p = true) : turnedL (backL p) = true := by
  have hl := turned_len ht
  unfold turnedL
  rw [back_len, Bool.and_eq_true, List.all_eq_true]
  refine ⟨decide_eq_true hl, fun i hi => decide_eq_true ?_⟩
  obtain ⟨y, hy, hm⟩ := get_of (List.mem_range.1 hi)
  have hr := turned_range ht hm
  obtain ⟨m, rfl⟩ : ∃ m : Nat, y = m := ⟨y.toNat, by omega⟩
  have := back_at (show m < p.length by omega)
  rw [place_nodup (turned_nodup ht) hy] at this
  exact List.mem_of_getElem? this
theorem im_back {p : List Int} (ht : turnedL p = true) {m : Int} (h0 : 0 ≤ m) (h1 : m < p.length) : imL (backL p) (imL p m) = m := by
  obtain ⟨i, rfl⟩ : ∃ i : Nat, m = i := ⟨m.toNat, by omega⟩
  obtain ⟨y, hy, hm⟩ := get_of (show i < p.length by omega)
  have hr := turned_range ht hm
  obtain ⟨c, rfl⟩ : ∃ c : Nat, y = c := ⟨y.toNat, by omega⟩
  have e : imL p (i : Int) = c := by simp [imL, hy]
  rw [e]
  have := back_at (show c < p.length by omega)
  rw [place_nodup (turned_nodup ht) hy] at this
  simp [imL, this]
theorem im_range {p : List Int} (ht : turnedL p = true) {m : Int} (h0 : 0 ≤ m) (h1 : m < p.length) : 0 ≤ imL p m ∧ imL p m < p.length := by
  obtain ⟨i, rfl⟩ : ∃ i : Nat, m = i := ⟨m.toNat, by omega⟩
  obtain ⟨y, hy, hm⟩ := get_of (show i < p.length by omega)
  have hr := turned_range ht hm
  have e : imL p (i : Int) = y := by simp [imL, hy]
  rw [e]; exact hr
theorem im_inj {p : List Int} (ht : turnedL p = true) {a b : Int} (ha : 0 ≤ a ∧ a < p.length) (hb : 0 ≤ b ∧ b < p.length) (e : imL p a = imL p b) : a = b := by
  rw [← im_back ht ha.1 ha.2, e, im_back ht hb.1 hb.2]
theorem rename_res1 {l p : List Int} (ht : turnedL p = true) (hf : fineL 1 l p.length = true) : (renameL 1 l p).1.2 = l.map (imL p) := by
  unfold renameL; rw [if_neg (by rw [ht]; simp), if_neg (by rw [hf]; simp), if_pos rfl]
theorem rename_res2 {l p : List Int} (ht : turnedL p = true) (hf : fineL 2 l p.length = true) : (renameL 2 l p).1.2 = ((List.range p.length).map Int.ofNat).filter fun c => decide (placeL p c ∈ l) := by
  unfold renameL; rw [if_neg (by rw [ht]; simp), if_neg (by rw [hf]; simp), if_neg (by decide), if_pos rfl]
theorem rename_res3 {l p : List Int} (ht : turnedL p = true) (hf : fineL 3 l p.length = true) : (renameL 3 l p).1.2 = (List.range p.length).map fun (c : Nat) => l[(placeL p (c : Int)).toNat]?.getD 0 := by
  unfold renameL; rw [if_neg (by rw [ht]; simp), if_neg (by rw [hf]; simp), if_neg (by decide), if_neg (by decide)]
theorem fine1_iff {l : List Int} {c : Int} : fineL 1 l c = true ↔ (∀ x ∈ l, 0 ≤ x ∧ x < c) ∧ l.Nodup := by
  have e : fineL 1 l c = (l.all (inB 0 c) && decide l.Nodup) := rfl
  rw [e, Bool.and_eq_true, List.all_eq_true]
  exact ⟨fun h => ⟨fun x hx => of_decide_eq_true (h.1 x hx), of_decide_eq_true h.2⟩, fun h => ⟨fun x hx => decide_eq_true (h.1 x hx), decide_eq_true h.2⟩⟩
theorem fine2_iff {l : List Int} {c : Int} : fineL 2 l c = true ↔ (∀ x ∈ l, 0 ≤ x ∧ x < c) ∧ l.Pairwise (· < ·) := by
  have e : fineL 2 l c = (l.all (inB 0 c) && decide (l.Pairwise (· < ·))) := rfl
  rw [e, Bool.and_eq_true, List.all_eq_true]
  exact ⟨fun h => ⟨fun x hx => of_decide_eq_true (h.1 x hx), of_decide_eq_true h.2⟩, fun h => ⟨fun x hx => decide_eq_true (h.1 x hx), decide_eq_true h.2⟩⟩
theorem fine3_iff {l : List Int} {c : Int} : fineL 3 l c = true ↔ (∀ x ∈ l, 0 ≤ x ∧ x < 11) ∧ (l.length : Int) = c := by
  have e : fineL 3 l c = (l.all (inB 0 11) && decide ((l.length : Int) = c)) := rfl
  rw [e, Bool.and_eq_true, List.all_eq_true]
  exact ⟨fun h => ⟨fun x hx => of_decide_eq_true (h.1 x hx), of_decide_eq_true h.2⟩, fun h => ⟨fun x hx => decide_eq_true (h.1 x hx), decide_eq_true h.2⟩⟩
/-- A renamed ballot is valid. -/
theorem rename_fine {k : Int} {l p : List Int} (ht : turnedL p = true) (hf : fineL k l p.length = true) : fineL k (renameL k l p).1.2 p.length = true := by
  by_cases h1 : k = 1
  · subst h1
    rw [rename_res1 ht hf]
    obtain ⟨hr, hd⟩ := fine1_iff.1 hf
    refine fine1_iff.2 ⟨fun x hx => ?_, ?_⟩
    · obtain ⟨m, hm, rfl⟩ := List.mem_map.1 hx
      exact im_range ht (hr m hm).1 (hr m hm).2
    · rw [List.nodup_iff_pairwise_ne] at hd ⊢
      rw [List.pairwise_map]
      exact hd.imp_of_mem fun ha hb hab e => hab (im_inj ht (hr _ ha) (hr _ hb) e)
  · by_cases h2 : k = 2
    · subst h2
      rw [rename_res2 ht hf]
      refine fine2_iff.2 ⟨fun x hx => ?_, List.Pairwise.filter _ ?_⟩
      · obtain ⟨hx, _⟩ := List.mem_filter.1 hx
        obtain ⟨i, hi, rfl⟩ := List.mem_map.1 hx
        have := List.mem_range.1 hi
        exact ⟨Int.natCast_nonneg i, Int.ofNat_lt.2 this⟩
      · rw [List.pairwise_map]
        exact List.pairwise_lt_range.imp fun h => Int.ofNat_lt.2 h
    · have h3 : k = 3 := Decidable.byContradiction fun h => by rw [fine_else h1 h2 h] at hf; cases hf
      subst h3
      rw [rename_res3 ht hf]
      obtain ⟨hr, hl⟩ := fine3_iff.1 hf
      refine fine3_iff.2 ⟨fun x hx => ?_, by simp⟩
      obtain ⟨c, hc, rfl⟩ := List.mem_map.1 hx
      have hm := turned_mem ht (List.mem_range.1 hc)
      have h0 := (place_nonneg p (c : Int)).2 hm
      have hlt := place_lt p (c : Int)
      obtain ⟨y, hy, hym⟩ := get_of (show (placeL p (c : Int)).toNat < l.length by omega)
      rw [hy]; exact hr y hym
theorem place_back {p : List Int} (ht : turnedL p = true) {i m : Nat} (hi : p[i]? = some (m : Int)) : placeL (backL p) (i : Int) = m := by
  have hm := turned_range ht (List.mem_of_getElem? hi)
  have := back_at (show m < p.length by omega)
  rw [place_nodup (turned_nodup ht) hi] at this
  exact place_nodup (turned_nodup (back_turned ht)) this
/-- Renamed and renamed back: the ballot. -/
theorem rename_back {k : Int} {l p : List Int} (ht : turnedL p = true) (hf : fineL k l p.length = true) : (renameL k (renameL k l p).1.2 (backL p)).1.2 = l := by
  have hb := back_turned ht
  have hf2 : fineL k (renameL k l p).1.2 (backL p).length = true := by rw [back_len]; exact rename_fine ht hf
  by_cases h1 : k = 1
  · subst h1
    rw [rename_res1 hb hf2, rename_res1 ht hf, List.map_map]
    obtain ⟨hr, _⟩ := fine1_iff.1 hf
    conv => rhs; rw [← List.map_id l]
    exact List.map_congr_left fun m hm => im_back ht (hr m hm).1 (hr m hm).2
  · by_cases h2 : k = 2
    · subst h2
      obtain ⟨hr, hs⟩ := fine2_iff.1 hf
      refine sorted_unique (fine2_iff.1 (rename_fine hb hf2)).2 hs fun x => ?_
      rw [rename_res2 hb hf2, rename_res2 ht hf, List.mem_filter, List.mem_map, back_len]
      have key : ∀ i : Nat, i < p.length → (placeL (backL p) (i : Int) ∈ ((List.range p.length).map Int.ofNat).filter (fun c => decide (placeL p c ∈ l)) ↔ (i : Int) ∈ l) := fun i hi => by
        obtain ⟨y, hy, hm⟩ := get_of hi
        have hyr := turned_range ht hm
        obtain ⟨m, rfl⟩ : ∃ m : Nat, y = m := ⟨y.toNat, by omega⟩
        rw [place_back ht hy, List.mem_filter, place_nodup (turned_nodup ht) hy, List.mem_map]
        constructor
        · exact fun h => of_decide_eq_true h.2
        · exact fun h => ⟨⟨m, List.mem_range.2 (by omega), rfl⟩, decide_eq_true h⟩
      constructor
      · rintro ⟨⟨i, hi, rfl⟩, h⟩
        exact (key i (List.mem_range.1 hi)).1 (of_decide_eq_true h)
      · intro hx
        have hxr := hr x hx
        obtain ⟨i, rfl⟩ : ∃ i : Nat, x = i := ⟨x.toNat, by omega⟩
        exact ⟨⟨i, List.mem_range.2 (by omega), rfl⟩, decide_eq_true ((key i (by omega)).2 hx)⟩
    · have h3 : k = 3 := Decidable.byContradiction fun h => by rw [fine_else h1 h2 h] at hf; cases hf
      subst h3
      obtain ⟨hr, hl⟩ := fine3_iff.1 hf
      rw [rename_res3 hb hf2, rename_res3 ht hf, back_len]
      apply List.ext_getElem?
      intro i
      by_cases hi : i < p.length
      · obtain ⟨y, hy, hm⟩ := get_of hi
        have hyr := turned_range ht hm
        obtain ⟨m, rfl⟩ : ∃ m : Nat, y = m := ⟨y.toNat, by omega⟩
        obtain ⟨z, hz, _⟩ := get_of (show i < l.length by omega)
        have e1 := place_back ht hy
        have e2 := place_nodup (turned_nodup ht) hy
        have hmp : m < p.length := by omega
        simp [hi, e1, hmp, e2, hz]
      · rw [List.getElem?_eq_none (by simp; omega), List.getElem?_eq_none (by omega)]
theorem place_map {f : Int → Int} {x : Int} : ∀ {l : List Int}, (∀ a ∈ l, f a = f x → a = x) → placeL (l.map f) (f x) = placeL l x
  | [], _ => rfl
  | a :: l, h => by
    have ih := place_map (l := l) (fun b hb => h b (by simp [hb]))
    rw [List.map_cons]
    by_cases e : a = x
    · subst e; rw [place_self, place_self]
    · rw [place_skip _ e, place_skip _ (fun q => e (h a (by simp) q)), ih]
theorem rename_mem2 {l p : List Int} (ht : turnedL p = true) (hf : fineL 2 l p.length = true) {x : Int} (h0 : 0 ≤ x) (h1 : x < p.length) : imL p x ∈ (renameL 2 l p).1.2 ↔ x ∈ l := by
  obtain ⟨i, rfl⟩ : ∃ i : Nat, x = i := ⟨x.toNat, by omega⟩
  obtain ⟨y, hy, hm⟩ := get_of (show i < p.length by omega)
  have hyr := turned_range ht hm
  obtain ⟨m, rfl⟩ : ∃ m : Nat, y = m := ⟨y.toNat, by omega⟩
  rw [im_at' hy, rename_res2 ht hf, List.mem_filter, place_nodup (turned_nodup ht) hy, List.mem_map]
  constructor
  · exact fun h => of_decide_eq_true h.2
  · exact fun h => ⟨⟨m, List.mem_range.2 (by omega), rfl⟩, decide_eq_true h⟩
theorem rename_at3 {l p : List Int} (ht : turnedL p = true) (hf : fineL 3 l p.length = true) {i m : Nat} (hi : p[i]? = some (m : Int)) : (renameL 3 l p).1.2[m]?.getD 0 = l[i]?.getD 0 := by
  have hm := turned_range ht (List.mem_of_getElem? hi)
  have hmp : m < p.length := by omega
  rw [rename_res3 ht hf]
  simp [hmp, place_nodup (turned_nodup ht) hi]
/-- Preferences follow the names. -/
theorem rename_prefers {k : Int} {l p : List Int} (ht : turnedL p = true) (hf : fineL k l p.length = true) {x y : Int} (hx : 0 ≤ x ∧ x < p.length) (hy : 0 ≤ y ∧ y < p.length) : prefersL k l x y = prefersL k (renameL k l p).1.2 (imL p x) (imL p y) := by
  have gx := im_range ht hx.1 hx.2
  have gy := im_range ht hy.1 hy.2
  unfold prefersL
  have n1 : ¬ (x < 0 ∨ y < 0) := by omega
  have n2 : ¬ (imL p x < 0 ∨ imL p y < 0) := by omega
  rw [if_neg n1, if_neg n2]
  by_cases h1 : k = 1
  · subst h1
    obtain ⟨hr, _⟩ := fine1_iff.1 hf
    rw [if_pos rfl, if_pos rfl, rename_res1 ht hf, place_map (fun a ha e => im_inj ht (hr a ha) hx e), place_map (fun a ha e => im_inj ht (hr a ha) hy e)]
  · rw [if_neg h1, if_neg h1]
    by_cases h2 : k = 2
    · subst h2
      rw [if_pos rfl, if_pos rfl]
      have e1 : (0 ≤ placeL (renameL 2 l p).1.2 (imL p x)) ↔ 0 ≤ placeL l x := by rw [place_nonneg, place_nonneg]; exact rename_mem2 ht hf hx.1 hx.2
      have e2 : (0 ≤ placeL (renameL 2 l p).1.2 (imL p y)) ↔ 0 ≤ placeL l y := by rw [place_nonneg, place_nonneg]; exact rename_mem2 ht hf hy.1 hy.2
      rw [decide_eq_decide.2 e1, decide_eq_decide.2 (show placeL (renameL 2 l p).1.2 (imL p y) < 0 ↔ placeL l y < 0 by omega)]
    · rw [if_neg h2, if_neg h2]
      have h3 : k = 3 := Decidable.byContradiction fun h => by rw [fine_else h1 h2 h] at hf; cases hf
      subst h3
      rw [if_pos rfl, if_pos rfl]
      obtain ⟨_, hl⟩ := fine3_iff.1 hf
      obtain ⟨_, hl2⟩ := fine3_iff.1 (rename_fine ht hf)
      obtain ⟨i, rfl⟩ : ∃ i : Nat, x = i := ⟨x.toNat, by omega⟩
      obtain ⟨j, rfl⟩ : ∃ j : Nat, y = j := ⟨y.toNat, by omega⟩
      obtain ⟨a, ha, ham⟩ := get_of (show i < p.length by omega)
      obtain ⟨b, hb, hbm⟩ := get_of (show j < p.length by omega)
      have har := turned_range ht ham
      have hbr := turned_range ht hbm
      obtain ⟨m, rfl⟩ : ∃ m : Nat, a = m := ⟨a.toNat, by omega⟩
      obtain ⟨n, rfl⟩ : ∃ n : Nat, b = n := ⟨b.toNat, by omega⟩
      rw [im_at' ha, im_at' hb]
      have e1 := rename_at3 ht hf ha
      have e2 := rename_at3 ht hf hb
      rw [Int.toNat_natCast, Int.toNat_natCast, Int.toNat_natCast, Int.toNat_natCast, e1, e2, hl2, hl]
      rw [decide_eq_true hx.2, decide_eq_true hy.2, decide_eq_true har.2, decide_eq_true hbr.2]
/-- Who is left, by the new names. -/
def movedL (p : List Int) (left : List Bool) : List Bool := (List.range p.length).map fun (c : Nat) => left[(placeL p (c : Int)).toNat]?.getD false
theorem moved_at {p : List Int} {left : List Bool} (ht : turnedL p = true) {i m : Nat} (hi : p[i]? = some (m : Int)) : (movedL p left)[m]?.getD false = left[i]?.getD false := by
  have hm := turned_range ht (List.mem_of_getElem? hi)
  have hmp : m < p.length := by omega
  simp [movedL, hmp, place_nodup (turned_nodup ht) hi]
theorem moved_left {p : List Int} {left : List Bool} (ht : turnedL p = true) {x : Int} (hx : 0 ≤ x ∧ x < p.length) : isLeft (movedL p left) (imL p x) = isLeft left x := by
  obtain ⟨i, rfl⟩ : ∃ i : Nat, x = i := ⟨x.toNat, by omega⟩
  obtain ⟨y, hy, hm⟩ := get_of (show i < p.length by omega)
  have hyr := turned_range ht hm
  obtain ⟨m, rfl⟩ : ∃ m : Nat, y = m := ⟨y.toNat, by omega⟩
  rw [im_at' hy]
  have := moved_at (left := left) ht hy
  simp [isLeft, this]
theorem keep_fine {k : Int} {l p : List Int} {left : List Bool} (ht : turnedL p = true) (hf : fineL k l p.length = true) : fineL k (keepL k l left) p.length = true := by
  have hl := turned_len ht
  exact (check_zero.1 (keep_right (left := left) (check_zero.2 ⟨by omega, hf⟩))).2
/-- To keep and to rename commute. -/
theorem rename_keep {k : Int} {l p : List Int} {left : List Bool} (ht : turnedL p = true) (hf : fineL k l p.length = true) : (renameL k (keepL k l left) p).1.2 = keepL k (renameL k l p).1.2 (movedL p left) := by
  have hk := keep_fine (left := left) ht hf
  by_cases h1 : k = 1
  · subst h1
    obtain ⟨hr, _⟩ := fine1_iff.1 hf
    rw [rename_res1 ht hk, rename_res1 ht hf]
    show (l.filter (isLeft left)).map (imL p) = (l.map (imL p)).filter (isLeft (movedL p left))
    rw [List.filter_map]
    congr 1
    exact List.filter_congr fun x hx => (moved_left ht (hr x hx)).symm
  · by_cases h2 : k = 2
    · subst h2
      obtain ⟨hr, _⟩ := fine2_iff.1 hf
      refine sorted_unique (fine2_iff.1 (rename_fine ht hk)).2 ((fine2_iff.1 (rename_fine ht hf)).2.filter _) fun y => ?_
      show y ∈ (renameL 2 (keepL 2 l left) p).1.2 ↔ y ∈ (renameL 2 l p).1.2.filter (isLeft (movedL p left))
      by_cases hy : 0 ≤ y ∧ y < p.length
      · have hb := im_range (back_turned ht) (m := y) hy.1 (by rw [back_len]; exact hy.2)
        rw [back_len] at hb
        obtain ⟨i, rfl⟩ : ∃ i : Nat, y = i := ⟨y.toNat, by omega⟩
        have hm := turned_mem ht (show i < p.length by omega)
        have hg := place_get p (i : Int) hm
        have h0 := (place_nonneg p (i : Int)).2 hm
        have hlt := place_lt p (i : Int)
        have e : imL p (placeL p (i : Int)) = (i : Int) := by unfold imL; rw [hg]; rfl
        have r1 := rename_mem2 ht hk h0 hlt
        have r2 := rename_mem2 ht hf h0 hlt
        have r3 := moved_left (left := left) ht ⟨h0, hlt⟩
        rw [e] at r1 r2 r3
        rw [r1, List.mem_filter, r2, r3]
        show _ ∈ l.filter (isLeft left) ↔ _
        rw [List.mem_filter]
      · constructor
        · intro h; exact absurd ((fine2_iff.1 (rename_fine ht hk)).1 y h) hy
        · intro h; exact absurd ((fine2_iff.1 (rename_fine ht hf)).1 y (List.mem_filter.1 h).1) hy
    · have h3 : k = 3 := Decidable.byContradiction fun h => by rw [fine_else h1 h2 h] at hf; cases hf
      subst h3
      obtain ⟨_, hl⟩ := fine3_iff.1 hf
      rw [rename_res3 ht hk, rename_res3 ht hf]
      show _ = ((List.range p.length).map fun (c : Nat) => l[(placeL p (c : Int)).toNat]?.getD 0).mapIdx fun i m => if (movedL p left)[i]?.getD false then m else 0
      apply List.ext_getElem?
      intro c
      by_cases hc : c < p.length
      · have hm := turned_mem ht hc
        have h0 := (place_nonneg p (c : Int)).2 hm
        have hlt := place_lt p (c : Int)
        obtain ⟨z, hz, _⟩ := get_of (show (placeL p (c : Int)).toNat < l.length by omega)
        have e : keepL 3 l left = l.mapIdx fun i m => if left[i]?.getD false then m else 0 := rfl
        simp [hc, e, List.getElem?_mapIdx, hz, movedL]
      · rw [List.getElem?_eq_none (by simp; omega), List.getElem?_eq_none (by simp; omega)]
end Go.Proofs.YtnhfbabenifbkaaGreatDoor
set_option linter.unusedVariables false
set_option linter.unusedSimpArgs false
namespace Go.Proofs.YtnhfbabenifbkaaGreatDoor
theorem top_one' {l : List Int} {i : Nat} {m : Int} (hi : l[i]? = some m) (ht : topAt l i m = true) : topGo l 0 l = ((i : Int), true) := by
  refine topGo_at hi ht (fun j x hj hx => ?_) i 0 (by omega)
  cases h : topAt l j x with
  | false => rfl
  | true =>
    have h1 := (topAt_iff.1 ht).2 j (List.getElem?_eq_some_iff.1 hx).1 (by omega)
    have h2 := (topAt_iff.1 h).2 i (List.getElem?_eq_some_iff.1 hi).1 (by omega)
    rw [hx] at h1; rw [hi] at h2
    simp at h1 h2
    omega
theorem top_none' {l : List Int} (h : ∀ (i : Nat) (m : Int), l[i]? = some m → topAt l i m = false) : topGo l 0 l = (0, false) := topGo_none h l.length 0 (by omega)
theorem top_follows {l p : List Int} (ht : turnedL p = true) (hf : fineL 3 l p.length = true) {i : Nat} {m : Int} (hi : l[i]? = some m) (h : topAt l i m = true) : ∃ c : Nat, p[i]? = some (c : Int) ∧ (renameL 3 l p).1.2[c]? = some m ∧ topAt (renameL 3 l p).1.2 c m = true := by
  obtain ⟨_, hl⟩ := fine3_iff.1 hf
  obtain ⟨_, hl2⟩ := fine3_iff.1 (rename_fine ht hf)
  have hil := (List.getElem?_eq_some_iff.1 hi).1
  obtain ⟨y, hy, hm⟩ := get_of (show i < p.length by omega)
  have hyr := turned_range ht hm
  obtain ⟨c, rfl⟩ : ∃ c : Nat, y = c := ⟨y.toNat, by omega⟩
  obtain ⟨z, hz, _⟩ := get_of (show c < (renameL 3 l p).1.2.length by omega)
  have hat := rename_at3 ht hf hy
  rw [hz, hi] at hat
  simp at hat
  subst hat
  refine ⟨c, hy, hz, topAt_iff.2 ⟨(topAt_iff.1 h).1, fun k hk hkc => ?_⟩⟩
  have hkm := turned_mem ht (show k < p.length by omega)
  have hg := place_get p (k : Int) hkm
  have h0 := (place_nonneg p (k : Int)).2 hkm
  have hlt := place_lt p (k : Int)
  rw [rename_at3 ht hf hg]
  refine (topAt_iff.1 h).2 _ (by omega) fun e => ?_
  rw [e, hy] at hg
  have := Option.some.inj hg
  omega
theorem alone_fine {k : Int} {l p : List Int} (ht : turnedL p = true) (hf : fineL k l p.length = true) : aloneL k l = true := by
  have hn := turned_len ht
  refine alone_of (check_zero.2 ?_)
  by_cases h3 : k = 3
  · subst h3
    obtain ⟨_, hl⟩ := fine3_iff.1 hf
    have e : amongL 3 l = (l.length : Int) := rfl
    rw [e, hl]
    exact ⟨by omega, hf⟩
  · have e : amongL k l = 10 := if_neg h3
    rw [e]
    refine ⟨by omega, ?_⟩
    by_cases h1 : k = 1
    · subst h1
      obtain ⟨hr, hd⟩ := fine1_iff.1 hf
      exact fine1_iff.2 ⟨fun x hx => ⟨(hr x hx).1, by have := (hr x hx).2; omega⟩, hd⟩
    · by_cases h2 : k = 2
      · subst h2
        obtain ⟨hr, hd⟩ := fine2_iff.1 hf
        exact fine2_iff.2 ⟨fun x hx => ⟨(hr x hx).1, by have := (hr x hx).2; omega⟩, hd⟩
      · rw [fine_else h1 h2 h3] at hf; cases hf
theorem rename_len {k : Int} {l p : List Int} (ht : turnedL p = true) (hf : fineL k l p.length = true) : (renameL k l p).1.2.length = l.length := by
  by_cases h1 : k = 1
  · subst h1; rw [rename_res1 ht hf]; simp
  · by_cases h2 : k = 2
    · subst h2
      obtain ⟨q, q1, q2⟩ := sorted_of (l.map (imL p))
      rw [rename_res2 ht hf, ← rename_sorted ht hf q1 q2, q1.length_eq]; simp
    · have h3 : k = 3 := Decidable.byContradiction fun h => by rw [fine_else h1 h2 h] at hf; cases hf
      subst h3
      obtain ⟨_, hl⟩ := fine3_iff.1 hf
      rw [rename_res3 ht hf]; simp; omega
theorem firstL_of {k : Int} {l : List Int} (ha : aloneL k l = true) (hne : ¬ l = []) : firstL k l = if k = 1 ∨ k = 2 ∧ l.length = 1 then (l[0]?.getD 0, true) else if k = 2 then (0, false) else topGo l 0 l := by
  have h : ¬ (aloneL k l = false ∨ l = []) := by rw [ha]; simp [hne]
  unfold firstL
  rw [if_neg h]
theorem first_1 {l : List Int} {x : Int} (ha : aloneL 1 l = true) (hx : l[0]? = some x) : firstL 1 l = (x, true) := by
  rw [firstL_of ha (fun e => by rw [e] at hx; simp at hx), if_pos (.inl rfl), hx]; rfl
theorem first_2 {l : List Int} {x : Int} (ha : aloneL 2 l = true) (hx : l[0]? = some x) (h1 : l.length = 1) : firstL 2 l = (x, true) := by
  rw [firstL_of ha (fun e => by rw [e] at hx; simp at hx), if_pos (.inr ⟨rfl, h1⟩), hx]; rfl
theorem first_2n {l : List Int} (ha : aloneL 2 l = true) (hne : ¬ l = []) (h1 : ¬ l.length = 1) : firstL 2 l = (0, false) := by
  rw [firstL_of ha hne, if_neg (by simp [h1]), if_pos rfl]
theorem first_3 {l : List Int} (ha : aloneL 3 l = true) (hne : ¬ l = []) : firstL 3 l = topGo l 0 l := by
  rw [firstL_of ha hne, if_neg (by simp), if_neg (by simp)]
/-- The favorite follows the names. -/
theorem rename_first {k : Int} {l p : List Int} (ht : turnedL p = true) (hf : fineL k l p.length = true) : (firstL k l).2 = (firstL k (renameL k l p).1.2).2 ∧ ((firstL k l).2 = true → (0 ≤ (firstL k l).1 ∧ (firstL k l).1 < p.length) ∧ (firstL k (renameL k l p).1.2).1 = imL p (firstL k l).1) := by
  have ha := alone_fine ht hf
  have ha2 := alone_fine ht (rename_fine ht hf)
  have hlen := rename_len ht hf
  by_cases hne : l = []
  · have hne2 : (renameL k l p).1.2 = [] := List.length_eq_zero_iff.1 (by rw [hlen, hne]; rfl)
    unfold firstL
    rw [if_pos (.inr hne), if_pos (.inr hne2)]
    exact ⟨rfl, fun h => by cases h⟩
  · have hne2 : ¬ (renameL k l p).1.2 = [] := fun h => hne (List.length_eq_zero_iff.1 (by rw [← hlen, h]; rfl))
    have hpos : 0 < l.length := Nat.pos_of_ne_zero fun h => hne (List.length_eq_zero_iff.1 h)
    obtain ⟨x, hx, hxm⟩ := get_of hpos
    by_cases h1 : k = 1
    · subst h1
      obtain ⟨hr, _⟩ := fine1_iff.1 hf
      rw [first_1 ha hx, first_1 (x := imL p x) ha2 (by rw [rename_res1 ht hf]; simp [hx])]
      exact ⟨rfl, fun _ => ⟨hr x hxm, rfl⟩⟩
    · by_cases h2 : k = 2
      · subst h2
        obtain ⟨hr, _⟩ := fine2_iff.1 hf
        by_cases hl1 : l.length = 1
        · have hm := (rename_mem2 ht hf (hr x hxm).1 (hr x hxm).2).2 hxm
          obtain ⟨i, hi⟩ := List.mem_iff_getElem?.1 hm
          have hil := (List.getElem?_eq_some_iff.1 hi).1
          obtain rfl : i = 0 := by omega
          rw [first_2 ha hx hl1, first_2 ha2 hi (by omega)]
          exact ⟨rfl, fun _ => ⟨hr x hxm, rfl⟩⟩
        · rw [first_2n ha hne hl1, first_2n ha2 hne2 (by omega)]
          exact ⟨rfl, fun h => by cases h⟩
      · have h3 : k = 3 := Decidable.byContradiction fun h => by rw [fine_else h1 h2 h] at hf; cases hf
        subst h3
        obtain ⟨_, hl⟩ := fine3_iff.1 hf
        rw [first_3 ha hne, first_3 ha2 hne2]
        by_cases hex : ∃ (i : Nat) (m : Int), l[i]? = some m ∧ topAt l i m = true
        · obtain ⟨i, m, hi, hm⟩ := hex
          obtain ⟨c, c1, c2, c3⟩ := top_follows ht hf hi hm
          have hil := (List.getElem?_eq_some_iff.1 hi).1
          rw [top_one' hi hm, top_one' c2 c3]
          exact ⟨rfl, fun _ => ⟨by dsimp only; omega, (im_at' c1).symm⟩⟩
        · rw [top_none' (fun i m hi => by
            cases h : topAt l i m with
            | false => rfl
            | true => exact absurd ⟨i, m, hi, h⟩ hex), top_none' (fun i m hi => by
            cases h : topAt (renameL 3 l p).1.2 i m with
            | false => rfl
            | true =>
              have hf2 : fineL 3 (renameL 3 l p).1.2 (backL p).length = true := by rw [back_len]; exact rename_fine ht hf
              obtain ⟨c, c1, c2, c3⟩ := top_follows (back_turned ht) hf2 hi h
              rw [rename_back ht hf] at c2 c3
              exact absurd ⟨c, m, c2, c3⟩ hex)]
          exact ⟨rfl, fun h => by cases h⟩
end Go.Proofs.YtnhfbabenifbkaaGreatDoor
set_option maxRecDepth 100000
set_option maxHeartbeats 4000000
set_option linter.unusedVariables false
set_option linter.unusedSimpArgs false
namespace Go.Proofs.YtnhfbabenifbkaaGreatDoor
variable {L : Lib} (hL : L.T = tab.get)
include hL
theorem rturned_v (s : Nat) (p : List Int) (c : Option Nat) (hs : s = 1 ∨ p = []) (hp : p.length < 4611686018427387904) : VFn L 31 [tl mrow s p c] (.bool (turnedL p)) := by
  refine VFn.start (F := T31.1) (by rw [hL]; rfl) rfl rfl rfl ?_
  (repeat' (first | refine wSeq rfl ?_ | refine wBlock rfl ?_ | refine wSkip rfl ?_ | refine wExit rfl ?_ | refine wRet rfl ?_ | refine wCondT rfl rfl ?_ | refine wCondF rfl rfl ?_ | refine wOps rfl ?_ | refine wDraw rfl rfl ?_ | simp only [seval, push_cast, ↓reduceIte, ↓bP_some, ↓aP_true, reduceCtorEq]))
  refine wCnt rfl 3 p.length (fun _ => []) (fun j => ∀ i : Nat, i < j → 0 ≤ placeL p (i : Int)) rfl (fun i h => by omega) ?_ ?_
  · intro j hj hI
    have hw := wrap_succ (show j < 9223372036854775807 by omega)
    by_cases q : placeL p (j : Int) < 0
    · (repeat' (first | refine wSeq rfl ?_ | refine wBlock rfl ?_ | refine wSkip rfl ?_ | refine wExit rfl ?_ | refine wRet rfl ?_ | refine wCondT rfl rfl ?_ | refine wCondF rfl rfl ?_ | refine wOps rfl ?_ | refine wDraw rfl rfl ?_ | refine opsV_call rfl rfl (rplace_v hL _ _ _ _ hs hp) ?_ | simp only [seval, push_cast, ↓reduceIte, ↓bP_some, ↓aP_true, reduceCtorEq, hj, q]))
      rw [turned_no hj q]
      exact FnQ.ret rfl rfl
    · (repeat' (first | refine wSeq rfl ?_ | refine wBlock rfl ?_ | refine wSkip rfl ?_ | refine wExit rfl ?_ | refine wRet rfl ?_ | refine wCondT rfl rfl ?_ | refine wCondF rfl rfl ?_ | refine wOps rfl ?_ | refine wDraw rfl rfl ?_ | refine opsV_call rfl rfl (rplace_v hL _ _ _ _ hs hp) ?_ | simp only [seval, push_cast, ↓reduceIte, ↓bP_some, ↓aP_true, reduceCtorEq, hj, q, hw]))
      refine qR_n rfl rfl fun i hi => ?_
      by_cases e : i = j
      · subst e; omega
      · exact hI i (by omega)
  · intro hI
    have hR := turned_yes hI
    by_cases q1 : 1 ≤ p.length
    · have q1' : (1 : Int) ≤ p.length := by omega
      (repeat' (first | refine wSeq rfl ?_ | refine wBlock rfl ?_ | refine wSkip rfl ?_ | refine wExit rfl ?_ | refine wRet rfl ?_ | refine wCondT rfl rfl ?_ | refine wCondF rfl rfl ?_ | refine wOps rfl ?_ | refine wDraw rfl rfl ?_ | simp only [seval, push_cast, ↓reduceIte, ↓bP_some, ↓aP_true, reduceCtorEq, q1']))
      rw [hR, show decide (1 ≤ p.length ∧ p.length ≤ 10) = decide ((p.length : Int) ≤ 10) from decide_eq_decide.2 (by omega)]
      exact FnQ.ret rfl rfl
    · have q1' : ¬ (1 : Int) ≤ p.length := by omega
      (repeat' (first | refine wSeq rfl ?_ | refine wBlock rfl ?_ | refine wSkip rfl ?_ | refine wExit rfl ?_ | refine wRet rfl ?_ | refine wCondT rfl rfl ?_ | refine wCondF rfl rfl ?_ | refine wOps rfl ?_ | refine wDraw rfl rfl ?_ | simp only [seval, push_cast, ↓reduceIte, ↓bP_some, ↓aP_true, reduceCtorEq, q1']))
      rw [hR, decide_eq_false (by omega)]
      exact FnQ.ret rfl rfl
theorem rrename_v (k : Int) (s u : Nat) (l p : List Int) (c d : Option Nat) (hs : s = 1 ∨ l = []) (hl : l.length ≤ 17592186043904) (hu : u = 1 ∨ p = []) (hp : p.length ≤ 17592186043904) : ∃ t c', (t = 1 ∨ (renameL k l p).1.2 = []) ∧ VFn L 24 [(.agg [.int .u8 k, tl mrow s (l) c]), tl mrow u p d] (.tup [(.agg [.int .u8 (renameL k l p).1.1, tl mrow t ((renameL k l p).1.2) c']), .int .i64 (renameL k l p).2]) := by
  have hl2 : l.length < 4611686018427387904 := by omega
  have hp2 : p.length < 4611686018427387904 := by omega
  cases ht : turnedL p with
  | false =>
    rw [show renameL k l p = ((0, []), 2) from if_pos ht]
    refine ⟨0, some 0, .inr rfl, ?_⟩
    refine VFn.start (F := T24.1) (by rw [hL]; rfl) rfl rfl rfl ?_
    (repeat' (first | refine wSeq rfl ?_ | refine wBlock rfl ?_ | refine wSkip rfl ?_ | refine wExit rfl ?_ | refine wRet rfl ?_ | refine wCondT rfl rfl ?_ | refine wCondF rfl rfl ?_ | refine wOps rfl ?_ | refine wDraw rfl rfl ?_ | refine opsV_call rfl rfl (rturned_v hL _ _ _ hu hp2) ?_ | simp only [seval, push_cast, ↓reduceIte, ↓bP_some, ↓aP_true, reduceCtorEq, ht]))
    exact FnQ.ret rfl rfl
  | true =>
    cases hf : fineL k l p.length with
    | false =>
      rw [show renameL k l p = ((0, []), 8) by unfold renameL; rw [if_neg (by rw [ht]; simp), if_pos hf]]
      refine ⟨0, some 0, .inr rfl, ?_⟩
      refine VFn.start (F := T24.1) (by rw [hL]; rfl) rfl rfl rfl ?_
      (repeat' (first | refine wSeq rfl ?_ | refine wBlock rfl ?_ | refine wSkip rfl ?_ | refine wExit rfl ?_ | refine wRet rfl ?_ | refine wCondT rfl rfl ?_ | refine wCondF rfl rfl ?_ | refine wOps rfl ?_ | refine wDraw rfl rfl ?_ | refine opsV_call rfl rfl (rturned_v hL _ _ _ hu hp2) ?_ | refine opsV_call rfl rfl (rfine_v hL _ _ _ _ _ hs hl2) ?_ | simp only [seval, push_cast, ↓reduceIte, ↓bP_some, ↓aP_true, reduceCtorEq, ht, hf]))
      exact FnQ.ret rfl rfl
    | true =>
      by_cases h1 : k = 1
      · subst h1
        rw [show renameL 1 l p = ((1, l.map (imL p)), 0) by unfold renameL; rw [if_neg (by rw [ht]; simp), if_neg (by rw [hf]; simp), if_pos rfl]]
        dsimp only
        obtain ⟨s', c', hs', hfz⟩ := frz_acc (f := mrow) closed_mrow (n := 1) (a := 3) (r := l.map (imL p)) (H := [some (Blk.arr 2 [[V.int IntKind.u8 1, tl mrow s l c]]), some (Blk.arr 2 [[V.int IntKind.u8 1, accV 3 1 (l.map (imL p))]]), some (Blk.arr 2 [[V.int IntKind.u8 1, accV 3 1 (l.map (imL p))]]), accB mrow 1 (l.map (imL p))]) (fz := [3]) (by decide) rfl rfl
        refine ⟨s', c', hs', ?_⟩
        refine VFn.start (F := T24.1) (by rw [hL]; rfl) rfl rfl rfl ?_
        (repeat' (first | refine wSeq rfl ?_ | refine wBlock rfl ?_ | refine wSkip rfl ?_ | refine wExit rfl ?_ | refine wRet rfl ?_ | refine wCondT rfl rfl ?_ | refine wCondF rfl rfl ?_ | refine wOps rfl ?_ | refine wDraw rfl rfl ?_ | refine opsV_call rfl rfl (rturned_v hL _ _ _ hu hp2) ?_ | refine opsV_call rfl rfl (rfine_v hL _ _ _ _ _ hs hl2) ?_ | simp only [seval, push_cast, ↓reduceIte, ↓bP_some, ↓aP_true, reduceCtorEq, ht, hf]))
        refine wPad [some 0, some 1, some 2, none] rfl rfl rfl ?_
        refine wCntH rfl 7 l.length (fun _ => []) (fun j => [some (Blk.arr 2 [[V.int IntKind.u8 1, tl mrow s l c]]), some (Blk.arr 2 [[V.int IntKind.u8 0, V.lst 0 [] (some 0)]]), some (Blk.arr 2 [[V.int IntKind.u8 1, accV 3 1 ((l.take j).map (imL p))]]), accB mrow 1 ((l.take j).map (imL p))]) (fun j => True) rfl (rfl) trivial ?_ ?_
        · intro j hj _
          obtain ⟨x, hx, _⟩ := get_of hj
          obtain rfl := size_of hs hj
          have hrg : 0 ≤ x ∧ x < p.length := Decidable.byContradiction fun h => by rw [fine_out (by decide) hx h] at hf; cases hf
          obtain ⟨n, rfl⟩ : ∃ n : Nat, x = n := ⟨x.toNat, by omega⟩
          have hn : n < p.length := by omega
          obtain ⟨y, hy, _⟩ := get_of hn
          obtain rfl := size_of hu hn
          have hw := wrap_succ (show j < 9223372036854775807 by omega)
          have hst : (l.take (j + 1)).map (imL p) = (l.take j).map (imL p) ++ [y] := by rw [take_snoc hx, List.map_append]; simp [imL, hy]
          have hlen : ((l.take j).map (imL p)).length ≤ j := by simp; omega
          rw [hst]
          generalize (l.take j).map (imL p) = r at *
          have hroom : (r.length + 1) * 8 ≤ 140737488355328 := by omega
          have hV : accV 3 1 r = .lst 0 [] (some 0) ∧ accB mrow 1 r = none ∧ r = [] ∨ accV 3 1 r = .ref 3 1 0 r.length none ∧ accB mrow 1 r = some (.arr 1 (r.map mrow)) ∧ r ≠ [] := by
            by_cases hr : r = []
            · subst hr; exact .inl ⟨rfl, rfl, rfl⟩
            · exact .inr ⟨accV_cons hr, accB_cons hr, hr⟩
          rcases hV with ⟨hV, hB, rfl⟩ | ⟨hV, hB, hr⟩
          · (repeat' (first | refine wSeq rfl ?_ | refine wBlock rfl ?_ | refine wSkip rfl ?_ | refine wExit rfl ?_ | refine wRet rfl ?_ | refine wCondT rfl rfl ?_ | refine wCondF rfl rfl ?_ | refine wOps rfl ?_ | refine wDraw rfl rfl ?_ | simp only [seval, push_cast, ↓reduceIte, ↓bP_some, ↓aP_true, reduceCtorEq, hj, hV, hB, hw, hx, hy, iaQ_tl hj, iaQ_tl hn]))
            exact qR_s [some 0, some 1, some 2, some 5] [] rfl rfl rfl trivial
          · (repeat' (first | refine wSeq rfl ?_ | refine wBlock rfl ?_ | refine wSkip rfl ?_ | refine wExit rfl ?_ | refine wRet rfl ?_ | refine wCondT rfl rfl ?_ | refine wCondF rfl rfl ?_ | refine wOps rfl ?_ | refine wDraw rfl rfl ?_ | simp only [seval, push_cast, ↓reduceIte, ↓bP_some, ↓aP_true, reduceCtorEq, hj, hV, hB, hw, hroom, hx, hy, iaQ_tl hj, iaQ_tl hn]))
            exact qR_s [some 0, some 1, some 2, some 5] [] rfl rfl (by (simp only [accV_snoc, accB_snoc, accV_nil, accB_nil]; (repeat (first | exact sh_n | refine sh_c (sh_b closed_mrow rfl) ?_ | refine sh_c rfl ?_)))) trivial
        · intro _
          rw [take_all]
          (repeat' (first | refine wSeq rfl ?_ | refine wBlock rfl ?_ | refine wSkip rfl ?_ | refine wExit rfl ?_ | refine wRet rfl ?_ | refine wCondT rfl rfl ?_ | refine wCondF rfl rfl ?_ | refine wOps rfl ?_ | refine wDraw rfl rfl ?_ | simp only [seval, push_cast, ↓reduceIte, ↓bP_some, ↓aP_true, reduceCtorEq]))
          refine FnQ.frz [3] rfl ?_
          show V.tup [V.agg [V.int IntKind.u8 1, V.ren _ (accV 3 1 (l.map (imL p)))], _] = _
          rw [hfz]; rfl
      · by_cases h2 : k = 2
        · subst h2
          rw [show renameL 2 l p = ((2, ((List.range p.length).map Int.ofNat).filter fun c => decide (placeL p c ∈ l)), 0) by unfold renameL; rw [if_neg (by rw [ht]; simp), if_neg (by rw [hf]; simp), if_neg (by decide), if_pos rfl]]
          dsimp only
          obtain ⟨s', c', hs', hfz⟩ := frz_acc (f := mrow) closed_mrow (n := 1) (a := 3) (r := ((List.range p.length).map Int.ofNat).filter fun c => decide (placeL p c ∈ l)) (H := [some (Blk.arr 2 [[V.int IntKind.u8 2, tl mrow s l c]]), some (Blk.arr 2 [[V.int IntKind.u8 2, accV 3 1 (((List.range p.length).map Int.ofNat).filter fun c => decide (placeL p c ∈ l))]]), some (Blk.arr 2 [[V.int IntKind.u8 2, accV 3 1 (((List.range p.length).map Int.ofNat).filter fun c => decide (placeL p c ∈ l))]]), accB mrow 1 (((List.range p.length).map Int.ofNat).filter fun c => decide (placeL p c ∈ l))]) (fz := [3]) (by decide) rfl rfl
          refine ⟨s', c', hs', ?_⟩
          refine VFn.start (F := T24.1) (by rw [hL]; rfl) rfl rfl rfl ?_
          (repeat' (first | refine wSeq rfl ?_ | refine wBlock rfl ?_ | refine wSkip rfl ?_ | refine wExit rfl ?_ | refine wRet rfl ?_ | refine wCondT rfl rfl ?_ | refine wCondF rfl rfl ?_ | refine wOps rfl ?_ | refine wDraw rfl rfl ?_ | refine opsV_call rfl rfl (rturned_v hL _ _ _ hu hp2) ?_ | refine opsV_call rfl rfl (rfine_v hL _ _ _ _ _ hs hl2) ?_ | simp only [seval, push_cast, ↓reduceIte, ↓bP_some, ↓aP_true, reduceCtorEq, ht, hf, h1]))
          refine wPad [some 0, some 1, some 2, none] rfl rfl rfl ?_
          refine wCntH rfl 8 p.length (fun _ => []) (fun j => [some (Blk.arr 2 [[V.int IntKind.u8 2, tl mrow s l c]]), some (Blk.arr 2 [[V.int IntKind.u8 0, V.lst 0 [] (some 0)]]), some (Blk.arr 2 [[V.int IntKind.u8 2, accV 3 1 (((List.range j).map Int.ofNat).filter fun c => decide (placeL p c ∈ l))]]), accB mrow 1 (((List.range j).map Int.ofNat).filter fun c => decide (placeL p c ∈ l))]) (fun j => True) rfl (rfl) trivial ?_ ?_
          · intro j hj _
            have hw := wrap_succ (show j < 9223372036854775807 by omega)
            have hst : (((List.range (j + 1)).map Int.ofNat).filter fun c => decide (placeL p c ∈ l)) = (((List.range j).map Int.ofNat).filter fun c => decide (placeL p c ∈ l)) ++ (if placeL p (j : Int) ∈ l then [(j : Int)] else []) := by
              rw [List.range_succ, List.map_append, List.filter_append]
              congr 1
              show ([(j : Int)].filter fun c => decide (placeL p c ∈ l)) = _
              by_cases hq : placeL p (j : Int) ∈ l <;> simp [hq]
            have hlen : (((List.range j).map Int.ofNat).filter fun c => decide (placeL p c ∈ l)).length ≤ j := Nat.le_trans (List.length_filter_le _ _) (by simp)
            rw [hst]
            generalize (((List.range j).map Int.ofNat).filter fun c => decide (placeL p c ∈ l)) = r at *
            have hroom : (r.length + 1) * 8 ≤ 140737488355328 := by omega
            have hV : accV 3 1 r = .lst 0 [] (some 0) ∧ accB mrow 1 r = none ∧ r = [] ∨ accV 3 1 r = .ref 3 1 0 r.length none ∧ accB mrow 1 r = some (.arr 1 (r.map mrow)) ∧ r ≠ [] := by
              by_cases hr : r = []
              · subst hr; exact .inl ⟨rfl, rfl, rfl⟩
              · exact .inr ⟨accV_cons hr, accB_cons hr, hr⟩
            by_cases hq : placeL p (j : Int) ∈ l
            · have hq' := (place_nonneg _ _).2 hq
              rw [if_pos hq]
              rcases hV with ⟨hV, hB, rfl⟩ | ⟨hV, hB, hr⟩
              · (repeat' (first | refine wSeq rfl ?_ | refine wBlock rfl ?_ | refine wSkip rfl ?_ | refine wExit rfl ?_ | refine wRet rfl ?_ | refine wCondT rfl rfl ?_ | refine wCondF rfl rfl ?_ | refine wOps rfl ?_ | refine wDraw rfl rfl ?_ | refine opsV_call rfl rfl (rplace_v hL _ _ _ _ hu hp2) ?_ | refine opsV_call rfl rfl (rplace_v hL _ _ _ _ hs hl2) ?_ | simp only [seval, push_cast, ↓reduceIte, ↓bP_some, ↓aP_true, reduceCtorEq, hj, hV, hB, hw, hq']))
                exact qR_s [some 0, some 1, some 2, some 5] [] rfl rfl rfl trivial
              · (repeat' (first | refine wSeq rfl ?_ | refine wBlock rfl ?_ | refine wSkip rfl ?_ | refine wExit rfl ?_ | refine wRet rfl ?_ | refine wCondT rfl rfl ?_ | refine wCondF rfl rfl ?_ | refine wOps rfl ?_ | refine wDraw rfl rfl ?_ | refine opsV_call rfl rfl (rplace_v hL _ _ _ _ hu hp2) ?_ | refine opsV_call rfl rfl (rplace_v hL _ _ _ _ hs hl2) ?_ | simp only [seval, push_cast, ↓reduceIte, ↓bP_some, ↓aP_true, reduceCtorEq, hj, hV, hB, hw, hroom, hq']))
                exact qR_s [some 0, some 1, some 2, some 5] [] rfl rfl (by (simp only [accV_snoc, accB_snoc, accV_nil, accB_nil]; (repeat (first | exact sh_n | refine sh_c (sh_b closed_mrow rfl) ?_ | refine sh_c rfl ?_)))) trivial
            · have hq' : ¬ 0 ≤ placeL l (placeL p (j : Int)) := fun h => hq ((place_nonneg _ _).1 h)
              rw [if_neg hq, List.append_nil]
              (repeat' (first | refine wSeq rfl ?_ | refine wBlock rfl ?_ | refine wSkip rfl ?_ | refine wExit rfl ?_ | refine wRet rfl ?_ | refine wCondT rfl rfl ?_ | refine wCondF rfl rfl ?_ | refine wOps rfl ?_ | refine wDraw rfl rfl ?_ | refine opsV_call rfl rfl (rplace_v hL _ _ _ _ hu hp2) ?_ | refine opsV_call rfl rfl (rplace_v hL _ _ _ _ hs hl2) ?_ | simp only [seval, push_cast, ↓reduceIte, ↓bP_some, ↓aP_true, reduceCtorEq, hj, hw, hq']))
              exact qR_n rfl rfl trivial
          · intro _
            skip
            (repeat' (first | refine wSeq rfl ?_ | refine wBlock rfl ?_ | refine wSkip rfl ?_ | refine wExit rfl ?_ | refine wRet rfl ?_ | refine wCondT rfl rfl ?_ | refine wCondF rfl rfl ?_ | refine wOps rfl ?_ | refine wDraw rfl rfl ?_ | simp only [seval, push_cast, ↓reduceIte, ↓bP_some, ↓aP_true, reduceCtorEq]))
            refine FnQ.frz [3] rfl ?_
            show V.tup [V.agg [V.int IntKind.u8 2, V.ren _ (accV 3 1 (((List.range p.length).map Int.ofNat).filter fun c => decide (placeL p c ∈ l)))], _] = _
            rw [hfz]; rfl
        · have h3 : k = 3 := Decidable.byContradiction fun h => by rw [fine_else h1 h2 h] at hf; cases hf
          subst h3
          rw [show renameL 3 l p = ((3, (List.range p.length).map fun (c : Nat) => l[(placeL p (c : Int)).toNat]?.getD 0), 0) by unfold renameL; rw [if_neg (by rw [ht]; simp), if_neg (by rw [hf]; simp), if_neg (by decide), if_neg (by decide)]]
          dsimp only
          obtain ⟨s', c', hs', hfz⟩ := frz_acc (f := mrow) closed_mrow (n := 1) (a := 3) (r := (List.range p.length).map fun (c : Nat) => l[(placeL p (c : Int)).toNat]?.getD 0) (H := [some (Blk.arr 2 [[V.int IntKind.u8 3, tl mrow s l c]]), some (Blk.arr 2 [[V.int IntKind.u8 3, accV 3 1 ((List.range p.length).map fun (c : Nat) => l[(placeL p (c : Int)).toNat]?.getD 0)]]), some (Blk.arr 2 [[V.int IntKind.u8 3, accV 3 1 ((List.range p.length).map fun (c : Nat) => l[(placeL p (c : Int)).toNat]?.getD 0)]]), accB mrow 1 ((List.range p.length).map fun (c : Nat) => l[(placeL p (c : Int)).toNat]?.getD 0)]) (fz := [3]) (by decide) rfl rfl
          refine ⟨s', c', hs', ?_⟩
          refine VFn.start (F := T24.1) (by rw [hL]; rfl) rfl rfl rfl ?_
          (repeat' (first | refine wSeq rfl ?_ | refine wBlock rfl ?_ | refine wSkip rfl ?_ | refine wExit rfl ?_ | refine wRet rfl ?_ | refine wCondT rfl rfl ?_ | refine wCondF rfl rfl ?_ | refine wOps rfl ?_ | refine wDraw rfl rfl ?_ | refine opsV_call rfl rfl (rturned_v hL _ _ _ hu hp2) ?_ | refine opsV_call rfl rfl (rfine_v hL _ _ _ _ _ hs hl2) ?_ | simp only [seval, push_cast, ↓reduceIte, ↓bP_some, ↓aP_true, reduceCtorEq, ht, hf, h1, h2]))
          refine wPad [some 0, some 1, some 2, none] rfl rfl rfl ?_
          refine wCntH rfl 10 p.length (fun _ => []) (fun j => [some (Blk.arr 2 [[V.int IntKind.u8 3, tl mrow s l c]]), some (Blk.arr 2 [[V.int IntKind.u8 0, V.lst 0 [] (some 0)]]), some (Blk.arr 2 [[V.int IntKind.u8 3, accV 3 1 ((List.range j).map fun (c : Nat) => l[(placeL p (c : Int)).toNat]?.getD 0)]]), accB mrow 1 ((List.range j).map fun (c : Nat) => l[(placeL p (c : Int)).toNat]?.getD 0)]) (fun j => True) rfl (rfl) trivial ?_ ?_
          · intro j hj _
            have hw := wrap_succ (show j < 9223372036854775807 by omega)
            have hll : l.length = p.length := by
              unfold fineL at hf
              rw [if_pos rfl, Bool.and_eq_true] at hf
              have := of_decide_eq_true hf.2
              omega
            have hin : (j : Int) ∈ p := by
              unfold turnedL at ht
              rw [Bool.and_eq_true] at ht
              exact of_decide_eq_true (List.all_eq_true.1 ht.2 j (by simpa using hj))
            have hpl := (place_nonneg _ _).2 hin
            have hpt := place_lt p (j : Int)
            have hst : ((List.range (j + 1)).map fun (c : Nat) => l[(placeL p (c : Int)).toNat]?.getD 0) = ((List.range j).map fun (c : Nat) => l[(placeL p (c : Int)).toNat]?.getD 0) ++ [l[(placeL p (j : Int)).toNat]?.getD 0] := by rw [List.range_succ, List.map_append]; rfl
            have hlen : ((List.range j).map fun (c : Nat) => l[(placeL p (c : Int)).toNat]?.getD 0).length ≤ j := by simp
            rw [hst]
            generalize ((List.range j).map fun (c : Nat) => l[(placeL p (c : Int)).toNat]?.getD 0) = r at *
            have hroom : (r.length + 1) * 8 ≤ 140737488355328 := by omega
            have hpv : VFn L 41 [tl mrow u p d, .int .i64 (j : Int)] (.int .i64 (((placeL p (j : Int)).toNat : Nat) : Int)) := by
              rw [Int.toNat_of_nonneg hpl]; exact rplace_v hL _ _ _ _ hu hp2
            have hn : (placeL p (j : Int)).toNat < l.length := by omega
            generalize (placeL p (j : Int)).toNat = n at *
            obtain ⟨y, hy, _⟩ := get_of hn
            obtain rfl := size_of hs hn
            rw [hy, Option.getD_some]
            have hV : accV 3 1 r = .lst 0 [] (some 0) ∧ accB mrow 1 r = none ∧ r = [] ∨ accV 3 1 r = .ref 3 1 0 r.length none ∧ accB mrow 1 r = some (.arr 1 (r.map mrow)) ∧ r ≠ [] := by
              by_cases hr : r = []
              · subst hr; exact .inl ⟨rfl, rfl, rfl⟩
              · exact .inr ⟨accV_cons hr, accB_cons hr, hr⟩
            rcases hV with ⟨hV, hB, rfl⟩ | ⟨hV, hB, hr⟩
            · (repeat' (first | refine wSeq rfl ?_ | refine wBlock rfl ?_ | refine wSkip rfl ?_ | refine wExit rfl ?_ | refine wRet rfl ?_ | refine wCondT rfl rfl ?_ | refine wCondF rfl rfl ?_ | refine wOps rfl ?_ | refine wDraw rfl rfl ?_ | refine opsV_call rfl rfl (hpv) ?_ | simp only [seval, push_cast, ↓reduceIte, ↓bP_some, ↓aP_true, reduceCtorEq, hj, hV, hB, hw, hy, iaQ_tl hn]))
              exact qR_s [some 0, some 1, some 2, some 5] [] rfl rfl rfl trivial
            · (repeat' (first | refine wSeq rfl ?_ | refine wBlock rfl ?_ | refine wSkip rfl ?_ | refine wExit rfl ?_ | refine wRet rfl ?_ | refine wCondT rfl rfl ?_ | refine wCondF rfl rfl ?_ | refine wOps rfl ?_ | refine wDraw rfl rfl ?_ | refine opsV_call rfl rfl (hpv) ?_ | simp only [seval, push_cast, ↓reduceIte, ↓bP_some, ↓aP_true, reduceCtorEq, hj, hV, hB, hw, hroom, hy, iaQ_tl hn]))
              exact qR_s [some 0, some 1, some 2, some 5] [] rfl rfl (by (simp only [accV_snoc, accB_snoc, accV_nil, accB_nil]; (repeat (first | exact sh_n | refine sh_c (sh_b closed_mrow rfl) ?_ | refine sh_c rfl ?_)))) trivial
          · intro _
            skip
            (repeat' (first | refine wSeq rfl ?_ | refine wBlock rfl ?_ | refine wSkip rfl ?_ | refine wExit rfl ?_ | refine wRet rfl ?_ | refine wCondT rfl rfl ?_ | refine wCondF rfl rfl ?_ | refine wOps rfl ?_ | refine wDraw rfl rfl ?_ | simp only [seval, push_cast, ↓reduceIte, ↓bP_some, ↓aP_true, reduceCtorEq]))
            refine FnQ.frz [3] rfl ?_
            show V.tup [V.agg [V.int IntKind.u8 3, V.ren _ (accV 3 1 ((List.range p.length).map fun (c : Nat) => l[(placeL p (c : Int)).toNat]?.getD 0))], _] = _
            rw [hfz]; rfl
end Go.Proofs.YtnhfbabenifbkaaGreatDoor
set_option maxRecDepth 100000
set_option maxHeartbeats 4000000
set_option linter.unusedVariables false
set_option linter.unusedSimpArgs false
namespace Go.Proofs.YtnhfbabenifbkaaGreatDoor
theorem brow_set {r : List Bool} {i : Nat} {x : Bool} : (r.map brow).set i [.bool x] = (r.set i x).map brow := by rw [List.map_set]; rfl
theorem row_brow {r : List Bool} {i : Nat} : (r.map brow)[i]? = (r[i]?).map brow := List.getElem?_map
theorem frz_src {α : Type} {f : α → List V} (hf : ∀ x, (f x).all V.closed = true) {H : Heap} {src : List (Option Nat)} {fz : List Nat} {a n : Nat} {l : List α} {c : Option Nat} (hp : posIn src a 0 = none) (hn : 0 < n) (ha : fz.contains a = true) (h : H.get a = some (.arr n (l.map f))) : V.ren (sgOf H src fz) (.ref a n 0 l.length c) = tl f n l c := by
  have e : sgOf H src fz a = .frz n (l.map f) := by
    unfold sgOf
    simp only [hp, ha, h, closeds_tl hf, cond_true]
  rw [V.ren, e]
  simp only [true_and, hn, Nat.zero_add, List.length_map, Nat.le_refl, and_self, if_true, List.drop_zero]
  rw [List.take_of_length_le (by simp)]; rfl
theorem closed_brow (x : Bool) : (brow x).all V.closed = true := rfl
theorem same_self (k : Int) (l : List Int) : sameL k l k l = true := by simp [sameL]
theorem dec_self {α : Type} [DecidableEq α] (a : α) : (a = a) = True := by simp
variable {L : Lib} (hL : L.T = tab.get)
include hL
theorem right_v (k cands : Int) (s : Nat) (l : List Int) (c : Option Nat) (hs : s = 1 ∨ l = []) (hl : l.length < 4611686018427387904) : VFn L 30 [(.agg [.int .u8 k, tl mrow s (l) c]), .int .i64 cands] (.bool (decide (checkL k l cands = 0))) := by
  refine VFn.start (F := T30.1) (by rw [hL]; rfl) rfl rfl rfl ?_
  (repeat' (first | refine wSeq rfl ?_ | refine wBlock rfl ?_ | refine wSkip rfl ?_ | refine wExit rfl ?_ | refine wRet rfl ?_ | refine wCondT rfl rfl ?_ | refine wCondF rfl rfl ?_ | refine wOps rfl ?_ | refine wDraw rfl rfl ?_ | refine opsV_call rfl rfl (rcheck_v hL _ _ _ _ _ hs hl) ?_ | simp only [seval, push_cast, ↓reduceIte, ↓bP_some, ↓aP_true, reduceCtorEq]))
  exact FnQ.ret rfl rfl
end Go.Proofs.YtnhfbabenifbkaaGreatDoor
set_option linter.unusedVariables false
set_option linter.unusedSimpArgs false
namespace Go.Proofs.YtnhfbabenifbkaaGreatDoor
theorem rem_i {x n : Int} (h : n ≠ 0) : binV .rem (.int .i64 x) (.int .i64 n) = some (.int .i64 (x.tmod n)) := by
  simp [binV, binInt, h]
theorem rem_range {x : Int} {n : Nat} (hn : 1 ≤ n ∧ n ≤ 10) : ∃ m : Nat, m < n ∧ (x.tmod n + n).tmod n = (m : Int) ∧ IntKind.i64.wrap (x.tmod n + n) = x.tmod n + n := by
  have h1 := Int.tmod_lt_of_pos x (show (0 : Int) < n by omega)
  have h2 := Int.lt_tmod_of_pos x (show (0 : Int) < n by omega)
  have h3 := Int.tmod_lt_of_pos (x.tmod n + n) (show (0 : Int) < n by omega)
  have h4 := Int.tmod_nonneg (b := (n : Int)) (a := x.tmod n + n) (by omega)
  exact ⟨((x.tmod n + n).tmod n).toNat, by omega, by omega, wrap_i64 (by omega) (by omega)⟩
end Go.Proofs.YtnhfbabenifbkaaGreatDoor
set_option maxRecDepth 100000
set_option maxHeartbeats 4000000
set_option linter.unusedVariables false
set_option linter.unusedSimpArgs false
namespace Go.Proofs.YtnhfbabenifbkaaGreatDoor
/-- A list filled in the order of p, as far as j. -/
def fillTo {α : Type} (g : Nat → α) (z : α) (p : List Int) (j : Nat) : List α := (List.range p.length).map fun (c : Nat) => if placeL p (c : Int) < (j : Int) then g (placeL p (c : Int)).toNat else z
section
variable {α : Type} {g : Nat → α} {z : α} {p : List Int} {j m c : Nat}
theorem fillTo_len : (fillTo g z p j).length = p.length := by simp [fillTo]
theorem fillTo_get (hc : c < p.length) : (fillTo g z p j)[c]? = some (if placeL p (c : Int) < (j : Int) then g (placeL p (c : Int)).toNat else z) := by simp [fillTo, hc]
theorem fillTo_zero (ht : turnedL p = true) : fillTo g z p 0 = List.replicate p.length z := by
  apply List.ext_getElem?
  intro c
  by_cases hc : c < p.length
  · have := (place_nonneg p (c : Int)).2 (turned_mem ht hc)
    rw [fillTo_get hc, List.getElem?_replicate, if_pos hc, if_neg (by omega)]
  · rw [List.getElem?_eq_none (by rw [fillTo_len]; omega), List.getElem?_eq_none (by simp; omega)]
theorem fillTo_step (ht : turnedL p = true) (hm : p[j]? = some (m : Int)) (hmp : m < p.length) : (fillTo g z p j).set m (g j) = fillTo g z p (j + 1) := by
  have hpl := place_nodup (turned_nodup ht) hm
  apply List.ext_getElem?
  intro c
  rw [List.getElem?_set, fillTo_len]
  by_cases e : m = c
  · subst e
    rw [if_pos rfl, if_pos hmp, fillTo_get hmp, hpl, if_pos (by omega)]
    rfl
  · rw [if_neg e]
    by_cases hc : c < p.length
    · rw [fillTo_get hc, fillTo_get hc]
      have hmem := turned_mem ht hc
      have h0 := (place_nonneg p (c : Int)).2 hmem
      have hg := place_get p (c : Int) hmem
      have hne : placeL p (c : Int) ≠ (j : Int) := fun h => by
        rw [h] at hg
        have hg : p[j]? = some (c : Int) := hg
        rw [hm] at hg
        have := Option.some.inj hg
        omega
      by_cases h : placeL p (c : Int) < (j : Int)
      · rw [if_pos h, if_pos (by omega)]
      · rw [if_neg h, if_neg (by omega)]
    · rw [List.getElem?_eq_none (by rw [fillTo_len]; omega), List.getElem?_eq_none (by rw [fillTo_len]; omega)]
theorem fillTo_all : fillTo g z p p.length = (List.range p.length).map fun (c : Nat) => g (placeL p (c : Int)).toNat := by
  unfold fillTo
  exact List.map_congr_left fun c hc => if_pos (place_lt p c)
end
theorem fill_back {p : List Int} (ht : turnedL p = true) : fillTo (fun i => (i : Int)) 0 p p.length = backL p := by
  rw [fillTo_all]
  refine List.map_congr_left fun c hc => ?_
  have := (place_nonneg p (c : Int)).2 (turned_mem ht (List.mem_range.1 hc))
  omega
theorem fill_moved {p : List Int} {left : List Bool} : fillTo (fun i => left[i]?.getD false) false p p.length = movedL p left := fillTo_all
variable {L : Lib} (hL : L.T = tab.get)
include hL
theorem renames_v (hw : VFn L 10 [] (.bool true)) (k x y : Int) (l p : List Int) (left : List Bool) (hl : l.length ≤ 17592186043904) (hp : p.length ≤ 17592186043904) (h2 : left.length ≤ 140737488351232) : VFn L 6 [(.agg [.int .u8 k, tl mrow 1 (l) none]), tl mrow 1 p none, tl brow 1 left none, .int .i64 x, .int .i64 y] (.bool true) := by
  have hl2 : l.length < 4611686018427387904 := by omega
  have hp2 : p.length < 4611686018427387904 := by omega
  refine VFn.start (F := T6.1) (by rw [hL]; rfl) rfl rfl rfl ?_
  cases ht : turnedL p with
  | false =>
    (repeat' (first | refine wSeq rfl ?_ | refine wBlock rfl ?_ | refine wSkip rfl ?_ | refine wExit rfl ?_ | refine wRet rfl ?_ | refine wCondT rfl rfl ?_ | refine wCondF rfl rfl ?_ | refine wOps rfl ?_ | refine wDraw rfl rfl ?_ | refine opsV_call rfl rfl (rturned_v hL _ _ _ (.inl rfl) hp2) ?_ | refine opsV_call rfl rfl (hw) ?_ | simp only [seval, push_cast, ↓reduceIte, ↓bP_some, ↓aP_true, reduceCtorEq, ht]))
    exact FnQ.ret rfl rfl
  | true =>
    cases hr : decide (checkL k l p.length = 0) with
    | false =>
      (repeat' (first | refine wSeq rfl ?_ | refine wBlock rfl ?_ | refine wSkip rfl ?_ | refine wExit rfl ?_ | refine wRet rfl ?_ | refine wCondT rfl rfl ?_ | refine wCondF rfl rfl ?_ | refine wOps rfl ?_ | refine wDraw rfl rfl ?_ | refine opsV_call rfl rfl (rturned_v hL _ _ _ (.inl rfl) hp2) ?_ | refine opsV_call rfl rfl (right_v hL _ _ _ _ _ (.inl rfl) hl2) ?_ | refine opsV_call rfl rfl (hw) ?_ | simp only [seval, push_cast, ↓reduceIte, ↓bP_some, ↓aP_true, reduceCtorEq, ht, hr]))
      exact FnQ.ret rfl rfl
    | true =>
      have hf := (check_zero.1 (of_decide_eq_true hr)).2
      have hn := turned_len ht
      have n1 : p.length * 8 ≤ 140737488355328 := by omega
      have n2 : p.length < 9223372036854775808 := by omega
      have n3 : p.length * 1 ≤ 140737488355328 := by omega
      (repeat' (first | refine wSeq rfl ?_ | refine wBlock rfl ?_ | refine wSkip rfl ?_ | refine wExit rfl ?_ | refine wRet rfl ?_ | refine wCondT rfl rfl ?_ | refine wCondF rfl rfl ?_ | refine wOps rfl ?_ | refine wDraw rfl rfl ?_ | refine opsV_call rfl rfl (rturned_v hL _ _ _ (.inl rfl) hp2) ?_ | refine opsV_call rfl rfl (right_v hL _ _ _ _ _ (.inl rfl) hl2) ?_ | refine opsV_call rfl rfl (hw) ?_ | simp only [seval, push_cast, ↓reduceIte, ↓bP_some, ↓aP_true, reduceCtorEq, ht, hr, n1, n2, n3]))
      refine wCntH rfl 14 p.length (fun _ => []) (fun j => [some (Blk.arr 2 [[V.int IntKind.u8 k, tl mrow 1 l none]]), some (Blk.arr 1 ((fillTo (fun i => (i : Int)) 0 p j).map mrow)), some (Blk.arr 1 ((fillTo (fun i => left[i]?.getD false) false p j).map brow))]) (fun _ => True) rfl (by rw [fillTo_zero ht, fillTo_zero ht, List.map_replicate, List.map_replicate]; rfl) trivial ?_ ?_
      · intro j hj _
        obtain ⟨a, ha, hm⟩ := get_of hj
        have har := turned_range ht hm
        obtain ⟨m, rfl⟩ : ∃ m : Nat, a = m := ⟨a.toNat, by omega⟩
        have hmp : m < p.length := by omega
        have hw' := wrap_succ (show j < 9223372036854775807 by omega)
        have z1 := fillTo_get (g := fun i => (i : Int)) (z := 0) (j := j) hmp
        have z2 := fillTo_get (g := fun i => left[i]?.getD false) (z := false) (j := j) hmp
        have s1 := fillTo_step (g := fun i => (i : Int)) (z := 0) ht ha hmp
        have s2 := fillTo_step (g := fun i => left[i]?.getD false) (z := false) ht ha hmp
        by_cases q : j < left.length
        · obtain ⟨b, hb, _⟩ := get_of q
          rw [hb, Option.getD_some] at s2
          cases b with
          | true =>
            (repeat' (first | refine wSeq rfl ?_ | refine wBlock rfl ?_ | refine wSkip rfl ?_ | refine wExit rfl ?_ | refine wRet rfl ?_ | refine wCondT rfl rfl ?_ | refine wCondF rfl rfl ?_ | refine wOps rfl ?_ | refine wDraw rfl rfl ?_ | simp only [seval, push_cast, ↓reduceIte, ↓bP_some, ↓aP_true, reduceCtorEq, hj, ha, iaQ_tl hj, hmp, z1, z2, mrow_set, brow_set, row_brow, s1, s2, q, hb, iaQ_tl q, hw']))
            exact qR_n rfl rfl trivial
          | false =>
            (repeat' (first | refine wSeq rfl ?_ | refine wBlock rfl ?_ | refine wSkip rfl ?_ | refine wExit rfl ?_ | refine wRet rfl ?_ | refine wCondT rfl rfl ?_ | refine wCondF rfl rfl ?_ | refine wOps rfl ?_ | refine wDraw rfl rfl ?_ | simp only [seval, push_cast, ↓reduceIte, ↓bP_some, ↓aP_true, reduceCtorEq, hj, ha, iaQ_tl hj, hmp, z1, z2, mrow_set, brow_set, row_brow, s1, s2, q, hb, iaQ_tl q, hw']))
            exact qR_n rfl rfl trivial
        · rw [List.getElem?_eq_none (by omega)] at s2
          have s2' : (fillTo (fun i => left[i]?.getD false) false p j).set m false = fillTo (fun i => left[i]?.getD false) false p (j + 1) := s2
          (repeat' (first | refine wSeq rfl ?_ | refine wBlock rfl ?_ | refine wSkip rfl ?_ | refine wExit rfl ?_ | refine wRet rfl ?_ | refine wCondT rfl rfl ?_ | refine wCondF rfl rfl ?_ | refine wOps rfl ?_ | refine wDraw rfl rfl ?_ | simp only [seval, push_cast, ↓reduceIte, ↓bP_some, ↓aP_true, reduceCtorEq, hj, ha, iaQ_tl hj, hmp, z1, z2, mrow_set, brow_set, row_brow, s1, s2', q, hw']))
          exact qR_n rfl rfl trivial
      · intro _
        rw [fill_back ht, fill_moved]
        (repeat' (first | refine wSeq rfl ?_ | refine wBlock rfl ?_ | refine wSkip rfl ?_ | refine wExit rfl ?_ | refine wRet rfl ?_ | refine wCondT rfl rfl ?_ | refine wCondF rfl rfl ?_ | refine wOpsP rfl ?_ | refine wDraw rfl rfl ?_ | simp only [seval, push_cast, ↓reduceIte, ↓bP_some, ↓aP_true, reduceCtorEq]))
        refine opsP_any rfl ((rename_v hL k 1 1 l p none none ht hf (.inl rfl) hl (.inl rfl) hp2).at _) ?_
        rintro r h' ⟨rfl, rfl⟩
        simp only [seval, push_cast, ↓reduceIte, ↓bP_some, ↓aP_true, reduceCtorEq]
        have ml : (movedL p left).length = p.length := by simp [movedL]
        have f1 := fun H src fz h1 h2 h3 => frz_src (H := H) (src := src) (fz := fz) (a := 1) (l := backL p) (c := some p.length) closed_mrow h1 (show 0 < 1 by decide) h2 h3
        have f2 := fun H src fz h1 h2 h3 => frz_src (H := H) (src := src) (fz := fz) (a := 2) (l := movedL p left) (c := some p.length) closed_brow h1 (show 0 < 1 by decide) h2 h3
        rw [back_len] at f1
        rw [ml] at f2
        refine wShift [some 0, some 3] [1, 2] (E1 := [(1, tl mrow 1 p none), (2, tl brow 1 left none), (3, V.int IntKind.i64 x), (4, V.int IntKind.i64 y), (5, V.ptr 0 2 0 0), (11, V.int IntKind.i64 p.length), (12, tl mrow 1 (backL p) (some p.length)), (13, tl brow 1 (movedL p left) (some p.length)), (15, V.ptr 1 2 0 0), (16, V.int IntKind.i64 0)]) (H1 := [some (Blk.arr 2 [[V.int IntKind.u8 k, tl mrow 1 l none]]), some (Blk.arr 2 [[V.int IntKind.u8 k, tl mrow 1 (renameL k l p).1.2 (some l.length)]])]) rfl (congr (congrArg (fun v w => [(1, tl mrow 1 p none), (2, tl brow 1 left none), (3, V.int IntKind.i64 x), (4, V.int IntKind.i64 y), (5, V.ptr 0 2 0 0), (11, V.int IntKind.i64 p.length), (12, v), (13, w), (15, V.ptr 1 2 0 0), (16, V.int IntKind.i64 0)]) (f1 _ _ _ rfl rfl rfl)) (f2 _ _ _ rfl rfl rfl)) rfl ?_
        have hlen := rename_len ht hf
        have hf1 := rename_fine ht hf
        have hk1 : checkL k (renameL k l p).1.2 p.length = 0 := check_zero.2 ⟨by omega, hf1⟩
        have hv := rename_v hL k 1 1 (renameL k l p).1.2 (backL p) (some l.length) (some p.length) (back_turned ht) (by rw [back_len]; exact hf1) (.inl rfl) (by omega) (.inl rfl) (by rw [back_len]; omega)
        rw [rename_back ht hf] at hv
        have hfst := rename_first ht hf
        have hpre := fun a b ha hb => rename_prefers (x := a) (y := b) ht hf ha hb
        have hkeep := rename_keep (left := left) ht hf
        have hl3 : (renameL k l p).1.2.length < 4611686018427387904 := by omega
        generalize (renameL k l p).1.2 = l' at hlen hf1 hk1 hv hfst hpre hkeep hl3 ⊢
        (repeat' (first | refine wSeq rfl ?_ | refine wBlock rfl ?_ | refine wSkip rfl ?_ | refine wExit rfl ?_ | refine wRet rfl ?_ | refine wCondT rfl rfl ?_ | refine wCondF rfl rfl ?_ | refine wOps rfl ?_ | refine wDraw rfl rfl ?_ | refine opsV_call rfl rfl (hv) ?_ | refine opsV_call rfl rfl (rsame_v hL _ _ _ _ _ _ _ _ (.inl rfl) (.inl rfl) hl2 hl2) ?_ | refine opsV_call rfl rfl (right_v hL _ _ _ _ _ (.inl rfl) hl3) ?_ | refine opsV_call rfl rfl (first_v hL _ _ _ _ (.inl rfl) hl2) ?_ | refine opsV_call rfl rfl (first_v hL _ _ _ _ (.inl rfl) hl3) ?_ | simp only [seval, push_cast, ↓reduceIte, ↓bP_some, ↓aP_true, reduceCtorEq, same_self, hk1, firstV]))
        have hn0 : ((p.length : Nat) : Int) ≠ 0 := by omega
        obtain ⟨m, m1, m2, m3⟩ := rem_range (x := x) hn
        obtain ⟨n, g1, g2, g3⟩ := rem_range (x := y) hn
        have hkv := keep_v hL k 1 1 l left none none (.inl rfl) hl (.inl rfl) (by omega)
        have hkf := keep_fine (left := left) ht hf
        have hkr := rename_v hL k 1 1 (keepL k l left) p none none ht hkf (.inl rfl) (Nat.le_trans (keep_len k l left) hl) (.inl rfl) hp2
        rw [hkeep] at hkr
        (repeat' (first | refine wSeq rfl ?_ | refine wBlock rfl ?_ | refine wSkip rfl ?_ | refine wExit rfl ?_ | refine wRet rfl ?_ | refine wCondT rfl rfl ?_ | refine wCondF rfl rfl ?_ | refine wOps rfl ?_ | refine wDraw rfl rfl ?_ | refine opsV_call rfl rfl (hkv) ?_ | refine opsV_call rfl rfl (hkr) ?_ | simp only [seval, push_cast, ↓reduceIte, ↓bP_some, ↓aP_true, reduceCtorEq, rem_i hn0, m2, m3, g2, g3]))
        obtain ⟨a, ha, _⟩ := get_of m1
        obtain ⟨b, hb, _⟩ := get_of g1
        have hpp := hpre m n ⟨by omega, by omega⟩ ⟨by omega, by omega⟩
        rw [im_at' ha, im_at' hb] at hpp
        have hpp := hpp.symm
        have hk9 := keep_len k l' (movedL p left)
        have hkv2 := keep_v hL k 1 1 l' (movedL p left) (some l.length) (some p.length) (.inl rfl) (by omega) (.inl rfl) (by rw [ml]; omega)
        have hsm := rsame_v hL k k 1 1 (keepL k l' (movedL p left)) (keepL k l' (movedL p left)) (some (keepL k l left).length) none (.inl rfl) (.inl rfl) (by omega) (by omega)
        have bt1 : (true == true) = true := rfl
        have bt2 : (false == false) = true := rfl
        obtain ⟨e1, e2⟩ := hfst
        have e1 := e1.symm
        cases h1 : (firstL k l).2 with
        | false =>
          rw [h1] at e1
          cases hq : prefersL k l m n with
          | false =>
            (repeat' (first | refine wSeq rfl ?_ | refine wBlock rfl ?_ | refine wSkip rfl ?_ | refine wExit rfl ?_ | refine wRet rfl ?_ | refine wCondT rfl rfl ?_ | refine wCondF rfl rfl ?_ | refine wOps rfl ?_ | refine wDraw rfl rfl ?_ | refine opsV_call rfl rfl (hkv2) ?_ | refine opsV_call rfl rfl (hsm) ?_ | refine opsV_call rfl rfl (prefers_v hL _ _ _ _ _ _ (.inl rfl) hl2) ?_ | refine opsV_call rfl rfl (prefers_v hL _ _ _ _ _ _ (.inl rfl) hl3) ?_ | refine opsV_call rfl rfl (hw) ?_ | simp only [seval, push_cast, ↓reduceIte, ↓bP_some, ↓aP_true, reduceCtorEq, e1, h1, hpp, hq, ha, hb, iaQ_tl m1, iaQ_tl g1, m1, g1, same_self, bt1, bt2]))
            exact FnQ.ret rfl rfl
          | true =>
            (repeat' (first | refine wSeq rfl ?_ | refine wBlock rfl ?_ | refine wSkip rfl ?_ | refine wExit rfl ?_ | refine wRet rfl ?_ | refine wCondT rfl rfl ?_ | refine wCondF rfl rfl ?_ | refine wOps rfl ?_ | refine wDraw rfl rfl ?_ | refine opsV_call rfl rfl (hkv2) ?_ | refine opsV_call rfl rfl (hsm) ?_ | refine opsV_call rfl rfl (prefers_v hL _ _ _ _ _ _ (.inl rfl) hl2) ?_ | refine opsV_call rfl rfl (prefers_v hL _ _ _ _ _ _ (.inl rfl) hl3) ?_ | refine opsV_call rfl rfl (hw) ?_ | simp only [seval, push_cast, ↓reduceIte, ↓bP_some, ↓aP_true, reduceCtorEq, e1, h1, hpp, hq, ha, hb, iaQ_tl m1, iaQ_tl g1, m1, g1, same_self, bt1, bt2]))
            exact FnQ.ret rfl rfl
        | true =>
          obtain ⟨⟨i0, i1⟩, e3⟩ := e2 h1
          rw [h1] at e1
          obtain ⟨i, hi⟩ : ∃ i : Nat, (firstL k l).1 = i := ⟨(firstL k l).1.toNat, by omega⟩
          rw [hi] at i1 e3
          have i2 : i < p.length := by omega
          obtain ⟨z, hz, _⟩ := get_of i2
          rw [im_at' hz] at e3
          cases hq : prefersL k l m n with
          | false =>
            (repeat' (first | refine wSeq rfl ?_ | refine wBlock rfl ?_ | refine wSkip rfl ?_ | refine wExit rfl ?_ | refine wRet rfl ?_ | refine wCondT rfl rfl ?_ | refine wCondF rfl rfl ?_ | refine wOps rfl ?_ | refine wDraw rfl rfl ?_ | refine opsV_call rfl rfl (hkv2) ?_ | refine opsV_call rfl rfl (hsm) ?_ | refine opsV_call rfl rfl (prefers_v hL _ _ _ _ _ _ (.inl rfl) hl2) ?_ | refine opsV_call rfl rfl (prefers_v hL _ _ _ _ _ _ (.inl rfl) hl3) ?_ | refine opsV_call rfl rfl (hw) ?_ | simp only [seval, push_cast, ↓reduceIte, ↓bP_some, ↓aP_true, reduceCtorEq, e1, h1, hpp, hq, ha, hb, iaQ_tl m1, iaQ_tl g1, m1, g1, same_self, bt1, bt2, hi, e3, hz, iaQ_tl i2, i2]))
            exact FnQ.ret rfl rfl
          | true =>
            (repeat' (first | refine wSeq rfl ?_ | refine wBlock rfl ?_ | refine wSkip rfl ?_ | refine wExit rfl ?_ | refine wRet rfl ?_ | refine wCondT rfl rfl ?_ | refine wCondF rfl rfl ?_ | refine wOps rfl ?_ | refine wDraw rfl rfl ?_ | refine opsV_call rfl rfl (hkv2) ?_ | refine opsV_call rfl rfl (hsm) ?_ | refine opsV_call rfl rfl (prefers_v hL _ _ _ _ _ _ (.inl rfl) hl2) ?_ | refine opsV_call rfl rfl (prefers_v hL _ _ _ _ _ _ (.inl rfl) hl3) ?_ | refine opsV_call rfl rfl (hw) ?_ | simp only [seval, push_cast, ↓reduceIte, ↓bP_some, ↓aP_true, reduceCtorEq, e1, h1, hpp, hq, ha, hb, iaQ_tl m1, iaQ_tl g1, m1, g1, same_self, bt1, bt2, hi, e3, hz, iaQ_tl i2, i2]))
            exact FnQ.ret rfl rfl
omit hL
theorem renames_al (k : Int) (l : List Int) (hk : 0 ≤ k ∧ k ≤ 255) (hl : l.length ≤ 17592186043904) (hb : ∀ n ∈ l, -9223372036854775808 ≤ n ∧ n ≤ 9223372036854775807) (p : List Int) (hp : p.length ≤ 17592186043904) (hpb : ∀ n ∈ p, -9223372036854775808 ≤ n ∧ n ≤ 9223372036854775807) (left : List Bool) (h2 : left.length ≤ 140737488351232) (x : Int) (hx : -9223372036854775808 ≤ x ∧ x ≤ 9223372036854775807) (y : Int) (hy : -9223372036854775808 ≤ y ∧ y ≤ 9223372036854775807) : VFn LL 6 [(.agg [.int .u8 k, tl mrow 1 (l) none]), tl mrow 1 p none, tl brow 1 left none, .int .i64 x, .int .i64 y] (.bool true) :=
  renames_v rfl wakes_v k x y l p left hl hp h2
end Go.Proofs.YtnhfbabenifbkaaGreatDoor
