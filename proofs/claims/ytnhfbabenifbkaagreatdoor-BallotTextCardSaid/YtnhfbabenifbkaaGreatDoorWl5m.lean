/- Texts of ballots, read: cut at blanks, put together again. Nothing of the program is named here. · Generic functions of the library, walked: lists of numbers. · Ballots: the program's functions, walked. · Ballots: the program's functions, walked: Check, alone, First, Prefers, Same, Less. · Ballots: the reference, walked. · The examples of the chapter of ballots, run by the kernel. · Ballots: the laws BallotTells and BallotOrder, walked. · Calls of closures; results; lists that may be nil. · Ballots: texts walked: names, Itoa of small numbers, Text; the reference: digits, number, Text. · Strings cut at blanks, walked: strings.Split, Index, Count; slices.Index over strings. · Ballots: texts read, walked: the program's Read (given what Atoi yields), the reference's Read. · Ballots: the reference's Read, walked. · Ballots: the law BallotText, walked. -/
import Derived.Test.YtnhfbabenifbkaaGreatDoorBPl5
import Derived.Lib.Bytealg
import Derived.Test.YtnhfbabenifbkaaGreatDoorAlWk
import Derived.Test.YtnhfbabenifbkaaGreatDoorAlXl
import Derived.Test.YtnhfbabenifbkaaGreatDoorBPl4
import Derived.Test.YtnhfbabenifbkaaGreatDoorAlSw
set_option linter.unusedVariables false
set_option linter.unusedSimpArgs false
namespace Go.Proofs.YtnhfbabenifbkaaGreatDoor
def pushW (c : UInt8) : List (List UInt8) → List (List UInt8)
  | [] => [[c]]
  | w :: ws => (c :: w) :: ws
/-- A text cut at each blank. -/
def splitL : List UInt8 → List (List UInt8)
  | [] => [[]]
  | c :: r => if c = 32 then [] :: splitL r else pushW c (splitL r)
def joinL : List (List UInt8) → List UInt8
  | [] => []
  | w :: ws => w ++ ws.flatMap fun v => 32 :: v
def NoB (w : List UInt8) : Prop := ∀ c ∈ w, c ≠ 32
theorem split_ne : ∀ s, splitL s ≠ []
  | [] => by simp [splitL]
  | c :: r => by
    rw [splitL]
    split
    · simp
    · cases splitL r <;> simp [pushW]
theorem split_blank (r : List UInt8) : splitL (32 :: r) = [] :: splitL r := by rw [splitL, if_pos rfl]
theorem split_word : ∀ {w : List UInt8}, NoB w → splitL w = [w]
  | [], _ => rfl
  | c :: w, h => by
    rw [splitL, if_neg (h c (by simp)), split_word (fun c hc => h c (by simp [hc]))]; rfl
theorem split_app : ∀ {w : List UInt8}, NoB w → ∀ r, splitL (w ++ 32 :: r) = w :: splitL r
  | [], _, r => split_blank r
  | c :: w, h, r => by
    rw [List.cons_append, splitL, if_neg (h c (by simp)), split_app (fun c hc => h c (by simp [hc]))]; rfl
theorem join_push (c : UInt8) {l : List (List UInt8)} (h : l ≠ []) : joinL (pushW c l) = c :: joinL l := by
  cases l with
  | nil => exact absurd rfl h
  | cons w ws => rfl
theorem join_split : ∀ s, joinL (splitL s) = s
  | [] => rfl
  | c :: r => by
    rw [splitL]
    by_cases h : c = 32
    · rw [if_pos h, h]
      have := join_split r
      cases hr : splitL r with
      | nil => exact absurd hr (split_ne r)
      | cons w ws => rw [hr] at this; rw [← this]; rfl
    · rw [if_neg h, join_push c (split_ne r), join_split r]
theorem split_len : ∀ s, (splitL s).length = Lib.countByte s 32 + 1
  | [] => rfl
  | c :: r => by
    rw [splitL]
    have ih := split_len r
    by_cases h : c = 32
    · subst h; rw [if_pos rfl, List.length_cons, ih]
      simp [Lib.countByte]
    · rw [if_neg h]
      have e : (pushW c (splitL r)).length = (splitL r).length := by
        cases hr : splitL r with
        | nil => exact absurd hr (split_ne r)
        | cons w ws => rfl
      rw [e, ih]
      simp [Lib.countByte, h]
/-- Where the first blank is. -/
theorem index_blank : ∀ s, (Lib.indexByte s 32 = -1 ∧ NoB s) ∨ ∃ (w r : List UInt8), s = w ++ 32 :: r ∧ NoB w ∧ Lib.indexByte s 32 = (w.length : Int)
  | [] => .inl ⟨rfl, fun c h => by cases h⟩
  | c :: s => by
    by_cases h : c = 32
    · subst h; exact .inr ⟨[], s, rfl, fun _ h => absurd h List.not_mem_nil, by simp [Lib.indexByte]⟩
    · rcases index_blank s with ⟨h1, h2⟩ | ⟨w, r, rfl, h1, h2⟩
      · left
        refine ⟨by simp [Lib.indexByte, h, h1], fun d hd => ?_⟩
        rcases List.mem_cons.1 hd with rfl | hd
        · exact h
        · exact h2 d hd
      · right
        refine ⟨c :: w, r, rfl, fun d hd => ?_, ?_⟩
        · rcases List.mem_cons.1 hd with rfl | hd
          · exact h
          · exact h1 d hd
        · have : ¬ ((w.length : Int) = -1) := by omega
          simp [Lib.indexByte, h, h2, this]
theorem split_one {s : List UInt8} : (splitL s).length = 1 ↔ NoB s := by
  constructor
  · intro h
    rcases index_blank s with ⟨_, h2⟩ | ⟨w, r, rfl, h1, _⟩
    · exact h2
    · rw [split_app h1] at h
      have := split_ne r
      rw [List.length_cons] at h
      exact absurd (List.length_eq_zero_iff.1 (by omega)) this
  · intro h; rw [split_word h]; rfl
def kindL (w : List UInt8) : Int := if w = [114, 97, 110, 107] then 1 else if w = [109, 97, 114, 107] then 2 else if w = [115, 99, 111, 114, 101] then 3 else 0
theorem kind_name {k : Int} (h : k = 1 ∨ k = 2 ∨ k = 3) : kindL (nameL k) = k := by
  rcases h with rfl | rfl | rfl <;> decide
theorem name_kind {w : List UInt8} (h : kindL w = 1 ∨ kindL w = 2 ∨ kindL w = 3) : nameL (kindL w) = w := by
  unfold kindL at h ⊢
  by_cases h1 : w = [114, 97, 110, 107]
  · rw [if_pos h1, h1]; decide
  · rw [if_neg h1] at h ⊢
    by_cases h2 : w = [109, 97, 114, 107]
    · rw [if_pos h2, h2]; decide
    · rw [if_neg h2] at h ⊢
      by_cases h3 : w = [115, 99, 111, 114, 101]
      · rw [if_pos h3, h3]; decide
      · rw [if_neg h3] at h; omega
def wordsMarks (s : List UInt8) : List (List UInt8) := (splitL s).tail
def headW (s : List UInt8) : List UInt8 := (splitL s).headD []
theorem head_tail (s : List UInt8) : splitL s = headW s :: wordsMarks s := by
  unfold headW wordsMarks
  cases h : splitL s with
  | nil => exact absurd h (split_ne s)
  | cons w ws => rfl
/-- A ballot read, given how a word is read as a number. -/
def readF (f : List UInt8 → Int) (s : List UInt8) : Int × List Int := (kindL (headW s), (wordsMarks s).map f)
def readL (s : List UInt8) : (Int × List Int) × Int := if aloneL (readF numberL s).1 (readF numberL s).2 = true then (readF numberL s, 0) else ((0, []), 11)
def preadL (f : List UInt8 → Int) (s : List UInt8) : (Int × List Int) × Int := if aloneL (readF f s).1 (readF f s).2 = true ∧ nameL (readF f s).1 ++ marksL (readF f s).2 = s then (readF f s, 0) else ((0, []), 11)
theorem number_dig : ∀ n, n < 11 → numberL (dig n) = (n : Int) := by
  intro n hn
  have : ((List.range 11).all fun n => decide (numberL (dig n) = (n : Int))) = true := by decide +kernel
  exact of_decide_eq_true (List.all_eq_true.1 this n (List.mem_range.2 hn))
theorem dig_noB : ∀ n, n < 11 → NoB (dig n) := by
  intro n hn
  have : ((List.range 11).all fun n => (dig n).all fun c => decide (c ≠ 32)) = true := by decide +kernel
  have := List.all_eq_true.1 this n (List.mem_range.2 hn)
  exact fun c hc => of_decide_eq_true (List.all_eq_true.1 this c hc)
theorem numberGo_dig (s : List UInt8) : ∀ d n, 0 ≤ numberGo s d n → dig (numberGo s d n).toNat = s
  | 0, n, h => by simp [numberGo] at h
  | d + 1, n, h => by
    rw [numberGo] at h ⊢
    by_cases e : dig n = s
    · rw [if_pos e]; exact e
    · rw [if_neg e] at h ⊢; exact numberGo_dig s d (n + 1) h
theorem dig_number {s : List UInt8} (h : 0 ≤ numberL s) : dig (numberL s).toNat = s := numberGo_dig s 20 0 h
theorem name_noB (k : Int) : NoB (nameL k) := by
  unfold nameL NoB
  by_cases h1 : k = 1
  · rw [if_pos h1]; decide
  · rw [if_neg h1]
    by_cases h2 : k = 2
    · rw [if_pos h2]; decide
    · rw [if_neg h2]
      by_cases h3 : k = 3
      · rw [if_pos h3]; decide
      · rw [if_neg h3]; intro c hc; cases hc
theorem split_marks : ∀ (l : List Int) (w : List UInt8), NoB w → (∀ m ∈ l, 0 ≤ m ∧ m < 11) → splitL (w ++ marksL l) = w :: l.map fun m => dig m.toNat
  | [], w, hw, _ => by simp [marksL, split_word hw]
  | m :: r, w, hw, h => by
    have e : marksL (m :: r) = 32 :: (dig m.toNat ++ marksL r) := by simp [marksL]
    rw [e, split_app hw, split_marks r _ (dig_noB _ (by have := h m (by simp); omega)) (fun x hx => h x (by simp [hx]))]
    rfl
theorem alone_kind' {k : Int} {l : List Int} (h : aloneL k l = true) : k = 1 ∨ k = 2 ∨ k = 3 := alone_kind (by unfold aloneL at h; exact of_decide_eq_true h)
theorem split_text {k : Int} {l : List Int} (h : aloneL k l = true) : splitL (nameL k ++ marksL l) = nameL k :: l.map fun m => dig m.toNat := split_marks l _ (name_noB k) (alone_marks h)
theorem readF_text {f : List UInt8 → Int} (hf : ∀ n, n < 11 → f (dig n) = (n : Int)) {k : Int} {l : List Int} (h : aloneL k l = true) : readF f (nameL k ++ marksL l) = (k, l) := by
  unfold readF headW wordsMarks
  rw [split_text h]
  show (kindL (nameL k), (l.map fun m => dig m.toNat).map f) = (k, l)
  rw [kind_name (alone_kind' h), List.map_map]
  congr 1
  have hm := alone_marks h
  conv => rhs; rw [← List.map_id l]
  refine List.map_congr_left fun m hx => ?_
  have := hm m hx
  show f (dig m.toNat) = m
  rw [hf _ (by omega)]; omega
theorem text_of_read {s : List UInt8} (h : aloneL (readF numberL s).1 (readF numberL s).2 = true) : nameL (readF numberL s).1 ++ marksL (readF numberL s).2 = s := by
  have hk := alone_kind' h
  have hm := alone_marks h
  have e := join_split s
  rw [head_tail s] at e
  have e2 : joinL (headW s :: wordsMarks s) = headW s ++ (wordsMarks s).flatMap fun v => 32 :: v := rfl
  rw [e2] at e
  conv => rhs; rw [← e]
  unfold readF at hk hm ⊢
  dsimp only at hk hm ⊢
  rw [name_kind hk]
  congr 1
  unfold marksL
  rw [List.flatMap_def, List.flatMap_def, List.map_map]
  congr 1
  refine List.map_congr_left fun w hw => ?_
  have := hm (numberL w) (List.mem_map.2 ⟨w, hw, rfl⟩)
  show 32 :: dig (numberL w).toNat = 32 :: w
  rw [dig_number this.1]
theorem pread_eq {f : List UInt8 → Int} (hf : ∀ n, n < 11 → f (dig n) = (n : Int)) (s : List UInt8) : preadL f s = readL s := by
  unfold preadL readL
  by_cases h1 : aloneL (readF f s).1 (readF f s).2 = true ∧ nameL (readF f s).1 ++ marksL (readF f s).2 = s
  · rw [if_pos h1]
    obtain ⟨h2, h3⟩ := h1
    have e : readF numberL s = readF f s := by
      conv => lhs; rw [← h3]
      exact readF_text number_dig h2
    rw [e, if_pos h2]
  · rw [if_neg h1]
    by_cases h2 : aloneL (readF numberL s).1 (readF numberL s).2 = true
    · exfalso
      have h3 := text_of_read h2
      apply h1
      have e : readF f s = readF numberL s := by
        conv => lhs; rw [← h3]
        exact readF_text hf h2
      rw [e]
      exact ⟨h2, h3⟩
    · rw [if_neg h2]
theorem read_text {k : Int} {l : List Int} (h : aloneL k l = true) : readL (nameL k ++ marksL l) = ((k, l), 0) := by
  unfold readL
  rw [readF_text number_dig h]
  exact if_pos h
theorem read_ok {s : List UInt8} (h : aloneL (readF numberL s).1 (readF numberL s).2 = true) : readL s = (readF numberL s, 0) := if_pos h
theorem read_bad {s : List UInt8} (h : aloneL (readF numberL s).1 (readF numberL s).2 = false) : readL s = ((0, []), 11) := if_neg (by rw [h]; simp)
end Go.Proofs.YtnhfbabenifbkaaGreatDoor
set_option maxRecDepth 100000
set_option linter.unusedVariables false
set_option linter.unusedSimpArgs false
namespace Go.Proofs.YtnhfbabenifbkaaGreatDoor
def sortedB : List Int → Bool
  | x :: y :: r => decide (x ≤ y) && sortedB (y :: r)
  | _ => true
/-- From one place down: each is not less than the one before. -/
theorem sortedB_iff : ∀ (l : List Int), sortedB l = true ↔ ∀ i x y, l[i]? = some x → l[i + 1]? = some y → x ≤ y
  | [] => by simp [sortedB]
  | [a] => by simp [sortedB]
  | a :: b :: r => by
    simp only [sortedB, Bool.and_eq_true, decide_eq_true_eq, sortedB_iff (b :: r)]
    constructor
    · rintro ⟨h1, h2⟩ i x y hx hy
      cases i with
      | zero => simp at hx hy; subst hx; subst hy; exact h1
      | succ i => exact h2 i x y (by simpa using hx) (by simpa using hy)
    · intro h
      exact ⟨h 0 a b rfl rfl, fun i x y hx hy => h (i + 1) x y (by simpa using hx) (by simpa using hy)⟩
theorem sortedB_pw (l : List Int) : sortedB l = decide (l.Pairwise (· ≤ ·)) := by
  by_cases h : l.Pairwise (· ≤ ·)
  · rw [decide_eq_true h]
    refine (sortedB_iff l).2 fun i x y hx hy => ?_
    obtain ⟨h1, rfl⟩ := List.getElem?_eq_some_iff.1 hx
    obtain ⟨h2, rfl⟩ := List.getElem?_eq_some_iff.1 hy
    exact List.pairwise_iff_getElem.1 h i (i + 1) h1 h2 (by omega)
  · rw [decide_eq_false h, Bool.eq_false_iff]
    intro hs
    exact h (adj_pw l fun j x y _ hx hy => (sortedB_iff l).1 hs j x y hx hy)
variable {L : Lib} (hL : L.T = tab.get)
include hL
theorem isNaN_v (x : Int) : VFn L 70 [.int .i64 x] (.bool false) := by
  refine VFn.start (F := T70.1) (by rw [hL]; rfl) rfl rfl rfl ?_
  (repeat' (first | refine wSeq rfl ?_ | refine wBlock rfl ?_ | refine wSkip rfl ?_ | refine wExit rfl ?_ | refine wRet rfl ?_ | refine wCondT rfl rfl ?_ | refine wCondF rfl rfl ?_ | refine wOps rfl ?_ | refine wDraw rfl rfl ?_ | simp only [seval, push_cast, ↓reduceIte, ↓bP_some, ↓aP_true, reduceCtorEq]))
  exact FnQ.ret rfl rfl
theorem less_v (x y : Int) : VFn L 69 [.int .i64 x, .int .i64 y] (.bool (decide (x < y))) := by
  refine VFn.start (F := T69.1) (by rw [hL]; rfl) rfl rfl rfl ?_
  (repeat' (first | refine wSeq rfl ?_ | refine wBlock rfl ?_ | refine wSkip rfl ?_ | refine wExit rfl ?_ | refine wRet rfl ?_ | refine wCondT rfl rfl ?_ | refine wCondF rfl rfl ?_ | refine wOps rfl ?_ | refine wDraw rfl rfl ?_ | refine opsV_call rfl rfl (isNaN_v hL _) ?_ | simp only [seval, push_cast, ↓reduceIte, ↓bP_some, ↓aP_true, reduceCtorEq]))
  exact FnQ.ret rfl rfl
theorem isSorted_v (s : Nat) (l : List Int) (c : Option Nat) (hs : s = 1 ∨ l = []) (hl : l.length < 4611686018427387904) : VFn L 58 [tl mrow s l c] (.bool (sortedB l)) := by
  refine VFn.start (F := T58.1) (by rw [hL]; rfl) rfl rfl rfl ?_
  (repeat' (first | refine wSeq rfl ?_ | refine wBlock rfl ?_ | refine wSkip rfl ?_ | refine wExit rfl ?_ | refine wRet rfl ?_ | refine wCondT rfl rfl ?_ | refine wCondF rfl rfl ?_ | refine wOps rfl ?_ | refine wDraw rfl rfl ?_ | simp only [seval, push_cast, ↓reduceIte, ↓bP_some, ↓aP_true, reduceCtorEq, wrap_pred (show l.length < 9223372036854775807 by omega)]))
  refine wWhile rfl (fun j : Nat => [(0, tl mrow s l c), (3, V.int IntKind.i64 ((j : Int) - 1))]) (fun _ => []) (fun j => j) (fun j => j ≤ l.length ∧ ∀ i x y, j ≤ i + 1 → l[i]? = some x → l[i + 1]? = some y → x ≤ y) l.length rfl rfl ⟨by omega, fun i x y hi hx hy => ?_⟩ ?_
  · have := (List.getElem?_eq_some_iff.1 hy).1
    omega
  rintro j ⟨hj, hall⟩
  by_cases hlt : 1 < j
  · obtain ⟨i, rfl⟩ : ∃ i, j = i + 2 := ⟨j - 2, by omega⟩
    obtain rfl := size_of hs (show i < l.length by omega)
    obtain ⟨x, hx, _⟩ := get_of (show i < l.length by omega)
    obtain ⟨y, hy, _⟩ := get_of (show i + 1 < l.length by omega)
    have e1 : (((i + 2 : Nat) : Int) - 1) = ((i + 1 : Nat) : Int) := by omega
    rw [e1]
    have hp : (0 : Int) < (i : Int) + 1 := by omega
    have hw := wrap_nat (n := i) (by omega)
    cases hlt2 : decide (y < x) with
    | true =>
      (repeat' (first | refine wSeq rfl ?_ | refine wBlock rfl ?_ | refine wSkip rfl ?_ | refine wExit rfl ?_ | refine wRet rfl ?_ | refine wCondT rfl rfl ?_ | refine wCondF rfl rfl ?_ | refine wOps rfl ?_ | refine wDraw rfl rfl ?_ | refine opsV_call rfl rfl (less_v hL _ _) ?_ | simp only [seval, push_cast, ↓reduceIte, ↓bP_some, ↓aP_true, reduceCtorEq, hp, add_sub1, hw, iaQ_tl (show i < l.length by omega), iaQ_tl (show i + 1 < l.length by omega), hx, hy, hlt2]))
      rw [Bool.eq_false_iff.2 (fun h => by
        have := (sortedB_iff l).1 h i x y hx hy
        have := of_decide_eq_true hlt2
        omega : ¬ sortedB l = true)]
      exact FnQ.ret rfl rfl
    | false =>
      (repeat' (first | refine wSeq rfl ?_ | refine wBlock rfl ?_ | refine wSkip rfl ?_ | refine wExit rfl ?_ | refine wRet rfl ?_ | refine wCondT rfl rfl ?_ | refine wCondF rfl rfl ?_ | refine wOps rfl ?_ | refine wDraw rfl rfl ?_ | refine opsV_call rfl rfl (less_v hL _ _) ?_ | simp only [seval, push_cast, ↓reduceIte, ↓bP_some, ↓aP_true, reduceCtorEq, hp, add_sub1, hw, iaQ_tl (show i < l.length by omega), iaQ_tl (show i + 1 < l.length by omega), hx, hy, hlt2]))
      refine qW_n (i + 1) (by simp) rfl ⟨by omega, by omega, fun k u v hk hu hv => ?_⟩
      by_cases h : k = i
      · subst h; rw [hx] at hu; rw [hy] at hv; cases hu; cases hv
        have := of_decide_eq_false hlt2
        omega
      · exact hall k u v (by omega) hu hv
  · have hp : ¬ (0 : Int) < (j : Int) - 1 := by omega
    (repeat' (first | refine wSeq rfl ?_ | refine wBlock rfl ?_ | refine wSkip rfl ?_ | refine wExit rfl ?_ | refine wRet rfl ?_ | refine wCondT rfl rfl ?_ | refine wCondF rfl rfl ?_ | refine wOps rfl ?_ | refine wDraw rfl rfl ?_ | simp only [seval, push_cast, ↓reduceIte, ↓bP_some, ↓aP_true, reduceCtorEq, hp]))
    rw [(sortedB_iff l).2 (fun i x y hx hy => hall i x y (by omega) hx hy)]
    exact FnQ.ret rfl rfl
theorem index_v (s : Nat) (l : List Int) (c : Option Nat) (x : Int) (hs : s = 1 ∨ l = []) (hl : l.length < 4611686018427387904) : VFn L 36 [tl mrow s l c, .int .i64 x] (.int .i64 (placeL l x)) := by
  refine VFn.start (F := T36.1) (by rw [hL]; rfl) rfl rfl rfl ?_
  (repeat' (first | refine wSeq rfl ?_ | refine wBlock rfl ?_ | refine wSkip rfl ?_ | refine wExit rfl ?_ | refine wRet rfl ?_ | refine wCondT rfl rfl ?_ | refine wCondF rfl rfl ?_ | refine wOps rfl ?_ | refine wDraw rfl rfl ?_ | simp only [seval, push_cast, ↓reduceIte, ↓bP_some, ↓aP_true, reduceCtorEq]))
  refine wCnt rfl 8 l.length (fun _ => []) (fun j => placeL l x = placeGo l x j) rfl (place_start l x) ?_ ?_
  · intro j hj hI
    obtain ⟨a, ha, _⟩ := get_of hj
    obtain rfl := size_of hs hj
    by_cases e : a = x
    · subst e
      (repeat' (first | refine wSeq rfl ?_ | refine wBlock rfl ?_ | refine wSkip rfl ?_ | refine wExit rfl ?_ | refine wRet rfl ?_ | refine wCondT rfl rfl ?_ | refine wCondF rfl rfl ?_ | refine wOps rfl ?_ | refine wDraw rfl rfl ?_ | simp only [seval, push_cast, ↓reduceIte, ↓bP_some, ↓aP_true, reduceCtorEq, iaQ_tl hj, ha, hj]))
      rw [hI, place_hit ha rfl]
      exact FnQ.ret rfl rfl
    · (repeat' (first | refine wSeq rfl ?_ | refine wBlock rfl ?_ | refine wSkip rfl ?_ | refine wExit rfl ?_ | refine wRet rfl ?_ | refine wCondT rfl rfl ?_ | refine wCondF rfl rfl ?_ | refine wOps rfl ?_ | refine wDraw rfl rfl ?_ | simp only [seval, push_cast, ↓reduceIte, ↓bP_some, ↓aP_true, reduceCtorEq, iaQ_tl hj, ha, hj, ne_both e, wrap_succ (show j < 9223372036854775807 by omega)]))
      exact qR_n rfl rfl (by rw [hI, place_miss ha e])
  · intro hI
    (repeat' (first | refine wSeq rfl ?_ | refine wBlock rfl ?_ | refine wSkip rfl ?_ | refine wExit rfl ?_ | refine wRet rfl ?_ | refine wCondT rfl rfl ?_ | refine wCondF rfl rfl ?_ | refine wOps rfl ?_ | refine wDraw rfl rfl ?_ | simp only [seval, push_cast, ↓reduceIte, ↓bP_some, ↓aP_true, reduceCtorEq]))
    rw [hI, place_end (by omega)]
    exact FnQ.ret rfl rfl
theorem equal_v (s t : Nat) (l m : List Int) (c d : Option Nat) (hs : s = 1 ∨ l = []) (ht : t = 1 ∨ m = []) (hl : l.length < 4611686018427387904) (hm : m.length < 4611686018427387904) : VFn L 42 [tl mrow s l c, tl mrow t m d] (.bool (decide (l = m))) := by
  refine VFn.start (F := T42.1) (by rw [hL]; rfl) rfl rfl rfl ?_
  by_cases hlen : l.length = m.length
  · (repeat' (first | refine wSeq rfl ?_ | refine wBlock rfl ?_ | refine wSkip rfl ?_ | refine wExit rfl ?_ | refine wRet rfl ?_ | refine wCondT rfl rfl ?_ | refine wCondF rfl rfl ?_ | refine wOps rfl ?_ | refine wDraw rfl rfl ?_ | simp only [seval, push_cast, ↓reduceIte, ↓bP_some, ↓aP_true, reduceCtorEq, hlen]))
    refine wCnt rfl 13 l.length (fun _ => []) (fun j => l.take j = m.take j) rfl rfl ?_ ?_
    · intro j hj hI
      obtain ⟨a, ha, _⟩ := get_of hj
      obtain ⟨b, hb, _⟩ := get_of (show j < m.length by omega)
      obtain rfl := size_of hs hj
      obtain rfl := size_of ht (show j < m.length by omega)
      by_cases e : a = b
      · subst e
        (repeat' (first | refine wSeq rfl ?_ | refine wBlock rfl ?_ | refine wSkip rfl ?_ | refine wExit rfl ?_ | refine wRet rfl ?_ | refine wCondT rfl rfl ?_ | refine wCondF rfl rfl ?_ | refine wOps rfl ?_ | refine wDraw rfl rfl ?_ | simp only [seval, push_cast, ↓reduceIte, ↓bP_some, ↓aP_true, reduceCtorEq, iaQ_tl hj, iaQ_tl (show j < m.length by omega), ha, hb, hj, hlen ▸ hj, wrap_succ (show j < 9223372036854775807 by omega)]))
        exact qR_n rfl rfl (by rw [take_snoc ha, take_snoc hb, hI])
      · (repeat' (first | refine wSeq rfl ?_ | refine wBlock rfl ?_ | refine wSkip rfl ?_ | refine wExit rfl ?_ | refine wRet rfl ?_ | refine wCondT rfl rfl ?_ | refine wCondF rfl rfl ?_ | refine wOps rfl ?_ | refine wDraw rfl rfl ?_ | simp only [seval, push_cast, ↓reduceIte, ↓bP_some, ↓aP_true, reduceCtorEq, iaQ_tl hj, iaQ_tl (show j < m.length by omega), ha, hb, hj, hlen ▸ hj, ne_both e]))
        rw [show decide (l = m) = false from decide_eq_false fun h => e (by subst h; rw [ha] at hb; cases hb; rfl)]
        exact FnQ.ret rfl rfl
    · intro hI
      (repeat' (first | refine wSeq rfl ?_ | refine wBlock rfl ?_ | refine wSkip rfl ?_ | refine wExit rfl ?_ | refine wRet rfl ?_ | refine wCondT rfl rfl ?_ | refine wCondF rfl rfl ?_ | refine wOps rfl ?_ | refine wDraw rfl rfl ?_ | simp only [seval, push_cast, ↓reduceIte, ↓bP_some, ↓aP_true, reduceCtorEq, hlen]))
      rw [show decide (l = m) = true from decide_eq_true (by rwa [take_all, hlen, take_all] at hI)]
      exact FnQ.ret rfl rfl
  · (repeat' (first | refine wSeq rfl ?_ | refine wBlock rfl ?_ | refine wSkip rfl ?_ | refine wExit rfl ?_ | refine wRet rfl ?_ | refine wCondT rfl rfl ?_ | refine wCondF rfl rfl ?_ | refine wOps rfl ?_ | refine wDraw rfl rfl ?_ | simp only [seval, push_cast, ↓reduceIte, ↓bP_some, ↓aP_true, reduceCtorEq, hlen]))
    rw [show decide (l = m) = false from decide_eq_false fun h => hlen (by rw [h])]
    exact FnQ.ret rfl rfl
omit hL
def cmpI (x y : Int) : Int := if x < y then -1 else if y < x then 1 else 0
def cmpL : List Int → List Int → Int
  | [], [] => 0
  | [], _ :: _ => -1
  | _ :: _, [] => 1
  | a :: r, b :: s => if a = b then cmpL r s else cmpI a b
theorem cmpL_ahead : ∀ (l m : List Int), aheadL l m = decide (cmpL l m < 0)
  | [], [] => rfl
  | [], _ :: _ => rfl
  | _ :: _, [] => rfl
  | a :: r, b :: s => by
    unfold aheadL cmpL
    by_cases h : a = b
    · rw [if_pos h, if_pos h]; exact cmpL_ahead r s
    · rw [if_neg h, if_neg h]
      unfold cmpI
      by_cases h1 : a < b
      · rw [if_pos h1, decide_eq_true h1]; rfl
      · rw [if_neg h1, if_pos (by omega), decide_eq_false h1]; rfl
theorem cmpL_zero : ∀ (l m : List Int), cmpL l m = 0 ↔ l = m
  | [], [] => by simp [cmpL]
  | [], _ :: _ => by simp [cmpL]
  | _ :: _, [] => by simp [cmpL]
  | a :: r, b :: s => by
    unfold cmpL
    by_cases h : a = b
    · rw [if_pos h, cmpL_zero r s]; simp [h]
    · rw [if_neg h]
      have : cmpI a b ≠ 0 := by unfold cmpI; split; omega; rw [if_pos (by omega)]; omega
      simp [this, h]
theorem drop_at {α : Type} {l : List α} {j : Nat} {x : α} (h : l[j]? = some x) : l.drop j = x :: l.drop (j + 1) := by
  obtain ⟨h1, rfl⟩ := List.getElem?_eq_some_iff.1 h
  exact List.drop_eq_getElem_cons h1
include hL
theorem cmp_v (x y : Int) : VFn L 59 [.int .i64 x, .int .i64 y] (.int .i64 (cmpI x y)) := by
  refine VFn.start (F := T59.1) (by rw [hL]; rfl) rfl rfl rfl ?_
  by_cases h : x < y
  · (repeat' (first | refine wSeq rfl ?_ | refine wBlock rfl ?_ | refine wSkip rfl ?_ | refine wExit rfl ?_ | refine wRet rfl ?_ | refine wCondT rfl rfl ?_ | refine wCondF rfl rfl ?_ | refine wOps rfl ?_ | refine wDraw rfl rfl ?_ | refine opsV_call rfl rfl (isNaN_v hL _) ?_ | simp only [seval, push_cast, ↓reduceIte, ↓bP_some, ↓aP_true, reduceCtorEq, h]))
    rw [show cmpI x y = -1 from if_pos h]
    exact FnQ.ret rfl rfl
  · by_cases h2 : y < x
    · (repeat' (first | refine wSeq rfl ?_ | refine wBlock rfl ?_ | refine wSkip rfl ?_ | refine wExit rfl ?_ | refine wRet rfl ?_ | refine wCondT rfl rfl ?_ | refine wCondF rfl rfl ?_ | refine wOps rfl ?_ | refine wDraw rfl rfl ?_ | refine opsV_call rfl rfl (isNaN_v hL _) ?_ | simp only [seval, push_cast, ↓reduceIte, ↓bP_some, ↓aP_true, reduceCtorEq, h, h2]))
      rw [show cmpI x y = 1 by unfold cmpI; rw [if_neg h, if_pos h2]]
      exact FnQ.ret rfl rfl
    · (repeat' (first | refine wSeq rfl ?_ | refine wBlock rfl ?_ | refine wSkip rfl ?_ | refine wExit rfl ?_ | refine wRet rfl ?_ | refine wCondT rfl rfl ?_ | refine wCondF rfl rfl ?_ | refine wOps rfl ?_ | refine wDraw rfl rfl ?_ | refine opsV_call rfl rfl (isNaN_v hL _) ?_ | simp only [seval, push_cast, ↓reduceIte, ↓bP_some, ↓aP_true, reduceCtorEq, h, h2]))
      rw [show cmpI x y = 0 by unfold cmpI; rw [if_neg h, if_neg h2]]
      exact FnQ.ret rfl rfl
theorem compare_v (s t : Nat) (l m : List Int) (c d : Option Nat) (hs : s = 1 ∨ l = []) (ht : t = 1 ∨ m = []) (hl : l.length < 4611686018427387904) (hm : m.length < 4611686018427387904) : VFn L 43 [tl mrow s l c, tl mrow t m d] (.int .i64 (cmpL l m)) := by
  refine VFn.start (F := T43.1) (by rw [hL]; rfl) rfl rfl rfl ?_
  (repeat' (first | refine wSeq rfl ?_ | refine wBlock rfl ?_ | refine wSkip rfl ?_ | refine wExit rfl ?_ | refine wRet rfl ?_ | refine wCondT rfl rfl ?_ | refine wCondF rfl rfl ?_ | refine wOps rfl ?_ | refine wDraw rfl rfl ?_ | simp only [seval, push_cast, ↓reduceIte, ↓bP_some, ↓aP_true, reduceCtorEq]))
  refine wCnt rfl 11 l.length (fun _ => []) (fun j => cmpL l m = cmpL (l.drop j) (m.drop j) ∧ j ≤ m.length) rfl ⟨rfl, by omega⟩ ?_ ?_
  · rintro j hj ⟨hI, hjm⟩
    obtain ⟨a, ha, _⟩ := get_of hj
    obtain rfl := size_of hs hj
    by_cases hm' : j < m.length
    · obtain ⟨b, hb, _⟩ := get_of hm'
      obtain rfl := size_of ht hm'
      have hle : ¬ m.length ≤ j := by omega
      by_cases e : a = b
      · subst e
        (repeat' (first | refine wSeq rfl ?_ | refine wBlock rfl ?_ | refine wSkip rfl ?_ | refine wExit rfl ?_ | refine wRet rfl ?_ | refine wCondT rfl rfl ?_ | refine wCondF rfl rfl ?_ | refine wOps rfl ?_ | refine wDraw rfl rfl ?_ | refine opsV_call rfl rfl (cmp_v hL _ _) ?_ | simp only [seval, push_cast, ↓reduceIte, ↓bP_some, ↓aP_true, reduceCtorEq, iaQ_tl hj, iaQ_tl hm', ha, hb, hj, hle, wrap_succ (show j < 9223372036854775807 by omega), (show cmpI a a = 0 by simp [cmpI])]))
        exact qR_n rfl rfl ⟨by rw [hI, drop_at ha, drop_at hb]; exact if_pos rfl, by omega⟩
      · have hne : cmpI a b ≠ 0 := by unfold cmpI; split; omega; rw [if_pos (by omega)]; omega
        (repeat' (first | refine wSeq rfl ?_ | refine wBlock rfl ?_ | refine wSkip rfl ?_ | refine wExit rfl ?_ | refine wRet rfl ?_ | refine wCondT rfl rfl ?_ | refine wCondF rfl rfl ?_ | refine wOps rfl ?_ | refine wDraw rfl rfl ?_ | refine opsV_call rfl rfl (cmp_v hL _ _) ?_ | simp only [seval, push_cast, ↓reduceIte, ↓bP_some, ↓aP_true, reduceCtorEq, iaQ_tl hj, iaQ_tl hm', ha, hb, hj, hle, hne]))
        rw [show cmpL l m = cmpI a b by rw [hI, drop_at ha, drop_at hb]; exact if_neg e]
        exact FnQ.ret rfl rfl
    · have hle : m.length ≤ j := by omega
      (repeat' (first | refine wSeq rfl ?_ | refine wBlock rfl ?_ | refine wSkip rfl ?_ | refine wExit rfl ?_ | refine wRet rfl ?_ | refine wCondT rfl rfl ?_ | refine wCondF rfl rfl ?_ | refine wOps rfl ?_ | refine wDraw rfl rfl ?_ | simp only [seval, push_cast, ↓reduceIte, ↓bP_some, ↓aP_true, reduceCtorEq, hj, hle, iaQ_tl hj, ha]))
      rw [show cmpL l m = 1 by rw [hI, drop_at ha, List.drop_eq_nil_of_le hle]; rfl]
      exact FnQ.ret rfl rfl
  · rintro ⟨hI, hjm⟩
    rw [List.drop_eq_nil_of_le (Nat.le_refl _)] at hI
    by_cases hlt : l.length < m.length
    · obtain ⟨b, hb, _⟩ := get_of hlt
      (repeat' (first | refine wSeq rfl ?_ | refine wBlock rfl ?_ | refine wSkip rfl ?_ | refine wExit rfl ?_ | refine wRet rfl ?_ | refine wCondT rfl rfl ?_ | refine wCondF rfl rfl ?_ | refine wOps rfl ?_ | refine wDraw rfl rfl ?_ | simp only [seval, push_cast, ↓reduceIte, ↓bP_some, ↓aP_true, reduceCtorEq, hlt]))
      rw [show cmpL l m = -1 by rw [hI, drop_at hb]; rfl]
      exact FnQ.ret rfl rfl
    · (repeat' (first | refine wSeq rfl ?_ | refine wBlock rfl ?_ | refine wSkip rfl ?_ | refine wExit rfl ?_ | refine wRet rfl ?_ | refine wCondT rfl rfl ?_ | refine wCondF rfl rfl ?_ | refine wOps rfl ?_ | refine wDraw rfl rfl ?_ | simp only [seval, push_cast, ↓reduceIte, ↓bP_some, ↓aP_true, reduceCtorEq, hlt]))
      rw [show cmpL l m = 0 by rw [hI, List.drop_eq_nil_of_le (by omega)]; rfl]
      exact FnQ.ret rfl rfl
omit hL
theorem maxOf_snoc {l : List Int} {j : Nat} {x : Int} (hj : 0 < j) (hx : l[j]? = some x) : Lib.maxOf (l.take (j + 1)) = max (Lib.maxOf (l.take j)) x := by
  have hd : (l.take (j + 1)).headD 0 = (l.take j).headD 0 := by
    cases l with
    | nil => simp at hx
    | cons a r => cases j with | zero => omega | succ j => rfl
  unfold Lib.maxOf
  rw [hd, take_snoc hx, List.foldl_append]; rfl
theorem pick_max (x y : Int) : (if x < y then y else x) = max x y := by
  rw [Int.max_def]; split <;> split <;> omega
include hL
theorem max_v (s : Nat) (l : List Int) (c : Option Nat) (hs : s = 1 ∨ l = []) (hl : l.length < 4611686018427387904) (hne : l ≠ []) : VFn L 35 [tl mrow s l c] (.int .i64 (Lib.maxOf l)) := by
  refine VFn.start (F := T35.1) (by rw [hL]; rfl) rfl rfl rfl ?_
  have hn : 0 < l.length := List.length_pos_iff.2 hne
  have h1 : ¬ (l.length : Int) < 1 := by omega
  obtain rfl := size_of hs hn
  obtain ⟨a, ha, _⟩ := get_of hn
  (repeat' (first | refine wSeq rfl ?_ | refine wBlock rfl ?_ | refine wSkip rfl ?_ | refine wExit rfl ?_ | refine wRet rfl ?_ | refine wCondT rfl rfl ?_ | refine wCondF rfl rfl ?_ | refine wOps rfl ?_ | refine wDraw rfl rfl ?_ | simp only [seval, push_cast, ↓reduceIte, ↓bP_some, ↓aP_true, reduceCtorEq, h1, iaQ_tl hn, ha]))
  refine wWhile rfl (fun j : Nat => [(0, tl mrow 1 l c), (3, V.int IntKind.i64 (Lib.maxOf (l.take j))), (4, V.int IntKind.i64 j)]) (fun _ => []) (fun j => l.length - j) (fun j => 0 < j ∧ j ≤ l.length) 1 ?_ rfl ⟨by omega, by omega⟩ ?_
  · rw [take_snoc ha]; simp [Lib.maxOf]
  rintro j ⟨hj0, hjl⟩
  by_cases hj : j < l.length
  · obtain ⟨x, hx, _⟩ := get_of hj
    (repeat' (first | refine wSeq rfl ?_ | refine wBlock rfl ?_ | refine wSkip rfl ?_ | refine wExit rfl ?_ | refine wRet rfl ?_ | refine wCondT rfl rfl ?_ | refine wCondF rfl rfl ?_ | refine wOps rfl ?_ | refine wDraw rfl rfl ?_ | simp only [seval, push_cast, ↓reduceIte, ↓bP_some, ↓aP_true, reduceCtorEq, iaQ_tl hj, hx, hj, wrap_succ (show j < 9223372036854775807 by omega)]))
    exact qW_n (j + 1) (by rw [maxOf_snoc hj0 hx, pick_max]; rfl) rfl ⟨by omega, by omega, by omega⟩
  · (repeat' (first | refine wSeq rfl ?_ | refine wBlock rfl ?_ | refine wSkip rfl ?_ | refine wExit rfl ?_ | refine wRet rfl ?_ | refine wCondT rfl rfl ?_ | refine wCondF rfl rfl ?_ | refine wOps rfl ?_ | refine wDraw rfl rfl ?_ | simp only [seval, push_cast, ↓reduceIte, ↓bP_some, ↓aP_true, reduceCtorEq, hj]))
    rw [List.take_of_length_le (by omega)]
    exact FnQ.ret rfl rfl
end Go.Proofs.YtnhfbabenifbkaaGreatDoor
set_option maxRecDepth 100000
set_option linter.unusedVariables false
set_option linter.unusedSimpArgs false
namespace Go.Proofs.YtnhfbabenifbkaaGreatDoor
variable {L : Lib} (hL : L.T = tab.get)
include hL
theorem within_v (n lo hi : Int) : VFn L 38 [.int .i64 n, .int .i64 lo, .int .i64 hi] (.bool (decide (lo ≤ n) && decide (n < hi))) := by
  refine VFn.start (F := T38.1) (by rw [hL]; rfl) rfl rfl rfl ?_
  by_cases h : lo ≤ n
  · (repeat' (first | refine wSeq rfl ?_ | refine wBlock rfl ?_ | refine wSkip rfl ?_ | refine wExit rfl ?_ | refine wRet rfl ?_ | refine wCondT rfl rfl ?_ | refine wCondF rfl rfl ?_ | refine wOps rfl ?_ | refine wDraw rfl rfl ?_ | simp only [seval, push_cast, ↓reduceIte, ↓bP_some, ↓aP_true, reduceCtorEq, h]))
    exact FnQ.ret rfl rfl
  · (repeat' (first | refine wSeq rfl ?_ | refine wBlock rfl ?_ | refine wSkip rfl ?_ | refine wExit rfl ?_ | refine wRet rfl ?_ | refine wCondT rfl rfl ?_ | refine wCondF rfl rfl ?_ | refine wOps rfl ?_ | refine wDraw rfl rfl ?_ | simp only [seval, push_cast, ↓reduceIte, ↓bP_some, ↓aP_true, reduceCtorEq, h]))
    exact FnQ.ret rfl rfl
omit hL
def badMark (k cands m : Int) : Bool := if k = 3 then !(decide (0 ≤ m) && decide (m < 11)) else !(decide (0 ≤ m) && decide (m < cands))
def marksOk (k : Int) (l : List Int) (cands : Int) : Bool := l.all (fun m => !badMark k cands m)
def fineR (k : Int) (l : List Int) (cands : Int) : Bool := marksOk k l cands && (if k = 3 then decide ((l.length : Int) = cands) else if k = 2 then sortedB l && decide l.Nodup else if k = 1 then decide l.Nodup else false)
theorem fineR_bad {k cands : Int} {l : List Int} {j : Nat} {x : Int} (hx : l[j]? = some x) (hb : badMark k cands x = true) : fineR k l cands = false := by
  have : marksOk k l cands = false := by
    rw [Bool.eq_false_iff]
    intro h
    have := List.all_eq_true.1 h x (List.mem_of_getElem? hx)
    rw [hb] at this; cases this
  unfold fineR
  rw [this]; rfl
theorem marksOk_of {k cands : Int} {l : List Int} (h : ∀ i x, i < l.length → l[i]? = some x → badMark k cands x = false) : marksOk k l cands = true := List.all_eq_true.2 fun x hx => by
  obtain ⟨i, hi⟩ := List.mem_iff_getElem?.1 hx
  rw [h i x (List.getElem?_eq_some_iff.1 hi).1 hi]; rfl
theorem all_snoc {α : Type} {P : α → Prop} {l : List α} {j : Nat} {x : α} (hx : l[j]? = some x) (hI : ∀ i x, i < j → l[i]? = some x → P x) (h : P x) : ∀ i x, i < j + 1 → l[i]? = some x → P x := fun i y hi hy => by
  by_cases e : i = j
  · subst e; rw [hx] at hy; cases hy; exact h
  · exact hI i y (by omega) hy
def seenRow (p : List Int) : List V := (List.range 10).map fun i : Nat => V.bool (decide ((i : Int) ∈ p))
theorem seenRow_get {p : List Int} {n : Nat} (h : n < 10) : (seenRow p)[n]? = some (.bool (decide ((n : Int) ∈ p))) := by simp [seenRow, h]
theorem seenRow_len {p : List Int} : (seenRow p).length = 10 := by simp [seenRow]
theorem seenRow_set {p : List Int} {n : Nat} (h : n < 10) : (seenRow p).take n ++ [V.bool true] ++ (seenRow p).drop (n + 1) = seenRow (p ++ [(n : Int)]) := by
  apply List.ext_getElem?
  intro i
  by_cases hi : i < 10
  · rw [seenRow_get hi, List.append_assoc, List.getElem?_append]
    have hl : (List.take n (seenRow p)).length = n := by rw [List.length_take, seenRow_len]; omega
    rw [hl]
    by_cases h1 : i < n
    · rw [if_pos h1, List.getElem?_take, if_pos h1, seenRow_get hi]
      have : ¬ ((i : Int) = (n : Int)) := by omega
      simp [this]
    · rw [if_neg h1]
      by_cases h2 : i = n
      · subst h2; simp
      · rw [List.getElem?_append_right (by simp; omega), List.length_singleton, List.getElem?_drop, show n + 1 + (i - n - 1) = i by omega, seenRow_get hi]
        have : ¬ ((i : Int) = (n : Int)) := by omega
        simp [this]
  · rw [List.getElem?_eq_none (by simp [seenRow_len]; omega), List.getElem?_eq_none (by rw [seenRow_len]; omega)]
theorem fine_seen {k : Int} {s : Nat} {l : List Int} {c : Option Nat} (hs : s = 1 ∨ l = []) (hl : l.length < 4611686018427387904) (hb : ∀ x ∈ l, 0 ≤ x ∧ x < 10) {Q : Exit → Env → Heap → Prop} (hq : ∀ b H', b = decide l.Nodup → Q .ret [(4, .bool b)] H') :
    SWP L 0 T39.1.ntmps T39.1.body.r.r.l.r.l.r.l.r.l.r.l (qB T39.1.body.r.r.l.r.l.r.l.r.l.r.id (qN L 0 T39.1.ntmps T39.1.body.r.r.l.r.l.r.l.r.r Q))
    [(7, V.ptr 1 10 0 0), (55, tl mrow s l c), (56, V.int IntKind.i64 ↑l.length), (57, V.int IntKind.i64 0)]
    [some (Blk.arr 2 [[V.int IntKind.u8 k, tl mrow s l c]]), some (Blk.arr 10 [seenRow []])] := by
  refine wCntH rfl 57 l.length (fun _ => []) (fun j => [some (Blk.arr 2 [[V.int IntKind.u8 k, tl mrow s l c]]), some (Blk.arr 10 [seenRow (l.take j)])]) (fun j => (l.take j).Nodup) rfl rfl (by simp) ?_ ?_
  · intro j hj hI
    obtain ⟨x, hx, hm⟩ := get_of hj
    obtain rfl := size_of hs hj
    obtain ⟨h0, h10⟩ := hb x hm
    obtain ⟨n, rfl⟩ : ∃ n : Nat, x = n := ⟨x.toNat, by omega⟩
    have hn : n < 10 := by omega
    have hn9 : n ≤ 9 := by omega
    have hw := wrap_succ (show j < 9223372036854775807 by omega)
    have htk := take_snoc hx
    have hsg := seenRow_get (p := l.take j) hn
    cases hmem : decide ((n : Int) ∈ l.take j) with
    | true =>
      (repeat' (first | refine wSeq rfl ?_ | refine wBlock rfl ?_ | refine wSkip rfl ?_ | refine wExit rfl ?_ | refine wRet rfl ?_ | refine wCondT rfl rfl ?_ | refine wCondF rfl rfl ?_ | refine wOps rfl ?_ | refine wDraw rfl rfl ?_ | simp only [seval, push_cast, ↓reduceIte, ↓bP_some, ↓aP_true, reduceCtorEq, iaQ_tl hj, hx, hj, hn, hn9, Nat.mul_one, hsg, hmem]))
      refine hq _ _ ?_
      symm
      rw [decide_eq_false_iff_not]
      intro h
      have := h.sublist (List.take_sublist (j + 1) l)
      rw [htk, List.nodup_append] at this
      exact this.2.2 _ (of_decide_eq_true hmem) _ (by simp) rfl
    | false =>
      (repeat' (first | refine wSeq rfl ?_ | refine wBlock rfl ?_ | refine wSkip rfl ?_ | refine wExit rfl ?_ | refine wRet rfl ?_ | refine wCondT rfl rfl ?_ | refine wCondF rfl rfl ?_ | refine wOps rfl ?_ | refine wDraw rfl rfl ?_ | simp only [seval, push_cast, ↓reduceIte, ↓bP_some, ↓aP_true, reduceCtorEq, iaQ_tl hj, hx, hj, hn, hn9, Nat.mul_one, hsg, hmem, seenRow_len, seenRow_set hn, hw]))
      refine qR_n rfl (by rw [htk]) ?_
      rw [htk, List.nodup_append]
      refine ⟨hI, by simp, fun a ha b hb e => ?_⟩
      rw [List.mem_singleton] at hb
      subst hb; subst e; exact of_decide_eq_false hmem ha
  · intro hI
    (repeat' (first | refine wSeq rfl ?_ | refine wBlock rfl ?_ | refine wSkip rfl ?_ | refine wExit rfl ?_ | refine wRet rfl ?_ | refine wCondT rfl rfl ?_ | refine wCondF rfl rfl ?_ | refine wOps rfl ?_ | refine wDraw rfl rfl ?_ | simp only [seval, push_cast, ↓reduceIte, ↓bP_some, ↓aP_true, reduceCtorEq]))
    refine hq _ _ ?_
    symm
    rw [decide_eq_true_iff]
    rwa [take_all] at hI
include hL
theorem fineR_v (k cands : Int) (s : Nat) (l : List Int) (c : Option Nat) (hs : s = 1 ∨ l = []) (hl : l.length < 4611686018427387904) (hc : cands ≤ 10) : VFn L 39 [.agg [.int .u8 k, tl mrow s l c], .int .i64 cands] (.bool (fineR k l cands)) := by
  refine VFn.start (F := T39.1) (by rw [hL]; rfl) rfl rfl rfl ?_
  (repeat' (first | refine wSeq rfl ?_ | refine wBlock rfl ?_ | refine wSkip rfl ?_ | refine wExit rfl ?_ | refine wRet rfl ?_ | refine wCondT rfl rfl ?_ | refine wCondF rfl rfl ?_ | refine wOps rfl ?_ | refine wDraw rfl rfl ?_ | simp only [seval, push_cast, ↓reduceIte, ↓bP_some, ↓aP_true, reduceCtorEq]))
  refine wCnt rfl 13 l.length (fun _ => []) (fun j => ∀ i x, i < j → l[i]? = some x → badMark k cands x = false) rfl (fun i x h => by omega) ?_ ?_
  · intro j hj hI
    obtain ⟨x, hx, hm⟩ := get_of hj
    obtain rfl := size_of hs hj
    have hw := wrap_succ (show j < 9223372036854775807 by omega)
    by_cases hk : k = 3
    · subst hk
      cases hb : (decide (0 ≤ x) && decide (x < 11)) with
      | false =>
        (repeat' (first | refine wSeq rfl ?_ | refine wBlock rfl ?_ | refine wSkip rfl ?_ | refine wExit rfl ?_ | refine wRet rfl ?_ | refine wCondT rfl rfl ?_ | refine wCondF rfl rfl ?_ | refine wOps rfl ?_ | refine wDraw rfl rfl ?_ | refine opsV_call rfl rfl (within_v hL _ _ _) ?_ | simp only [seval, push_cast, ↓reduceIte, ↓bP_some, ↓aP_true, reduceCtorEq, iaQ_tl hj, hx, hj, hb]))
        rw [fineR_bad hx (by simp [badMark, hb])]
        exact FnQ.ret rfl rfl
      | true =>
        (repeat' (first | refine wSeq rfl ?_ | refine wBlock rfl ?_ | refine wSkip rfl ?_ | refine wExit rfl ?_ | refine wRet rfl ?_ | refine wCondT rfl rfl ?_ | refine wCondF rfl rfl ?_ | refine wOps rfl ?_ | refine wDraw rfl rfl ?_ | refine opsV_call rfl rfl (within_v hL _ _ _) ?_ | simp only [seval, push_cast, ↓reduceIte, ↓bP_some, ↓aP_true, reduceCtorEq, iaQ_tl hj, hx, hj, hb, hw]))
        exact qR_n rfl rfl (all_snoc (P := fun x => badMark 3 cands x = false) hx hI (by simp [badMark, hb]))
    · cases hb : (decide (0 ≤ x) && decide (x < cands)) with
      | false =>
        (repeat' (first | refine wSeq rfl ?_ | refine wBlock rfl ?_ | refine wSkip rfl ?_ | refine wExit rfl ?_ | refine wRet rfl ?_ | refine wCondT rfl rfl ?_ | refine wCondF rfl rfl ?_ | refine wOps rfl ?_ | refine wDraw rfl rfl ?_ | refine opsV_call rfl rfl (within_v hL _ _ _) ?_ | simp only [seval, push_cast, ↓reduceIte, ↓bP_some, ↓aP_true, reduceCtorEq, iaQ_tl hj, hx, hj, hk, hb]))
        rw [fineR_bad hx (by simp [badMark, hb, hk])]
        exact FnQ.ret rfl rfl
      | true =>
        (repeat' (first | refine wSeq rfl ?_ | refine wBlock rfl ?_ | refine wSkip rfl ?_ | refine wExit rfl ?_ | refine wRet rfl ?_ | refine wCondT rfl rfl ?_ | refine wCondF rfl rfl ?_ | refine wOps rfl ?_ | refine wDraw rfl rfl ?_ | refine opsV_call rfl rfl (within_v hL _ _ _) ?_ | simp only [seval, push_cast, ↓reduceIte, ↓bP_some, ↓aP_true, reduceCtorEq, iaQ_tl hj, hx, hj, hk, hb, hw]))
        exact qR_n rfl rfl (all_snoc (P := fun x => badMark k cands x = false) hx hI (by simp [badMark, hb, hk]))
  · intro hI
    have hR : fineR k l cands = (if k = 3 then decide ((l.length : Int) = cands) else if k = 2 then sortedB l && decide l.Nodup else if k = 1 then decide l.Nodup else false) := by unfold fineR; rw [marksOk_of hI]; rfl
    by_cases h3 : k = 3
    · subst h3
      (repeat' (first | refine wSeq rfl ?_ | refine wBlock rfl ?_ | refine wSkip rfl ?_ | refine wExit rfl ?_ | refine wRet rfl ?_ | refine wCondT rfl rfl ?_ | refine wCondF rfl rfl ?_ | refine wOps rfl ?_ | refine wDraw rfl rfl ?_ | simp only [seval, push_cast, ↓reduceIte, ↓bP_some, ↓aP_true, reduceCtorEq]))
      rw [hR]
      exact FnQ.ret rfl rfl
    · have hb10 : ∀ x ∈ l, 0 ≤ x ∧ x < 10 := fun x hx => by
        have := List.all_eq_true.1 (marksOk_of hI) x hx
        simp only [badMark, if_neg h3, Bool.not_not, Bool.and_eq_true, decide_eq_true_eq] at this
        omega
      by_cases h2 : k = 2
      · subst h2
        cases hso : sortedB l with
        | false =>
          (repeat' (first | refine wSeq rfl ?_ | refine wBlock rfl ?_ | refine wSkip rfl ?_ | refine wExit rfl ?_ | refine wRet rfl ?_ | refine wCondT rfl rfl ?_ | refine wCondF rfl rfl ?_ | refine wOps rfl ?_ | refine wDraw rfl rfl ?_ | refine opsV_call rfl rfl (isSorted_v hL s l c hs hl) ?_ | simp only [seval, push_cast, ↓reduceIte, ↓bP_some, ↓aP_true, reduceCtorEq, h3, hso]))
          rw [hR, hso]
          exact FnQ.ret rfl rfl
        | true =>
          (repeat' (first | refine wSeq rfl ?_ | refine wBlock rfl ?_ | refine wSkip rfl ?_ | refine wExit rfl ?_ | refine wRet rfl ?_ | refine wCondT rfl rfl ?_ | refine wCondF rfl rfl ?_ | refine wOps rfl ?_ | refine wDraw rfl rfl ?_ | refine opsV_call rfl rfl (isSorted_v hL s l c hs hl) ?_ | simp only [seval, push_cast, ↓reduceIte, ↓bP_some, ↓aP_true, reduceCtorEq, h3, hso]))
          refine fine_seen hs hl hb10 (fun b H' hb => ?_)
          (repeat' (first | refine wSeq rfl ?_ | refine wBlock rfl ?_ | refine wSkip rfl ?_ | refine wExit rfl ?_ | refine wRet rfl ?_ | refine wCondT rfl rfl ?_ | refine wCondF rfl rfl ?_ | refine wOps rfl ?_ | refine wDraw rfl rfl ?_ | simp only [seval, push_cast, ↓reduceIte, ↓bP_some, ↓aP_true, reduceCtorEq]))
          rw [hR, hso, hb]
          exact FnQ.ret rfl rfl
      · by_cases h1 : k = 1
        · subst h1
          (repeat' (first | refine wSeq rfl ?_ | refine wBlock rfl ?_ | refine wSkip rfl ?_ | refine wExit rfl ?_ | refine wRet rfl ?_ | refine wCondT rfl rfl ?_ | refine wCondF rfl rfl ?_ | refine wOps rfl ?_ | refine wDraw rfl rfl ?_ | simp only [seval, push_cast, ↓reduceIte, ↓bP_some, ↓aP_true, reduceCtorEq, h3, h2]))
          refine fine_seen hs hl hb10 (fun b H' hb => ?_)
          (repeat' (first | refine wSeq rfl ?_ | refine wBlock rfl ?_ | refine wSkip rfl ?_ | refine wExit rfl ?_ | refine wRet rfl ?_ | refine wCondT rfl rfl ?_ | refine wCondF rfl rfl ?_ | refine wOps rfl ?_ | refine wDraw rfl rfl ?_ | simp only [seval, push_cast, ↓reduceIte, ↓bP_some, ↓aP_true, reduceCtorEq]))
          rw [hR, hb]
          exact FnQ.ret rfl rfl
        · (repeat' (first | refine wSeq rfl ?_ | refine wBlock rfl ?_ | refine wSkip rfl ?_ | refine wExit rfl ?_ | refine wRet rfl ?_ | refine wCondT rfl rfl ?_ | refine wCondF rfl rfl ?_ | refine wOps rfl ?_ | refine wDraw rfl rfl ?_ | simp only [seval, push_cast, ↓reduceIte, ↓bP_some, ↓aP_true, reduceCtorEq, h3, h2, h1]))
          rw [hR, if_neg h3, if_neg h2, if_neg h1]
          exact FnQ.ret rfl rfl
omit hL
theorem fineR_eq (k : Int) (l : List Int) (c : Int) : fineR k l c = fineL k l c := by
  have hm3 : marksOk 3 l c = l.all (inB 0 11) := by
    unfold marksOk; congr 1; funext m; simp [badMark, inB]
  have hm : k ≠ 3 → marksOk k l c = l.all (inB 0 c) := fun h => by
    unfold marksOk; congr 1; funext m; simp [badMark, inB, h]
  unfold fineR fineL
  by_cases h3 : k = 3
  · subst h3; rw [hm3]; rfl
  · rw [hm h3, if_neg h3, if_neg h3]
    by_cases h2 : k = 2
    · subst h2
      rw [if_pos rfl, if_neg (by decide), if_pos rfl, sortedB_pw]
      congr 1
      have := pw_lt_iff l
      by_cases h1 : l.Pairwise (· ≤ ·)
      · rw [decide_eq_true h1, Bool.true_and]
        exact decide_eq_decide.2 ⟨fun h => this.2 ⟨h1, h⟩, fun h => (this.1 h).2⟩
      · rw [decide_eq_false h1, Bool.false_and]
        symm
        exact decide_eq_false fun h => h1 (this.1 h).1
    · rw [if_neg h2]
      by_cases h1 : k = 1
      · subst h1; rfl
      · rw [if_neg h1, if_neg h1, if_neg h2, Bool.and_false]
include hL
theorem fine_v (k cands : Int) (s : Nat) (l : List Int) (c : Option Nat) (hs : s = 1 ∨ l = []) (hl : l.length < 4611686018427387904) (hc : cands ≤ 10) : VFn L 39 [(.agg [.int .u8 k, tl mrow s (l) c]), .int .i64 cands] (.bool (fineL k l cands)) := by
  rw [← fineR_eq]
  exact fineR_v hL k cands s l c hs hl hc
end Go.Proofs.YtnhfbabenifbkaaGreatDoor
set_option maxRecDepth 100000
set_option maxHeartbeats 4000000
set_option linter.unusedVariables false
set_option linter.unusedSimpArgs false
namespace Go.Proofs.YtnhfbabenifbkaaGreatDoor
variable {L : Lib} (hL : L.T = tab.get)
include hL
theorem check_v (k cands : Int) (s : Nat) (l : List Int) (c : Option Nat) (hs : s = 1 ∨ l = []) (hl : l.length < 4611686018427387904) : VFn L 13 [(.agg [.int .u8 k, tl mrow s (l) c]), .int .i64 cands] (.int .i64 (checkL k l cands)) := by
  refine VFn.start (F := T13.1) (by rw [hL]; rfl) rfl rfl rfl ?_
  cases hw : (decide (1 ≤ cands) && decide (cands < 11)) with
  | false =>
    (repeat' (first | refine wSeq rfl ?_ | refine wBlock rfl ?_ | refine wSkip rfl ?_ | refine wExit rfl ?_ | refine wRet rfl ?_ | refine wCondT rfl rfl ?_ | refine wCondF rfl rfl ?_ | refine wOps rfl ?_ | refine wDraw rfl rfl ?_ | refine opsV_call rfl rfl (within_v hL _ _ _) ?_ | simp only [seval, push_cast, ↓reduceIte, ↓bP_some, ↓aP_true, reduceCtorEq, hw]))
    rw [show checkL k l cands = 2 by unfold checkL; rw [if_pos]; simp at hw; omega]
    exact FnQ.ret rfl rfl
  | true =>
    have hc : 1 ≤ cands ∧ cands ≤ 10 := by simp at hw; omega
    cases hf : fineL k l cands with
    | false =>
      (repeat' (first | refine wSeq rfl ?_ | refine wBlock rfl ?_ | refine wSkip rfl ?_ | refine wExit rfl ?_ | refine wRet rfl ?_ | refine wCondT rfl rfl ?_ | refine wCondF rfl rfl ?_ | refine wOps rfl ?_ | refine wDraw rfl rfl ?_ | refine opsV_call rfl rfl (within_v hL _ _ _) ?_ | refine opsV_call rfl rfl (fine_v hL _ _ _ _ _ hs hl hc.2) ?_ | simp only [seval, push_cast, ↓reduceIte, ↓bP_some, ↓aP_true, reduceCtorEq, hw, hf]))
      rw [show checkL k l cands = 8 by unfold checkL; rw [if_neg (by omega), if_pos hf]]
      exact FnQ.ret rfl rfl
    | true =>
      (repeat' (first | refine wSeq rfl ?_ | refine wBlock rfl ?_ | refine wSkip rfl ?_ | refine wExit rfl ?_ | refine wRet rfl ?_ | refine wCondT rfl rfl ?_ | refine wCondF rfl rfl ?_ | refine wOps rfl ?_ | refine wDraw rfl rfl ?_ | refine opsV_call rfl rfl (within_v hL _ _ _) ?_ | refine opsV_call rfl rfl (fine_v hL _ _ _ _ _ hs hl hc.2) ?_ | simp only [seval, push_cast, ↓reduceIte, ↓bP_some, ↓aP_true, reduceCtorEq, hw, hf]))
      rw [show checkL k l cands = 0 by unfold checkL; rw [if_neg (by omega), if_neg (by rw [hf]; simp)]]
      exact FnQ.ret rfl rfl
theorem alone_v (k : Int) (s : Nat) (l : List Int) (c : Option Nat) (hs : s = 1 ∨ l = []) (hl : l.length < 4611686018427387904) : VFn L 34 [(.agg [.int .u8 k, tl mrow s (l) c])] (.bool (aloneL k l)) := by
  refine VFn.start (F := T34.1) (by rw [hL]; rfl) rfl rfl rfl ?_
  by_cases h3 : k = 3
  · subst h3
    (repeat' (first | refine wSeq rfl ?_ | refine wBlock rfl ?_ | refine wSkip rfl ?_ | refine wExit rfl ?_ | refine wRet rfl ?_ | refine wCondT rfl rfl ?_ | refine wCondF rfl rfl ?_ | refine wOps rfl ?_ | refine wDraw rfl rfl ?_ | refine opsV_call rfl rfl (check_v hL _ _ _ _ _ hs hl) ?_ | simp only [seval, push_cast, ↓reduceIte, ↓bP_some, ↓aP_true, reduceCtorEq]))
    exact FnQ.ret rfl rfl
  · (repeat' (first | refine wSeq rfl ?_ | refine wBlock rfl ?_ | refine wSkip rfl ?_ | refine wExit rfl ?_ | refine wRet rfl ?_ | refine wCondT rfl rfl ?_ | refine wCondF rfl rfl ?_ | refine wOps rfl ?_ | refine wDraw rfl rfl ?_ | refine opsV_call rfl rfl (fine_v hL _ _ _ _ _ hs hl (by decide)) ?_ | simp only [seval, push_cast, ↓reduceIte, ↓bP_some, ↓aP_true, reduceCtorEq, h3]))
    rw [show aloneL k l = fineL k l 10 by unfold aloneL amongL; rw [if_neg h3]; unfold checkL; rw [if_neg (by omega)]; cases fineL k l 10 <;> rfl]
    exact FnQ.ret rfl rfl
def firstV (k : Int) (l : List Int) : V := .tup [.int .i64 (firstL k l).1, .bool (firstL k l).2]
theorem first_v (k : Int) (s : Nat) (l : List Int) (c : Option Nat) (hs : s = 1 ∨ l = []) (hl : l.length < 4611686018427387904) : VFn L 11 [(.agg [.int .u8 k, tl mrow s (l) c])] (firstV k l) := by
  refine VFn.start (F := T11.1) (by rw [hL]; rfl) rfl rfl rfl ?_
  cases hal : aloneL k l with
  | false =>
    (repeat' (first | refine wSeq rfl ?_ | refine wBlock rfl ?_ | refine wSkip rfl ?_ | refine wExit rfl ?_ | refine wRet rfl ?_ | refine wCondT rfl rfl ?_ | refine wCondF rfl rfl ?_ | refine wOps rfl ?_ | refine wDraw rfl rfl ?_ | refine opsV_call rfl rfl (alone_v hL _ _ _ _ hs hl) ?_ | simp only [seval, push_cast, ↓reduceIte, ↓bP_some, ↓aP_true, reduceCtorEq, hal]))
    rw [show firstV k l = .tup [.int .i64 0, .bool false] by unfold firstV firstL; rw [if_pos (.inl hal)]]
    exact FnQ.ret rfl rfl
  | true =>
    have hkind : k = 1 ∨ k = 2 ∨ k = 3 := alone_kind (by unfold aloneL at hal; exact of_decide_eq_true hal)
    by_cases hl0 : l = []
    · subst hl0
      (repeat' (first | refine wSeq rfl ?_ | refine wBlock rfl ?_ | refine wSkip rfl ?_ | refine wExit rfl ?_ | refine wRet rfl ?_ | refine wCondT rfl rfl ?_ | refine wCondF rfl rfl ?_ | refine wOps rfl ?_ | refine wDraw rfl rfl ?_ | refine opsV_call rfl rfl (alone_v hL _ _ _ _ hs hl) ?_ | simp only [seval, push_cast, ↓reduceIte, ↓bP_some, ↓aP_true, reduceCtorEq, hal, List.length_nil]))
      rw [show firstV k [] = .tup [.int .i64 0, .bool false] by unfold firstV firstL; rw [if_pos (.inr rfl)]]
      exact FnQ.ret rfl rfl
    have hn : 0 < l.length := List.length_pos_iff.2 hl0
    have hn0 : ¬ (l.length : Int) = 0 := by omega
    obtain ⟨x, hx, _⟩ := get_of hn
    obtain rfl := size_of hs hn
    rcases hkind with rfl | rfl | rfl
    · (repeat' (first | refine wSeq rfl ?_ | refine wBlock rfl ?_ | refine wSkip rfl ?_ | refine wExit rfl ?_ | refine wRet rfl ?_ | refine wCondT rfl rfl ?_ | refine wCondF rfl rfl ?_ | refine wOps rfl ?_ | refine wDraw rfl rfl ?_ | refine opsV_call rfl rfl (alone_v hL _ _ _ _ hs hl) ?_ | simp only [seval, push_cast, ↓reduceIte, ↓bP_some, ↓aP_true, reduceCtorEq, hal, hn0, hx, iaQ_tl hn]))
      rw [show firstV 1 l = .tup [.int .i64 x, .bool true] by unfold firstV; rw [first_one hal hx]]
      exact FnQ.ret rfl rfl
    · by_cases h1 : l.length = 1
      · have h2 : ¬ (1 : Int) < l.length := by omega
        (repeat' (first | refine wSeq rfl ?_ | refine wBlock rfl ?_ | refine wSkip rfl ?_ | refine wExit rfl ?_ | refine wRet rfl ?_ | refine wCondT rfl rfl ?_ | refine wCondF rfl rfl ?_ | refine wOps rfl ?_ | refine wDraw rfl rfl ?_ | refine opsV_call rfl rfl (alone_v hL _ _ _ _ hs hl) ?_ | simp only [seval, push_cast, ↓reduceIte, ↓bP_some, ↓aP_true, reduceCtorEq, hal, hn0, hx, iaQ_tl hn, h2]))
        rw [show firstV 2 l = .tup [.int .i64 x, .bool true] by unfold firstV; rw [first_mark hal hx h1]]
        exact FnQ.ret rfl rfl
      · have h2 : (1 : Int) < l.length := by omega
        (repeat' (first | refine wSeq rfl ?_ | refine wBlock rfl ?_ | refine wSkip rfl ?_ | refine wExit rfl ?_ | refine wRet rfl ?_ | refine wCondT rfl rfl ?_ | refine wCondF rfl rfl ?_ | refine wOps rfl ?_ | refine wDraw rfl rfl ?_ | refine opsV_call rfl rfl (alone_v hL _ _ _ _ hs hl) ?_ | simp only [seval, push_cast, ↓reduceIte, ↓bP_some, ↓aP_true, reduceCtorEq, hal, hn0, hx, iaQ_tl hn, h2]))
        rw [show firstV 2 l = .tup [.int .i64 0, .bool false] by unfold firstV; rw [first_marks hal hx h1]]
        exact FnQ.ret rfl rfl
    · have hf := first_score hal hx
      (repeat' (first | refine wSeq rfl ?_ | refine wBlock rfl ?_ | refine wSkip rfl ?_ | refine wExit rfl ?_ | refine wRet rfl ?_ | refine wCondT rfl rfl ?_ | refine wCondF rfl rfl ?_ | refine wOps rfl ?_ | refine wDraw rfl rfl ?_ | refine opsV_call rfl rfl (alone_v hL _ _ _ _ hs hl) ?_ | refine opsV_call rfl rfl (max_v hL _ _ _ hs hl hl0) ?_ | simp only [seval, push_cast, ↓reduceIte, ↓bP_some, ↓aP_true, reduceCtorEq, hal, hn0]))
      have hpos := alone_score_pos hal
      obtain ⟨hmem, hmax⟩ := max_spec hl0
      have hM0 := (hpos _ hmem).1
      refine wCnt rfl 41 l.length (fun j => [(5, .int .i64 ((placesTo l (Lib.maxOf l) j).length : Nat))]) (fun _ => True) rfl trivial ?_ ?_
      · intro j hj _
        obtain ⟨a, ha, _⟩ := get_of hj
        have hpl := places_le l (Lib.maxOf l) j
        by_cases e : a = Lib.maxOf l
        · have hp := places_hit ha e
          subst e
          (repeat' (first | refine wSeq rfl ?_ | refine wBlock rfl ?_ | refine wSkip rfl ?_ | refine wExit rfl ?_ | refine wRet rfl ?_ | refine wCondT rfl rfl ?_ | refine wCondF rfl rfl ?_ | refine wOps rfl ?_ | refine wDraw rfl rfl ?_ | simp only [seval, push_cast, ↓reduceIte, ↓bP_some, ↓aP_true, reduceCtorEq, iaQ_tl hj, ha, hj, wrap_succ (show j < 9223372036854775807 by omega), hp, wrap_succ (show (placesTo l (Lib.maxOf l) j).length < 9223372036854775807 by omega)]))
          exact qR_n rfl rfl trivial
        · have hp := places_miss ha e
          (repeat' (first | refine wSeq rfl ?_ | refine wBlock rfl ?_ | refine wSkip rfl ?_ | refine wExit rfl ?_ | refine wRet rfl ?_ | refine wCondT rfl rfl ?_ | refine wCondF rfl rfl ?_ | refine wOps rfl ?_ | refine wDraw rfl rfl ?_ | simp only [seval, push_cast, ↓reduceIte, ↓bP_some, ↓aP_true, reduceCtorEq, iaQ_tl hj, ha, hj, wrap_succ (show j < 9223372036854775807 by omega), hp, ne_both e]))
          exact qR_n rfl rfl trivial
      · intro _
        by_cases hz : Lib.maxOf l = 0
        · (repeat' (first | refine wSeq rfl ?_ | refine wBlock rfl ?_ | refine wSkip rfl ?_ | refine wExit rfl ?_ | refine wRet rfl ?_ | refine wCondT rfl rfl ?_ | refine wCondF rfl rfl ?_ | refine wOps rfl ?_ | refine wDraw rfl rfl ?_ | simp only [seval, push_cast, ↓reduceIte, ↓bP_some, ↓aP_true, reduceCtorEq, hz]))
          rw [show firstV 3 l = .tup [.int .i64 0, .bool false] by unfold firstV; rw [hf, top_low hl0 (by omega)]]
          exact FnQ.ret rfl rfl
        · by_cases h1 : 1 < (placesTo l (Lib.maxOf l) l.length).length
          · have h1' : (1 : Int) < ((placesTo l (Lib.maxOf l) l.length).length : Nat) := by omega
            (repeat' (first | refine wSeq rfl ?_ | refine wBlock rfl ?_ | refine wSkip rfl ?_ | refine wExit rfl ?_ | refine wRet rfl ?_ | refine wCondT rfl rfl ?_ | refine wCondF rfl rfl ?_ | refine wOps rfl ?_ | refine wDraw rfl rfl ?_ | simp only [seval, push_cast, ↓reduceIte, ↓bP_some, ↓aP_true, reduceCtorEq, hz, h1']))
            rw [show firstV 3 l = .tup [.int .i64 0, .bool false] by unfold firstV; rw [hf, top_two hl0 h1]]
            exact FnQ.ret rfl rfl
          · have h1' : ¬ (1 : Int) < ((placesTo l (Lib.maxOf l) l.length).length : Nat) := by omega
            (repeat' (first | refine wSeq rfl ?_ | refine wBlock rfl ?_ | refine wSkip rfl ?_ | refine wExit rfl ?_ | refine wRet rfl ?_ | refine wCondT rfl rfl ?_ | refine wCondF rfl rfl ?_ | refine wOps rfl ?_ | refine wDraw rfl rfl ?_ | refine opsV_call rfl rfl (index_v hL _ _ _ _ hs hl) ?_ | simp only [seval, push_cast, ↓reduceIte, ↓bP_some, ↓aP_true, reduceCtorEq, hz, h1']))
            rw [show firstV 3 l = .tup [.int .i64 (placeL l (Lib.maxOf l)), .bool true] by unfold firstV; rw [hf, top_one hl0 (by omega) h1]]
            exact FnQ.ret rfl rfl
theorem prefers_v (k : Int) (s : Nat) (l : List Int) (c : Option Nat) (x y : Int) (hs : s = 1 ∨ l = []) (hl : l.length < 4611686018427387904) : VFn L 15 [(.agg [.int .u8 k, tl mrow s (l) c]), .int .i64 x, .int .i64 y] (.bool (prefersL k l x y)) := by
  refine VFn.start (F := T15.1) (by rw [hL]; rfl) rfl rfl rfl ?_
  by_cases hx : x < 0
  · (repeat' (first | refine wSeq rfl ?_ | refine wBlock rfl ?_ | refine wSkip rfl ?_ | refine wExit rfl ?_ | refine wRet rfl ?_ | refine wCondT rfl rfl ?_ | refine wCondF rfl rfl ?_ | refine wOps rfl ?_ | refine wDraw rfl rfl ?_ | simp only [seval, push_cast, ↓reduceIte, ↓bP_some, ↓aP_true, reduceCtorEq, hx]))
    rw [show prefersL k l x y = false by unfold prefersL; rw [if_pos (.inl hx)]]
    exact FnQ.ret rfl rfl
  by_cases hy : y < 0
  · (repeat' (first | refine wSeq rfl ?_ | refine wBlock rfl ?_ | refine wSkip rfl ?_ | refine wExit rfl ?_ | refine wRet rfl ?_ | refine wCondT rfl rfl ?_ | refine wCondF rfl rfl ?_ | refine wOps rfl ?_ | refine wDraw rfl rfl ?_ | simp only [seval, push_cast, ↓reduceIte, ↓bP_some, ↓aP_true, reduceCtorEq, hx, hy]))
    rw [show prefersL k l x y = false by unfold prefersL; rw [if_pos (.inr hy)]]
    exact FnQ.ret rfl rfl
  have hxy : ¬ (x < 0 ∨ y < 0) := by omega
  obtain ⟨nx, rfl⟩ : ∃ n : Nat, x = n := ⟨x.toNat, by omega⟩
  obtain ⟨ny, rfl⟩ : ∃ n : Nat, y = n := ⟨y.toNat, by omega⟩
  by_cases h1 : k = 1
  · subst h1
    by_cases q1 : 0 ≤ placeL l nx
    · by_cases q2 : placeL l ny < 0
      · (repeat' (first | refine wSeq rfl ?_ | refine wBlock rfl ?_ | refine wSkip rfl ?_ | refine wExit rfl ?_ | refine wRet rfl ?_ | refine wCondT rfl rfl ?_ | refine wCondF rfl rfl ?_ | refine wOps rfl ?_ | refine wDraw rfl rfl ?_ | refine opsV_call rfl rfl (index_v hL _ _ _ _ hs hl) ?_ | simp only [seval, push_cast, ↓reduceIte, ↓bP_some, ↓aP_true, reduceCtorEq, hx, hy, q1, q2]))
        rw [show prefersL 1 l nx ny = true by unfold prefersL; rw [if_neg hxy, if_pos rfl]; simp [q1, q2]]
        exact FnQ.ret rfl rfl
      · (repeat' (first | refine wSeq rfl ?_ | refine wBlock rfl ?_ | refine wSkip rfl ?_ | refine wExit rfl ?_ | refine wRet rfl ?_ | refine wCondT rfl rfl ?_ | refine wCondF rfl rfl ?_ | refine wOps rfl ?_ | refine wDraw rfl rfl ?_ | refine opsV_call rfl rfl (index_v hL _ _ _ _ hs hl) ?_ | simp only [seval, push_cast, ↓reduceIte, ↓bP_some, ↓aP_true, reduceCtorEq, hx, hy, q1, q2]))
        rw [show prefersL 1 l nx ny = decide (placeL l nx < placeL l ny) by unfold prefersL; rw [if_neg hxy, if_pos rfl]; simp [q1, q2]]
        exact FnQ.ret rfl rfl
    · (repeat' (first | refine wSeq rfl ?_ | refine wBlock rfl ?_ | refine wSkip rfl ?_ | refine wExit rfl ?_ | refine wRet rfl ?_ | refine wCondT rfl rfl ?_ | refine wCondF rfl rfl ?_ | refine wOps rfl ?_ | refine wDraw rfl rfl ?_ | refine opsV_call rfl rfl (index_v hL _ _ _ _ hs hl) ?_ | simp only [seval, push_cast, ↓reduceIte, ↓bP_some, ↓aP_true, reduceCtorEq, hx, hy, q1]))
      rw [show prefersL 1 l nx ny = false by unfold prefersL; rw [if_neg hxy, if_pos rfl]; simp [q1]]
      exact FnQ.ret rfl rfl
  by_cases h2 : k = 2
  · subst h2
    by_cases q1 : 0 ≤ placeL l nx
    · (repeat' (first | refine wSeq rfl ?_ | refine wBlock rfl ?_ | refine wSkip rfl ?_ | refine wExit rfl ?_ | refine wRet rfl ?_ | refine wCondT rfl rfl ?_ | refine wCondF rfl rfl ?_ | refine wOps rfl ?_ | refine wDraw rfl rfl ?_ | refine opsV_call rfl rfl (index_v hL _ _ _ _ hs hl) ?_ | simp only [seval, push_cast, ↓reduceIte, ↓bP_some, ↓aP_true, reduceCtorEq, hx, hy, q1, h1]))
      rw [show prefersL 2 l nx ny = decide (placeL l ny < 0) by unfold prefersL; rw [if_neg hxy, if_neg (by decide), if_pos rfl]; simp [q1]]
      exact FnQ.ret rfl rfl
    · (repeat' (first | refine wSeq rfl ?_ | refine wBlock rfl ?_ | refine wSkip rfl ?_ | refine wExit rfl ?_ | refine wRet rfl ?_ | refine wCondT rfl rfl ?_ | refine wCondF rfl rfl ?_ | refine wOps rfl ?_ | refine wDraw rfl rfl ?_ | refine opsV_call rfl rfl (index_v hL _ _ _ _ hs hl) ?_ | simp only [seval, push_cast, ↓reduceIte, ↓bP_some, ↓aP_true, reduceCtorEq, hx, hy, q1, h1]))
      rw [show prefersL 2 l nx ny = false by unfold prefersL; rw [if_neg hxy, if_neg (by decide), if_pos rfl]; simp [q1]]
      exact FnQ.ret rfl rfl
  by_cases h3 : k = 3
  · subst h3
    have e3 : prefersL 3 l nx ny = (decide ((nx : Int) < l.length) && decide ((ny : Int) < l.length) && decide (l[ny]?.getD 0 < l[nx]?.getD 0)) := by unfold prefersL; rw [if_neg hxy, if_neg (by decide), if_neg (by decide), if_pos rfl]; rfl
    by_cases q1 : nx < l.length
    · by_cases q2 : ny < l.length
      · obtain ⟨a, ha, _⟩ := get_of q1
        obtain ⟨b, hb, _⟩ := get_of q2
        obtain rfl := size_of hs q1
        (repeat' (first | refine wSeq rfl ?_ | refine wBlock rfl ?_ | refine wSkip rfl ?_ | refine wExit rfl ?_ | refine wRet rfl ?_ | refine wCondT rfl rfl ?_ | refine wCondF rfl rfl ?_ | refine wOps rfl ?_ | refine wDraw rfl rfl ?_ | refine opsV_call rfl rfl (index_v hL _ _ _ _ hs hl) ?_ | simp only [seval, push_cast, ↓reduceIte, ↓bP_some, ↓aP_true, reduceCtorEq, hx, hy, q1, q2, h1, h2, ha, hb, iaQ_tl q1, iaQ_tl q2]))
        rw [e3, ha, hb, decide_eq_true (show (nx : Int) < l.length by omega), decide_eq_true (show (ny : Int) < l.length by omega)]
        exact FnQ.ret rfl rfl
      · (repeat' (first | refine wSeq rfl ?_ | refine wBlock rfl ?_ | refine wSkip rfl ?_ | refine wExit rfl ?_ | refine wRet rfl ?_ | refine wCondT rfl rfl ?_ | refine wCondF rfl rfl ?_ | refine wOps rfl ?_ | refine wDraw rfl rfl ?_ | refine opsV_call rfl rfl (index_v hL _ _ _ _ hs hl) ?_ | simp only [seval, push_cast, ↓reduceIte, ↓bP_some, ↓aP_true, reduceCtorEq, hx, hy, q1, q2, h1, h2]))
        rw [e3, decide_eq_false (show ¬ (ny : Int) < l.length by omega), Bool.and_false]
        exact FnQ.ret rfl rfl
    · (repeat' (first | refine wSeq rfl ?_ | refine wBlock rfl ?_ | refine wSkip rfl ?_ | refine wExit rfl ?_ | refine wRet rfl ?_ | refine wCondT rfl rfl ?_ | refine wCondF rfl rfl ?_ | refine wOps rfl ?_ | refine wDraw rfl rfl ?_ | refine opsV_call rfl rfl (index_v hL _ _ _ _ hs hl) ?_ | simp only [seval, push_cast, ↓reduceIte, ↓bP_some, ↓aP_true, reduceCtorEq, hx, hy, q1, h1, h2]))
      rw [e3, decide_eq_false (show ¬ (nx : Int) < l.length by omega)]
      exact FnQ.ret rfl rfl
  · (repeat' (first | refine wSeq rfl ?_ | refine wBlock rfl ?_ | refine wSkip rfl ?_ | refine wExit rfl ?_ | refine wRet rfl ?_ | refine wCondT rfl rfl ?_ | refine wCondF rfl rfl ?_ | refine wOps rfl ?_ | refine wDraw rfl rfl ?_ | refine opsV_call rfl rfl (index_v hL _ _ _ _ hs hl) ?_ | simp only [seval, push_cast, ↓reduceIte, ↓bP_some, ↓aP_true, reduceCtorEq, hx, hy, h1, h2, h3]))
    rw [show prefersL k l nx ny = false by unfold prefersL; rw [if_neg hxy, if_neg h1, if_neg h2, if_neg h3]]
    exact FnQ.ret rfl rfl
theorem same_v (k j : Int) (s t : Nat) (l m : List Int) (c d : Option Nat) (hs : s = 1 ∨ l = []) (ht : t = 1 ∨ m = []) (hl : l.length < 4611686018427387904) (hm : m.length < 4611686018427387904) : VFn L 17 [(.agg [.int .u8 k, tl mrow s (l) c]), (.agg [.int .u8 j, tl mrow t (m) d])] (.bool (sameL k l j m)) := by
  refine VFn.start (F := T17.1) (by rw [hL]; rfl) rfl rfl rfl ?_
  by_cases hk : k = j
  · subst hk
    (repeat' (first | refine wSeq rfl ?_ | refine wBlock rfl ?_ | refine wSkip rfl ?_ | refine wExit rfl ?_ | refine wRet rfl ?_ | refine wCondT rfl rfl ?_ | refine wCondF rfl rfl ?_ | refine wOps rfl ?_ | refine wDraw rfl rfl ?_ | refine opsV_call rfl rfl (equal_v hL _ _ _ _ _ _ hs ht hl hm) ?_ | simp only [seval, push_cast, ↓reduceIte, ↓bP_some, ↓aP_true, reduceCtorEq]))
    rw [show sameL k l k m = decide (l = m) by simp [sameL]]
    exact FnQ.ret rfl rfl
  · (repeat' (first | refine wSeq rfl ?_ | refine wBlock rfl ?_ | refine wSkip rfl ?_ | refine wExit rfl ?_ | refine wRet rfl ?_ | refine wCondT rfl rfl ?_ | refine wCondF rfl rfl ?_ | refine wOps rfl ?_ | refine wDraw rfl rfl ?_ | refine opsV_call rfl rfl (equal_v hL _ _ _ _ _ _ hs ht hl hm) ?_ | simp only [seval, push_cast, ↓reduceIte, ↓bP_some, ↓aP_true, reduceCtorEq, hk]))
    rw [show sameL k l j m = false by simp [sameL, hk]]
    exact FnQ.ret rfl rfl
theorem less_b_v (k j : Int) (s t : Nat) (l m : List Int) (c d : Option Nat) (hs : s = 1 ∨ l = []) (ht : t = 1 ∨ m = []) (hl : l.length < 4611686018427387904) (hm : m.length < 4611686018427387904) : VFn L 19 [(.agg [.int .u8 k, tl mrow s (l) c]), (.agg [.int .u8 j, tl mrow t (m) d])] (.bool (lessL k l j m)) := by
  refine VFn.start (F := T19.1) (by rw [hL]; rfl) rfl rfl rfl ?_
  by_cases hk : k = j
  · subst hk
    (repeat' (first | refine wSeq rfl ?_ | refine wBlock rfl ?_ | refine wSkip rfl ?_ | refine wExit rfl ?_ | refine wRet rfl ?_ | refine wCondT rfl rfl ?_ | refine wCondF rfl rfl ?_ | refine wOps rfl ?_ | refine wDraw rfl rfl ?_ | refine opsV_call rfl rfl (compare_v hL _ _ _ _ _ _ hs ht hl hm) ?_ | simp only [seval, push_cast, ↓reduceIte, ↓bP_some, ↓aP_true, reduceCtorEq]))
    rw [show lessL k l k m = decide (cmpL l m < 0) by simp [lessL, cmpL_ahead]]
    exact FnQ.ret rfl rfl
  · (repeat' (first | refine wSeq rfl ?_ | refine wBlock rfl ?_ | refine wSkip rfl ?_ | refine wExit rfl ?_ | refine wRet rfl ?_ | refine wCondT rfl rfl ?_ | refine wCondF rfl rfl ?_ | refine wOps rfl ?_ | refine wDraw rfl rfl ?_ | simp only [seval, push_cast, ↓reduceIte, ↓bP_some, ↓aP_true, reduceCtorEq, hk]))
    rw [show lessL k l j m = decide (k < j) by simp [lessL, hk]]
    exact FnQ.ret rfl rfl
end Go.Proofs.YtnhfbabenifbkaaGreatDoor
set_option maxRecDepth 100000
set_option maxHeartbeats 4000000
set_option linter.unusedVariables false
set_option linter.unusedSimpArgs false
namespace Go.Proofs.YtnhfbabenifbkaaGreatDoor
variable {L : Lib} (hL : L.T = tab.get)
include hL
theorem rplace_v (s : Nat) (l : List Int) (c : Option Nat) (x : Int) (hs : s = 1 ∨ l = []) (hl : l.length < 4611686018427387904) : VFn L 41 [tl mrow s l c, .int .i64 x] (.int .i64 (placeL l x)) := by
  refine VFn.start (F := T41.1) (by rw [hL]; rfl) rfl rfl rfl ?_
  (repeat' (first | refine wSeq rfl ?_ | refine wBlock rfl ?_ | refine wSkip rfl ?_ | refine wExit rfl ?_ | refine wRet rfl ?_ | refine wCondT rfl rfl ?_ | refine wCondF rfl rfl ?_ | refine wOps rfl ?_ | refine wDraw rfl rfl ?_ | simp only [seval, push_cast, ↓reduceIte, ↓bP_some, ↓aP_true, reduceCtorEq]))
  refine wCnt rfl 5 l.length (fun _ => []) (fun j => placeL l x = placeGo l x j) rfl (place_start l x) ?_ ?_
  · intro j hj hI
    obtain ⟨a, ha, _⟩ := get_of hj
    obtain rfl := size_of hs hj
    by_cases e : a = x
    · subst e
      (repeat' (first | refine wSeq rfl ?_ | refine wBlock rfl ?_ | refine wSkip rfl ?_ | refine wExit rfl ?_ | refine wRet rfl ?_ | refine wCondT rfl rfl ?_ | refine wCondF rfl rfl ?_ | refine wOps rfl ?_ | refine wDraw rfl rfl ?_ | simp only [seval, push_cast, ↓reduceIte, ↓bP_some, ↓aP_true, reduceCtorEq, iaQ_tl hj, ha, hj]))
      rw [hI, place_hit ha rfl]
      exact FnQ.ret rfl rfl
    · (repeat' (first | refine wSeq rfl ?_ | refine wBlock rfl ?_ | refine wSkip rfl ?_ | refine wExit rfl ?_ | refine wRet rfl ?_ | refine wCondT rfl rfl ?_ | refine wCondF rfl rfl ?_ | refine wOps rfl ?_ | refine wDraw rfl rfl ?_ | simp only [seval, push_cast, ↓reduceIte, ↓bP_some, ↓aP_true, reduceCtorEq, iaQ_tl hj, ha, hj, ne_both e, wrap_succ (show j < 9223372036854775807 by omega)]))
      exact qR_n rfl rfl (by rw [hI, place_miss ha e])
  · intro hI
    (repeat' (first | refine wSeq rfl ?_ | refine wBlock rfl ?_ | refine wSkip rfl ?_ | refine wExit rfl ?_ | refine wRet rfl ?_ | refine wCondT rfl rfl ?_ | refine wCondF rfl rfl ?_ | refine wOps rfl ?_ | refine wDraw rfl rfl ?_ | simp only [seval, push_cast, ↓reduceIte, ↓bP_some, ↓aP_true, reduceCtorEq]))
    rw [hI, place_end (by omega)]
    exact FnQ.ret rfl rfl
theorem ramong_v (k : Int) (s : Nat) (l : List Int) (c : Option Nat) : VFn L 37 [(.agg [.int .u8 k, tl mrow s (l) c])] (.int .i64 (amongL k l)) := by
  refine VFn.start (F := T37.1) (by rw [hL]; rfl) rfl rfl rfl ?_
  by_cases h : k = 3
  · subst h
    (repeat' (first | refine wSeq rfl ?_ | refine wBlock rfl ?_ | refine wSkip rfl ?_ | refine wExit rfl ?_ | refine wRet rfl ?_ | refine wCondT rfl rfl ?_ | refine wCondF rfl rfl ?_ | refine wOps rfl ?_ | refine wDraw rfl rfl ?_ | simp only [seval, push_cast, ↓reduceIte, ↓bP_some, ↓aP_true, reduceCtorEq]))
    exact FnQ.ret rfl rfl
  · (repeat' (first | refine wSeq rfl ?_ | refine wBlock rfl ?_ | refine wSkip rfl ?_ | refine wExit rfl ?_ | refine wRet rfl ?_ | refine wCondT rfl rfl ?_ | refine wCondF rfl rfl ?_ | refine wOps rfl ?_ | refine wDraw rfl rfl ?_ | simp only [seval, push_cast, ↓reduceIte, ↓bP_some, ↓aP_true, reduceCtorEq, h]))
    rw [show amongL k l = 10 from if_neg h]
    exact FnQ.ret rfl rfl
theorem rfine_v (k cands : Int) (s : Nat) (l : List Int) (c : Option Nat) (hs : s = 1 ∨ l = []) (hl : l.length < 4611686018427387904) : VFn L 40 [(.agg [.int .u8 k, tl mrow s (l) c]), .int .i64 cands] (.bool (fineL k l cands)) := by
  refine VFn.start (F := T40.1) (by rw [hL]; rfl) rfl rfl rfl ?_
  by_cases h3 : k = 3
  · subst h3
    (repeat' (first | refine wSeq rfl ?_ | refine wBlock rfl ?_ | refine wSkip rfl ?_ | refine wExit rfl ?_ | refine wRet rfl ?_ | refine wCondT rfl rfl ?_ | refine wCondF rfl rfl ?_ | refine wOps rfl ?_ | refine wDraw rfl rfl ?_ | simp only [seval, push_cast, ↓reduceIte, ↓bP_some, ↓aP_true, reduceCtorEq]))
    refine wCnt rfl 6 l.length (fun _ => []) (fun j => Fine3 l j) rfl (fine3_zero l) ?_ ?_
    · intro j hj hI
      obtain ⟨x, hx, _⟩ := get_of hj
      obtain rfl := size_of hs hj
      by_cases q1 : x < 0
      · (repeat' (first | refine wSeq rfl ?_ | refine wBlock rfl ?_ | refine wSkip rfl ?_ | refine wExit rfl ?_ | refine wRet rfl ?_ | refine wCondT rfl rfl ?_ | refine wCondF rfl rfl ?_ | refine wOps rfl ?_ | refine wDraw rfl rfl ?_ | simp only [seval, push_cast, ↓reduceIte, ↓bP_some, ↓aP_true, reduceCtorEq, iaQ_tl hj, hx, hj, q1]))
        rw [fine3_out hx (by omega)]
        exact FnQ.ret rfl rfl
      by_cases q2 : 10 < x
      · (repeat' (first | refine wSeq rfl ?_ | refine wBlock rfl ?_ | refine wSkip rfl ?_ | refine wExit rfl ?_ | refine wRet rfl ?_ | refine wCondT rfl rfl ?_ | refine wCondF rfl rfl ?_ | refine wOps rfl ?_ | refine wDraw rfl rfl ?_ | simp only [seval, push_cast, ↓reduceIte, ↓bP_some, ↓aP_true, reduceCtorEq, iaQ_tl hj, hx, hj, q1, q2]))
        rw [fine3_out hx (by omega)]
        exact FnQ.ret rfl rfl
      · (repeat' (first | refine wSeq rfl ?_ | refine wBlock rfl ?_ | refine wSkip rfl ?_ | refine wExit rfl ?_ | refine wRet rfl ?_ | refine wCondT rfl rfl ?_ | refine wCondF rfl rfl ?_ | refine wOps rfl ?_ | refine wDraw rfl rfl ?_ | simp only [seval, push_cast, ↓reduceIte, ↓bP_some, ↓aP_true, reduceCtorEq, iaQ_tl hj, hx, hj, q1, q2, wrap_succ (show j < 9223372036854775807 by omega)]))
        exact qR_n rfl rfl (fine3_step hI hx (by omega) (by omega))
    · intro hI
      (repeat' (first | refine wSeq rfl ?_ | refine wBlock rfl ?_ | refine wSkip rfl ?_ | refine wExit rfl ?_ | refine wRet rfl ?_ | refine wCondT rfl rfl ?_ | refine wCondF rfl rfl ?_ | refine wOps rfl ?_ | refine wDraw rfl rfl ?_ | simp only [seval, push_cast, ↓reduceIte, ↓bP_some, ↓aP_true, reduceCtorEq]))
      rw [fine3_ok hI (by omega)]
      exact FnQ.ret rfl rfl
  · by_cases h1 : k = 1
    · subst h1
      (repeat' (first | refine wSeq rfl ?_ | refine wBlock rfl ?_ | refine wSkip rfl ?_ | refine wExit rfl ?_ | refine wRet rfl ?_ | refine wCondT rfl rfl ?_ | refine wCondF rfl rfl ?_ | refine wOps rfl ?_ | refine wDraw rfl rfl ?_ | simp only [seval, push_cast, ↓reduceIte, ↓bP_some, ↓aP_true, reduceCtorEq]))
      refine wCnt rfl 7 l.length (fun _ => []) (fun j => Fine1 l cands j) rfl (fine1_zero l cands) ?_ ?_
      · intro j hj hI
        obtain ⟨x, hx, _⟩ := get_of hj
        obtain rfl := size_of hs hj
        by_cases q1 : x < 0
        · (repeat' (first | refine wSeq rfl ?_ | refine wBlock rfl ?_ | refine wSkip rfl ?_ | refine wExit rfl ?_ | refine wRet rfl ?_ | refine wCondT rfl rfl ?_ | refine wCondF rfl rfl ?_ | refine wOps rfl ?_ | refine wDraw rfl rfl ?_ | simp only [seval, push_cast, ↓reduceIte, ↓bP_some, ↓aP_true, reduceCtorEq, iaQ_tl hj, hx, hj, q1]))
          rw [fine1_out hx (by omega)]
          exact FnQ.ret rfl rfl
        by_cases q2 : cands ≤ x
        · (repeat' (first | refine wSeq rfl ?_ | refine wBlock rfl ?_ | refine wSkip rfl ?_ | refine wExit rfl ?_ | refine wRet rfl ?_ | refine wCondT rfl rfl ?_ | refine wCondF rfl rfl ?_ | refine wOps rfl ?_ | refine wDraw rfl rfl ?_ | simp only [seval, push_cast, ↓reduceIte, ↓bP_some, ↓aP_true, reduceCtorEq, iaQ_tl hj, hx, hj, q1, q2]))
          rw [fine1_out hx (by omega)]
          exact FnQ.ret rfl rfl
        have hlj : (l.take j).length < 4611686018427387904 := by rw [List.length_take]; omega
        by_cases q3 : 0 ≤ placeL (l.take j) x
        · by_cases q4 : 0 < j
          all_goals
            (repeat' (first | refine wSeq rfl ?_ | refine wBlock rfl ?_ | refine wSkip rfl ?_ | refine wExit rfl ?_ | refine wRet rfl ?_ | refine wCondT rfl rfl ?_ | refine wCondF rfl rfl ?_ | refine wOps rfl ?_ | refine wDraw rfl rfl ?_ | refine opsV_call rfl rfl (rplace_v hL 1 _ _ _ (.inl rfl) hlj) ?_ | simp only [seval, push_cast, ↓reduceIte, ↓bP_some, ↓aP_true, reduceCtorEq, iaQ_tl hj, hx, hj, q1, q2, q3, q4, Int.natCast_pos, sliceV_hi one_ok (Nat.le_of_lt hj)]))
            rw [fine1_dup hx q3]
            exact FnQ.ret rfl rfl
        · by_cases q4 : 0 < j
          all_goals
            (repeat' (first | refine wSeq rfl ?_ | refine wBlock rfl ?_ | refine wSkip rfl ?_ | refine wExit rfl ?_ | refine wRet rfl ?_ | refine wCondT rfl rfl ?_ | refine wCondF rfl rfl ?_ | refine wOps rfl ?_ | refine wDraw rfl rfl ?_ | refine opsV_call rfl rfl (rplace_v hL 1 _ _ _ (.inl rfl) hlj) ?_ | simp only [seval, push_cast, ↓reduceIte, ↓bP_some, ↓aP_true, reduceCtorEq, iaQ_tl hj, hx, hj, q1, q2, q3, q4, Int.natCast_pos, wrap_succ (show j < 9223372036854775807 by omega), sliceV_hi one_ok (Nat.le_of_lt hj)]))
            exact qR_n rfl rfl (fine1_step hI hx (by omega) (by omega) (by omega))
      · intro hI
        (repeat' (first | refine wSeq rfl ?_ | refine wBlock rfl ?_ | refine wSkip rfl ?_ | refine wExit rfl ?_ | refine wRet rfl ?_ | refine wCondT rfl rfl ?_ | refine wCondF rfl rfl ?_ | refine wOps rfl ?_ | refine wDraw rfl rfl ?_ | simp only [seval, push_cast, ↓reduceIte, ↓bP_some, ↓aP_true, reduceCtorEq]))
        rw [fine1_ok hI (by omega)]
        exact FnQ.ret rfl rfl
    · by_cases h2 : k = 2
      · subst h2
        (repeat' (first | refine wSeq rfl ?_ | refine wBlock rfl ?_ | refine wSkip rfl ?_ | refine wExit rfl ?_ | refine wRet rfl ?_ | refine wCondT rfl rfl ?_ | refine wCondF rfl rfl ?_ | refine wOps rfl ?_ | refine wDraw rfl rfl ?_ | simp only [seval, push_cast, ↓reduceIte, ↓bP_some, ↓aP_true, reduceCtorEq]))
        refine wCnt rfl 7 l.length (fun _ => []) (fun j => Fine2 l cands j) rfl (fine2_zero l cands) ?_ ?_
        · intro j hj hI
          obtain ⟨x, hx, _⟩ := get_of hj
          obtain rfl := size_of hs hj
          by_cases q1 : x < 0
          · (repeat' (first | refine wSeq rfl ?_ | refine wBlock rfl ?_ | refine wSkip rfl ?_ | refine wExit rfl ?_ | refine wRet rfl ?_ | refine wCondT rfl rfl ?_ | refine wCondF rfl rfl ?_ | refine wOps rfl ?_ | refine wDraw rfl rfl ?_ | simp only [seval, push_cast, ↓reduceIte, ↓bP_some, ↓aP_true, reduceCtorEq, iaQ_tl hj, hx, hj, q1]))
            rw [fine2_out hx (by omega)]
            exact FnQ.ret rfl rfl
          by_cases q2 : cands ≤ x
          · (repeat' (first | refine wSeq rfl ?_ | refine wBlock rfl ?_ | refine wSkip rfl ?_ | refine wExit rfl ?_ | refine wRet rfl ?_ | refine wCondT rfl rfl ?_ | refine wCondF rfl rfl ?_ | refine wOps rfl ?_ | refine wDraw rfl rfl ?_ | simp only [seval, push_cast, ↓reduceIte, ↓bP_some, ↓aP_true, reduceCtorEq, iaQ_tl hj, hx, hj, q1, q2]))
            rw [fine2_out hx (by omega)]
            exact FnQ.ret rfl rfl
          have hlj : (l.take j).length < 4611686018427387904 := by rw [List.length_take]; omega
          by_cases q4 : 0 < j
          · obtain ⟨i, rfl⟩ : ∃ i, j = i + 1 := ⟨j - 1, by omega⟩
            have hi : i < l.length := by omega
            obtain ⟨y, hy, _⟩ := get_of hi
            have e1 : IntKind.i64.wrap (i : Int) = i := wrap_nat (by omega)
            have e2 : (0 : Int) < (i : Int) + 1 := by omega
            have e3 : IntKind.i64.wrap ((i : Int) + 1 + 1) = (i : Int) + 1 + 1 := wrap_succ (j := i + 1) (by omega)
            have e4 : (i : Int) + 1 < l.length := by omega
            by_cases q5 : x ≤ y
            · (repeat' (first | refine wSeq rfl ?_ | refine wBlock rfl ?_ | refine wSkip rfl ?_ | refine wExit rfl ?_ | refine wRet rfl ?_ | refine wCondT rfl rfl ?_ | refine wCondF rfl rfl ?_ | refine wOps rfl ?_ | refine wDraw rfl rfl ?_ | simp only [seval, push_cast, ↓reduceIte, ↓bP_some, ↓aP_true, reduceCtorEq, iaQ_tl hj, iaQ_tl hi, hx, hy, hj, q1, q2, q5, e1, e2, e4]))
              rw [fine2_low hy hx q5]
              exact FnQ.ret rfl rfl
            · have hab := fine2_above (x := x) hI hy (by omega)
              have hno := fine2_none (x := x) hab
              have q3 : ¬ 0 ≤ placeL (l.take (i + 1)) x := by omega
              (repeat' (first | refine wSeq rfl ?_ | refine wBlock rfl ?_ | refine wSkip rfl ?_ | refine wExit rfl ?_ | refine wRet rfl ?_ | refine wCondT rfl rfl ?_ | refine wCondF rfl rfl ?_ | refine wOps rfl ?_ | refine wDraw rfl rfl ?_ | refine opsV_call rfl rfl (rplace_v hL 1 _ _ _ (.inl rfl) hlj) ?_ | simp only [seval, push_cast, ↓reduceIte, ↓bP_some, ↓aP_true, reduceCtorEq, iaQ_tl hj, iaQ_tl hi, hx, hy, hj, q1, q2, q3, q5, e1, e2, e3, e4, sliceV_hi one_ok (Nat.le_of_lt hj)]))
              exact qR_n rfl rfl (fine2_step hI hx (by omega) (by omega) hab)
          · obtain rfl : j = 0 := by omega
            have q3 : ¬ 0 ≤ placeL (l.take 0) x := by simp [placeL]
            have e2 : (0 : Int) < l.length := by omega
            (repeat' (first | refine wSeq rfl ?_ | refine wBlock rfl ?_ | refine wSkip rfl ?_ | refine wExit rfl ?_ | refine wRet rfl ?_ | refine wCondT rfl rfl ?_ | refine wCondF rfl rfl ?_ | refine wOps rfl ?_ | refine wDraw rfl rfl ?_ | refine opsV_call rfl rfl (rplace_v hL 1 _ _ _ (.inl rfl) hlj) ?_ | simp only [seval, push_cast, ↓reduceIte, ↓bP_some, ↓aP_true, reduceCtorEq, iaQ_tl hj, hx, hj, q1, q2, q3, e2, sliceV_hi one_ok (Nat.le_of_lt hj)]))
            exact qR_n rfl rfl (fine2_step hI hx (by omega) (by omega) (by simp))
        · intro hI
          (repeat' (first | refine wSeq rfl ?_ | refine wBlock rfl ?_ | refine wSkip rfl ?_ | refine wExit rfl ?_ | refine wRet rfl ?_ | refine wCondT rfl rfl ?_ | refine wCondF rfl rfl ?_ | refine wOps rfl ?_ | refine wDraw rfl rfl ?_ | simp only [seval, push_cast, ↓reduceIte, ↓bP_some, ↓aP_true, reduceCtorEq]))
          rw [fine2_ok hI (by omega)]
          exact FnQ.ret rfl rfl
      · (repeat' (first | refine wSeq rfl ?_ | refine wBlock rfl ?_ | refine wSkip rfl ?_ | refine wExit rfl ?_ | refine wRet rfl ?_ | refine wCondT rfl rfl ?_ | refine wCondF rfl rfl ?_ | refine wOps rfl ?_ | refine wDraw rfl rfl ?_ | simp only [seval, push_cast, ↓reduceIte, ↓bP_some, ↓aP_true, reduceCtorEq, h1, h2, h3]))
        rw [fine_else h1 h2 h3]
        exact FnQ.ret rfl rfl
theorem rcheck_v (k cands : Int) (s : Nat) (l : List Int) (c : Option Nat) (hs : s = 1 ∨ l = []) (hl : l.length < 4611686018427387904) : VFn L 14 [(.agg [.int .u8 k, tl mrow s (l) c]), .int .i64 cands] (.int .i64 (checkL k l cands)) := by
  refine VFn.start (F := T14.1) (by rw [hL]; rfl) rfl rfl rfl ?_
  by_cases ha : cands < 1
  · (repeat' (first | refine wSeq rfl ?_ | refine wBlock rfl ?_ | refine wSkip rfl ?_ | refine wExit rfl ?_ | refine wRet rfl ?_ | refine wCondT rfl rfl ?_ | refine wCondF rfl rfl ?_ | refine wOps rfl ?_ | refine wDraw rfl rfl ?_ | simp only [seval, push_cast, ↓reduceIte, ↓bP_some, ↓aP_true, reduceCtorEq, ha]))
    rw [show checkL k l cands = 2 by unfold checkL; rw [if_pos (.inl ha)]]
    exact FnQ.ret rfl rfl
  by_cases hb : 10 < cands
  · (repeat' (first | refine wSeq rfl ?_ | refine wBlock rfl ?_ | refine wSkip rfl ?_ | refine wExit rfl ?_ | refine wRet rfl ?_ | refine wCondT rfl rfl ?_ | refine wCondF rfl rfl ?_ | refine wOps rfl ?_ | refine wDraw rfl rfl ?_ | simp only [seval, push_cast, ↓reduceIte, ↓bP_some, ↓aP_true, reduceCtorEq, ha, hb]))
    rw [show checkL k l cands = 2 by unfold checkL; rw [if_pos (.inr hb)]]
    exact FnQ.ret rfl rfl
  cases hf : fineL k l cands with
  | false =>
    (repeat' (first | refine wSeq rfl ?_ | refine wBlock rfl ?_ | refine wSkip rfl ?_ | refine wExit rfl ?_ | refine wRet rfl ?_ | refine wCondT rfl rfl ?_ | refine wCondF rfl rfl ?_ | refine wOps rfl ?_ | refine wDraw rfl rfl ?_ | refine opsV_call rfl rfl (rfine_v hL _ _ _ _ _ hs hl) ?_ | simp only [seval, push_cast, ↓reduceIte, ↓bP_some, ↓aP_true, reduceCtorEq, ha, hb, hf]))
    rw [show checkL k l cands = 8 by unfold checkL; rw [if_neg (by omega), if_pos hf]]
    exact FnQ.ret rfl rfl
  | true =>
    (repeat' (first | refine wSeq rfl ?_ | refine wBlock rfl ?_ | refine wSkip rfl ?_ | refine wExit rfl ?_ | refine wRet rfl ?_ | refine wCondT rfl rfl ?_ | refine wCondF rfl rfl ?_ | refine wOps rfl ?_ | refine wDraw rfl rfl ?_ | refine opsV_call rfl rfl (rfine_v hL _ _ _ _ _ hs hl) ?_ | simp only [seval, push_cast, ↓reduceIte, ↓bP_some, ↓aP_true, reduceCtorEq, ha, hb, hf]))
    rw [show checkL k l cands = 0 by unfold checkL; rw [if_neg (by omega), if_neg (by rw [hf]; simp)]]
    exact FnQ.ret rfl rfl
theorem rints_v (s t : Nat) (l m : List Int) (c d : Option Nat) (hs : s = 1 ∨ l = []) (ht : t = 1 ∨ m = []) (hl : l.length < 4611686018427387904) (hm : m.length < 4611686018427387904) : VFn L 29 [tl mrow s l c, tl mrow t m d] (.bool (decide (l = m))) := by
  refine VFn.start (F := T29.1) (by rw [hL]; rfl) rfl rfl rfl ?_
  by_cases hlen : l.length = m.length
  · (repeat' (first | refine wSeq rfl ?_ | refine wBlock rfl ?_ | refine wSkip rfl ?_ | refine wExit rfl ?_ | refine wRet rfl ?_ | refine wCondT rfl rfl ?_ | refine wCondF rfl rfl ?_ | refine wOps rfl ?_ | refine wDraw rfl rfl ?_ | simp only [seval, push_cast, ↓reduceIte, ↓bP_some, ↓aP_true, reduceCtorEq, hlen]))
    refine wCnt rfl 5 l.length (fun _ => []) (fun j => l.take j = m.take j) rfl rfl ?_ ?_
    · intro j hj hI
      obtain ⟨a, ha, _⟩ := get_of hj
      obtain ⟨b, hb, _⟩ := get_of (show j < m.length by omega)
      obtain rfl := size_of hs hj
      obtain rfl := size_of ht (show j < m.length by omega)
      by_cases e : a = b
      · subst e
        (repeat' (first | refine wSeq rfl ?_ | refine wBlock rfl ?_ | refine wSkip rfl ?_ | refine wExit rfl ?_ | refine wRet rfl ?_ | refine wCondT rfl rfl ?_ | refine wCondF rfl rfl ?_ | refine wOps rfl ?_ | refine wDraw rfl rfl ?_ | simp only [seval, push_cast, ↓reduceIte, ↓bP_some, ↓aP_true, reduceCtorEq, iaQ_tl hj, iaQ_tl (show j < m.length by omega), ha, hb, hj, wrap_succ (show j < 9223372036854775807 by omega)]))
        exact qR_n rfl rfl (by rw [take_snoc ha, take_snoc hb, hI])
      · (repeat' (first | refine wSeq rfl ?_ | refine wBlock rfl ?_ | refine wSkip rfl ?_ | refine wExit rfl ?_ | refine wRet rfl ?_ | refine wCondT rfl rfl ?_ | refine wCondF rfl rfl ?_ | refine wOps rfl ?_ | refine wDraw rfl rfl ?_ | simp only [seval, push_cast, ↓reduceIte, ↓bP_some, ↓aP_true, reduceCtorEq, iaQ_tl hj, iaQ_tl (show j < m.length by omega), ha, hb, hj, ne_both e]))
        rw [show decide (l = m) = false from decide_eq_false fun h => e (by subst h; rw [ha] at hb; cases hb; rfl)]
        exact FnQ.ret rfl rfl
    · intro hI
      (repeat' (first | refine wSeq rfl ?_ | refine wBlock rfl ?_ | refine wSkip rfl ?_ | refine wExit rfl ?_ | refine wRet rfl ?_ | refine wCondT rfl rfl ?_ | refine wCondF rfl rfl ?_ | refine wOps rfl ?_ | refine wDraw rfl rfl ?_ | simp only [seval, push_cast, ↓reduceIte, ↓bP_some, ↓aP_true, reduceCtorEq, hlen]))
      rw [show decide (l = m) = true from decide_eq_true (by rwa [take_all, hlen, take_all] at hI)]
      exact FnQ.ret rfl rfl
  · (repeat' (first | refine wSeq rfl ?_ | refine wBlock rfl ?_ | refine wSkip rfl ?_ | refine wExit rfl ?_ | refine wRet rfl ?_ | refine wCondT rfl rfl ?_ | refine wCondF rfl rfl ?_ | refine wOps rfl ?_ | refine wDraw rfl rfl ?_ | simp only [seval, push_cast, ↓reduceIte, ↓bP_some, ↓aP_true, reduceCtorEq, hlen]))
    rw [show decide (l = m) = false from decide_eq_false fun h => hlen (by rw [h])]
    exact FnQ.ret rfl rfl
theorem rsame_v (k j : Int) (s t : Nat) (l m : List Int) (c d : Option Nat) (hs : s = 1 ∨ l = []) (ht : t = 1 ∨ m = []) (hl : l.length < 4611686018427387904) (hm : m.length < 4611686018427387904) : VFn L 18 [(.agg [.int .u8 k, tl mrow s (l) c]), (.agg [.int .u8 j, tl mrow t (m) d])] (.bool (sameL k l j m)) := by
  refine VFn.start (F := T18.1) (by rw [hL]; rfl) rfl rfl rfl ?_
  by_cases hk : k = j
  · subst hk
    (repeat' (first | refine wSeq rfl ?_ | refine wBlock rfl ?_ | refine wSkip rfl ?_ | refine wExit rfl ?_ | refine wRet rfl ?_ | refine wCondT rfl rfl ?_ | refine wCondF rfl rfl ?_ | refine wOps rfl ?_ | refine wDraw rfl rfl ?_ | refine opsV_call rfl rfl (rints_v hL _ _ _ _ _ _ hs ht hl hm) ?_ | simp only [seval, push_cast, ↓reduceIte, ↓bP_some, ↓aP_true, reduceCtorEq]))
    rw [show sameL k l k m = decide (l = m) by simp [sameL]]
    exact FnQ.ret rfl rfl
  · (repeat' (first | refine wSeq rfl ?_ | refine wBlock rfl ?_ | refine wSkip rfl ?_ | refine wExit rfl ?_ | refine wRet rfl ?_ | refine wCondT rfl rfl ?_ | refine wCondF rfl rfl ?_ | refine wOps rfl ?_ | refine wDraw rfl rfl ?_ | refine opsV_call rfl rfl (rints_v hL _ _ _ _ _ _ hs ht hl hm) ?_ | simp only [seval, push_cast, ↓reduceIte, ↓bP_some, ↓aP_true, reduceCtorEq, hk]))
    rw [show sameL k l j m = false by simp [sameL, hk]]
    exact FnQ.ret rfl rfl
theorem rahead_v (s t : Nat) (l m : List Int) (c d : Option Nat) (hs : s = 1 ∨ l = []) (ht : t = 1 ∨ m = []) (hl : l.length < 4611686018427387904) (hm : m.length < 4611686018427387904) : VFn L 44 [tl mrow s l c, tl mrow t m d] (.bool (aheadL l m)) := by
  refine VFn.start (F := T44.1) (by rw [hL]; rfl) rfl rfl rfl ?_
  (repeat' (first | refine wSeq rfl ?_ | refine wBlock rfl ?_ | refine wSkip rfl ?_ | refine wExit rfl ?_ | refine wRet rfl ?_ | refine wCondT rfl rfl ?_ | refine wCondF rfl rfl ?_ | refine wOps rfl ?_ | refine wDraw rfl rfl ?_ | simp only [seval, push_cast, ↓reduceIte, ↓bP_some, ↓aP_true, reduceCtorEq]))
  refine wWhile rfl (fun j : Nat => [(0, tl mrow s l c), (1, tl mrow t m d), (5, V.int IntKind.i64 j)]) (fun _ => []) (fun j => l.length - j) (fun j => j ≤ l.length ∧ j ≤ m.length ∧ aheadL l m = aheadL (l.drop j) (m.drop j)) 0 rfl rfl ⟨by omega, by omega, rfl⟩ ?_
  rintro j ⟨hjl, hjm, hI⟩
  by_cases hj : j < l.length
  · obtain ⟨a, ha, _⟩ := get_of hj
    obtain rfl := size_of hs hj
    by_cases hm' : j < m.length
    · obtain ⟨b, hb, _⟩ := get_of hm'
      obtain rfl := size_of ht hm'
      by_cases e : a = b
      · subst e
        (repeat' (first | refine wSeq rfl ?_ | refine wBlock rfl ?_ | refine wSkip rfl ?_ | refine wExit rfl ?_ | refine wRet rfl ?_ | refine wCondT rfl rfl ?_ | refine wCondF rfl rfl ?_ | refine wOps rfl ?_ | refine wDraw rfl rfl ?_ | simp only [seval, push_cast, ↓reduceIte, ↓bP_some, ↓aP_true, reduceCtorEq, iaQ_tl hj, iaQ_tl hm', ha, hb, hj, hm', wrap_succ (show j < 9223372036854775807 by omega)]))
        exact qW_n (j + 1) rfl rfl ⟨by omega, by omega, by omega, by rw [hI, drop_at ha, drop_at hb]; exact if_pos rfl⟩
      · (repeat' (first | refine wSeq rfl ?_ | refine wBlock rfl ?_ | refine wSkip rfl ?_ | refine wExit rfl ?_ | refine wRet rfl ?_ | refine wCondT rfl rfl ?_ | refine wCondF rfl rfl ?_ | refine wOps rfl ?_ | refine wDraw rfl rfl ?_ | simp only [seval, push_cast, ↓reduceIte, ↓bP_some, ↓aP_true, reduceCtorEq, iaQ_tl hj, iaQ_tl hm', ha, hb, hj, hm', ne_both e]))
        rw [show aheadL l m = decide (a < b) by rw [hI, drop_at ha, drop_at hb]; exact if_neg e]
        exact FnQ.ret rfl rfl
    · have hlt : ¬ l.length < m.length := by omega
      (repeat' (first | refine wSeq rfl ?_ | refine wBlock rfl ?_ | refine wSkip rfl ?_ | refine wExit rfl ?_ | refine wRet rfl ?_ | refine wCondT rfl rfl ?_ | refine wCondF rfl rfl ?_ | refine wOps rfl ?_ | refine wDraw rfl rfl ?_ | simp only [seval, push_cast, ↓reduceIte, ↓bP_some, ↓aP_true, reduceCtorEq, hj, hm', hlt]))
      rw [show aheadL l m = false by rw [hI, drop_at ha, List.drop_eq_nil_of_le (show m.length ≤ j by omega)]; rfl]
      exact FnQ.ret rfl rfl
  · by_cases hm' : j < m.length
    · obtain ⟨b, hb, _⟩ := get_of hm'
      have hlt : l.length < m.length := by omega
      (repeat' (first | refine wSeq rfl ?_ | refine wBlock rfl ?_ | refine wSkip rfl ?_ | refine wExit rfl ?_ | refine wRet rfl ?_ | refine wCondT rfl rfl ?_ | refine wCondF rfl rfl ?_ | refine wOps rfl ?_ | refine wDraw rfl rfl ?_ | simp only [seval, push_cast, ↓reduceIte, ↓bP_some, ↓aP_true, reduceCtorEq, hj, hlt]))
      rw [show aheadL l m = true by rw [hI, drop_at hb, List.drop_eq_nil_of_le (show l.length ≤ j by omega)]; rfl]
      exact FnQ.ret rfl rfl
    · have hlt : ¬ l.length < m.length := by omega
      (repeat' (first | refine wSeq rfl ?_ | refine wBlock rfl ?_ | refine wSkip rfl ?_ | refine wExit rfl ?_ | refine wRet rfl ?_ | refine wCondT rfl rfl ?_ | refine wCondF rfl rfl ?_ | refine wOps rfl ?_ | refine wDraw rfl rfl ?_ | simp only [seval, push_cast, ↓reduceIte, ↓bP_some, ↓aP_true, reduceCtorEq, hj, hlt]))
      rw [show aheadL l m = false by rw [hI, List.drop_eq_nil_of_le (show l.length ≤ j by omega), List.drop_eq_nil_of_le (show m.length ≤ j by omega)]; rfl]
      exact FnQ.ret rfl rfl
theorem rless_v (k j : Int) (s t : Nat) (l m : List Int) (c d : Option Nat) (hs : s = 1 ∨ l = []) (ht : t = 1 ∨ m = []) (hl : l.length < 4611686018427387904) (hm : m.length < 4611686018427387904) : VFn L 20 [(.agg [.int .u8 k, tl mrow s (l) c]), (.agg [.int .u8 j, tl mrow t (m) d])] (.bool (lessL k l j m)) := by
  refine VFn.start (F := T20.1) (by rw [hL]; rfl) rfl rfl rfl ?_
  by_cases h1 : k < j
  · (repeat' (first | refine wSeq rfl ?_ | refine wBlock rfl ?_ | refine wSkip rfl ?_ | refine wExit rfl ?_ | refine wRet rfl ?_ | refine wCondT rfl rfl ?_ | refine wCondF rfl rfl ?_ | refine wOps rfl ?_ | refine wDraw rfl rfl ?_ | simp only [seval, push_cast, ↓reduceIte, ↓bP_some, ↓aP_true, reduceCtorEq, h1]))
    rw [show lessL k l j m = true by simp [lessL, h1]]
    exact FnQ.ret rfl rfl
  by_cases hk : k = j
  · subst hk
    (repeat' (first | refine wSeq rfl ?_ | refine wBlock rfl ?_ | refine wSkip rfl ?_ | refine wExit rfl ?_ | refine wRet rfl ?_ | refine wCondT rfl rfl ?_ | refine wCondF rfl rfl ?_ | refine wOps rfl ?_ | refine wDraw rfl rfl ?_ | refine opsV_call rfl rfl (rahead_v hL _ _ _ _ _ _ hs ht hl hm) ?_ | simp only [seval, push_cast, ↓reduceIte, ↓bP_some, ↓aP_true, reduceCtorEq, h1]))
    rw [show lessL k l k m = aheadL l m by simp [lessL]]
    exact FnQ.ret rfl rfl
  · (repeat' (first | refine wSeq rfl ?_ | refine wBlock rfl ?_ | refine wSkip rfl ?_ | refine wExit rfl ?_ | refine wRet rfl ?_ | refine wCondT rfl rfl ?_ | refine wCondF rfl rfl ?_ | refine wOps rfl ?_ | refine wDraw rfl rfl ?_ | refine opsV_call rfl rfl (rahead_v hL _ _ _ _ _ _ hs ht hl hm) ?_ | simp only [seval, push_cast, ↓reduceIte, ↓bP_some, ↓aP_true, reduceCtorEq, h1, hk]))
    rw [show lessL k l j m = false by simp [lessL, h1, hk]]
    exact FnQ.ret rfl rfl
theorem rgreat_v (k : Int) (s : Nat) (l : List Int) (c : Option Nat) : VFn L 32 [(.agg [.int .u8 k, tl mrow s (l) c])] (.bool (decide (60 < l.length))) := by
  refine VFn.start (F := T32.1) (by rw [hL]; rfl) rfl rfl rfl ?_
  (repeat' (first | refine wSeq rfl ?_ | refine wBlock rfl ?_ | refine wSkip rfl ?_ | refine wExit rfl ?_ | refine wRet rfl ?_ | refine wCondT rfl rfl ?_ | refine wCondF rfl rfl ?_ | refine wOps rfl ?_ | refine wDraw rfl rfl ?_ | simp only [seval, push_cast, ↓reduceIte, ↓bP_some, ↓aP_true, reduceCtorEq]))
  rw [show decide (60 < l.length) = decide ((60 : Int) < l.length) from decide_eq_decide.2 (by omega)]
  exact FnQ.ret rfl rfl
theorem rprefers_v (k : Int) (s : Nat) (l : List Int) (c : Option Nat) (x y : Int) (hs : s = 1 ∨ l = []) (hl : l.length < 4611686018427387904) : VFn L 16 [(.agg [.int .u8 k, tl mrow s (l) c]), .int .i64 x, .int .i64 y] (.bool (prefersL k l x y)) := by
  refine VFn.start (F := T16.1) (by rw [hL]; rfl) rfl rfl rfl ?_
  by_cases hx : x < 0
  · (repeat' (first | refine wSeq rfl ?_ | refine wBlock rfl ?_ | refine wSkip rfl ?_ | refine wExit rfl ?_ | refine wRet rfl ?_ | refine wCondT rfl rfl ?_ | refine wCondF rfl rfl ?_ | refine wOps rfl ?_ | refine wDraw rfl rfl ?_ | simp only [seval, push_cast, ↓reduceIte, ↓bP_some, ↓aP_true, reduceCtorEq, hx]))
    rw [show prefersL k l x y = false by unfold prefersL; rw [if_pos (.inl hx)]]
    exact FnQ.ret rfl rfl
  by_cases hy : y < 0
  · (repeat' (first | refine wSeq rfl ?_ | refine wBlock rfl ?_ | refine wSkip rfl ?_ | refine wExit rfl ?_ | refine wRet rfl ?_ | refine wCondT rfl rfl ?_ | refine wCondF rfl rfl ?_ | refine wOps rfl ?_ | refine wDraw rfl rfl ?_ | simp only [seval, push_cast, ↓reduceIte, ↓bP_some, ↓aP_true, reduceCtorEq, hx, hy]))
    rw [show prefersL k l x y = false by unfold prefersL; rw [if_pos (.inr hy)]]
    exact FnQ.ret rfl rfl
  have hxy : ¬ (x < 0 ∨ y < 0) := by omega
  obtain ⟨nx, rfl⟩ : ∃ n : Nat, x = n := ⟨x.toNat, by omega⟩
  obtain ⟨ny, rfl⟩ : ∃ n : Nat, y = n := ⟨y.toNat, by omega⟩
  by_cases h1 : k = 1
  · subst h1
    by_cases q1 : 0 ≤ placeL l nx
    · by_cases q2 : placeL l ny < 0
      · (repeat' (first | refine wSeq rfl ?_ | refine wBlock rfl ?_ | refine wSkip rfl ?_ | refine wExit rfl ?_ | refine wRet rfl ?_ | refine wCondT rfl rfl ?_ | refine wCondF rfl rfl ?_ | refine wOps rfl ?_ | refine wDraw rfl rfl ?_ | refine opsV_call rfl rfl (rplace_v hL _ _ _ _ hs hl) ?_ | simp only [seval, push_cast, ↓reduceIte, ↓bP_some, ↓aP_true, reduceCtorEq, hx, hy, q1, q2]))
        rw [show prefersL 1 l nx ny = true by unfold prefersL; rw [if_neg hxy, if_pos rfl]; simp [q1, q2]]
        exact FnQ.ret rfl rfl
      · (repeat' (first | refine wSeq rfl ?_ | refine wBlock rfl ?_ | refine wSkip rfl ?_ | refine wExit rfl ?_ | refine wRet rfl ?_ | refine wCondT rfl rfl ?_ | refine wCondF rfl rfl ?_ | refine wOps rfl ?_ | refine wDraw rfl rfl ?_ | refine opsV_call rfl rfl (rplace_v hL _ _ _ _ hs hl) ?_ | simp only [seval, push_cast, ↓reduceIte, ↓bP_some, ↓aP_true, reduceCtorEq, hx, hy, q1, q2]))
        rw [show prefersL 1 l nx ny = decide (placeL l nx < placeL l ny) by unfold prefersL; rw [if_neg hxy, if_pos rfl]; simp [q1, q2]]
        exact FnQ.ret rfl rfl
    · (repeat' (first | refine wSeq rfl ?_ | refine wBlock rfl ?_ | refine wSkip rfl ?_ | refine wExit rfl ?_ | refine wRet rfl ?_ | refine wCondT rfl rfl ?_ | refine wCondF rfl rfl ?_ | refine wOps rfl ?_ | refine wDraw rfl rfl ?_ | refine opsV_call rfl rfl (rplace_v hL _ _ _ _ hs hl) ?_ | simp only [seval, push_cast, ↓reduceIte, ↓bP_some, ↓aP_true, reduceCtorEq, hx, hy, q1]))
      rw [show prefersL 1 l nx ny = false by unfold prefersL; rw [if_neg hxy, if_pos rfl]; simp [q1]]
      exact FnQ.ret rfl rfl
  by_cases h2 : k = 2
  · subst h2
    by_cases q1 : 0 ≤ placeL l nx
    · (repeat' (first | refine wSeq rfl ?_ | refine wBlock rfl ?_ | refine wSkip rfl ?_ | refine wExit rfl ?_ | refine wRet rfl ?_ | refine wCondT rfl rfl ?_ | refine wCondF rfl rfl ?_ | refine wOps rfl ?_ | refine wDraw rfl rfl ?_ | refine opsV_call rfl rfl (rplace_v hL _ _ _ _ hs hl) ?_ | simp only [seval, push_cast, ↓reduceIte, ↓bP_some, ↓aP_true, reduceCtorEq, hx, hy, q1, h1]))
      rw [show prefersL 2 l nx ny = decide (placeL l ny < 0) by unfold prefersL; rw [if_neg hxy, if_neg (by decide), if_pos rfl]; simp [q1]]
      exact FnQ.ret rfl rfl
    · (repeat' (first | refine wSeq rfl ?_ | refine wBlock rfl ?_ | refine wSkip rfl ?_ | refine wExit rfl ?_ | refine wRet rfl ?_ | refine wCondT rfl rfl ?_ | refine wCondF rfl rfl ?_ | refine wOps rfl ?_ | refine wDraw rfl rfl ?_ | refine opsV_call rfl rfl (rplace_v hL _ _ _ _ hs hl) ?_ | simp only [seval, push_cast, ↓reduceIte, ↓bP_some, ↓aP_true, reduceCtorEq, hx, hy, q1, h1]))
      rw [show prefersL 2 l nx ny = false by unfold prefersL; rw [if_neg hxy, if_neg (by decide), if_pos rfl]; simp [q1]]
      exact FnQ.ret rfl rfl
  by_cases h3 : k = 3
  · subst h3
    have e3 : prefersL 3 l nx ny = (decide ((nx : Int) < l.length) && decide ((ny : Int) < l.length) && decide (l[ny]?.getD 0 < l[nx]?.getD 0)) := by unfold prefersL; rw [if_neg hxy, if_neg (by decide), if_neg (by decide), if_pos rfl]; rfl
    by_cases q1 : nx < l.length
    · by_cases q2 : ny < l.length
      · obtain ⟨a, ha, _⟩ := get_of q1
        obtain ⟨b, hb, _⟩ := get_of q2
        obtain rfl := size_of hs q1
        (repeat' (first | refine wSeq rfl ?_ | refine wBlock rfl ?_ | refine wSkip rfl ?_ | refine wExit rfl ?_ | refine wRet rfl ?_ | refine wCondT rfl rfl ?_ | refine wCondF rfl rfl ?_ | refine wOps rfl ?_ | refine wDraw rfl rfl ?_ | refine opsV_call rfl rfl (rplace_v hL _ _ _ _ hs hl) ?_ | simp only [seval, push_cast, ↓reduceIte, ↓bP_some, ↓aP_true, reduceCtorEq, hx, hy, q1, q2, h1, h2, ha, hb, iaQ_tl q1, iaQ_tl q2]))
        rw [e3, ha, hb, decide_eq_true (show (nx : Int) < l.length by omega), decide_eq_true (show (ny : Int) < l.length by omega)]
        exact FnQ.ret rfl rfl
      · (repeat' (first | refine wSeq rfl ?_ | refine wBlock rfl ?_ | refine wSkip rfl ?_ | refine wExit rfl ?_ | refine wRet rfl ?_ | refine wCondT rfl rfl ?_ | refine wCondF rfl rfl ?_ | refine wOps rfl ?_ | refine wDraw rfl rfl ?_ | refine opsV_call rfl rfl (rplace_v hL _ _ _ _ hs hl) ?_ | simp only [seval, push_cast, ↓reduceIte, ↓bP_some, ↓aP_true, reduceCtorEq, hx, hy, q1, q2, h1, h2]))
        rw [e3, decide_eq_false (show ¬ (ny : Int) < l.length by omega), Bool.and_false]
        exact FnQ.ret rfl rfl
    · (repeat' (first | refine wSeq rfl ?_ | refine wBlock rfl ?_ | refine wSkip rfl ?_ | refine wExit rfl ?_ | refine wRet rfl ?_ | refine wCondT rfl rfl ?_ | refine wCondF rfl rfl ?_ | refine wOps rfl ?_ | refine wDraw rfl rfl ?_ | refine opsV_call rfl rfl (rplace_v hL _ _ _ _ hs hl) ?_ | simp only [seval, push_cast, ↓reduceIte, ↓bP_some, ↓aP_true, reduceCtorEq, hx, hy, q1, h1, h2]))
      rw [e3, decide_eq_false (show ¬ (nx : Int) < l.length by omega)]
      exact FnQ.ret rfl rfl
  · (repeat' (first | refine wSeq rfl ?_ | refine wBlock rfl ?_ | refine wSkip rfl ?_ | refine wExit rfl ?_ | refine wRet rfl ?_ | refine wCondT rfl rfl ?_ | refine wCondF rfl rfl ?_ | refine wOps rfl ?_ | refine wDraw rfl rfl ?_ | refine opsV_call rfl rfl (rplace_v hL _ _ _ _ hs hl) ?_ | simp only [seval, push_cast, ↓reduceIte, ↓bP_some, ↓aP_true, reduceCtorEq, hx, hy, h1, h2, h3]))
    rw [show prefersL k l nx ny = false by unfold prefersL; rw [if_neg hxy, if_neg h1, if_neg h2, if_neg h3]]
    exact FnQ.ret rfl rfl
theorem rfirst_v (k : Int) (s : Nat) (l : List Int) (c : Option Nat) (hs : s = 1 ∨ l = []) (hl : l.length < 4611686018427387904) : VFn L 12 [(.agg [.int .u8 k, tl mrow s (l) c])] (.tup [.int .i64 (firstL k l).1, .bool (firstL k l).2]) := by
  refine VFn.start (F := T12.1) (by rw [hL]; rfl) rfl rfl rfl ?_
  by_cases hal : checkL k l (amongL k l) = 0
  · have ha := alone_of hal
    by_cases hl0 : l = []
    · subst hl0
      (repeat' (first | refine wSeq rfl ?_ | refine wBlock rfl ?_ | refine wSkip rfl ?_ | refine wExit rfl ?_ | refine wRet rfl ?_ | refine wCondT rfl rfl ?_ | refine wCondF rfl rfl ?_ | refine wOps rfl ?_ | refine wDraw rfl rfl ?_ | refine opsV_call rfl rfl (ramong_v hL _ _ _ _) ?_ | refine opsV_call rfl rfl (rcheck_v hL _ _ _ _ _ hs hl) ?_ | simp only [seval, push_cast, ↓reduceIte, ↓bP_some, ↓aP_true, reduceCtorEq, hal, List.length_nil]))
      rw [show firstL k [] = (0, false) by unfold firstL; rw [if_pos (.inr rfl)]]
      exact FnQ.ret rfl rfl
    have hn : 0 < l.length := List.length_pos_iff.2 hl0
    have hn0 : ¬ (l.length : Int) = 0 := by omega
    obtain ⟨x, hx, _⟩ := get_of hn
    obtain rfl := size_of hs hn
    rcases alone_kind hal with rfl | rfl | rfl
    · (repeat' (first | refine wSeq rfl ?_ | refine wBlock rfl ?_ | refine wSkip rfl ?_ | refine wExit rfl ?_ | refine wRet rfl ?_ | refine wCondT rfl rfl ?_ | refine wCondF rfl rfl ?_ | refine wOps rfl ?_ | refine wDraw rfl rfl ?_ | refine opsV_call rfl rfl (ramong_v hL _ _ _ _) ?_ | refine opsV_call rfl rfl (rcheck_v hL _ _ _ _ _ hs hl) ?_ | simp only [seval, push_cast, ↓reduceIte, ↓bP_some, ↓aP_true, reduceCtorEq, hal, hn0, hx, iaQ_tl hn]))
      rw [first_one ha hx]
      exact FnQ.ret rfl rfl
    · by_cases h1 : l.length = 1
      · have h2 : (l.length : Int) = 1 := by omega
        (repeat' (first | refine wSeq rfl ?_ | refine wBlock rfl ?_ | refine wSkip rfl ?_ | refine wExit rfl ?_ | refine wRet rfl ?_ | refine wCondT rfl rfl ?_ | refine wCondF rfl rfl ?_ | refine wOps rfl ?_ | refine wDraw rfl rfl ?_ | refine opsV_call rfl rfl (ramong_v hL _ _ _ _) ?_ | refine opsV_call rfl rfl (rcheck_v hL _ _ _ _ _ hs hl) ?_ | simp only [seval, push_cast, ↓reduceIte, ↓bP_some, ↓aP_true, reduceCtorEq, hal, hn0, hx, iaQ_tl hn, h2]))
        rw [first_mark ha hx h1]
        exact FnQ.ret rfl rfl
      · have h2 : ¬ (l.length : Int) = 1 := by omega
        (repeat' (first | refine wSeq rfl ?_ | refine wBlock rfl ?_ | refine wSkip rfl ?_ | refine wExit rfl ?_ | refine wRet rfl ?_ | refine wCondT rfl rfl ?_ | refine wCondF rfl rfl ?_ | refine wOps rfl ?_ | refine wDraw rfl rfl ?_ | refine opsV_call rfl rfl (ramong_v hL _ _ _ _) ?_ | refine opsV_call rfl rfl (rcheck_v hL _ _ _ _ _ hs hl) ?_ | simp only [seval, push_cast, ↓reduceIte, ↓bP_some, ↓aP_true, reduceCtorEq, hal, hn0, hx, iaQ_tl hn, h2]))
        rw [first_marks ha hx h1]
        exact FnQ.ret rfl rfl
    · have hf := first_score ha hx
      (repeat' (first | refine wSeq rfl ?_ | refine wBlock rfl ?_ | refine wSkip rfl ?_ | refine wExit rfl ?_ | refine wRet rfl ?_ | refine wCondT rfl rfl ?_ | refine wCondF rfl rfl ?_ | refine wOps rfl ?_ | refine wDraw rfl rfl ?_ | refine opsV_call rfl rfl (ramong_v hL _ _ _ _) ?_ | refine opsV_call rfl rfl (rcheck_v hL _ _ _ _ _ hs hl) ?_ | simp only [seval, push_cast, ↓reduceIte, ↓bP_some, ↓aP_true, reduceCtorEq, hal, hn0]))
      refine wCnt rfl 5 l.length (fun _ => []) (fun i => firstL 3 l = topGo l i (l.drop i)) rfl hf ?_ ?_
      · intro i hi hI
        obtain ⟨y, hy, _⟩ := get_of hi
        have hwi := wrap_succ (show i < 9223372036854775807 by omega)
        (repeat' (first | refine wSeq rfl ?_ | refine wBlock rfl ?_ | refine wSkip rfl ?_ | refine wExit rfl ?_ | refine wRet rfl ?_ | refine wCondT rfl rfl ?_ | refine wCondF rfl rfl ?_ | refine wOps rfl ?_ | refine wDraw rfl rfl ?_ | simp only [seval, push_cast, ↓reduceIte, ↓bP_some, ↓aP_true, reduceCtorEq, iaQ_tl hi, hy, hi]))
        refine wCnt rfl 7 l.length (fun K => [(6, .bool (topTo l i y K))]) (fun _ => True) (by rw [top_zero]; rfl) trivial ?_ ?_
        · intro j hj _
          obtain ⟨z, hz, _⟩ := get_of hj
          cases ht : topTo l i y j with
          | false =>
            (repeat' (first | refine wSeq rfl ?_ | refine wBlock rfl ?_ | refine wSkip rfl ?_ | refine wExit rfl ?_ | refine wRet rfl ?_ | refine wCondT rfl rfl ?_ | refine wCondF rfl rfl ?_ | refine wOps rfl ?_ | refine wDraw rfl rfl ?_ | simp only [seval, push_cast, ↓reduceIte, ↓bP_some, ↓aP_true, reduceCtorEq, hj, ht, top_false ht, wrap_succ (show j < 9223372036854775807 by omega)]))
            exact qR_n rfl rfl trivial
          | true =>
            by_cases e : j = i
            · subst e
              (repeat' (first | refine wSeq rfl ?_ | refine wBlock rfl ?_ | refine wSkip rfl ?_ | refine wExit rfl ?_ | refine wRet rfl ?_ | refine wCondT rfl rfl ?_ | refine wCondF rfl rfl ?_ | refine wOps rfl ?_ | refine wDraw rfl rfl ?_ | simp only [seval, push_cast, ↓reduceIte, ↓bP_some, ↓aP_true, reduceCtorEq, hj, ht, top_own ht, wrap_succ (show j < 9223372036854775807 by omega)]))
              exact qR_n rfl rfl trivial
            · (repeat' (first | refine wSeq rfl ?_ | refine wBlock rfl ?_ | refine wSkip rfl ?_ | refine wExit rfl ?_ | refine wRet rfl ?_ | refine wCondT rfl rfl ?_ | refine wCondF rfl rfl ?_ | refine wOps rfl ?_ | refine wDraw rfl rfl ?_ | simp only [seval, push_cast, ↓reduceIte, ↓bP_some, ↓aP_true, reduceCtorEq, iaQ_tl hj, iaQ_tl hi, hz, hy, hj, ht, top_other ht hz e, ne_both e, wrap_succ (show j < 9223372036854775807 by omega)]))
              exact qR_n rfl rfl trivial
        · intro _
          cases ht : topTo l i y l.length with
          | true =>
            (repeat' (first | refine wSeq rfl ?_ | refine wBlock rfl ?_ | refine wSkip rfl ?_ | refine wExit rfl ?_ | refine wRet rfl ?_ | refine wCondT rfl rfl ?_ | refine wCondF rfl rfl ?_ | refine wOps rfl ?_ | refine wDraw rfl rfl ?_ | simp only [seval, push_cast, ↓reduceIte, ↓bP_some, ↓aP_true, reduceCtorEq, ht]))
            rw [hI, topGo_yes hy ht]
            exact FnQ.ret rfl rfl
          | false =>
            (repeat' (first | refine wSeq rfl ?_ | refine wBlock rfl ?_ | refine wSkip rfl ?_ | refine wExit rfl ?_ | refine wRet rfl ?_ | refine wCondT rfl rfl ?_ | refine wCondF rfl rfl ?_ | refine wOps rfl ?_ | refine wDraw rfl rfl ?_ | simp only [seval, push_cast, ↓reduceIte, ↓bP_some, ↓aP_true, reduceCtorEq, ht, hwi]))
            exact qR_n rfl rfl (by rw [hI, topGo_no hy ht])
      · intro hI
        (repeat' (first | refine wSeq rfl ?_ | refine wBlock rfl ?_ | refine wSkip rfl ?_ | refine wExit rfl ?_ | refine wRet rfl ?_ | refine wCondT rfl rfl ?_ | refine wCondF rfl rfl ?_ | refine wOps rfl ?_ | refine wDraw rfl rfl ?_ | simp only [seval, push_cast, ↓reduceIte, ↓bP_some, ↓aP_true, reduceCtorEq]))
        rw [hI, topGo_end (by omega)]
        exact FnQ.ret rfl rfl
  · (repeat' (first | refine wSeq rfl ?_ | refine wBlock rfl ?_ | refine wSkip rfl ?_ | refine wExit rfl ?_ | refine wRet rfl ?_ | refine wCondT rfl rfl ?_ | refine wCondF rfl rfl ?_ | refine wOps rfl ?_ | refine wDraw rfl rfl ?_ | refine opsV_call rfl rfl (ramong_v hL _ _ _ _) ?_ | refine opsV_call rfl rfl (rcheck_v hL _ _ _ _ _ hs hl) ?_ | simp only [seval, push_cast, ↓reduceIte, ↓bP_some, ↓aP_true, reduceCtorEq, hal]))
    rw [show firstL k l = (0, false) by unfold firstL; rw [if_pos (.inl (by unfold aloneL; exact decide_eq_false hal))]]
    exact FnQ.ret rfl rfl
end Go.Proofs.YtnhfbabenifbkaaGreatDoor
set_option maxRecDepth 100000
set_option linter.unusedVariables false
namespace Go.Proofs.YtnhfbabenifbkaaGreatDoor
/-- A function of nothing that gives a Boolean, whatever it leaves in memory. -/
theorem VFn.of_run {L : Lib} {k : Nat} {b : Bool} (h : AFn L (.fn k) [] [] (fun r' H' => r' = .bool b ∧ True)) : VFn L k [] (.bool b) := by
  refine ⟨rfl, rfl, ?_⟩
  intro C hC A w β vs hA hd hh hg ha
  refine (h C hC A w β vs hA hd hh hg ha).mono ?_
  rintro e w' ⟨v, r, H', β', rfl, ⟨rfl, _⟩, h1, h2, h3, h4, h5, h6, h7⟩
  refine ⟨v, .bool b, [], β, rfl, ⟨rfl, rfl⟩, Nat.le_refl _, hd, fun _ _ => rfl, ?_, ?_, ?_, h7⟩
  · exact ⟨fun a k hk => by simp [Heap.get] at hk, fun a a' b h => absurd (by simp [Heap.get]) h⟩
  · cases h5; exact .bool _ _
  · rintro b ⟨a, ha, _⟩
    simp [Heap.get] at ha
theorem wakes_runF : isT (funcF LL 999 (.fn 10) [] .e 0) = true := by kernel_rfl
theorem wakes_run : isT (funcR LL 999 (.fn 10) [] .e 0) = true := by rw [← funcF_eq]; exact wakes_runF
theorem wakes_v : VFn LL 10 [] (.bool true) := VFn.of_run (afn_true wakes_run)
end Go.Proofs.YtnhfbabenifbkaaGreatDoor
set_option maxRecDepth 100000
set_option maxHeartbeats 4000000
set_option linter.unusedVariables false
set_option linter.unusedSimpArgs false
namespace Go.Proofs.YtnhfbabenifbkaaGreatDoor
/-- A ballot's cells. -/
def brw (b : Int × List Int) : List V := [.int .u8 b.1, tl mrow 1 b.2 none]
theorem brw_eq (b : Int × List Int) : brw b = [.int .u8 b.1, tl mrow 1 b.2 none] := rfl
attribute [push_cast] brw_eq
/-- A call that looks at blocks of one's own, as lists. -/
theorem opsP_bor {L : Lib} {l : List AI} {K : Env → Heap → Prop} {E : Env} {H : Heap} {d : Option Nat} {anc : List Nat} (bor : List Nat) {k : Nat} {args : List AOpd} {vs vs' : List V} {r : V} (hv : evals (opval L.G E.get) args = some vs) (hvs : vs.map (V.ren (sgOf H [] bor)) = vs') (hf : VFn L k vs' r) (hr : r.noLst = true) (h : opsP L l K (E.put d r) H) : opsP L (⟨d, .call (.fn k) args, none, anc⟩ :: l) K E H := by
  show stepP L ⟨d, .call (.fn k) args, none, anc⟩ (opsP L l K) E H
  unfold stepP AI.goes
  show CallP L E.get H (.fn k) args _
  unfold CallP callee
  rw [hv]
  show AFn L (.fn k) vs H _
  refine AFn.frame (k' := .fn k) [] bor rfl rfl rfl ?_
  show AFn L (.fn k) (vs.map (V.ren (sgOf H [] bor))) [] _
  rw [hvs]
  refine AFn.mono hf.2.2 ?_
  rintro r' H' ⟨rfl, rfl⟩
  refine ⟨by simp [outOk, hr], ?_⟩
  rw [V.ren_closed _ hf.2.1]
  have e2 : H.back [] [] = H := by simp [Heap.back, Heap.upds]
  rw [e2]; exact h
variable {L : Lib} (hL : L.T = tab.get)
include hL
theorem great_v (bs : List (Int × List Int)) (c : Option Nat) (hl : bs.length < 4611686018427387904) : VFn L 9 [tl brw 2 bs c] (.bool (bs.any fun b => decide (60 < b.2.length))) := by
  refine VFn.start (F := T9.1) (by rw [hL]; rfl) rfl rfl rfl ?_
  (repeat' (first | refine wSeq rfl ?_ | refine wBlock rfl ?_ | refine wSkip rfl ?_ | refine wExit rfl ?_ | refine wRet rfl ?_ | refine wCondT rfl rfl ?_ | refine wCondF rfl rfl ?_ | refine wOps rfl ?_ | refine wDraw rfl rfl ?_ | simp only [seval, push_cast, ↓reduceIte, ↓bP_some, ↓aP_true, reduceCtorEq]))
  refine wCnt rfl 3 bs.length (fun _ => []) (fun i => ∀ j b, j < i → bs[j]? = some b → decide (60 < b.2.length) = false) rfl (fun j b h => by omega) ?_ ?_
  · intro i hi hI
    obtain ⟨b, hb, _⟩ := get_of hi
    cases hq : decide (60 < b.2.length) with
    | true =>
      (repeat' (first | refine wSeq rfl ?_ | refine wBlock rfl ?_ | refine wSkip rfl ?_ | refine wExit rfl ?_ | refine wRet rfl ?_ | refine wCondT rfl rfl ?_ | refine wCondF rfl rfl ?_ | refine wOps rfl ?_ | refine wDraw rfl rfl ?_ | refine opsV_call rfl rfl (rgreat_v hL _ _ _ _) ?_ | simp only [seval, push_cast, ↓reduceIte, ↓bP_some, ↓aP_true, reduceCtorEq, iaQ_tl hi, hb, hi, hq]))
      rw [List.any_eq_true.2 ⟨b, List.mem_of_getElem? hb, hq⟩]
      exact FnQ.ret rfl rfl
    | false =>
      (repeat' (first | refine wSeq rfl ?_ | refine wBlock rfl ?_ | refine wSkip rfl ?_ | refine wExit rfl ?_ | refine wRet rfl ?_ | refine wCondT rfl rfl ?_ | refine wCondF rfl rfl ?_ | refine wOps rfl ?_ | refine wDraw rfl rfl ?_ | refine opsV_call rfl rfl (rgreat_v hL _ _ _ _) ?_ | simp only [seval, push_cast, ↓reduceIte, ↓bP_some, ↓aP_true, reduceCtorEq, iaQ_tl hi, hb, hi, hq, wrap_succ (show i < 9223372036854775807 by omega)]))
      refine qR_n rfl rfl fun j x hj hx => ?_
      by_cases e : j = i
      · subst e; rw [hb] at hx; cases hx; exact hq
      · exact hI j x (by omega) hx
  · intro hI
    (repeat' (first | refine wSeq rfl ?_ | refine wBlock rfl ?_ | refine wSkip rfl ?_ | refine wExit rfl ?_ | refine wRet rfl ?_ | refine wCondT rfl rfl ?_ | refine wCondF rfl rfl ?_ | refine wOps rfl ?_ | refine wDraw rfl rfl ?_ | simp only [seval, push_cast, ↓reduceIte, ↓bP_some, ↓aP_true, reduceCtorEq]))
    have hno : (bs.any fun b => decide (60 < b.2.length)) = false := by
      rw [Bool.eq_false_iff]
      intro h
      obtain ⟨b, hb, hq⟩ := List.any_eq_true.1 h
      obtain ⟨i, hi⟩ := List.mem_iff_getElem?.1 hb
      rw [hI i b (List.getElem?_eq_some_iff.1 hi).1 hi] at hq
      cases hq
    rw [hno]
    exact FnQ.ret rfl rfl
theorem tells_v (hw : VFn L 10 [] (.bool true)) (k j : Int) (l m : List Int) (cands x y : Int) (hl : l.length ≤ 17592186043904) (hm : m.length ≤ 17592186043904) : VFn L 3 [(.agg [.int .u8 k, tl mrow 1 (l) none]), (.agg [.int .u8 j, tl mrow 1 (m) none]), .int .i64 cands, .int .i64 x, .int .i64 y] (.bool true) := by
  have hl2 : l.length < 4611686018427387904 := by omega
  have hm2 : m.length < 4611686018427387904 := by omega
  have s1 : (1 : Nat) = 1 ∨ l = [] := .inl rfl
  have s2 : (1 : Nat) = 1 ∨ m = [] := .inl rfl
  refine VFn.start (F := T3.1) (by rw [hL]; rfl) rfl rfl rfl ?_
  (repeat' (first | refine wSeq rfl ?_ | refine wBlock rfl ?_ | refine wSkip rfl ?_ | refine wExit rfl ?_ | refine wRet rfl ?_ | refine wCondT rfl rfl ?_ | refine wCondF rfl rfl ?_ | refine wOpsP rfl ?_ | refine wDraw rfl rfl ?_ | simp only [seval, push_cast, ↓reduceIte, ↓bP_some, ↓aP_true, reduceCtorEq]))
  refine opsP_bor [2] rfl (vs' := [tl brw 2 [(k, l), (j, m)] (some 2)]) rfl (great_v hL _ _ (show 2 < 4611686018427387904 by decide)) rfl ?_
  cases hg : ([(k, l), (j, m)].any fun b => decide (60 < b.2.length)) with
  | true =>
    (repeat' (first | refine wSeq rfl ?_ | refine wBlock rfl ?_ | refine wSkip rfl ?_ | refine wExit rfl ?_ | refine wRet rfl ?_ | refine wCondT rfl rfl ?_ | refine wCondF rfl rfl ?_ | refine wOps rfl ?_ | refine wDraw rfl rfl ?_ | refine opsV_call rfl rfl (hw) ?_ | simp only [seval, push_cast, ↓reduceIte, ↓bP_some, ↓aP_true, reduceCtorEq]))
    exact FnQ.ret rfl rfl
  | false =>
    (repeat' (first | refine wSeq rfl ?_ | refine wBlock rfl ?_ | refine wSkip rfl ?_ | refine wExit rfl ?_ | refine wRet rfl ?_ | refine wCondT rfl rfl ?_ | refine wCondF rfl rfl ?_ | refine wOps rfl ?_ | refine wDraw rfl rfl ?_ | refine opsV_call rfl rfl (hw) ?_ | refine opsV_call rfl rfl (first_v hL _ _ _ _ s1 hl2) ?_ | refine opsV_call rfl rfl (rfirst_v hL _ _ _ _ s1 hl2) ?_ | refine opsV_call rfl rfl (check_v hL _ _ _ _ _ s1 hl2) ?_ | refine opsV_call rfl rfl (rcheck_v hL _ _ _ _ _ s1 hl2) ?_ | refine opsV_call rfl rfl (prefers_v hL _ _ _ _ _ _ s1 hl2) ?_ | refine opsV_call rfl rfl (rprefers_v hL _ _ _ _ _ _ s1 hl2) ?_ | refine opsV_call rfl rfl (same_v hL _ _ _ _ _ _ _ _ s1 s2 hl2 hm2) ?_ | refine opsV_call rfl rfl (rsame_v hL _ _ _ _ _ _ _ _ s1 s2 hl2 hm2) ?_ | refine opsV_call rfl rfl (less_b_v hL _ _ _ _ _ _ _ _ s1 s2 hl2 hm2) ?_ | refine opsV_call rfl rfl (rless_v hL _ _ _ _ _ _ _ _ s1 s2 hl2 hm2) ?_ | simp only [seval, push_cast, ↓reduceIte, ↓bP_some, ↓aP_true, reduceCtorEq, beq_self_eq_true, (show firstV k l = .tup [.int .i64 (firstL k l).1, .bool (firstL k l).2] from rfl)]))
    exact FnQ.ret rfl rfl
omit hL
theorem tells_al (k : Int) (l : List Int) (hk : 0 ≤ k ∧ k ≤ 255) (hl : l.length ≤ 17592186043904) (hb : ∀ n ∈ l, -9223372036854775808 ≤ n ∧ n ≤ 9223372036854775807) (j : Int) (m : List Int) (hj : 0 ≤ j ∧ j ≤ 255) (hm : m.length ≤ 17592186043904) (hb2 : ∀ n ∈ m, -9223372036854775808 ≤ n ∧ n ≤ 9223372036854775807) (cands : Int) (hc : -9223372036854775808 ≤ cands ∧ cands ≤ 9223372036854775807) (x : Int) (hx : -9223372036854775808 ≤ x ∧ x ≤ 9223372036854775807) (y : Int) (hy : -9223372036854775808 ≤ y ∧ y ≤ 9223372036854775807) : VFn LL 3 [(.agg [.int .u8 k, tl mrow 1 (l) none]), (.agg [.int .u8 j, tl mrow 1 (m) none]), .int .i64 cands, .int .i64 x, .int .i64 y] (.bool true) :=
  tells_v rfl wakes_v k j l m cands x y hl hm
end Go.Proofs.YtnhfbabenifbkaaGreatDoor
set_option maxRecDepth 100000
set_option maxHeartbeats 4000000
set_option linter.unusedVariables false
set_option linter.unusedSimpArgs false
namespace Go.Proofs.YtnhfbabenifbkaaGreatDoor
/-- A call of whatever is called, in a smaller memory: src are the blocks handed over. -/
theorem opsP_frm {L : Lib} {l : List AI} {K : Env → Heap → Prop} {E : Env} {H : Heap} {d : Option Nat} {anc : List Nat} (src : List Nat) {c : ACallee} {args : List AOpd} {k : Nat} {vs vs' : List V} {H0 : Heap} {Post : V → Heap → Prop} (hv : callee L.G E.get c args = some (.fn k, vs)) (hn : nodupO (src.map some) = true) (hlt : (src.all fun a => Nat.blt a H.length) = true) (hvs : vs.map (V.ren (sgOf H (src.map some) [])) = vs') (hH : H.sh (src.map some) [] = H0) (hf : AFn L (.fn k) vs' H0 Post) (h : ∀ r h', Post r h' → opsP L l K (E.put d (r.ren (outσ H.length src))) (H.back src h')) : opsP L (⟨d, .call c args, none, anc⟩ :: l) K E H := by
  show stepP L ⟨d, .call c args, none, anc⟩ (opsP L l K) E H
  unfold stepP AI.goes
  show CallP L E.get H c args _
  unfold CallP
  rw [hv]
  show AFn L (.fn k) vs H _
  refine AFn.frame (k' := .fn k) src [] rfl hn hlt ?_
  rw [hvs, hH]
  exact hf.mono fun r h' hp => ⟨rfl, h r h' hp⟩
/-- A call as it stands. -/
theorem opsP_all {L : Lib} {l : List AI} {K : Env → Heap → Prop} {E : Env} {H : Heap} {d : Option Nat} {anc : List Nat} {c : ACallee} {args : List AOpd} {k : Nat} {vs : List V} {Post : V → Heap → Prop} (hv : callee L.G E.get c args = some (.fn k, vs)) (hf : AFn L (.fn k) vs H Post) (h : ∀ r h', Post r h' → opsP L l K (E.put d r) h') : opsP L (⟨d, .call c args, none, anc⟩ :: l) K E H := by
  show stepP L ⟨d, .call c args, none, anc⟩ (opsP L l K) E H
  unfold stepP AI.goes
  show CallP L E.get H c args _
  unfold CallP
  rw [hv]
  show AFn L (.fn k) vs H _
  exact hf.mono h
theorem FnQ.at {F : AFunc} {n0 : Nat} {P : V → Heap → Prop} {E : Env} {H : Heap} {r : V} (h : resV E.get H.get F.results = some r) (hP : P r H) : FnQ F n0 P .ret E H := by
  have : ResP F.results n0 P E H := by
    unfold ResP
    rw [h]
    exact .inl hP
  exact this
theorem FnQ.sh {F : AFunc} {n0 : Nat} {P : V → Heap → Prop} {E : Env} {H : Heap} {r0 r : V} {H1 : Heap} (src : List (Option Nat)) (fz : List Nat) (ho : okSh n0 src = true) (h : resV E.get H.get F.results = some r0) (hr : r0.ren (sgOf H src fz) = r) (hH : H.sh src fz = H1) (hP : P r H1) : FnQ F n0 P .ret E H := by
  have : ResP F.results n0 P E H := by
    unfold ResP
    rw [h]
    refine .inr ⟨src, fz, ho, ?_⟩
    rw [hr, hH]; exact hP
  exact this
theorem rel_nilcase {N : Nums} {w : World} {S : Nat → Prop} {β : Nat → Option Nat} {s : Nat} {c : Option Nat} {x : Value} (h : Rel N w S β (.lst s [] c) x) : Rel N w S β (.lst 0 [] c) x ∨ Rel N w S β (.lst 1000003 [] c) x := by
  cases h with
  | lst _ _ _ _ a cc b off ys hc hlc ha hn hr hy h hz =>
    by_cases e : a = none
    · exact .inl (.lst β 0 [] c a cc b off ys hc hlc ha hn (fun i row h => by simp at h) (fun i row j x h => by simp at h) (fun i row j x h => by simp at h) ⟨fun _ _ => e, fun h => by simp at h⟩)
    · exact .inr (.lst β 1000003 [] c a cc b off ys hc hlc ha hn (fun i row h => by simp at h) (fun i row j x h => by simp at h) (fun i row j x h => by simp at h) ⟨fun h => by simp at h, fun _ _ => e⟩)
theorem rel_weak {N : Nums} {w : World} {S : Nat → Prop} {β : Nat → Option Nat} {s : Nat} {c : Option Nat} {x : Value} (h : Rel N w S β (.lst s [] c) x) : Rel N w S β (.lst 1 [] none) x := by
  cases h with
  | lst _ _ _ _ a cc b off ys hc hlc ha hn hr hy h hz =>
    exact .lst β 1 [] none a cc b off ys (fun k h => by cases h) hlc ha hn (fun i row h => by simp at h) (fun i row j x h => by simp at h) (fun i row j x h => by simp at h) ⟨fun h => by simp at h, fun h => by simp at h⟩
theorem AFn.nilcase {L : Lib} {k : Tgt} {s : Nat} {c : Option Nat} {H : Heap} {Post : V → Heap → Prop} (h0 : AFn L k [.lst 0 [] c] H Post) (h1 : AFn L k [.lst 1000003 [] c] H Post) : AFn L k [.lst s [] c] H Post := by
  intro C hC A w β vs hA hd hh hg ha
  obtain ⟨hn, har⟩ := ha
  have hsz : vs.size = 1 := hn
  have hr := har 0 _ vs[0] rfl (by simp [hsz])
  have go : ∀ v, Rel C.N w (Imm A w β H.get) β v vs[0] → RArgs C w (Imm A w β H.get) β [v] vs := fun v hv => ⟨hn, fun i u x hu hx => by
    match i with
    | 0 =>
      have hu : some v = some u := hu
      cases hu
      rw [Array.getElem?_eq_getElem (by omega)] at hx
      cases hx
      exact hv
    | i + 1 => simp at hu⟩
  rcases rel_nilcase hr with h | h
  · exact h0 C hC A w β vs hA hd hh hg (go _ h)
  · exact h1 C hC A w β vs hA hd hh hg (go _ h)
theorem AFn.weakE {L : Lib} {k : Tgt} {args : List V} {H H1 : Heap} (h : AFn L k args H (fun r H' => (∃ s c, r = .lst s [] c) ∧ H' = H1)) : AFn L k args H (fun r H' => r = .lst 1 [] none ∧ H' = H1) := by
  intro C hC A w β vs hA hd hh hg ha
  refine (h C hC A w β vs hA hd hh hg ha).mono ?_
  rintro e w' ⟨v, r, H', β', h1, ⟨⟨s, c, rfl⟩, rfl⟩, h3, h4, h5, h6, h7, h8⟩
  exact ⟨v, _, _, β', h1, ⟨rfl, rfl⟩, h3, h4, h5, h6, rel_weak h7, h8⟩
end Go.Proofs.YtnhfbabenifbkaaGreatDoor
set_option maxRecDepth 100000
set_option maxHeartbeats 4000000
set_option linter.unusedVariables false
set_option linter.unusedSimpArgs false
namespace Go.Proofs.YtnhfbabenifbkaaGreatDoor
theorem binV_sadd {a b : List UInt8} (h : a.length + b.length ≤ 1152921504606846976) : binV .add (.str a) (.str b) = some (.str (a ++ b)) := by
  show binStr .add a b = _
  unfold binStr strBig
  exact if_pos h
theorem binV_seql {a b : List UInt8} : binV .eql (.str a) (.str b) = some (.bool (decide (a = b))) := by
  show some (V.bool (a == b)) = _
  rw [show (a == b) = decide (a = b) from by by_cases h : a = b <;> simp [h]]
theorem binV_sneq {a b : List UInt8} : binV .neq (.str a) (.str b) = some (.bool (!decide (a = b))) := by
  show some (V.bool (!(a == b))) = _
  rw [show (a == b) = decide (a = b) from by by_cases h : a = b <;> simp [h]]
/-- A row of one text. -/
def srow (s : List UInt8) : List V := [.str s]
theorem srow_eq (s : List UInt8) : srow s = [.str s] := rfl
theorem closed_srow (x : List UInt8) : (srow x).all V.closed = true := rfl
attribute [push_cast] srow_eq
def namesS : List (List UInt8) := [[], [114, 97, 110, 107], [109, 97, 114, 107], [115, 99, 111, 114, 101]]
theorem rem_n {n m : Nat} (h : m ≠ 0) : binV .rem (.int .i64 (n : Int)) (.int .i64 (m : Int)) = some (.int .i64 ((n % m : Nat) : Int)) := by
  have h' : ¬ ((m : Int) = 0) := by omega
  have e : (n : Int).tmod (m : Int) = ((n % m : Nat) : Int) := (Int.ofNat_tmod n m).symm
  simp only [binV, binInt, h', if_true, if_false, e]
theorem quo_n {n m : Nat} (h : m ≠ 0) (hn : n < 9223372036854775808) : binV .quo (.int .i64 (n : Int)) (.int .i64 (m : Int)) = some (.int .i64 ((n / m : Nat) : Int)) := by
  have h' : ¬ ((m : Int) = 0) := by omega
  have e : (n : Int).tdiv (m : Int) = ((n / m : Nat) : Int) := (Int.ofNat_tdiv n m).symm
  have hlt : n / m < 9223372036854775808 := Nat.lt_of_le_of_lt (Nat.div_le_self n m) hn
  simp only [binV, binInt, h', if_true, if_false, e, wrap_nat hlt]
def tens : List UInt8 := [48, 49, 50, 51, 52, 53, 54, 55, 56, 57]
theorem tens_at {n : Nat} (h : n < 10) : (tens.drop n).take (n + 1 - n) = [UInt8.ofNat (48 + n)] := by
  have : ((List.range 10).all fun n => decide ((tens.drop n).take (n + 1 - n) = [UInt8.ofNat (48 + n)])) = true := by decide +kernel
  exact of_decide_eq_true (List.all_eq_true.1 this n (List.mem_range.2 h))
variable {L : Lib} (hL : L.T = tab.get)
include hL
theorem names_v : VFn L 51 [] (tl srow 1 namesS (some 4)) := by
  refine VFn.start (F := T51.1) (by rw [hL]; rfl) rfl rfl rfl ?_
  (repeat' (first | refine wSeq rfl ?_ | refine wBlock rfl ?_ | refine wSkip rfl ?_ | refine wExit rfl ?_ | refine wRet rfl ?_ | refine wCondT rfl rfl ?_ | refine wCondF rfl rfl ?_ | refine wOps rfl ?_ | refine wDraw rfl rfl ?_ | simp only [seval, push_cast, ↓reduceIte, ↓bP_some, ↓aP_true, reduceCtorEq]))
  exact FnQ.frz [0] rfl rfl
theorem digits_v (n : Nat) (hn : n < 20) : VFn L 53 [.int .i64 (n : Int)] (.str (dig n)) := by
  refine VFn.start (F := T53.1) (by rw [hL]; rfl) rfl rfl rfl ?_
  have h1 : binV .rem (.int .i64 (n : Int)) (.int .i64 10) = some (.int .i64 ((n % 10 : Nat) : Int)) := rem_n (m := 10) (by decide)
  have h2 : binV .quo (.int .i64 (n : Int)) (.int .i64 10) = some (.int .i64 ((n / 10 : Nat) : Int)) := quo_n (m := 10) (by decide) (by omega)
  have l1 : n % 10 < 10 := by omega
  have l2 : n / 10 < 10 := by omega
  rw [dig]
  have e3 : n < 10 → n % 10 = n := fun h => Nat.mod_eq_of_lt h
  generalize n % 10 = a at *
  generalize n / 10 = b at *
  have w1 := wrap_succ (show a < 9223372036854775807 by omega)
  have w2 := wrap_succ (show b < 9223372036854775807 by omega)
  have e1 := tens_at l1
  have e2 := tens_at l2
  unfold tens at e1 e2
  have l1 : a + 1 ≤ 10 := l1
  have l2 : b + 1 ≤ 10 := l2
  by_cases h : n < 10
  · have hd : ¬ (10 : Int) ≤ (n : Int) := by omega
    rw [if_pos h]
    have e3 := e3 h
    subst e3
    (repeat' (first | refine wSeq rfl ?_ | refine wBlock rfl ?_ | refine wSkip rfl ?_ | refine wExit rfl ?_ | refine wRet rfl ?_ | refine wCondT rfl rfl ?_ | refine wCondF rfl rfl ?_ | refine wOps rfl ?_ | refine wDraw rfl rfl ?_ | simp only [seval, push_cast, ↓reduceIte, ↓bP_some, ↓aP_true, reduceCtorEq, h1, w1, l1, e1, hd, Nat.le_add_right]))
    exact FnQ.ret rfl rfl
  · have hd : (10 : Int) ≤ (n : Int) := by omega
    rw [if_neg h]
    have sa : ∀ a b : UInt8, binV .add (.str [a]) (.str [b]) = some (.str [a, b]) := fun a b => binV_sadd (a := [a]) (b := [b]) (by simp)
    (repeat' (first | refine wSeq rfl ?_ | refine wBlock rfl ?_ | refine wSkip rfl ?_ | refine wExit rfl ?_ | refine wRet rfl ?_ | refine wCondT rfl rfl ?_ | refine wCondF rfl rfl ?_ | refine wOps rfl ?_ | refine wDraw rfl rfl ?_ | simp only [seval, push_cast, ↓reduceIte, ↓bP_some, ↓aP_true, reduceCtorEq, h1, h2, w1, w2, l1, l2, e1, e2, hd, Nat.le_add_right, sa]))
    exact FnQ.ret rfl rfl
theorem number_v (s : List UInt8) : VFn L 57 [.str s] (.int .i64 (numberL s)) := by
  refine VFn.start (F := T57.1) (by rw [hL]; rfl) rfl rfl rfl ?_
  (repeat' (first | refine wSeq rfl ?_ | refine wBlock rfl ?_ | refine wSkip rfl ?_ | refine wExit rfl ?_ | refine wRet rfl ?_ | refine wCondT rfl rfl ?_ | refine wCondF rfl rfl ?_ | refine wOps rfl ?_ | refine wDraw rfl rfl ?_ | simp only [seval, push_cast, ↓reduceIte, ↓bP_some, ↓aP_true, reduceCtorEq]))
  refine wCnt rfl 3 20 (fun _ => []) (fun j => numberL s = numberGo s (20 - j) j) rfl rfl ?_ ?_
  · intro j hj hI
    have hj' : (j : Int) < 20 := by omega
    have hw := wrap_succ (show j < 9223372036854775807 by omega)
    by_cases hq : dig j = s
    · (repeat' (first | refine wSeq rfl ?_ | refine wBlock rfl ?_ | refine wSkip rfl ?_ | refine wExit rfl ?_ | refine wRet rfl ?_ | refine wCondT rfl rfl ?_ | refine wCondF rfl rfl ?_ | refine wOps rfl ?_ | refine wDraw rfl rfl ?_ | refine opsV_call rfl rfl (digits_v hL j hj) ?_ | simp only [seval, push_cast, ↓reduceIte, ↓bP_some, ↓aP_true, reduceCtorEq, hj', binV_seql, hq, decide_true]))
      rw [hI, number_hit hj hq]
      exact FnQ.ret rfl rfl
    · (repeat' (first | refine wSeq rfl ?_ | refine wBlock rfl ?_ | refine wSkip rfl ?_ | refine wExit rfl ?_ | refine wRet rfl ?_ | refine wCondT rfl rfl ?_ | refine wCondF rfl rfl ?_ | refine wOps rfl ?_ | refine wDraw rfl rfl ?_ | refine opsV_call rfl rfl (digits_v hL j hj) ?_ | simp only [seval, push_cast, ↓reduceIte, ↓bP_some, ↓aP_true, reduceCtorEq, hj', binV_seql, hq, decide_false, hw]))
      exact qR_n rfl rfl (by rw [hI, number_miss hj hq]; congr 1; omega)
  · intro hI
    (repeat' (first | refine wSeq rfl ?_ | refine wBlock rfl ?_ | refine wSkip rfl ?_ | refine wExit rfl ?_ | refine wRet rfl ?_ | refine wCondT rfl rfl ?_ | refine wCondF rfl rfl ?_ | refine wOps rfl ?_ | refine wDraw rfl rfl ?_ | simp only [seval, push_cast, ↓reduceIte, ↓bP_some, ↓aP_true, reduceCtorEq]))
    rw [hI, number_end (by decide)]
    exact FnQ.ret rfl rfl
theorem small_v (n : Nat) (hn : n < 11) : VFn L 98 [.int .i64 (n : Int)] (.str (dig n)) := by
  refine VFn.start (F := T98.1) (by rw [hL]; rfl) rfl rfl rfl ?_
  by_cases h : n < 10
  · have h1 : (n : Int) < 10 := by omega
    have w1 := wrap_succ (show n < 9223372036854775807 by omega)
    have e : ((List.range 10).all fun n => decide ((([48, 49, 50, 51, 52, 53, 54, 55, 56, 57, 97, 98, 99, 100, 101, 102, 103, 104, 105, 106, 107, 108, 109, 110, 111, 112, 113, 114, 115, 116, 117, 118, 119, 120, 121, 122] : List UInt8).drop n).take (n + 1 - n) = dig n)) = true := by decide +kernel
    have e1 := of_decide_eq_true (List.all_eq_true.1 e n (List.mem_range.2 h))
    have l1 : n + 1 ≤ 36 := by omega
    (repeat' (first | refine wSeq rfl ?_ | refine wBlock rfl ?_ | refine wSkip rfl ?_ | refine wExit rfl ?_ | refine wRet rfl ?_ | refine wCondT rfl rfl ?_ | refine wCondF rfl rfl ?_ | refine wOps rfl ?_ | refine wDraw rfl rfl ?_ | simp only [seval, push_cast, ↓reduceIte, ↓bP_some, ↓aP_true, reduceCtorEq, h1, w1, l1, e1, Nat.le_add_right]))
    exact FnQ.ret rfl rfl
  · obtain rfl : n = 10 := by omega
    have w20 : IntKind.i64.wrap 20 = 20 := wrap_i64 (by decide) (by decide)
    have w22 : IntKind.i64.wrap 22 = 22 := wrap_i64 (by decide) (by decide)
    have t20 : V.nat? (.int .i64 20) = some 20 := rfl
    have t22 : V.nat? (.int .i64 22) = some 22 := rfl
    (repeat' (first | refine wSeq rfl ?_ | refine wBlock rfl ?_ | refine wSkip rfl ?_ | refine wExit rfl ?_ | refine wRet rfl ?_ | refine wCondT rfl rfl ?_ | refine wCondF rfl rfl ?_ | refine wOps rfl ?_ | refine wDraw rfl rfl ?_ | simp only [seval, push_cast, ↓reduceIte, ↓bP_some, ↓aP_true, reduceCtorEq, w20, w22, t20, t22]))
    exact FnQ.ret rfl rfl
theorem itoa_v (n : Nat) (hn : n < 11) : VFn L 52 [.int .i64 (n : Int)] (.str (dig n)) := by
  have h100 : (n : Int) < 100 := by omega
  have f1 : VFn L 83 [.int .i64 (n : Int), .int .i64 10] (.str (dig n)) := by
    refine VFn.start (F := T83.1) (by rw [hL]; rfl) rfl rfl rfl ?_
    have h0 : (0 : Int) ≤ (n : Int) := by omega
    (repeat' (first | refine wSeq rfl ?_ | refine wBlock rfl ?_ | refine wSkip rfl ?_ | refine wExit rfl ?_ | refine wRet rfl ?_ | refine wCondT rfl rfl ?_ | refine wCondF rfl rfl ?_ | refine wOps rfl ?_ | refine wDraw rfl rfl ?_ | refine opsV_call rfl rfl (small_v hL n hn) ?_ | simp only [seval, push_cast, ↓reduceIte, ↓bP_some, ↓aP_true, reduceCtorEq, h100, h0]))
    exact FnQ.ret rfl rfl
  have f2 : VFn L 65 [.int .i64 (n : Int)] (.str (dig n)) := by
    refine VFn.start (F := T65.1) (by rw [hL]; rfl) rfl rfl rfl ?_
    (repeat' (first | refine wSeq rfl ?_ | refine wBlock rfl ?_ | refine wSkip rfl ?_ | refine wExit rfl ?_ | refine wRet rfl ?_ | refine wCondT rfl rfl ?_ | refine wCondF rfl rfl ?_ | refine wOps rfl ?_ | refine wDraw rfl rfl ?_ | refine opsV_call rfl rfl (f1) ?_ | simp only [seval, push_cast, ↓reduceIte, ↓bP_some, ↓aP_true, reduceCtorEq]))
    exact FnQ.ret rfl rfl
  refine VFn.start (F := T52.1) (by rw [hL]; rfl) rfl rfl rfl ?_
  (repeat' (first | refine wSeq rfl ?_ | refine wBlock rfl ?_ | refine wSkip rfl ?_ | refine wExit rfl ?_ | refine wRet rfl ?_ | refine wCondT rfl rfl ?_ | refine wCondF rfl rfl ?_ | refine wOps rfl ?_ | refine wDraw rfl rfl ?_ | refine opsV_call rfl rfl (f2) ?_ | simp only [seval, push_cast, ↓reduceIte, ↓bP_some, ↓aP_true, reduceCtorEq]))
  exact FnQ.ret rfl rfl
theorem text_v (k : Int) (s : Nat) (l : List Int) (c : Option Nat) (hs : s = 1 ∨ l = []) (hl : l.length ≤ 17592186043904) : VFn L 25 [(.agg [.int .u8 k, tl mrow s (l) c])] (.tup [.str (btextL k l).1, .int .i64 (btextL k l).2]) := by
  have hl2 : l.length < 4611686018427387904 := by omega
  refine VFn.start (F := T25.1) (by rw [hL]; rfl) rfl rfl rfl ?_
  cases hal : aloneL k l with
  | false =>
    (repeat' (first | refine wSeq rfl ?_ | refine wBlock rfl ?_ | refine wSkip rfl ?_ | refine wExit rfl ?_ | refine wRet rfl ?_ | refine wCondT rfl rfl ?_ | refine wCondF rfl rfl ?_ | refine wOps rfl ?_ | refine wDraw rfl rfl ?_ | refine opsV_call rfl rfl (alone_v hL _ _ _ _ hs hl2) ?_ | simp only [seval, push_cast, ↓reduceIte, ↓bP_some, ↓aP_true, reduceCtorEq, hal]))
    rw [btext_bad hal]
    exact FnQ.ret rfl rfl
  | true =>
    have hm := alone_marks hal
    rw [btext_ok hal]
    dsimp only
    rcases alone_kind' hal with rfl | rfl | rfl
    · have hnm := name_len 1
      (repeat' (first | refine wSeq rfl ?_ | refine wBlock rfl ?_ | refine wSkip rfl ?_ | refine wExit rfl ?_ | refine wRet rfl ?_ | refine wCondT rfl rfl ?_ | refine wCondF rfl rfl ?_ | refine wOps rfl ?_ | refine wDraw rfl rfl ?_ | refine opsV_call rfl rfl (alone_v hL _ _ _ _ hs hl2) ?_ | refine opsV_call rfl rfl (names_v hL) ?_ | simp only [seval, push_cast, ↓reduceIte, ↓bP_some, ↓aP_true, reduceCtorEq, hal, iaQ_tl (l := namesS) (i := 1) (by decide), show namesS[1]? = some (nameL 1) from by decide]))
      generalize nameL 1 = nm at hnm ⊢
      refine wCnt rfl 18 l.length (fun j => [(4, .str (nm ++ marksL (l.take j)))]) (fun _ => True) (by rw [List.take_zero, show marksL [] = [] from rfl, List.append_nil]; rfl) trivial ?_ ?_
      · intro j hj _
        obtain ⟨m, hx, hmem⟩ := get_of hj
        obtain rfl := size_of hs hj
        have hm := hm m hmem
        obtain ⟨n, rfl⟩ : ∃ n : Nat, m = n := ⟨m.toNat, by omega⟩
        have hn : n < 11 := by omega
        have hw := wrap_succ (show j < 9223372036854775807 by omega)
        have hst := marks_snoc (l.take j) (n : Int)
        rw [← take_snoc hx, Int.toNat_natCast] at hst
        rw [hst]
        have hml := marks_len (l.take j)
        have hdl := dig_len n
        rw [List.length_take] at hml
        have s1 : binV .add (.str [32]) (.str (dig n)) = some (.str ([32] ++ dig n)) := binV_sadd (by simp; omega)
        have s2 : binV .add (.str (nm ++ marksL (l.take j))) (.str ([32] ++ dig n)) = some (.str ((nm ++ marksL (l.take j)) ++ ([32] ++ dig n))) := binV_sadd (by simp; omega)
        rw [← List.append_assoc nm]
        generalize nm ++ marksL (l.take j) = acc at *
        generalize hdn : [32] ++ dig n = dn at *
        (repeat' (first | refine wSeq rfl ?_ | refine wBlock rfl ?_ | refine wSkip rfl ?_ | refine wExit rfl ?_ | refine wRet rfl ?_ | refine wCondT rfl rfl ?_ | refine wCondF rfl rfl ?_ | refine wOps rfl ?_ | refine wDraw rfl rfl ?_ | refine opsV_call rfl rfl (itoa_v hL n hn) ?_ | simp only [seval, push_cast, ↓reduceIte, ↓bP_some, ↓aP_true, reduceCtorEq, hj, hx, iaQ_tl hj, hw, s1, s2]))
        exact qR_n rfl rfl trivial
      · intro _
        rw [take_all]
        (repeat' (first | refine wSeq rfl ?_ | refine wBlock rfl ?_ | refine wSkip rfl ?_ | refine wExit rfl ?_ | refine wRet rfl ?_ | refine wCondT rfl rfl ?_ | refine wCondF rfl rfl ?_ | refine wOps rfl ?_ | refine wDraw rfl rfl ?_ | simp only [seval, push_cast, ↓reduceIte, ↓bP_some, ↓aP_true, reduceCtorEq]))
        exact FnQ.ret rfl rfl
    · have hnm := name_len 2
      (repeat' (first | refine wSeq rfl ?_ | refine wBlock rfl ?_ | refine wSkip rfl ?_ | refine wExit rfl ?_ | refine wRet rfl ?_ | refine wCondT rfl rfl ?_ | refine wCondF rfl rfl ?_ | refine wOps rfl ?_ | refine wDraw rfl rfl ?_ | refine opsV_call rfl rfl (alone_v hL _ _ _ _ hs hl2) ?_ | refine opsV_call rfl rfl (names_v hL) ?_ | simp only [seval, push_cast, ↓reduceIte, ↓bP_some, ↓aP_true, reduceCtorEq, hal, iaQ_tl (l := namesS) (i := 2) (by decide), show namesS[2]? = some (nameL 2) from by decide]))
      generalize nameL 2 = nm at hnm ⊢
      refine wCnt rfl 18 l.length (fun j => [(4, .str (nm ++ marksL (l.take j)))]) (fun _ => True) (by rw [List.take_zero, show marksL [] = [] from rfl, List.append_nil]; rfl) trivial ?_ ?_
      · intro j hj _
        obtain ⟨m, hx, hmem⟩ := get_of hj
        obtain rfl := size_of hs hj
        have hm := hm m hmem
        obtain ⟨n, rfl⟩ : ∃ n : Nat, m = n := ⟨m.toNat, by omega⟩
        have hn : n < 11 := by omega
        have hw := wrap_succ (show j < 9223372036854775807 by omega)
        have hst := marks_snoc (l.take j) (n : Int)
        rw [← take_snoc hx, Int.toNat_natCast] at hst
        rw [hst]
        have hml := marks_len (l.take j)
        have hdl := dig_len n
        rw [List.length_take] at hml
        have s1 : binV .add (.str [32]) (.str (dig n)) = some (.str ([32] ++ dig n)) := binV_sadd (by simp; omega)
        have s2 : binV .add (.str (nm ++ marksL (l.take j))) (.str ([32] ++ dig n)) = some (.str ((nm ++ marksL (l.take j)) ++ ([32] ++ dig n))) := binV_sadd (by simp; omega)
        rw [← List.append_assoc nm]
        generalize nm ++ marksL (l.take j) = acc at *
        generalize hdn : [32] ++ dig n = dn at *
        (repeat' (first | refine wSeq rfl ?_ | refine wBlock rfl ?_ | refine wSkip rfl ?_ | refine wExit rfl ?_ | refine wRet rfl ?_ | refine wCondT rfl rfl ?_ | refine wCondF rfl rfl ?_ | refine wOps rfl ?_ | refine wDraw rfl rfl ?_ | refine opsV_call rfl rfl (itoa_v hL n hn) ?_ | simp only [seval, push_cast, ↓reduceIte, ↓bP_some, ↓aP_true, reduceCtorEq, hj, hx, iaQ_tl hj, hw, s1, s2]))
        exact qR_n rfl rfl trivial
      · intro _
        rw [take_all]
        (repeat' (first | refine wSeq rfl ?_ | refine wBlock rfl ?_ | refine wSkip rfl ?_ | refine wExit rfl ?_ | refine wRet rfl ?_ | refine wCondT rfl rfl ?_ | refine wCondF rfl rfl ?_ | refine wOps rfl ?_ | refine wDraw rfl rfl ?_ | simp only [seval, push_cast, ↓reduceIte, ↓bP_some, ↓aP_true, reduceCtorEq]))
        exact FnQ.ret rfl rfl
    · have hnm := name_len 3
      (repeat' (first | refine wSeq rfl ?_ | refine wBlock rfl ?_ | refine wSkip rfl ?_ | refine wExit rfl ?_ | refine wRet rfl ?_ | refine wCondT rfl rfl ?_ | refine wCondF rfl rfl ?_ | refine wOps rfl ?_ | refine wDraw rfl rfl ?_ | refine opsV_call rfl rfl (alone_v hL _ _ _ _ hs hl2) ?_ | refine opsV_call rfl rfl (names_v hL) ?_ | simp only [seval, push_cast, ↓reduceIte, ↓bP_some, ↓aP_true, reduceCtorEq, hal, iaQ_tl (l := namesS) (i := 3) (by decide), show namesS[3]? = some (nameL 3) from by decide]))
      generalize nameL 3 = nm at hnm ⊢
      refine wCnt rfl 18 l.length (fun j => [(4, .str (nm ++ marksL (l.take j)))]) (fun _ => True) (by rw [List.take_zero, show marksL [] = [] from rfl, List.append_nil]; rfl) trivial ?_ ?_
      · intro j hj _
        obtain ⟨m, hx, hmem⟩ := get_of hj
        obtain rfl := size_of hs hj
        have hm := hm m hmem
        obtain ⟨n, rfl⟩ : ∃ n : Nat, m = n := ⟨m.toNat, by omega⟩
        have hn : n < 11 := by omega
        have hw := wrap_succ (show j < 9223372036854775807 by omega)
        have hst := marks_snoc (l.take j) (n : Int)
        rw [← take_snoc hx, Int.toNat_natCast] at hst
        rw [hst]
        have hml := marks_len (l.take j)
        have hdl := dig_len n
        rw [List.length_take] at hml
        have s1 : binV .add (.str [32]) (.str (dig n)) = some (.str ([32] ++ dig n)) := binV_sadd (by simp; omega)
        have s2 : binV .add (.str (nm ++ marksL (l.take j))) (.str ([32] ++ dig n)) = some (.str ((nm ++ marksL (l.take j)) ++ ([32] ++ dig n))) := binV_sadd (by simp; omega)
        rw [← List.append_assoc nm]
        generalize nm ++ marksL (l.take j) = acc at *
        generalize hdn : [32] ++ dig n = dn at *
        (repeat' (first | refine wSeq rfl ?_ | refine wBlock rfl ?_ | refine wSkip rfl ?_ | refine wExit rfl ?_ | refine wRet rfl ?_ | refine wCondT rfl rfl ?_ | refine wCondF rfl rfl ?_ | refine wOps rfl ?_ | refine wDraw rfl rfl ?_ | refine opsV_call rfl rfl (itoa_v hL n hn) ?_ | simp only [seval, push_cast, ↓reduceIte, ↓bP_some, ↓aP_true, reduceCtorEq, hj, hx, iaQ_tl hj, hw, s1, s2]))
        exact qR_n rfl rfl trivial
      · intro _
        rw [take_all]
        (repeat' (first | refine wSeq rfl ?_ | refine wBlock rfl ?_ | refine wSkip rfl ?_ | refine wExit rfl ?_ | refine wRet rfl ?_ | refine wCondT rfl rfl ?_ | refine wCondF rfl rfl ?_ | refine wOps rfl ?_ | refine wDraw rfl rfl ?_ | simp only [seval, push_cast, ↓reduceIte, ↓bP_some, ↓aP_true, reduceCtorEq]))
        exact FnQ.ret rfl rfl
theorem rtext_v (k : Int) (s : Nat) (l : List Int) (c : Option Nat) (hs : s = 1 ∨ l = []) (hl : l.length ≤ 17592186043904) : VFn L 26 [(.agg [.int .u8 k, tl mrow s (l) c])] (.tup [.str (btextL k l).1, .int .i64 (btextL k l).2]) := by
  have hl2 : l.length < 4611686018427387904 := by omega
  refine VFn.start (F := T26.1) (by rw [hL]; rfl) rfl rfl rfl ?_
  cases hal : aloneL k l with
  | false =>
    have hc : ¬ checkL k l (amongL k l) = 0 := fun h => by rw [alone_of h] at hal; cases hal
    (repeat' (first | refine wSeq rfl ?_ | refine wBlock rfl ?_ | refine wSkip rfl ?_ | refine wExit rfl ?_ | refine wRet rfl ?_ | refine wCondT rfl rfl ?_ | refine wCondF rfl rfl ?_ | refine wOps rfl ?_ | refine wDraw rfl rfl ?_ | refine opsV_call rfl rfl (rcheck_v hL _ _ _ _ _ hs hl2) ?_ | refine opsV_call rfl rfl (ramong_v hL _ _ _ _) ?_ | simp only [seval, push_cast, ↓reduceIte, ↓bP_some, ↓aP_true, reduceCtorEq, hc]))
    rw [btext_bad hal]
    exact FnQ.ret rfl rfl
  | true =>
    have hc : checkL k l (amongL k l) = 0 := by unfold aloneL at hal; exact of_decide_eq_true hal
    have hm := alone_marks hal
    rw [btext_ok hal]
    dsimp only
    rcases alone_kind' hal with rfl | rfl | rfl
    · have hnm := name_len 1
      (repeat' (first | refine wSeq rfl ?_ | refine wBlock rfl ?_ | refine wSkip rfl ?_ | refine wExit rfl ?_ | refine wRet rfl ?_ | refine wCondT rfl rfl ?_ | refine wCondF rfl rfl ?_ | refine wOps rfl ?_ | refine wDraw rfl rfl ?_ | refine opsV_call rfl rfl (rcheck_v hL _ _ _ _ _ hs hl2) ?_ | refine opsV_call rfl rfl (ramong_v hL _ _ _ _) ?_ | simp only [seval, push_cast, ↓reduceIte, ↓bP_some, ↓aP_true, reduceCtorEq, hc]))
      rw [show (V.str [114, 97, 110, 107]) = V.str (nameL 1) from rfl]
      generalize nameL 1 = nm at hnm ⊢
      refine wCnt rfl 6 l.length (fun j => [(5, .str (nm ++ marksL (l.take j)))]) (fun _ => True) (by rw [List.take_zero, show marksL [] = [] from rfl, List.append_nil]; rfl) trivial ?_ ?_
      · intro j hj _
        obtain ⟨m, hx, hmem⟩ := get_of hj
        obtain rfl := size_of hs hj
        have hm := hm m hmem
        obtain ⟨n, rfl⟩ : ∃ n : Nat, m = n := ⟨m.toNat, by omega⟩
        have hn : n < 20 := by omega
        have hw := wrap_succ (show j < 9223372036854775807 by omega)
        have hst := marks_snoc (l.take j) (n : Int)
        rw [← take_snoc hx, Int.toNat_natCast] at hst
        rw [hst]
        have hml := marks_len (l.take j)
        have hdl := dig_len n
        rw [List.length_take] at hml
        have s1 : binV .add (.str (nm ++ marksL (l.take j))) (.str [32]) = some (.str ((nm ++ marksL (l.take j)) ++ [32])) := binV_sadd (by simp; omega)
        have s2 : binV .add (.str ((nm ++ marksL (l.take j)) ++ [32])) (.str (dig n)) = some (.str (((nm ++ marksL (l.take j)) ++ [32]) ++ dig n)) := binV_sadd (by simp; omega)
        rw [← List.append_assoc nm, ← List.append_assoc]
        generalize nm ++ marksL (l.take j) = acc at *
        generalize hdn : acc ++ [32] = dn at *
        (repeat' (first | refine wSeq rfl ?_ | refine wBlock rfl ?_ | refine wSkip rfl ?_ | refine wExit rfl ?_ | refine wRet rfl ?_ | refine wCondT rfl rfl ?_ | refine wCondF rfl rfl ?_ | refine wOps rfl ?_ | refine wDraw rfl rfl ?_ | refine opsV_call rfl rfl (digits_v hL n hn) ?_ | simp only [seval, push_cast, ↓reduceIte, ↓bP_some, ↓aP_true, reduceCtorEq, hj, hx, iaQ_tl hj, hw, s1, s2]))
        exact qR_n rfl rfl trivial
      · intro _
        rw [take_all]
        (repeat' (first | refine wSeq rfl ?_ | refine wBlock rfl ?_ | refine wSkip rfl ?_ | refine wExit rfl ?_ | refine wRet rfl ?_ | refine wCondT rfl rfl ?_ | refine wCondF rfl rfl ?_ | refine wOps rfl ?_ | refine wDraw rfl rfl ?_ | simp only [seval, push_cast, ↓reduceIte, ↓bP_some, ↓aP_true, reduceCtorEq]))
        exact FnQ.ret rfl rfl
    · have hnm := name_len 2
      (repeat' (first | refine wSeq rfl ?_ | refine wBlock rfl ?_ | refine wSkip rfl ?_ | refine wExit rfl ?_ | refine wRet rfl ?_ | refine wCondT rfl rfl ?_ | refine wCondF rfl rfl ?_ | refine wOps rfl ?_ | refine wDraw rfl rfl ?_ | refine opsV_call rfl rfl (rcheck_v hL _ _ _ _ _ hs hl2) ?_ | refine opsV_call rfl rfl (ramong_v hL _ _ _ _) ?_ | simp only [seval, push_cast, ↓reduceIte, ↓bP_some, ↓aP_true, reduceCtorEq, hc]))
      rw [show (V.str [109, 97, 114, 107]) = V.str (nameL 2) from rfl]
      generalize nameL 2 = nm at hnm ⊢
      refine wCnt rfl 6 l.length (fun j => [(5, .str (nm ++ marksL (l.take j)))]) (fun _ => True) (by rw [List.take_zero, show marksL [] = [] from rfl, List.append_nil]; rfl) trivial ?_ ?_
      · intro j hj _
        obtain ⟨m, hx, hmem⟩ := get_of hj
        obtain rfl := size_of hs hj
        have hm := hm m hmem
        obtain ⟨n, rfl⟩ : ∃ n : Nat, m = n := ⟨m.toNat, by omega⟩
        have hn : n < 20 := by omega
        have hw := wrap_succ (show j < 9223372036854775807 by omega)
        have hst := marks_snoc (l.take j) (n : Int)
        rw [← take_snoc hx, Int.toNat_natCast] at hst
        rw [hst]
        have hml := marks_len (l.take j)
        have hdl := dig_len n
        rw [List.length_take] at hml
        have s1 : binV .add (.str (nm ++ marksL (l.take j))) (.str [32]) = some (.str ((nm ++ marksL (l.take j)) ++ [32])) := binV_sadd (by simp; omega)
        have s2 : binV .add (.str ((nm ++ marksL (l.take j)) ++ [32])) (.str (dig n)) = some (.str (((nm ++ marksL (l.take j)) ++ [32]) ++ dig n)) := binV_sadd (by simp; omega)
        rw [← List.append_assoc nm, ← List.append_assoc]
        generalize nm ++ marksL (l.take j) = acc at *
        generalize hdn : acc ++ [32] = dn at *
        (repeat' (first | refine wSeq rfl ?_ | refine wBlock rfl ?_ | refine wSkip rfl ?_ | refine wExit rfl ?_ | refine wRet rfl ?_ | refine wCondT rfl rfl ?_ | refine wCondF rfl rfl ?_ | refine wOps rfl ?_ | refine wDraw rfl rfl ?_ | refine opsV_call rfl rfl (digits_v hL n hn) ?_ | simp only [seval, push_cast, ↓reduceIte, ↓bP_some, ↓aP_true, reduceCtorEq, hj, hx, iaQ_tl hj, hw, s1, s2]))
        exact qR_n rfl rfl trivial
      · intro _
        rw [take_all]
        (repeat' (first | refine wSeq rfl ?_ | refine wBlock rfl ?_ | refine wSkip rfl ?_ | refine wExit rfl ?_ | refine wRet rfl ?_ | refine wCondT rfl rfl ?_ | refine wCondF rfl rfl ?_ | refine wOps rfl ?_ | refine wDraw rfl rfl ?_ | simp only [seval, push_cast, ↓reduceIte, ↓bP_some, ↓aP_true, reduceCtorEq]))
        exact FnQ.ret rfl rfl
    · have hnm := name_len 3
      (repeat' (first | refine wSeq rfl ?_ | refine wBlock rfl ?_ | refine wSkip rfl ?_ | refine wExit rfl ?_ | refine wRet rfl ?_ | refine wCondT rfl rfl ?_ | refine wCondF rfl rfl ?_ | refine wOps rfl ?_ | refine wDraw rfl rfl ?_ | refine opsV_call rfl rfl (rcheck_v hL _ _ _ _ _ hs hl2) ?_ | refine opsV_call rfl rfl (ramong_v hL _ _ _ _) ?_ | simp only [seval, push_cast, ↓reduceIte, ↓bP_some, ↓aP_true, reduceCtorEq, hc]))
      rw [show (V.str [115, 99, 111, 114, 101]) = V.str (nameL 3) from rfl]
      generalize nameL 3 = nm at hnm ⊢
      refine wCnt rfl 6 l.length (fun j => [(5, .str (nm ++ marksL (l.take j)))]) (fun _ => True) (by rw [List.take_zero, show marksL [] = [] from rfl, List.append_nil]; rfl) trivial ?_ ?_
      · intro j hj _
        obtain ⟨m, hx, hmem⟩ := get_of hj
        obtain rfl := size_of hs hj
        have hm := hm m hmem
        obtain ⟨n, rfl⟩ : ∃ n : Nat, m = n := ⟨m.toNat, by omega⟩
        have hn : n < 20 := by omega
        have hw := wrap_succ (show j < 9223372036854775807 by omega)
        have hst := marks_snoc (l.take j) (n : Int)
        rw [← take_snoc hx, Int.toNat_natCast] at hst
        rw [hst]
        have hml := marks_len (l.take j)
        have hdl := dig_len n
        rw [List.length_take] at hml
        have s1 : binV .add (.str (nm ++ marksL (l.take j))) (.str [32]) = some (.str ((nm ++ marksL (l.take j)) ++ [32])) := binV_sadd (by simp; omega)
        have s2 : binV .add (.str ((nm ++ marksL (l.take j)) ++ [32])) (.str (dig n)) = some (.str (((nm ++ marksL (l.take j)) ++ [32]) ++ dig n)) := binV_sadd (by simp; omega)
        rw [← List.append_assoc nm, ← List.append_assoc]
        generalize nm ++ marksL (l.take j) = acc at *
        generalize hdn : acc ++ [32] = dn at *
        (repeat' (first | refine wSeq rfl ?_ | refine wBlock rfl ?_ | refine wSkip rfl ?_ | refine wExit rfl ?_ | refine wRet rfl ?_ | refine wCondT rfl rfl ?_ | refine wCondF rfl rfl ?_ | refine wOps rfl ?_ | refine wDraw rfl rfl ?_ | refine opsV_call rfl rfl (digits_v hL n hn) ?_ | simp only [seval, push_cast, ↓reduceIte, ↓bP_some, ↓aP_true, reduceCtorEq, hj, hx, iaQ_tl hj, hw, s1, s2]))
        exact qR_n rfl rfl trivial
      · intro _
        rw [take_all]
        (repeat' (first | refine wSeq rfl ?_ | refine wBlock rfl ?_ | refine wSkip rfl ?_ | refine wExit rfl ?_ | refine wRet rfl ?_ | refine wCondT rfl rfl ?_ | refine wCondF rfl rfl ?_ | refine wOps rfl ?_ | refine wDraw rfl rfl ?_ | simp only [seval, push_cast, ↓reduceIte, ↓bP_some, ↓aP_true, reduceCtorEq]))
        exact FnQ.ret rfl rfl
end Go.Proofs.YtnhfbabenifbkaaGreatDoor
set_option maxRecDepth 100000
set_option maxHeartbeats 4000000
set_option linter.unusedVariables false
set_option linter.unusedSimpArgs false
namespace Go.Proofs.YtnhfbabenifbkaaGreatDoor
theorem count_le (s : List UInt8) : Lib.countByte s 32 ≤ s.length := by
  have h : ∀ s : List UInt8, (splitL s).length ≤ s.length + 1 := by
    intro s
    induction s with
    | nil => simp [splitL]
    | cons c r ih =>
      rw [splitL]
      by_cases h : c = 32
      · rw [if_pos h]; simp; omega
      · rw [if_neg h]
        have e : (pushW c (splitL r)).length = (splitL r).length := by
          cases hr : splitL r with
          | nil => exact absurd hr (split_ne r)
          | cons w ws => rfl
        rw [e]; simp; omega
  have := h s
  rw [split_len] at this
  omega
theorem srow_set {r : List (List UInt8)} {i : Nat} {x : List UInt8} : (r.map srow).set i [.str x] = (r.set i x).map srow := by rw [List.map_set]; rfl
theorem row_srow {r : List (List UInt8)} {i : Nat} : (r.map srow)[i]? = (r[i]?).map srow := List.getElem?_map
variable {L : Lib} (hL : L.T = tab.get)
include hL
theorem sindex_v (s : List UInt8) : VFn L 86 [.str s, .str [32]] (.int .i64 (Lib.indexByte s 32)) := by
  have x1 : xfnV 1 (.str s) (.int .u8 32) = some (.int .i64 (Lib.indexByte s 32)) := rfl
  have x2 : ((32 : UInt8).toNat : Int) = 32 := rfl
  have f1 : VFn L 115 [.str s, .int .u8 32] (.int .i64 (Lib.indexByte s 32)) := by
    refine VFn.start (F := T115.1) (by rw [hL]; rfl) rfl rfl rfl ?_
    (repeat' (first | refine wSeq rfl ?_ | refine wBlock rfl ?_ | refine wSkip rfl ?_ | refine wExit rfl ?_ | refine wRet rfl ?_ | refine wCondT rfl rfl ?_ | refine wCondF rfl rfl ?_ | refine wOps rfl ?_ | refine wDraw rfl rfl ?_ | simp only [seval, push_cast, ↓reduceIte, ↓bP_some, ↓aP_true, reduceCtorEq, x1]))
    exact FnQ.ret rfl rfl
  have f2 : VFn L 105 [.str s, .str [32]] (.int .i64 (Lib.indexByte s 32)) := by
    refine VFn.start (F := T105.1) (by rw [hL]; rfl) rfl rfl rfl ?_
    by_cases e : [32] = s
    · subst e
      (repeat' (first | refine wSeq rfl ?_ | refine wBlock rfl ?_ | refine wSkip rfl ?_ | refine wExit rfl ?_ | refine wRet rfl ?_ | refine wCondT rfl rfl ?_ | refine wCondF rfl rfl ?_ | refine wOps rfl ?_ | refine wDraw rfl rfl ?_ | refine opsV_call rfl rfl (f1) ?_ | simp only [seval, push_cast, ↓reduceIte, ↓bP_some, ↓aP_true, reduceCtorEq, x2, binV_seql, decide_true]))
      exact FnQ.ret rfl rfl
    · (repeat' (first | refine wSeq rfl ?_ | refine wBlock rfl ?_ | refine wSkip rfl ?_ | refine wExit rfl ?_ | refine wRet rfl ?_ | refine wCondT rfl rfl ?_ | refine wCondF rfl rfl ?_ | refine wOps rfl ?_ | refine wDraw rfl rfl ?_ | refine opsV_call rfl rfl (f1) ?_ | simp only [seval, push_cast, ↓reduceIte, ↓bP_some, ↓aP_true, reduceCtorEq, x2, binV_seql, e, decide_false]))
      exact FnQ.ret rfl rfl
  refine VFn.start (F := T86.1) (by rw [hL]; rfl) rfl rfl rfl ?_
  (repeat' (first | refine wSeq rfl ?_ | refine wBlock rfl ?_ | refine wSkip rfl ?_ | refine wExit rfl ?_ | refine wRet rfl ?_ | refine wCondT rfl rfl ?_ | refine wCondF rfl rfl ?_ | refine wOps rfl ?_ | refine wDraw rfl rfl ?_ | refine opsV_call rfl rfl (f2) ?_ | simp only [seval, push_cast, ↓reduceIte, ↓bP_some, ↓aP_true, reduceCtorEq]))
  exact FnQ.ret rfl rfl
theorem scount_v (s : List UInt8) : VFn L 85 [.str s, .str [32]] (.int .i64 ((Lib.countByte s 32 : Nat) : Int)) := by
  have x1 : xfnV 0 (.str s) (.int .u8 32) = some (.int .i64 ((Lib.countByte s 32 : Nat) : Int)) := rfl
  have x2 : ((32 : UInt8).toNat : Int) = 32 := rfl
  refine VFn.start (F := T85.1) (by rw [hL]; rfl) rfl rfl rfl ?_
  (repeat' (first | refine wSeq rfl ?_ | refine wBlock rfl ?_ | refine wSkip rfl ?_ | refine wExit rfl ?_ | refine wRet rfl ?_ | refine wCondT rfl rfl ?_ | refine wCondF rfl rfl ?_ | refine wOps rfl ?_ | refine wDraw rfl rfl ?_ | simp only [seval, push_cast, ↓reduceIte, ↓bP_some, ↓aP_true, reduceCtorEq, x1, x2]))
  exact FnQ.ret rfl rfl
theorem split_v (s : List UInt8) (hs : s.length ≤ 1000000) : VFn L 54 [.str s, .str [32]] (tl srow 1 (splitL s) (some (splitL s).length)) := by
  have f1 : VFn L 66 [.str s, .str [32], .int .i64 0, .int .i64 (-1)] (tl srow 1 (splitL s) (some (splitL s).length)) := by
    refine VFn.start (F := T66.1) (by rw [hL]; rfl) rfl rfl rfl ?_
    have hN := count_le s
    have hlen := split_len s
    have hcv := scount_v hL s
    generalize Lib.countByte s 32 = N at *
    have hmin : ¬ ((s.length : Int) + 1 < (N : Int) + 1) := by omega
    have w1 := wrap_succ (show N < 9223372036854775807 by omega)
    have w2 := wrap_succ (show s.length < 9223372036854775807 by omega)
    have w3 := wrap_nat (show N < 9223372036854775808 by omega)
    have r1 : (N + 1) * 16 ≤ 140737488355328 := by omega
    have r2 : N + 1 < 9223372036854775808 := by omega
    (repeat' (first | refine wSeq rfl ?_ | refine wBlock rfl ?_ | refine wSkip rfl ?_ | refine wExit rfl ?_ | refine wRet rfl ?_ | refine wCondT rfl rfl ?_ | refine wCondF rfl rfl ?_ | refine wOps rfl ?_ | refine wDraw rfl rfl ?_ | refine opsV_call rfl rfl (hcv) ?_ | simp only [seval, push_cast, ↓reduceIte, ↓bP_some, ↓aP_true, reduceCtorEq, binV_seql, hmin, w1, w2, w3, r1, r2]))
    refine wWhile rfl (fun p : List (List UInt8) × List UInt8 => [(0, .str p.2), (1, .str [32]), (2, .int .i64 0), (3, .int .i64 (N : Int)), (9, .ref 0 1 0 (N + 1) (some (N + 1))), (10, .int .i64 (p.1.length : Int))]) (fun p => [some (.arr 1 ((p.1 ++ List.replicate (N + 1 - p.1.length) []).map srow))]) (fun p => p.2.length) (fun p => splitL s = p.1 ++ splitL p.2 ∧ p.2.length ≤ s.length) ([], s) rfl (by rw [List.nil_append, List.map_replicate]; rfl) ⟨rfl, Nat.le_refl _⟩ ?_
    rintro ⟨ws, r⟩ ⟨hI, hr⟩
    dsimp only at hI hr ⊢
    have hsum := congrArg List.length hI
    rw [List.length_append, hlen] at hsum
    rcases index_blank r with ⟨h1, h2⟩ | ⟨w, r', rfl, h1, h2⟩
    · have e := split_word h2
      rw [e, List.length_singleton] at hsum
      obtain rfl : ws.length = N := by omega
      have hset : (ws ++ List.replicate (ws.length + 1 - ws.length) ([] : List UInt8)).set ws.length r = splitL s := by
        rw [hI, e, Nat.add_sub_cancel_left, List.set_append_right _ _ (Nat.le_refl _), Nat.sub_self]; rfl
      have hg : (ws ++ List.replicate (ws.length + 1 - ws.length) ([] : List UInt8))[ws.length]? = some [] := by
        rw [Nat.add_sub_cancel_left, List.getElem?_append_right (Nat.le_refl _), Nat.sub_self]; rfl
      (repeat' (first | refine wSeq rfl ?_ | refine wBlock rfl ?_ | refine wSkip rfl ?_ | refine wExit rfl ?_ | refine wRet rfl ?_ | refine wCondT rfl rfl ?_ | refine wCondF rfl rfl ?_ | refine wOps rfl ?_ | refine wDraw rfl rfl ?_ | simp only [seval, push_cast, ↓reduceIte, ↓bP_some, ↓aP_true, reduceCtorEq, w1, row_srow, hg, srow_set, hset]))
      refine FnQ.frz [0] rfl ?_
      rw [← hlen]
      exact frz_ref closed_srow (by decide) rfl rfl
    · rw [split_app h1, List.length_cons] at hsum
      have hpos := List.length_pos_iff.2 (split_ne r')
      have hlt : ws.length < N := by omega
      have hwl : w.length ≤ s.length := by rw [List.length_append] at hr; omega
      have w4 := wrap_nat (show w.length < 9223372036854775808 by omega)
      have w5 := wrap_succ (show w.length < 9223372036854775807 by omega)
      have w6 := wrap_succ (show ws.length < 9223372036854775807 by omega)
      have hrep : List.replicate (N + 1 - ws.length) ([] : List UInt8) = [] :: List.replicate (N + 1 - (ws.length + 1)) [] := by
        rw [show N + 1 - ws.length = (N + 1 - (ws.length + 1)) + 1 by omega]; rfl
      have hg : (ws ++ List.replicate (N + 1 - ws.length) ([] : List UInt8))[ws.length]? = some [] := by
        rw [hrep, List.getElem?_append_right (Nat.le_refl _), Nat.sub_self]; rfl
      have hset : (ws ++ List.replicate (N + 1 - ws.length) ([] : List UInt8)).set ws.length w = (ws ++ [w]) ++ List.replicate (N + 1 - (ws.length + 1)) [] := by
        rw [hrep, List.set_append_right _ _ (Nat.le_refl _), Nat.sub_self, List.append_assoc]; rfl
      have t1 : ((w ++ 32 :: r').drop 0).take (w.length - 0) = w := by rw [List.drop_zero, Nat.sub_zero, List.take_left]
      have t2 : ((w ++ 32 :: r').drop (w.length + 1)).take (w.length + (r'.length + 1) - (w.length + 1)) = r' := by
        rw [show w ++ 32 :: r' = (w ++ [32]) ++ r' by simp, List.drop_left' (by simp), List.take_of_length_le (by omega)]
      have l1 : w.length ≤ w.length + (r'.length + 1) := by omega
      have l2 : w.length + 1 ≤ w.length + (r'.length + 1) := by omega
      have n0 : ¬ ((w.length : Int) < 0) := by omega
      have hltN : ws.length < N + 1 := by omega
      rw [List.drop_zero, Nat.sub_zero] at t1
      (repeat' (first | refine wSeq rfl ?_ | refine wBlock rfl ?_ | refine wSkip rfl ?_ | refine wExit rfl ?_ | refine wRet rfl ?_ | refine wCondT rfl rfl ?_ | refine wCondF rfl rfl ?_ | refine wOps rfl ?_ | refine wDraw rfl rfl ?_ | refine opsV_call rfl rfl (sindex_v hL (w ++ 32 :: r')) ?_ | simp only [seval, push_cast, ↓reduceIte, ↓bP_some, ↓aP_true, reduceCtorEq, hlt, hltN, h2, n0, w4, w5, w6, l1, l2, t1, t2, row_srow, hg, srow_set, hset, List.length_append, Int.add_zero, List.drop_zero, Nat.sub_zero, Nat.zero_le]))
      refine qW_n (ws ++ [w], r') ?_ ?_ ⟨?_, ?_, ?_⟩
      · simp
      · simp [hltN]
      · simp; omega
      · dsimp only; rw [hI, split_app h1, List.append_assoc]; rfl
      · dsimp only; rw [List.length_append, List.length_cons] at hr; omega
  refine VFn.start (F := T54.1) (by rw [hL]; rfl) rfl rfl rfl ?_
  (repeat' (first | refine wSeq rfl ?_ | refine wBlock rfl ?_ | refine wSkip rfl ?_ | refine wExit rfl ?_ | refine wRet rfl ?_ | refine wCondT rfl rfl ?_ | refine wCondF rfl rfl ?_ | refine wOps rfl ?_ | refine wDraw rfl rfl ?_ | refine opsV_call rfl rfl (f1) ?_ | simp only [seval, push_cast, ↓reduceIte, ↓bP_some, ↓aP_true, reduceCtorEq]))
  exact FnQ.ret rfl rfl
/-- The place of a text among the names. -/
def placeW : List (List UInt8) → List UInt8 → Nat → Int
  | [], _, _ => -1
  | w :: ws, s, i => if s = w then (i : Int) else placeW ws s (i + 1)
theorem nindex_v (s : List UInt8) (c : Option Nat) : VFn L 55 [tl srow 1 namesS c, .str s] (.int .i64 (placeW namesS s 0)) := by
  refine VFn.start (F := T55.1) (by rw [hL]; rfl) rfl rfl rfl ?_
  (repeat' (first | refine wSeq rfl ?_ | refine wBlock rfl ?_ | refine wSkip rfl ?_ | refine wExit rfl ?_ | refine wRet rfl ?_ | refine wCondT rfl rfl ?_ | refine wCondF rfl rfl ?_ | refine wOps rfl ?_ | refine wDraw rfl rfl ?_ | simp only [seval, push_cast, ↓reduceIte, ↓bP_some, ↓aP_true, reduceCtorEq]))
  refine wCnt rfl 8 namesS.length (fun _ => []) (fun j => placeW namesS s 0 = placeW (namesS.drop j) s j) rfl rfl ?_ ?_
  · intro j hj hI
    obtain ⟨w, hw, _⟩ := get_of (l := namesS) hj
    have hws := wrap_succ (show j < 9223372036854775807 by have : namesS.length = 4 := rfl; omega)
    have hd : namesS.drop j = w :: namesS.drop (j + 1) := by
      obtain ⟨h1, h2⟩ := List.getElem?_eq_some_iff.1 hw
      rw [List.drop_eq_getElem_cons h1, h2]
    rw [hd, placeW] at hI
    by_cases e : s = w
    · rw [if_pos e] at hI
      (repeat' (first | refine wSeq rfl ?_ | refine wBlock rfl ?_ | refine wSkip rfl ?_ | refine wExit rfl ?_ | refine wRet rfl ?_ | refine wCondT rfl rfl ?_ | refine wCondF rfl rfl ?_ | refine wOps rfl ?_ | refine wDraw rfl rfl ?_ | simp only [seval, push_cast, ↓reduceIte, ↓bP_some, ↓aP_true, reduceCtorEq, hj, hw, iaQ_tl (l := namesS) hj, binV_seql, e, decide_true]))
      rw [← e, hI]
      exact FnQ.ret rfl rfl
    · rw [if_neg e] at hI
      (repeat' (first | refine wSeq rfl ?_ | refine wBlock rfl ?_ | refine wSkip rfl ?_ | refine wExit rfl ?_ | refine wRet rfl ?_ | refine wCondT rfl rfl ?_ | refine wCondF rfl rfl ?_ | refine wOps rfl ?_ | refine wDraw rfl rfl ?_ | simp only [seval, push_cast, ↓reduceIte, ↓bP_some, ↓aP_true, reduceCtorEq, hj, hw, iaQ_tl (l := namesS) hj, binV_seql, e, decide_false, hws]))
      exact qR_n rfl rfl hI
  · intro hI
    (repeat' (first | refine wSeq rfl ?_ | refine wBlock rfl ?_ | refine wSkip rfl ?_ | refine wExit rfl ?_ | refine wRet rfl ?_ | refine wCondT rfl rfl ?_ | refine wCondF rfl rfl ?_ | refine wOps rfl ?_ | refine wDraw rfl rfl ?_ | simp only [seval, push_cast, ↓reduceIte, ↓bP_some, ↓aP_true, reduceCtorEq]))
    rw [hI]
    exact FnQ.ret rfl rfl
omit hL
theorem place_kind (s : List UInt8) : (if placeW namesS s 0 < 0 then 0 else placeW namesS s 0) = kindL s := by
  by_cases h0 : s = []
  · subst h0; decide
  by_cases h1 : s = [114, 97, 110, 107]
  · subst h1; decide
  by_cases h2 : s = [109, 97, 114, 107]
  · subst h2; decide
  by_cases h3 : s = [115, 99, 111, 114, 101]
  · subst h3; decide
  simp [namesS, placeW, kindL, h0, h1, h2, h3]
theorem kind_u8 (s : List UInt8) : IntKind.u8.wrap (kindL s) = kindL s := by
  unfold kindL
  split
  · decide
  · split
    · decide
    · split <;> decide
end Go.Proofs.YtnhfbabenifbkaaGreatDoor
set_option maxRecDepth 100000
set_option maxHeartbeats 4000000
set_option linter.unusedVariables false
set_option linter.unusedSimpArgs false
namespace Go.Proofs.YtnhfbabenifbkaaGreatDoor
theorem frz_accS {α : Type} {f : α → List V} (hf : ∀ x, (f x).all V.closed = true) {H : Heap} {src : List (Option Nat)} {fz : List Nat} {a n : Nat} {r : List α} (hp : posIn src a 0 = none) (hn : 0 < n) (ha : fz.contains a = true) (h : H.get a = accB f n r) : ∃ s c, (s = n ∨ r = []) ∧ V.ren (sgOf H src fz) (accV a n r) = tl f s r c := by
  by_cases hr : r = []
  · subst hr; exact ⟨0, some 0, .inr rfl, rfl⟩
  · rw [accB_cons hr] at h
    refine ⟨n, none, .inl rfl, ?_⟩
    rw [accV_cons hr]
    have e : sgOf H src fz a = .frz n (r.map f) := by
      unfold sgOf
      simp only [hp, ha, h, closeds_tl hf, cond_true]
    rw [V.ren, e]
    simp only [true_and, hn, Nat.zero_add, List.length_map, Nat.le_refl, and_self, if_true, List.drop_zero]
    rw [List.take_of_length_le (by simp)]; rfl
theorem word_len : ∀ (s : List UInt8) (w : List UInt8), w ∈ splitL s → w.length ≤ s.length
  | [], w, h => by simp [splitL] at h; subst h; simp
  | c :: r, w, h => by
    rw [splitL] at h
    have ih := word_len r
    by_cases hc : c = 32
    · rw [if_pos hc] at h
      rcases List.mem_cons.1 h with rfl | h
      · simp
      · have := ih w h; simp; omega
    · rw [if_neg hc] at h
      cases hr : splitL r with
      | nil => exact absurd hr (split_ne r)
      | cons v vs =>
        rw [hr] at h ih
        rcases List.mem_cons.1 h with rfl | h
        · have := ih v (by simp); simp; omega
        · have := ih w (by simp [h]); simp; omega
variable {L : Lib} (hL : L.T = tab.get)
include hL
theorem read_v {f : List UInt8 → Int} (hA : ∀ w : List UInt8, w.length ≤ 1000000 → VFn L 56 [.str w] (.tup [.int .i64 (f w), .bot])) (hf : ∀ n, n < 11 → f (dig n) = (n : Int)) (s : List UInt8) (hs : s.length ≤ 1000000) :
    ∃ t c', (t = 1 ∨ (readL s).1.2 = []) ∧ VFn L 27 [.str s] (.tup [(.agg [.int .u8 (readL s).1.1, tl mrow t ((readL s).1.2) c']), .int .i64 (readL s).2]) := by
  have hwl : ∀ w ∈ wordsMarks s, w.length ≤ 1000000 := fun w hw => Nat.le_trans (word_len s w (by rw [head_tail s]; exact List.mem_cons_of_mem _ hw)) hs
  have hWl : (wordsMarks s).length ≤ 1000000 := by
    have h1 := split_len s
    have h2 := count_le s
    rw [head_tail s, List.length_cons] at h1
    omega
  have hsp := split_v hL s hs
  have hpk := place_kind (headW s)
  have hku := kind_u8 (headW s)
  rw [head_tail s, List.length_cons] at hsp
  rw [← pread_eq hf]
  unfold preadL
  have hrf : readF f s = (kindL (headW s), (wordsMarks s).map f) := rfl
  rw [hrf]
  generalize wordsMarks s = W at *
  generalize headW s = h0 at *
  obtain ⟨s', c', hs', hfz⟩ := frz_accS (f := mrow) closed_mrow (src := [some 0, some 1]) (n := 1) (a := 2) (r := W.map f) (H := [some (Blk.arr 2 [[V.int IntKind.u8 0, V.lst 0 [] (some 0)]]), some (Blk.arr 2 [[V.int IntKind.u8 (kindL h0), accV 2 1 (W.map f)]]), accB mrow 1 (W.map f)]) (fz := [2]) rfl (by decide) rfl rfl
  have hW2 : (W.map f).length ≤ 17592186043904 := by simp; omega
  have key : ∀ (t : Nat) (c : Option Nat) (r : (Int × List Int) × Int), (∀ (k : Int) (tx : List UInt8) (e : Int), k = kindL h0 → btextL k (W.map f) = (tx, e) → (e = 0 ∧ tx = s → r = ((k, W.map f), 0) ∧ t = s' ∧ c = c') ∧ (¬ (e = 0 ∧ tx = s) → r = ((0, []), 11) ∧ t = 0 ∧ c = some 0)) → VFn L 27 [.str s] (.tup [(.agg [.int .u8 r.1.1, tl mrow t (r.1.2) c]), .int .i64 r.2]) := by
    intro t c r hr
    have htx := text_v hL (kindL h0) s' (W.map f) c' hs' hW2
    have hr := hr (kindL h0) (btextL (kindL h0) (W.map f)).1 (btextL (kindL h0) (W.map f)).2 rfl rfl
    generalize (btextL (kindL h0) (W.map f)).1 = tx at htx hr
    generalize (btextL (kindL h0) (W.map f)).2 = e at htx hr
    refine VFn.start (F := T27.1) (by rw [hL]; rfl) rfl rfl rfl ?_
    (repeat' (first | refine wSeq rfl ?_ | refine wBlock rfl ?_ | refine wSkip rfl ?_ | refine wExit rfl ?_ | refine wRet rfl ?_ | refine wCondT rfl rfl ?_ | refine wCondF rfl rfl ?_ | refine wOps rfl ?_ | refine wDraw rfl rfl ?_ | refine opsV_call rfl rfl (hsp) ?_ | refine opsV_call rfl rfl (names_v hL) ?_ | refine opsV_call rfl rfl (nindex_v hL h0 _) ?_ | simp only [seval, push_cast, ↓reduceIte, ↓bP_some, ↓aP_true, reduceCtorEq, iaQ_tl (l := h0 :: W) (i := 0) (by simp), hpk, hku, sliceV_lo (l := h0 :: W) (n := 1) one_ok (by simp), Option.map_some]))
    refine wPad [some 0, some 1, none] rfl rfl rfl ?_
    refine wCntH rfl 25 W.length (fun _ => []) (fun j => [some (Blk.arr 2 [[V.int IntKind.u8 0, V.lst 0 [] (some 0)]]), some (Blk.arr 2 [[V.int IntKind.u8 (kindL h0), accV 2 1 ((W.take j).map f)]]), accB mrow 1 ((W.take j).map f)]) (fun j => True) rfl rfl trivial ?_ ?_
    · intro j hj _
      obtain ⟨w, hx, hmem⟩ := get_of hj
      have hw := wrap_succ (show j < 9223372036854775807 by omega)
      have hst : (W.take (j + 1)).map f = (W.take j).map f ++ [f w] := by rw [take_snoc hx, List.map_append]; rfl
      have hlen : ((W.take j).map f).length ≤ j := by simp; omega
      rw [hst]
      generalize (W.take j).map f = r at *
      have hroom : (r.length + 1) * 8 ≤ 140737488355328 := by omega
      have hV : accV 2 1 r = .lst 0 [] (some 0) ∧ accB mrow 1 r = none ∧ r = [] ∨ accV 2 1 r = .ref 2 1 0 r.length none ∧ accB mrow 1 r = some (.arr 1 (r.map mrow)) ∧ r ≠ [] := by
        by_cases hr : r = []
        · subst hr; exact .inl ⟨rfl, rfl, rfl⟩
        · exact .inr ⟨accV_cons hr, accB_cons hr, hr⟩
      rcases hV with ⟨hV, hB, rfl⟩ | ⟨hV, hB, hr⟩
      · (repeat' (first | refine wSeq rfl ?_ | refine wBlock rfl ?_ | refine wSkip rfl ?_ | refine wExit rfl ?_ | refine wRet rfl ?_ | refine wCondT rfl rfl ?_ | refine wCondF rfl rfl ?_ | refine wOps rfl ?_ | refine wDraw rfl rfl ?_ | refine opsV_call rfl rfl (hA w (hwl w hmem)) ?_ | simp only [seval, push_cast, ↓reduceIte, ↓bP_some, ↓aP_true, reduceCtorEq, hj, hV, hB, hw, hx, iaQ_tl hj]))
        exact qR_s [some 0, some 1, some 4] [] rfl rfl rfl trivial
      · (repeat' (first | refine wSeq rfl ?_ | refine wBlock rfl ?_ | refine wSkip rfl ?_ | refine wExit rfl ?_ | refine wRet rfl ?_ | refine wCondT rfl rfl ?_ | refine wCondF rfl rfl ?_ | refine wOps rfl ?_ | refine wDraw rfl rfl ?_ | refine opsV_call rfl rfl (hA w (hwl w hmem)) ?_ | simp only [seval, push_cast, ↓reduceIte, ↓bP_some, ↓aP_true, reduceCtorEq, hj, hV, hB, hw, hroom, hx, iaQ_tl hj]))
        exact qR_s [some 0, some 1, some 4] [] rfl rfl (by (simp only [accV_snoc, accB_snoc, accV_nil, accB_nil]; (repeat (first | exact sh_n | refine sh_c (sh_b closed_mrow rfl) ?_ | refine sh_c rfl ?_)))) trivial
    · intro _
      rw [take_all]
      refine wShift [some 0, some 1] [2] (E1 := [(0, V.str s), (2, V.ptr 0 2 0 0), (5, V.ptr 1 2 0 0), (23, tl srow 1 W (some W.length)), (24, V.int IntKind.i64 W.length), (25, V.int IntKind.i64 W.length)]) (H1 := [some (Blk.arr 2 [[V.int IntKind.u8 0, V.lst 0 [] (some 0)]]), some (Blk.arr 2 [[V.int IntKind.u8 (kindL h0), tl mrow s' (W.map f) c']])]) rfl rfl (congrArg (fun v => [some (Blk.arr 2 [[V.int IntKind.u8 0, V.lst 0 [] (some 0)]]), some (Blk.arr 2 [[V.int IntKind.u8 (kindL h0), v]])]) hfz) ?_
      by_cases e0 : e = 0
      · by_cases e1 : tx = s
        · obtain ⟨rfl, rfl, rfl⟩ := hr.1 ⟨e0, e1⟩
          (repeat' (first | refine wSeq rfl ?_ | refine wBlock rfl ?_ | refine wSkip rfl ?_ | refine wExit rfl ?_ | refine wRet rfl ?_ | refine wCondT rfl rfl ?_ | refine wCondF rfl rfl ?_ | refine wOps rfl ?_ | refine wDraw rfl rfl ?_ | refine opsV_call rfl rfl (htx) ?_ | simp only [seval, push_cast, ↓reduceIte, ↓bP_some, ↓aP_true, reduceCtorEq, e0, binV_sneq, e1, decide_true]))
          exact FnQ.ret rfl rfl
        · obtain ⟨rfl, rfl, rfl⟩ := hr.2 (fun h => e1 h.2)
          (repeat' (first | refine wSeq rfl ?_ | refine wBlock rfl ?_ | refine wSkip rfl ?_ | refine wExit rfl ?_ | refine wRet rfl ?_ | refine wCondT rfl rfl ?_ | refine wCondF rfl rfl ?_ | refine wOps rfl ?_ | refine wDraw rfl rfl ?_ | refine opsV_call rfl rfl (htx) ?_ | simp only [seval, push_cast, ↓reduceIte, ↓bP_some, ↓aP_true, reduceCtorEq, e0, binV_sneq, e1, decide_false]))
          exact FnQ.ret rfl rfl
      · obtain ⟨rfl, rfl, rfl⟩ := hr.2 (fun h => e0 h.1)
        (repeat' (first | refine wSeq rfl ?_ | refine wBlock rfl ?_ | refine wSkip rfl ?_ | refine wExit rfl ?_ | refine wRet rfl ?_ | refine wCondT rfl rfl ?_ | refine wCondF rfl rfl ?_ | refine wOps rfl ?_ | refine wDraw rfl rfl ?_ | refine opsV_call rfl rfl (htx) ?_ | simp only [seval, push_cast, ↓reduceIte, ↓bP_some, ↓aP_true, reduceCtorEq, e0]))
        exact FnQ.ret rfl rfl
  by_cases hg : aloneL (kindL h0) (W.map f) = true ∧ nameL (kindL h0) ++ marksL (W.map f) = s
  · rw [if_pos hg]
    refine ⟨s', c', hs', key s' c' _ ?_⟩
    intro k tx e hk he
    subst hk
    rw [btext_ok hg.1] at he
    cases he
    exact ⟨fun _ => ⟨rfl, rfl, rfl⟩, fun h => absurd ⟨rfl, hg.2⟩ h⟩
  · rw [if_neg hg]
    refine ⟨0, some 0, .inr rfl, key 0 (some 0) _ ?_⟩
    intro k tx e hk he
    subst hk
    refine ⟨fun h => ?_, fun _ => ⟨rfl, rfl, rfl⟩⟩
    exfalso
    cases ha : aloneL (kindL h0) (W.map f) with
    | false => rw [btext_bad ha] at he; cases he; exact absurd h.1 (by decide)
    | true => rw [btext_ok ha] at he; cases he; exact hg ⟨ha, h.2⟩
end Go.Proofs.YtnhfbabenifbkaaGreatDoor
set_option maxRecDepth 100000
set_option maxHeartbeats 4000000
set_option linter.unusedVariables false
set_option linter.unusedSimpArgs false
namespace Go.Proofs.YtnhfbabenifbkaaGreatDoor
theorem srow_snoc {r : List (List UInt8)} {x : List UInt8} : r.map srow ++ [[.str x]] = (r ++ [x]).map srow := by rw [List.map_append]; rfl
theorem drop_next {s : List UInt8} {f j : Nat} {c : UInt8} (hf : f ≤ j) (hc : s[j]? = some c) : s.drop f = (s.drop f).take (j - f) ++ c :: s.drop (j + 1) := by
  have h1 : (s.drop f)[j - f]? = some c := by rw [List.getElem?_drop, show f + (j - f) = j by omega, hc]
  have h2 := List.take_append_drop (j - f) (s.drop f)
  have h3 : (s.drop f).drop (j - f) = c :: (s.drop f).drop (j - f + 1) := by
    obtain ⟨h4, h5⟩ := List.getElem?_eq_some_iff.1 h1
    rw [List.drop_eq_getElem_cons h4, h5]
  rw [h3, List.drop_drop, show f + (j - f + 1) = j + 1 by omega] at h2
  exact h2.symm
theorem take_next {s : List UInt8} {f j : Nat} {c : UInt8} (hf : f ≤ j) (hc : s[j]? = some c) : (s.drop f).take (j + 1 - f) = (s.drop f).take (j - f) ++ [c] := by
  have h1 : (s.drop f)[j - f]? = some c := by rw [List.getElem?_drop, show f + (j - f) = j by omega, hc]
  rw [show j + 1 - f = (j - f) + 1 by omega, List.take_add_one, h1]; rfl
variable {L : Lib} (hL : L.T = tab.get)
include hL
theorem rread_v (s : List UInt8) (hs : s.length ≤ 1000000) :
    ∃ t c', (t = 1 ∨ (readL s).1.2 = []) ∧ VFn L 28 [.str s] (.tup [(.agg [.int .u8 (readL s).1.1, tl mrow t ((readL s).1.2) c']), .int .i64 (readL s).2]) := by
  have h1 := split_len s
  have h2 := count_le s
  have hWl : (wordsMarks s).length ≤ 1000000 := by
    rw [head_tail s, List.length_cons] at h1
    omega
  have hsl : (splitL s).length ≤ 1000001 := by omega
  have hht := head_tail s
  have hrd : readL s = if aloneL (kindL (headW s)) ((wordsMarks s).map numberL) = true then ((kindL (headW s), (wordsMarks s).map numberL), 0) else ((0, []), 11) := rfl
  obtain ⟨s', c', hs', hfz⟩ := frz_accS (f := mrow) closed_mrow (src := [some 0, some 1]) (n := 1) (a := 2) (r := (wordsMarks s).map numberL) (H := [some (Blk.arr 2 [[V.int IntKind.u8 0, V.lst 0 [] (some 0)]]), some (Blk.arr 2 [[V.int IntKind.u8 (kindL (headW s)), accV 2 1 ((wordsMarks s).map numberL)]]), accB mrow 1 ((wordsMarks s).map numberL)]) (fz := [2]) rfl (by decide) rfl rfl
  have key : ∀ (t : Nat) (c : Option Nat) (r : (Int × List Int) × Int), (aloneL (kindL (headW s)) ((wordsMarks s).map numberL) = true → r = ((kindL (headW s), (wordsMarks s).map numberL), 0) ∧ t = s' ∧ c = c') → (aloneL (kindL (headW s)) ((wordsMarks s).map numberL) = false → r = ((0, []), 11) ∧ t = 0 ∧ c = some 0) → VFn L 28 [.str s] (.tup [(.agg [.int .u8 r.1.1, tl mrow t (r.1.2) c]), .int .i64 r.2]) := by
    intro t c r hr1 hr2
    refine VFn.start (F := T28.1) (by rw [hL]; rfl) rfl rfl rfl ?_
    (repeat' (first | refine wSeq rfl ?_ | refine wBlock rfl ?_ | refine wSkip rfl ?_ | refine wExit rfl ?_ | refine wRet rfl ?_ | refine wCondT rfl rfl ?_ | refine wCondF rfl rfl ?_ | refine wOps rfl ?_ | refine wDraw rfl rfl ?_ | simp only [seval, push_cast, ↓reduceIte, ↓bP_some, ↓aP_true, reduceCtorEq]))
    refine wPad [some 0, none] rfl rfl rfl ?_
    refine wWhile rfl (fun p : Nat × List (List UInt8) × Nat => [(0, .str s), (2, .ptr 0 2 0 0), (4, accV 1 1 p.2.1), (5, .int .i64 (p.2.2 : Int)), (6, .int .i64 (p.1 : Int))]) (fun p => [some (Blk.arr 2 [[V.int IntKind.u8 0, V.lst 0 [] (some 0)]]), accB srow 1 p.2.1]) (fun p => s.length + 1 - p.1) (fun p => p.2.1.length ≤ 1000001 ∧ (p.1 ≤ s.length ∧ p.2.2 ≤ p.1 ∧ NoB ((s.drop p.2.2).take (p.1 - p.2.2)) ∧ splitL s = p.2.1 ++ splitL (s.drop p.2.2) ∨ p.1 = s.length + 1 ∧ p.2.1 = splitL s ∧ p.2.2 = s.length + 1)) (0, [], 0) rfl rfl ⟨by simp, .inl ⟨Nat.zero_le _, Nat.le_refl _, by simp [NoB], rfl⟩⟩ ?_
    rintro ⟨j, ws, f⟩ ⟨hws, hI⟩
    dsimp only at hws hI ⊢
    have hw := wrap_succ (show j < 9223372036854775807 by rcases hI with ⟨h, _⟩ | ⟨h, _⟩ <;> omega)
    have hroom : (ws.length + 1) * 16 ≤ 140737488355328 := by omega
    have hV : accV 1 1 ws = .lst 0 [] (some 0) ∧ accB srow 1 ws = none ∧ ws = [] ∨ accV 1 1 ws = .ref 1 1 0 ws.length none ∧ accB srow 1 ws = some (.arr 1 (ws.map srow)) ∧ ws ≠ [] := by
      by_cases hr : ws = []
      · subst hr; exact .inl ⟨rfl, rfl, rfl⟩
      · exact .inr ⟨accV_cons hr, accB_cons hr, hr⟩
    rcases hI with ⟨hj, hf, hn, hI⟩ | ⟨rfl, rfl, rfl⟩
    · by_cases hje : j = s.length
      · subst hje
        have hw0 : (s.drop f).take (s.length - f) = s.drop f := List.take_of_length_le (by simp)
        rw [hw0] at hn
        have hsp : splitL s = ws ++ [s.drop f] := by rw [hI, split_word hn]
        have hlen2 : (ws ++ [s.drop f]).length ≤ 1000001 := by rw [← hsp]; exact hsl
        obtain ⟨wd, hwd⟩ : ∃ wd, s.drop f = wd := ⟨_, rfl⟩
        rw [hwd] at hsp hlen2
        have hw0 : (s.drop f).take (s.length - f) = wd := hw0.trans hwd
        have hm : s.length + 1 - (s.length + 1) < s.length + 1 - s.length ∧ (ws ++ [wd]).length ≤ 1000001 ∧ (s.length + 1 ≤ s.length ∧ s.length + 1 ≤ s.length + 1 ∧ NoB ((s.drop (s.length + 1)).take (s.length + 1 - (s.length + 1))) ∧ splitL s = (ws ++ [wd]) ++ splitL (s.drop (s.length + 1)) ∨ s.length + 1 = s.length + 1 ∧ ws ++ [wd] = splitL s ∧ s.length + 1 = s.length + 1) := ⟨by omega, hlen2, .inr ⟨rfl, hsp.symm, rfl⟩⟩
        rcases hV with ⟨hV, hB, rfl⟩ | ⟨hV, hB, hr⟩
        · (repeat' (first | refine wSeq rfl ?_ | refine wBlock rfl ?_ | refine wSkip rfl ?_ | refine wExit rfl ?_ | refine wRet rfl ?_ | refine wCondT rfl rfl ?_ | refine wCondF rfl rfl ?_ | refine wOps rfl ?_ | refine wDraw rfl rfl ?_ | simp only [seval, push_cast, ↓reduceIte, ↓bP_some, ↓aP_true, reduceCtorEq, hV, hB, hw, hf, hw0]))
          exact qW_s (s.length + 1, [wd], s.length + 1) [some 0, some 3] [] rfl rfl rfl hm
        · (repeat' (first | refine wSeq rfl ?_ | refine wBlock rfl ?_ | refine wSkip rfl ?_ | refine wExit rfl ?_ | refine wRet rfl ?_ | refine wCondT rfl rfl ?_ | refine wCondF rfl rfl ?_ | refine wOps rfl ?_ | refine wDraw rfl rfl ?_ | simp only [seval, push_cast, ↓reduceIte, ↓bP_some, ↓aP_true, reduceCtorEq, hV, hB, hw, hf, hw0, hroom, srow_snoc]))
          exact qW_s (s.length + 1, ws ++ [wd], s.length + 1) [some 0, some 3] [] rfl (by simp only [accV_snoc]; rfl) (by (simp only [accV_snoc, accB_snoc, accV_nil, accB_nil]; (repeat (first | exact sh_n | refine sh_c (sh_b closed_srow rfl) ?_ | refine sh_c rfl ?_)))) hm
      · have hjl : j < s.length := by omega
        obtain ⟨c, hc, _⟩ := get_of hjl
        by_cases hc32 : c = 32
        · subst hc32
          have hnx := drop_next hf hc
          have hsp : splitL s = (ws ++ [(s.drop f).take (j - f)]) ++ splitL (s.drop (j + 1)) := by
            rw [hI]
            conv => lhs; rw [hnx]
            rw [split_app hn, List.append_assoc]; rfl
          have hlen2 : (ws ++ [(s.drop f).take (j - f)]).length ≤ 1000001 := by
            have := congrArg List.length hsp
            rw [List.length_append] at this
            omega
          obtain ⟨wd, hw0⟩ : ∃ wd, (s.drop f).take (j - f) = wd := ⟨_, rfl⟩
          rw [hw0] at hsp hlen2
          have hm : s.length + 1 - (j + 1) < s.length + 1 - j ∧ (ws ++ [wd]).length ≤ 1000001 ∧ (j + 1 ≤ s.length ∧ j + 1 ≤ j + 1 ∧ NoB ((s.drop (j + 1)).take (j + 1 - (j + 1))) ∧ splitL s = (ws ++ [wd]) ++ splitL (s.drop (j + 1)) ∨ j + 1 = s.length + 1 ∧ ws ++ [wd] = splitL s ∧ j + 1 = s.length + 1) := ⟨by omega, hlen2, .inl ⟨hjl, Nat.le_refl _, by simp [NoB], hsp⟩⟩
          have x2 : ((32 : UInt8).toNat : Int) = 32 := rfl
          rcases hV with ⟨hV, hB, rfl⟩ | ⟨hV, hB, hr⟩
          · (repeat' (first | refine wSeq rfl ?_ | refine wBlock rfl ?_ | refine wSkip rfl ?_ | refine wExit rfl ?_ | refine wRet rfl ?_ | refine wCondT rfl rfl ?_ | refine wCondF rfl rfl ?_ | refine wOps rfl ?_ | refine wDraw rfl rfl ?_ | simp only [seval, push_cast, ↓reduceIte, ↓bP_some, ↓aP_true, reduceCtorEq, hV, hB, hw, hf, hj, hje, hc, x2, hw0]))
            exact qW_s (j + 1, [wd], j + 1) [some 0, some 3] [] rfl rfl rfl hm
          · (repeat' (first | refine wSeq rfl ?_ | refine wBlock rfl ?_ | refine wSkip rfl ?_ | refine wExit rfl ?_ | refine wRet rfl ?_ | refine wCondT rfl rfl ?_ | refine wCondF rfl rfl ?_ | refine wOps rfl ?_ | refine wDraw rfl rfl ?_ | simp only [seval, push_cast, ↓reduceIte, ↓bP_some, ↓aP_true, reduceCtorEq, hV, hB, hw, hf, hj, hje, hc, x2, hw0, hroom, srow_snoc]))
            exact qW_s (j + 1, ws ++ [wd], j + 1) [some 0, some 3] [] rfl (by simp only [accV_snoc]; rfl) (by (simp only [accV_snoc, accB_snoc, accV_nil, accB_nil]; (repeat (first | exact sh_n | refine sh_c (sh_b closed_srow rfl) ?_ | refine sh_c rfl ?_)))) hm
        · have hcn0 : c.toNat = 32 → c = 32 := fun h => UInt8.toNat_inj.1 (by rw [h]; rfl)
          have hcn : ¬ ((c.toNat : Int) = 32) := fun h => hc32 (hcn0 (by omega))
          (repeat' (first | refine wSeq rfl ?_ | refine wBlock rfl ?_ | refine wSkip rfl ?_ | refine wExit rfl ?_ | refine wRet rfl ?_ | refine wCondT rfl rfl ?_ | refine wCondF rfl rfl ?_ | refine wOps rfl ?_ | refine wDraw rfl rfl ?_ | simp only [seval, push_cast, ↓reduceIte, ↓bP_some, ↓aP_true, reduceCtorEq, hw, hj, hje, hc, hcn]))
          refine qW_n (j + 1, ws, f) rfl rfl ⟨by dsimp only; omega, hws, .inl ⟨hjl, by dsimp only; omega, ?_, hI⟩⟩
          dsimp only
          rw [take_next hf hc]
          intro d hd
          rcases List.mem_append.1 hd with hd | hd
          · exact hn d hd
          · simp at hd; rw [hd]; exact hc32
    · obtain ⟨s1, c1, hs1, hfz1⟩ := frz_accS (f := srow) closed_srow (src := [some 0]) (n := 1) (a := 1) (r := splitL s) (H := [some (Blk.arr 2 [[V.int IntKind.u8 0, V.lst 0 [] (some 0)]]), accB srow 1 (splitL s)]) (fz := [1]) rfl (by decide) rfl rfl
      obtain rfl := hs1.resolve_right (split_ne s)
      refine wShift [some 0] [1] (E1 := [(0, V.str s), (2, V.ptr 0 2 0 0), (4, tl srow 1 (splitL s) c1), (5, V.int IntKind.i64 ((s.length + 1 : Nat) : Int)), (6, V.int IntKind.i64 ((s.length + 1 : Nat) : Int))]) (H1 := [some (Blk.arr 2 [[V.int IntKind.u8 0, V.lst 0 [] (some 0)]])]) rfl (congrArg (fun v => [(0, V.str s), (2, V.ptr 0 2 0 0), (4, v), (5, V.int IntKind.i64 ((s.length + 1 : Nat) : Int)), (6, V.int IntKind.i64 ((s.length + 1 : Nat) : Int))]) hfz1) rfl ?_
      have hno : ¬ ((s.length : Int) + 1 ≤ s.length) := by omega
      have hal := fun h => (hr1 h)
      rw [hht]
      clear hht hrd hsl h1 h2 hV hroom hws hw hfz1
      generalize wordsMarks s = W at *
      generalize headW s = h0 at *
      have hW2 : (W.map numberL).length < 4611686018427387904 := by simp; omega
      by_cases q1 : h0 = [114, 97, 110, 107]
      · have hk : kindL h0 = 1 := by unfold kindL; rw [if_pos q1]
        rw [hk] at hr1 hr2 hfz
        (repeat' (first | refine wSeq rfl ?_ | refine wBlock rfl ?_ | refine wSkip rfl ?_ | refine wExit rfl ?_ | refine wRet rfl ?_ | refine wCondT rfl rfl ?_ | refine wCondF rfl rfl ?_ | refine wOps rfl ?_ | refine wDraw rfl rfl ?_ | simp only [seval, push_cast, ↓reduceIte, ↓bP_some, ↓aP_true, reduceCtorEq, hno, binV_seql, decide_eq_true q1, decide_true, decide_false, iaQ_tl (l := h0 :: W) (i := 0) (by simp)]))
        refine wPad [some 0, some 1, none] rfl rfl rfl ?_
        refine wUp rfl W.length (fun j => [(2, .ptr 0 2 0 0), (4, tl srow 1 (h0 :: W) c1), (7, .ptr 1 2 0 0), (8, .int .i64 ((j + 1 : Nat) : Int))]) (fun j => [some (Blk.arr 2 [[V.int IntKind.u8 0, V.lst 0 [] (some 0)]]), some (Blk.arr 2 [[V.int IntKind.u8 1, accV 2 1 ((W.take j).map numberL)]]), accB mrow 1 ((W.take j).map numberL)]) (fun j => True) rfl rfl trivial ?_ ?_
        · intro j hj _
          obtain ⟨w, hx, hmem⟩ := get_of hj
          have hw : IntKind.i64.wrap ((j : Int) + 1 + 1) = (j : Int) + 1 + 1 := wrap_i64 (by omega) (by omega)
          have hst : (W.take (j + 1)).map numberL = (W.take j).map numberL ++ [numberL w] := by rw [take_snoc hx, List.map_append]; rfl
          have hlen : ((W.take j).map numberL).length ≤ j := by simp; omega
          have hj1 : ((j : Int) + 1 < (W.length : Int) + 1) := by omega
          rw [hst]
          generalize (W.take j).map numberL = r at *
          have hroom : (r.length + 1) * 8 ≤ 140737488355328 := by omega
          have hV : accV 2 1 r = .lst 0 [] (some 0) ∧ accB mrow 1 r = none ∧ r = [] ∨ accV 2 1 r = .ref 2 1 0 r.length none ∧ accB mrow 1 r = some (.arr 1 (r.map mrow)) ∧ r ≠ [] := by
            by_cases hr : r = []
            · subst hr; exact .inl ⟨rfl, rfl, rfl⟩
            · exact .inr ⟨accV_cons hr, accB_cons hr, hr⟩
          rcases hV with ⟨hV, hB, rfl⟩ | ⟨hV, hB, hr⟩
          · (repeat' (first | refine wSeq rfl ?_ | refine wBlock rfl ?_ | refine wSkip rfl ?_ | refine wExit rfl ?_ | refine wRet rfl ?_ | refine wCondT rfl rfl ?_ | refine wCondF rfl rfl ?_ | refine wOps rfl ?_ | refine wDraw rfl rfl ?_ | refine opsV_call rfl rfl (number_v hL w) ?_ | simp only [seval, push_cast, ↓reduceIte, ↓bP_some, ↓aP_true, reduceCtorEq, hj, hj1, hV, hB, hw, hx, iaQ_tl (l := h0 :: W) (i := j + 1) (by simp; omega)]))
            exact qR_s [some 0, some 1, some 4] [] rfl rfl rfl trivial
          · (repeat' (first | refine wSeq rfl ?_ | refine wBlock rfl ?_ | refine wSkip rfl ?_ | refine wExit rfl ?_ | refine wRet rfl ?_ | refine wCondT rfl rfl ?_ | refine wCondF rfl rfl ?_ | refine wOps rfl ?_ | refine wDraw rfl rfl ?_ | refine opsV_call rfl rfl (number_v hL w) ?_ | simp only [seval, push_cast, ↓reduceIte, ↓bP_some, ↓aP_true, reduceCtorEq, hj, hj1, hV, hB, hw, hroom, hx, iaQ_tl (l := h0 :: W) (i := j + 1) (by simp; omega)]))
            exact qR_s [some 0, some 1, some 4] [] rfl rfl (by (simp only [accV_snoc, accB_snoc, accV_nil, accB_nil]; (repeat (first | exact sh_n | refine sh_c (sh_b closed_mrow rfl) ?_ | refine sh_c rfl ?_)))) trivial
        · intro _
          rw [take_all]
          refine wShift [some 0, some 1] [2] (E1 := [(2, .ptr 0 2 0 0), (4, tl srow 1 (h0 :: W) c1), (7, .ptr 1 2 0 0), (8, .int .i64 ((W.length + 1 : Nat) : Int))]) (H1 := [some (Blk.arr 2 [[V.int IntKind.u8 0, V.lst 0 [] (some 0)]]), some (Blk.arr 2 [[V.int IntKind.u8 1, tl mrow s' (W.map numberL) c']])]) rfl rfl (congrArg (fun v => [some (Blk.arr 2 [[V.int IntKind.u8 0, V.lst 0 [] (some 0)]]), some (Blk.arr 2 [[V.int IntKind.u8 1, v]])]) hfz) ?_
          have hj1 : ¬ ((W.length : Int) + 1 < (W.length : Int) + 1) := by omega
          cases ha : aloneL 1 (W.map numberL) with
          | true =>
            obtain ⟨rfl, rfl, rfl⟩ := hr1 ha
            have hc : checkL 1 (W.map numberL) (amongL 1 (W.map numberL)) = 0 := by unfold aloneL at ha; exact of_decide_eq_true ha
            (repeat' (first | refine wSeq rfl ?_ | refine wBlock rfl ?_ | refine wSkip rfl ?_ | refine wExit rfl ?_ | refine wRet rfl ?_ | refine wCondT rfl rfl ?_ | refine wCondF rfl rfl ?_ | refine wOps rfl ?_ | refine wDraw rfl rfl ?_ | refine opsV_call rfl rfl (rcheck_v hL _ _ _ _ _ hs' hW2) ?_ | refine opsV_call rfl rfl (ramong_v hL _ _ _ _) ?_ | simp only [seval, push_cast, ↓reduceIte, ↓bP_some, ↓aP_true, reduceCtorEq, hj1, hc]))
            exact FnQ.ret rfl rfl
          | false =>
            obtain ⟨rfl, rfl, rfl⟩ := hr2 ha
            have hc : ¬ checkL 1 (W.map numberL) (amongL 1 (W.map numberL)) = 0 := fun h => by rw [alone_of h] at ha; cases ha
            (repeat' (first | refine wSeq rfl ?_ | refine wBlock rfl ?_ | refine wSkip rfl ?_ | refine wExit rfl ?_ | refine wRet rfl ?_ | refine wCondT rfl rfl ?_ | refine wCondF rfl rfl ?_ | refine wOps rfl ?_ | refine wDraw rfl rfl ?_ | refine opsV_call rfl rfl (rcheck_v hL _ _ _ _ _ hs' hW2) ?_ | refine opsV_call rfl rfl (ramong_v hL _ _ _ _) ?_ | simp only [seval, push_cast, ↓reduceIte, ↓bP_some, ↓aP_true, reduceCtorEq, hj1, hc]))
            exact FnQ.ret rfl rfl
      by_cases q2 : h0 = [109, 97, 114, 107]
      · have hk : kindL h0 = 2 := by unfold kindL; rw [if_neg q1]; rw [if_pos q2]
        rw [hk] at hr1 hr2 hfz
        (repeat' (first | refine wSeq rfl ?_ | refine wBlock rfl ?_ | refine wSkip rfl ?_ | refine wExit rfl ?_ | refine wRet rfl ?_ | refine wCondT rfl rfl ?_ | refine wCondF rfl rfl ?_ | refine wOps rfl ?_ | refine wDraw rfl rfl ?_ | simp only [seval, push_cast, ↓reduceIte, ↓bP_some, ↓aP_true, reduceCtorEq, hno, binV_seql, q1, decide_eq_true q2, decide_true, decide_false, iaQ_tl (l := h0 :: W) (i := 0) (by simp)]))
        refine wPad [some 0, some 1, none] rfl rfl rfl ?_
        refine wUp rfl W.length (fun j => [(2, .ptr 0 2 0 0), (4, tl srow 1 (h0 :: W) c1), (7, .ptr 1 2 0 0), (8, .int .i64 ((j + 1 : Nat) : Int))]) (fun j => [some (Blk.arr 2 [[V.int IntKind.u8 0, V.lst 0 [] (some 0)]]), some (Blk.arr 2 [[V.int IntKind.u8 2, accV 2 1 ((W.take j).map numberL)]]), accB mrow 1 ((W.take j).map numberL)]) (fun j => True) rfl rfl trivial ?_ ?_
        · intro j hj _
          obtain ⟨w, hx, hmem⟩ := get_of hj
          have hw : IntKind.i64.wrap ((j : Int) + 1 + 1) = (j : Int) + 1 + 1 := wrap_i64 (by omega) (by omega)
          have hst : (W.take (j + 1)).map numberL = (W.take j).map numberL ++ [numberL w] := by rw [take_snoc hx, List.map_append]; rfl
          have hlen : ((W.take j).map numberL).length ≤ j := by simp; omega
          have hj1 : ((j : Int) + 1 < (W.length : Int) + 1) := by omega
          rw [hst]
          generalize (W.take j).map numberL = r at *
          have hroom : (r.length + 1) * 8 ≤ 140737488355328 := by omega
          have hV : accV 2 1 r = .lst 0 [] (some 0) ∧ accB mrow 1 r = none ∧ r = [] ∨ accV 2 1 r = .ref 2 1 0 r.length none ∧ accB mrow 1 r = some (.arr 1 (r.map mrow)) ∧ r ≠ [] := by
            by_cases hr : r = []
            · subst hr; exact .inl ⟨rfl, rfl, rfl⟩
            · exact .inr ⟨accV_cons hr, accB_cons hr, hr⟩
          rcases hV with ⟨hV, hB, rfl⟩ | ⟨hV, hB, hr⟩
          · (repeat' (first | refine wSeq rfl ?_ | refine wBlock rfl ?_ | refine wSkip rfl ?_ | refine wExit rfl ?_ | refine wRet rfl ?_ | refine wCondT rfl rfl ?_ | refine wCondF rfl rfl ?_ | refine wOps rfl ?_ | refine wDraw rfl rfl ?_ | refine opsV_call rfl rfl (number_v hL w) ?_ | simp only [seval, push_cast, ↓reduceIte, ↓bP_some, ↓aP_true, reduceCtorEq, hj, hj1, hV, hB, hw, hx, iaQ_tl (l := h0 :: W) (i := j + 1) (by simp; omega)]))
            exact qR_s [some 0, some 1, some 4] [] rfl rfl rfl trivial
          · (repeat' (first | refine wSeq rfl ?_ | refine wBlock rfl ?_ | refine wSkip rfl ?_ | refine wExit rfl ?_ | refine wRet rfl ?_ | refine wCondT rfl rfl ?_ | refine wCondF rfl rfl ?_ | refine wOps rfl ?_ | refine wDraw rfl rfl ?_ | refine opsV_call rfl rfl (number_v hL w) ?_ | simp only [seval, push_cast, ↓reduceIte, ↓bP_some, ↓aP_true, reduceCtorEq, hj, hj1, hV, hB, hw, hroom, hx, iaQ_tl (l := h0 :: W) (i := j + 1) (by simp; omega)]))
            exact qR_s [some 0, some 1, some 4] [] rfl rfl (by (simp only [accV_snoc, accB_snoc, accV_nil, accB_nil]; (repeat (first | exact sh_n | refine sh_c (sh_b closed_mrow rfl) ?_ | refine sh_c rfl ?_)))) trivial
        · intro _
          rw [take_all]
          refine wShift [some 0, some 1] [2] (E1 := [(2, .ptr 0 2 0 0), (4, tl srow 1 (h0 :: W) c1), (7, .ptr 1 2 0 0), (8, .int .i64 ((W.length + 1 : Nat) : Int))]) (H1 := [some (Blk.arr 2 [[V.int IntKind.u8 0, V.lst 0 [] (some 0)]]), some (Blk.arr 2 [[V.int IntKind.u8 2, tl mrow s' (W.map numberL) c']])]) rfl rfl (congrArg (fun v => [some (Blk.arr 2 [[V.int IntKind.u8 0, V.lst 0 [] (some 0)]]), some (Blk.arr 2 [[V.int IntKind.u8 2, v]])]) hfz) ?_
          have hj1 : ¬ ((W.length : Int) + 1 < (W.length : Int) + 1) := by omega
          cases ha : aloneL 2 (W.map numberL) with
          | true =>
            obtain ⟨rfl, rfl, rfl⟩ := hr1 ha
            have hc : checkL 2 (W.map numberL) (amongL 2 (W.map numberL)) = 0 := by unfold aloneL at ha; exact of_decide_eq_true ha
            (repeat' (first | refine wSeq rfl ?_ | refine wBlock rfl ?_ | refine wSkip rfl ?_ | refine wExit rfl ?_ | refine wRet rfl ?_ | refine wCondT rfl rfl ?_ | refine wCondF rfl rfl ?_ | refine wOps rfl ?_ | refine wDraw rfl rfl ?_ | refine opsV_call rfl rfl (rcheck_v hL _ _ _ _ _ hs' hW2) ?_ | refine opsV_call rfl rfl (ramong_v hL _ _ _ _) ?_ | simp only [seval, push_cast, ↓reduceIte, ↓bP_some, ↓aP_true, reduceCtorEq, hj1, hc]))
            exact FnQ.ret rfl rfl
          | false =>
            obtain ⟨rfl, rfl, rfl⟩ := hr2 ha
            have hc : ¬ checkL 2 (W.map numberL) (amongL 2 (W.map numberL)) = 0 := fun h => by rw [alone_of h] at ha; cases ha
            (repeat' (first | refine wSeq rfl ?_ | refine wBlock rfl ?_ | refine wSkip rfl ?_ | refine wExit rfl ?_ | refine wRet rfl ?_ | refine wCondT rfl rfl ?_ | refine wCondF rfl rfl ?_ | refine wOps rfl ?_ | refine wDraw rfl rfl ?_ | refine opsV_call rfl rfl (rcheck_v hL _ _ _ _ _ hs' hW2) ?_ | refine opsV_call rfl rfl (ramong_v hL _ _ _ _) ?_ | simp only [seval, push_cast, ↓reduceIte, ↓bP_some, ↓aP_true, reduceCtorEq, hj1, hc]))
            exact FnQ.ret rfl rfl
      by_cases q3 : h0 = [115, 99, 111, 114, 101]
      · have hk : kindL h0 = 3 := by unfold kindL; rw [if_neg q1]; rw [if_neg q2]; rw [if_pos q3]
        rw [hk] at hr1 hr2 hfz
        (repeat' (first | refine wSeq rfl ?_ | refine wBlock rfl ?_ | refine wSkip rfl ?_ | refine wExit rfl ?_ | refine wRet rfl ?_ | refine wCondT rfl rfl ?_ | refine wCondF rfl rfl ?_ | refine wOps rfl ?_ | refine wDraw rfl rfl ?_ | simp only [seval, push_cast, ↓reduceIte, ↓bP_some, ↓aP_true, reduceCtorEq, hno, binV_seql, q1, q2, decide_eq_true q3, decide_true, decide_false, iaQ_tl (l := h0 :: W) (i := 0) (by simp)]))
        refine wPad [some 0, some 1, none] rfl rfl rfl ?_
        refine wUp rfl W.length (fun j => [(2, .ptr 0 2 0 0), (4, tl srow 1 (h0 :: W) c1), (7, .ptr 1 2 0 0), (8, .int .i64 ((j + 1 : Nat) : Int))]) (fun j => [some (Blk.arr 2 [[V.int IntKind.u8 0, V.lst 0 [] (some 0)]]), some (Blk.arr 2 [[V.int IntKind.u8 3, accV 2 1 ((W.take j).map numberL)]]), accB mrow 1 ((W.take j).map numberL)]) (fun j => True) rfl rfl trivial ?_ ?_
        · intro j hj _
          obtain ⟨w, hx, hmem⟩ := get_of hj
          have hw : IntKind.i64.wrap ((j : Int) + 1 + 1) = (j : Int) + 1 + 1 := wrap_i64 (by omega) (by omega)
          have hst : (W.take (j + 1)).map numberL = (W.take j).map numberL ++ [numberL w] := by rw [take_snoc hx, List.map_append]; rfl
          have hlen : ((W.take j).map numberL).length ≤ j := by simp; omega
          have hj1 : ((j : Int) + 1 < (W.length : Int) + 1) := by omega
          rw [hst]
          generalize (W.take j).map numberL = r at *
          have hroom : (r.length + 1) * 8 ≤ 140737488355328 := by omega
          have hV : accV 2 1 r = .lst 0 [] (some 0) ∧ accB mrow 1 r = none ∧ r = [] ∨ accV 2 1 r = .ref 2 1 0 r.length none ∧ accB mrow 1 r = some (.arr 1 (r.map mrow)) ∧ r ≠ [] := by
            by_cases hr : r = []
            · subst hr; exact .inl ⟨rfl, rfl, rfl⟩
            · exact .inr ⟨accV_cons hr, accB_cons hr, hr⟩
          rcases hV with ⟨hV, hB, rfl⟩ | ⟨hV, hB, hr⟩
          · (repeat' (first | refine wSeq rfl ?_ | refine wBlock rfl ?_ | refine wSkip rfl ?_ | refine wExit rfl ?_ | refine wRet rfl ?_ | refine wCondT rfl rfl ?_ | refine wCondF rfl rfl ?_ | refine wOps rfl ?_ | refine wDraw rfl rfl ?_ | refine opsV_call rfl rfl (number_v hL w) ?_ | simp only [seval, push_cast, ↓reduceIte, ↓bP_some, ↓aP_true, reduceCtorEq, hj, hj1, hV, hB, hw, hx, iaQ_tl (l := h0 :: W) (i := j + 1) (by simp; omega)]))
            exact qR_s [some 0, some 1, some 4] [] rfl rfl rfl trivial
          · (repeat' (first | refine wSeq rfl ?_ | refine wBlock rfl ?_ | refine wSkip rfl ?_ | refine wExit rfl ?_ | refine wRet rfl ?_ | refine wCondT rfl rfl ?_ | refine wCondF rfl rfl ?_ | refine wOps rfl ?_ | refine wDraw rfl rfl ?_ | refine opsV_call rfl rfl (number_v hL w) ?_ | simp only [seval, push_cast, ↓reduceIte, ↓bP_some, ↓aP_true, reduceCtorEq, hj, hj1, hV, hB, hw, hroom, hx, iaQ_tl (l := h0 :: W) (i := j + 1) (by simp; omega)]))
            exact qR_s [some 0, some 1, some 4] [] rfl rfl (by (simp only [accV_snoc, accB_snoc, accV_nil, accB_nil]; (repeat (first | exact sh_n | refine sh_c (sh_b closed_mrow rfl) ?_ | refine sh_c rfl ?_)))) trivial
        · intro _
          rw [take_all]
          refine wShift [some 0, some 1] [2] (E1 := [(2, .ptr 0 2 0 0), (4, tl srow 1 (h0 :: W) c1), (7, .ptr 1 2 0 0), (8, .int .i64 ((W.length + 1 : Nat) : Int))]) (H1 := [some (Blk.arr 2 [[V.int IntKind.u8 0, V.lst 0 [] (some 0)]]), some (Blk.arr 2 [[V.int IntKind.u8 3, tl mrow s' (W.map numberL) c']])]) rfl rfl (congrArg (fun v => [some (Blk.arr 2 [[V.int IntKind.u8 0, V.lst 0 [] (some 0)]]), some (Blk.arr 2 [[V.int IntKind.u8 3, v]])]) hfz) ?_
          have hj1 : ¬ ((W.length : Int) + 1 < (W.length : Int) + 1) := by omega
          cases ha : aloneL 3 (W.map numberL) with
          | true =>
            obtain ⟨rfl, rfl, rfl⟩ := hr1 ha
            have hc : checkL 3 (W.map numberL) (amongL 3 (W.map numberL)) = 0 := by unfold aloneL at ha; exact of_decide_eq_true ha
            (repeat' (first | refine wSeq rfl ?_ | refine wBlock rfl ?_ | refine wSkip rfl ?_ | refine wExit rfl ?_ | refine wRet rfl ?_ | refine wCondT rfl rfl ?_ | refine wCondF rfl rfl ?_ | refine wOps rfl ?_ | refine wDraw rfl rfl ?_ | refine opsV_call rfl rfl (rcheck_v hL _ _ _ _ _ hs' hW2) ?_ | refine opsV_call rfl rfl (ramong_v hL _ _ _ _) ?_ | simp only [seval, push_cast, ↓reduceIte, ↓bP_some, ↓aP_true, reduceCtorEq, hj1, hc]))
            exact FnQ.ret rfl rfl
          | false =>
            obtain ⟨rfl, rfl, rfl⟩ := hr2 ha
            have hc : ¬ checkL 3 (W.map numberL) (amongL 3 (W.map numberL)) = 0 := fun h => by rw [alone_of h] at ha; cases ha
            (repeat' (first | refine wSeq rfl ?_ | refine wBlock rfl ?_ | refine wSkip rfl ?_ | refine wExit rfl ?_ | refine wRet rfl ?_ | refine wCondT rfl rfl ?_ | refine wCondF rfl rfl ?_ | refine wOps rfl ?_ | refine wDraw rfl rfl ?_ | refine opsV_call rfl rfl (rcheck_v hL _ _ _ _ _ hs' hW2) ?_ | refine opsV_call rfl rfl (ramong_v hL _ _ _ _) ?_ | simp only [seval, push_cast, ↓reduceIte, ↓bP_some, ↓aP_true, reduceCtorEq, hj1, hc]))
            exact FnQ.ret rfl rfl
      have hk : kindL h0 = 0 := by unfold kindL; rw [if_neg q1]; rw [if_neg q2]; rw [if_neg q3]
      rw [hk] at hr1 hr2 hfz
      (repeat' (first | refine wSeq rfl ?_ | refine wBlock rfl ?_ | refine wSkip rfl ?_ | refine wExit rfl ?_ | refine wRet rfl ?_ | refine wCondT rfl rfl ?_ | refine wCondF rfl rfl ?_ | refine wOps rfl ?_ | refine wDraw rfl rfl ?_ | simp only [seval, push_cast, ↓reduceIte, ↓bP_some, ↓aP_true, reduceCtorEq, hno, binV_seql, q1, q2, q3, decide_true, decide_false, iaQ_tl (l := h0 :: W) (i := 0) (by simp)]))
      refine wPad [some 0, some 1, none] rfl rfl rfl ?_
      refine wUp rfl W.length (fun j => [(2, .ptr 0 2 0 0), (4, tl srow 1 (h0 :: W) c1), (7, .ptr 1 2 0 0), (8, .int .i64 ((j + 1 : Nat) : Int))]) (fun j => [some (Blk.arr 2 [[V.int IntKind.u8 0, V.lst 0 [] (some 0)]]), some (Blk.arr 2 [[V.int IntKind.u8 0, accV 2 1 ((W.take j).map numberL)]]), accB mrow 1 ((W.take j).map numberL)]) (fun j => True) rfl rfl trivial ?_ ?_
      · intro j hj _
        obtain ⟨w, hx, hmem⟩ := get_of hj
        have hw : IntKind.i64.wrap ((j : Int) + 1 + 1) = (j : Int) + 1 + 1 := wrap_i64 (by omega) (by omega)
        have hst : (W.take (j + 1)).map numberL = (W.take j).map numberL ++ [numberL w] := by rw [take_snoc hx, List.map_append]; rfl
        have hlen : ((W.take j).map numberL).length ≤ j := by simp; omega
        have hj1 : ((j : Int) + 1 < (W.length : Int) + 1) := by omega
        rw [hst]
        generalize (W.take j).map numberL = r at *
        have hroom : (r.length + 1) * 8 ≤ 140737488355328 := by omega
        have hV : accV 2 1 r = .lst 0 [] (some 0) ∧ accB mrow 1 r = none ∧ r = [] ∨ accV 2 1 r = .ref 2 1 0 r.length none ∧ accB mrow 1 r = some (.arr 1 (r.map mrow)) ∧ r ≠ [] := by
          by_cases hr : r = []
          · subst hr; exact .inl ⟨rfl, rfl, rfl⟩
          · exact .inr ⟨accV_cons hr, accB_cons hr, hr⟩
        rcases hV with ⟨hV, hB, rfl⟩ | ⟨hV, hB, hr⟩
        · (repeat' (first | refine wSeq rfl ?_ | refine wBlock rfl ?_ | refine wSkip rfl ?_ | refine wExit rfl ?_ | refine wRet rfl ?_ | refine wCondT rfl rfl ?_ | refine wCondF rfl rfl ?_ | refine wOps rfl ?_ | refine wDraw rfl rfl ?_ | refine opsV_call rfl rfl (number_v hL w) ?_ | simp only [seval, push_cast, ↓reduceIte, ↓bP_some, ↓aP_true, reduceCtorEq, hj, hj1, hV, hB, hw, hx, iaQ_tl (l := h0 :: W) (i := j + 1) (by simp; omega)]))
          exact qR_s [some 0, some 1, some 4] [] rfl rfl rfl trivial
        · (repeat' (first | refine wSeq rfl ?_ | refine wBlock rfl ?_ | refine wSkip rfl ?_ | refine wExit rfl ?_ | refine wRet rfl ?_ | refine wCondT rfl rfl ?_ | refine wCondF rfl rfl ?_ | refine wOps rfl ?_ | refine wDraw rfl rfl ?_ | refine opsV_call rfl rfl (number_v hL w) ?_ | simp only [seval, push_cast, ↓reduceIte, ↓bP_some, ↓aP_true, reduceCtorEq, hj, hj1, hV, hB, hw, hroom, hx, iaQ_tl (l := h0 :: W) (i := j + 1) (by simp; omega)]))
          exact qR_s [some 0, some 1, some 4] [] rfl rfl (by (simp only [accV_snoc, accB_snoc, accV_nil, accB_nil]; (repeat (first | exact sh_n | refine sh_c (sh_b closed_mrow rfl) ?_ | refine sh_c rfl ?_)))) trivial
      · intro _
        rw [take_all]
        refine wShift [some 0, some 1] [2] (E1 := [(2, .ptr 0 2 0 0), (4, tl srow 1 (h0 :: W) c1), (7, .ptr 1 2 0 0), (8, .int .i64 ((W.length + 1 : Nat) : Int))]) (H1 := [some (Blk.arr 2 [[V.int IntKind.u8 0, V.lst 0 [] (some 0)]]), some (Blk.arr 2 [[V.int IntKind.u8 0, tl mrow s' (W.map numberL) c']])]) rfl rfl (congrArg (fun v => [some (Blk.arr 2 [[V.int IntKind.u8 0, V.lst 0 [] (some 0)]]), some (Blk.arr 2 [[V.int IntKind.u8 0, v]])]) hfz) ?_
        have hj1 : ¬ ((W.length : Int) + 1 < (W.length : Int) + 1) := by omega
        cases ha : aloneL 0 (W.map numberL) with
        | true =>
          obtain ⟨rfl, rfl, rfl⟩ := hr1 ha
          have hc : checkL 0 (W.map numberL) (amongL 0 (W.map numberL)) = 0 := by unfold aloneL at ha; exact of_decide_eq_true ha
          (repeat' (first | refine wSeq rfl ?_ | refine wBlock rfl ?_ | refine wSkip rfl ?_ | refine wExit rfl ?_ | refine wRet rfl ?_ | refine wCondT rfl rfl ?_ | refine wCondF rfl rfl ?_ | refine wOps rfl ?_ | refine wDraw rfl rfl ?_ | refine opsV_call rfl rfl (rcheck_v hL _ _ _ _ _ hs' hW2) ?_ | refine opsV_call rfl rfl (ramong_v hL _ _ _ _) ?_ | simp only [seval, push_cast, ↓reduceIte, ↓bP_some, ↓aP_true, reduceCtorEq, hj1, hc]))
          exact FnQ.ret rfl rfl
        | false =>
          obtain ⟨rfl, rfl, rfl⟩ := hr2 ha
          have hc : ¬ checkL 0 (W.map numberL) (amongL 0 (W.map numberL)) = 0 := fun h => by rw [alone_of h] at ha; cases ha
          (repeat' (first | refine wSeq rfl ?_ | refine wBlock rfl ?_ | refine wSkip rfl ?_ | refine wExit rfl ?_ | refine wRet rfl ?_ | refine wCondT rfl rfl ?_ | refine wCondF rfl rfl ?_ | refine wOps rfl ?_ | refine wDraw rfl rfl ?_ | refine opsV_call rfl rfl (rcheck_v hL _ _ _ _ _ hs' hW2) ?_ | refine opsV_call rfl rfl (ramong_v hL _ _ _ _) ?_ | simp only [seval, push_cast, ↓reduceIte, ↓bP_some, ↓aP_true, reduceCtorEq, hj1, hc]))
          exact FnQ.ret rfl rfl
  cases ha : aloneL (kindL (headW s)) ((wordsMarks s).map numberL) with
  | true =>
    rw [hrd, if_pos ha]
    exact ⟨s', c', hs', key s' c' _ (fun _ => ⟨rfl, rfl, rfl⟩) (fun h => by rw [ha] at h; cases h)⟩
  | false =>
    rw [hrd, if_neg (by rw [ha]; simp)]
    exact ⟨0, some 0, .inr rfl, key 0 (some 0) _ (fun h => by rw [ha] at h; cases h) (fun _ => ⟨rfl, rfl, rfl⟩)⟩
end Go.Proofs.YtnhfbabenifbkaaGreatDoor
set_option maxRecDepth 100000
set_option maxHeartbeats 4000000
set_option linter.unusedVariables false
set_option linter.unusedSimpArgs false
namespace Go.Proofs.YtnhfbabenifbkaaGreatDoor
theorem same_selfT (k : Int) (l : List Int) : sameL k l k l = true := by simp [sameL]
theorem words_le {s : List UInt8} (hs : s.length ≤ 1000000) : (wordsMarks s).length ≤ 1000000 := by
  have h1 := split_len s
  have h2 := count_le s
  rw [head_tail s, List.length_cons] at h1
  omega
variable {L : Lib} (hL : L.T = tab.get)
include hL
theorem right_vT (k cands : Int) (s : Nat) (l : List Int) (c : Option Nat) (hs : s = 1 ∨ l = []) (hl : l.length < 4611686018427387904) : VFn L 30 [(.agg [.int .u8 k, tl mrow s (l) c]), .int .i64 cands] (.bool (decide (checkL k l cands = 0))) := by
  refine VFn.start (F := T30.1) (by rw [hL]; rfl) rfl rfl rfl ?_
  (repeat' (first | refine wSeq rfl ?_ | refine wBlock rfl ?_ | refine wSkip rfl ?_ | refine wExit rfl ?_ | refine wRet rfl ?_ | refine wCondT rfl rfl ?_ | refine wCondF rfl rfl ?_ | refine wOps rfl ?_ | refine wDraw rfl rfl ?_ | refine opsV_call rfl rfl (rcheck_v hL _ _ _ _ _ hs hl) ?_ | simp only [seval, push_cast, ↓reduceIte, ↓bP_some, ↓aP_true, reduceCtorEq]))
  exact FnQ.ret rfl rfl
theorem btexts_v (hw : VFn L 10 [] (.bool true)) (hrd : ∀ s : List UInt8, s.length ≤ 1000000 → ∃ t c', (t = 1 ∨ (readL s).1.2 = []) ∧ VFn L 27 [.str s] (.tup [(.agg [.int .u8 (readL s).1.1, tl mrow t ((readL s).1.2) c']), .int .i64 (readL s).2]))
    (k : Int) (l : List Int) (hl : l.length ≤ 17592186043904) (s : List UInt8) : VFn L 8 [(.agg [.int .u8 k, tl mrow 1 (l) none]), .str s] (.bool true) := by
  have hl2 : l.length < 4611686018427387904 := by omega
  refine VFn.start (F := T8.1) (by rw [hL]; rfl) rfl rfl rfl ?_
  (repeat' (first | refine wSeq rfl ?_ | refine wBlock rfl ?_ | refine wSkip rfl ?_ | refine wExit rfl ?_ | refine wRet rfl ?_ | refine wCondT rfl rfl ?_ | refine wCondF rfl rfl ?_ | refine wOpsP rfl ?_ | refine wDraw rfl rfl ?_ | simp only [seval, push_cast, ↓reduceIte, ↓bP_some, ↓aP_true, reduceCtorEq]))
  refine opsP_bor [1] rfl (vs' := [tl brw 2 [(k, l)] (some 1)]) rfl (great_v hL _ _ (show 1 < 4611686018427387904 by decide)) rfl ?_
  cases hg : ([(k, l)].any fun b => decide (60 < b.2.length)) with
  | true =>
    (repeat' (first | refine wSeq rfl ?_ | refine wBlock rfl ?_ | refine wSkip rfl ?_ | refine wExit rfl ?_ | refine wRet rfl ?_ | refine wCondT rfl rfl ?_ | refine wCondF rfl rfl ?_ | refine wOps rfl ?_ | refine wDraw rfl rfl ?_ | refine opsV_call rfl rfl (hw) ?_ | simp only [seval, push_cast, ↓reduceIte, ↓bP_some, ↓aP_true, reduceCtorEq]))
    exact FnQ.ret rfl rfl
  | false =>
    have hl60 : l.length ≤ 60 := by simp at hg; omega
    by_cases h200 : (200 : Int) < s.length
    · (repeat' (first | refine wSeq rfl ?_ | refine wBlock rfl ?_ | refine wSkip rfl ?_ | refine wExit rfl ?_ | refine wRet rfl ?_ | refine wCondT rfl rfl ?_ | refine wCondF rfl rfl ?_ | refine wOps rfl ?_ | refine wDraw rfl rfl ?_ | refine opsV_call rfl rfl (hw) ?_ | simp only [seval, push_cast, ↓reduceIte, ↓bP_some, ↓aP_true, reduceCtorEq, h200]))
      exact FnQ.ret rfl rfl
    · have hs2 : s.length ≤ 200 := by omega
      obtain ⟨t, c', ht, hrs⟩ := hrd s (by omega)
      have htx := text_v hL k 1 l none (.inl rfl) (by omega)
      cases hal : aloneL k l with
      | true =>
        rw [btext_ok hal] at htx
        obtain ⟨t2, c2, ht2, hr2⟩ := hrd (nameL k ++ marksL l) (by
          have h1 := name_len k
          have h2 := marks_len l
          rw [List.length_append]; omega)
        rw [read_text hal] at hr2 ht2
        dsimp only at ht2 hr2 htx
        have hsm := rsame_v hL k k t2 1 l l c2 none ht2 (.inl rfl) hl2 hl2
        rw [same_selfT] at hsm
        generalize nameL k ++ marksL l = tx at *
        cases ha : aloneL (readF numberL s).1 (readF numberL s).2 with
        | true =>
          have hts := text_of_read ha
          have hla : (readF numberL s).2.length ≤ 1000000 := by unfold readF; simp; exact words_le (by omega)
          rw [read_ok ha] at hrs ht
          dsimp only at hrs ht
          generalize (readF numberL s).1 = k2 at *
          generalize (readF numberL s).2 = l2 at *
          have htx2 := text_v hL k2 t l2 c' ht (by omega)
          rw [btext_ok ha, hts] at htx2
          dsimp only at htx2
          have hck : checkL k2 l2 (amongL k2 l2) = 0 := by unfold aloneL at ha; exact of_decide_eq_true ha
          have hrg := right_vT hL k2 (amongL k2 l2) t l2 c' ht (by omega)
          rw [hck] at hrg
          by_cases h3 : k2 = 3
          · subst h3
            have e3 : amongL 3 l2 = (l2.length : Int) := rfl
            rw [e3] at hrg
            (repeat' (first | refine wSeq rfl ?_ | refine wBlock rfl ?_ | refine wSkip rfl ?_ | refine wExit rfl ?_ | refine wRet rfl ?_ | refine wCondT rfl rfl ?_ | refine wCondF rfl rfl ?_ | refine wOps rfl ?_ | refine wDraw rfl rfl ?_ | refine opsV_call rfl rfl (htx) ?_ | refine opsV_call rfl rfl (hr2) ?_ | refine opsV_call rfl rfl (hsm) ?_ | refine opsV_call rfl rfl (hrs) ?_ | refine opsV_call rfl rfl (htx2) ?_ | refine opsV_call rfl rfl (hrg) ?_ | refine opsV_call rfl rfl (hw) ?_ | simp only [seval, push_cast, ↓reduceIte, ↓bP_some, ↓aP_true, reduceCtorEq, h200, binV_sneq, binV_seql, decide_true]))
            exact FnQ.ret rfl rfl
          · have e3 : amongL k2 l2 = 10 := if_neg h3
            rw [e3] at hrg
            (repeat' (first | refine wSeq rfl ?_ | refine wBlock rfl ?_ | refine wSkip rfl ?_ | refine wExit rfl ?_ | refine wRet rfl ?_ | refine wCondT rfl rfl ?_ | refine wCondF rfl rfl ?_ | refine wOps rfl ?_ | refine wDraw rfl rfl ?_ | refine opsV_call rfl rfl (htx) ?_ | refine opsV_call rfl rfl (hr2) ?_ | refine opsV_call rfl rfl (hsm) ?_ | refine opsV_call rfl rfl (hrs) ?_ | refine opsV_call rfl rfl (htx2) ?_ | refine opsV_call rfl rfl (hrg) ?_ | refine opsV_call rfl rfl (hw) ?_ | simp only [seval, push_cast, ↓reduceIte, ↓bP_some, ↓aP_true, reduceCtorEq, h200, h3, binV_sneq, binV_seql, decide_true]))
            exact FnQ.ret rfl rfl
        | false =>
          rw [read_bad ha] at hrs ht
          dsimp only at hrs ht
          (repeat' (first | refine wSeq rfl ?_ | refine wBlock rfl ?_ | refine wSkip rfl ?_ | refine wExit rfl ?_ | refine wRet rfl ?_ | refine wCondT rfl rfl ?_ | refine wCondF rfl rfl ?_ | refine wOps rfl ?_ | refine wDraw rfl rfl ?_ | refine opsV_call rfl rfl (htx) ?_ | refine opsV_call rfl rfl (hr2) ?_ | refine opsV_call rfl rfl (hsm) ?_ | refine opsV_call rfl rfl (hrs) ?_ | refine opsV_call rfl rfl (hw) ?_ | simp only [seval, push_cast, ↓reduceIte, ↓bP_some, ↓aP_true, reduceCtorEq, h200, binV_sneq, binV_seql, decide_true]))
          exact FnQ.ret rfl rfl
      | false =>
        rw [btext_bad hal] at htx
        dsimp only at htx
        cases ha : aloneL (readF numberL s).1 (readF numberL s).2 with
        | true =>
          have hts := text_of_read ha
          have hla : (readF numberL s).2.length ≤ 1000000 := by unfold readF; simp; exact words_le (by omega)
          rw [read_ok ha] at hrs ht
          dsimp only at hrs ht
          generalize (readF numberL s).1 = k2 at *
          generalize (readF numberL s).2 = l2 at *
          have htx2 := text_v hL k2 t l2 c' ht (by omega)
          rw [btext_ok ha, hts] at htx2
          dsimp only at htx2
          have hck : checkL k2 l2 (amongL k2 l2) = 0 := by unfold aloneL at ha; exact of_decide_eq_true ha
          have hrg := right_vT hL k2 (amongL k2 l2) t l2 c' ht (by omega)
          rw [hck] at hrg
          by_cases h3 : k2 = 3
          · subst h3
            have e3 : amongL 3 l2 = (l2.length : Int) := rfl
            rw [e3] at hrg
            (repeat' (first | refine wSeq rfl ?_ | refine wBlock rfl ?_ | refine wSkip rfl ?_ | refine wExit rfl ?_ | refine wRet rfl ?_ | refine wCondT rfl rfl ?_ | refine wCondF rfl rfl ?_ | refine wOps rfl ?_ | refine wDraw rfl rfl ?_ | refine opsV_call rfl rfl (htx) ?_ | refine opsV_call rfl rfl (hrs) ?_ | refine opsV_call rfl rfl (htx2) ?_ | refine opsV_call rfl rfl (hrg) ?_ | refine opsV_call rfl rfl (hw) ?_ | simp only [seval, push_cast, ↓reduceIte, ↓bP_some, ↓aP_true, reduceCtorEq, h200, binV_sneq, binV_seql, decide_true]))
            exact FnQ.ret rfl rfl
          · have e3 : amongL k2 l2 = 10 := if_neg h3
            rw [e3] at hrg
            (repeat' (first | refine wSeq rfl ?_ | refine wBlock rfl ?_ | refine wSkip rfl ?_ | refine wExit rfl ?_ | refine wRet rfl ?_ | refine wCondT rfl rfl ?_ | refine wCondF rfl rfl ?_ | refine wOps rfl ?_ | refine wDraw rfl rfl ?_ | refine opsV_call rfl rfl (htx) ?_ | refine opsV_call rfl rfl (hrs) ?_ | refine opsV_call rfl rfl (htx2) ?_ | refine opsV_call rfl rfl (hrg) ?_ | refine opsV_call rfl rfl (hw) ?_ | simp only [seval, push_cast, ↓reduceIte, ↓bP_some, ↓aP_true, reduceCtorEq, h200, h3, binV_sneq, binV_seql, decide_true]))
            exact FnQ.ret rfl rfl
        | false =>
          rw [read_bad ha] at hrs ht
          dsimp only at hrs ht
          (repeat' (first | refine wSeq rfl ?_ | refine wBlock rfl ?_ | refine wSkip rfl ?_ | refine wExit rfl ?_ | refine wRet rfl ?_ | refine wCondT rfl rfl ?_ | refine wCondF rfl rfl ?_ | refine wOps rfl ?_ | refine wDraw rfl rfl ?_ | refine opsV_call rfl rfl (htx) ?_ | refine opsV_call rfl rfl (hrs) ?_ | refine opsV_call rfl rfl (hw) ?_ | simp only [seval, push_cast, ↓reduceIte, ↓bP_some, ↓aP_true, reduceCtorEq, h200, binV_sneq, binV_seql, decide_true]))
          exact FnQ.ret rfl rfl
omit hL
end Go.Proofs.YtnhfbabenifbkaaGreatDoor
