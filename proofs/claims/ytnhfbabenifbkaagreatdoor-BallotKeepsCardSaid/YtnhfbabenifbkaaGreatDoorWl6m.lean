/- AL: regions that draw their order, walked with the blocks that each operation touches. · Texts of ballots, read: cut at blanks, put together again. Nothing of the program is named here. · Ballots: texts walked: names, Itoa of small numbers, Text; the reference: digits, number, Text. · Strings cut at blanks, walked: strings.Split, Index, Count; slices.Index over strings. · Ballots: texts read, walked: the program's Read (given what Atoi yields), the reference's Read. · Ballots: the reference's Read, walked. · Ballots: Keep and Rename as functions that make a block. · Ballots: the law BallotKeeps, walked. -/
import Derived.Test.YtnhfbabenifbkaaGreatDoorAlSw
import Derived.Test.YtnhfbabenifbkaaGreatDoorWl4m
import Derived.Test.YtnhfbabenifbkaaGreatDoorBPl5
import Derived.Lib.Bytealg
import Derived.Test.YtnhfbabenifbkaaGreatDoorWb2
import Derived.Test.YtnhfbabenifbkaaGreatDoorWr1
set_option linter.unusedVariables false
namespace Go.Proofs.YtnhfbabenifbkaaGreatDoor
section
variable {L : Lib} {i : AI} {l : List AI} {rs : List Rec} {ms : List Nat} {K : Env → Heap → Prop} {E : Env} {H : Heap}
theorem dops_op {e : Eff} (hg : i.goes E.get = some true) (hc : i.op.isCall = false) (he : i.op.exec H.length H.get (opval L.G E.get) = some e) (hu : (e.upd.all fun p => Nat.blt p.1 H.length) = true)
    (hi : indB (ancM ms i.anc) { dst := i.dst, looks := i.looks, v := some e.v, need := e.need, eff := e.all H.length, slot := H.length, k := e.new.length } 0 rs = true)
    (k : dopsP L l (rs ++ [{ dst := i.dst, looks := i.looks, v := some e.v, need := e.need, eff := e.all H.length, slot := H.length, k := e.new.length }]) (ms ++ [ancM ms i.anc]) K (E.put i.dst e.v) (H.app e)) : dopsP L (i :: l) rs ms K E H := by
  unfold dopsP dstepP
  rw [hg]
  dsimp only
  cases hop : i.op with
  | call c args => rw [hop] at hc; cases hc
  | _ =>
    rw [hop] at he
    dsimp only
    rw [he]
    exact ⟨hu, hi, k⟩
theorem dops_off (hg : i.goes E.get = some false)
    (hi : indB (ancM ms i.anc) { dst := i.dst, looks := i.looks, v := some (.tup []), need := [], eff := [], slot := H.length, k := 0 } 0 rs = true)
    (k : dopsP L l (rs ++ [{ dst := i.dst, looks := i.looks, v := some (.tup []), need := [], eff := [], slot := H.length, k := 0 }]) (ms ++ [ancM ms i.anc]) K (E.put i.dst (.tup [])) H) : dopsP L (i :: l) rs ms K E H := by
  unfold dopsP dstepP
  rw [hg]
  exact ⟨hi, k⟩
theorem dops_call {f : Nat} {args : List AOpd} {vs : List V} {r : V} (hg : i.goes E.get = some true) (hop : i.op = .call (.fn f) args) (hv : evals (opval L.G E.get) args = some vs) (hf : VFn L f vs r)
    (hi : indB (ancM ms i.anc) { dst := i.dst, looks := i.looks, v := some r, need := [], eff := [], slot := H.length, k := 0 } 0 rs = true)
    (k : dopsP L l (rs ++ [{ dst := i.dst, looks := i.looks, v := some r, need := [], eff := [], slot := H.length, k := 0 }]) (ms ++ [ancM ms i.anc]) K (E.put i.dst r) H) : dopsP L (i :: l) rs ms K E H := by
  unfold dopsP dstepP
  rw [hg]
  dsimp only
  rw [hop]
  dsimp only
  unfold callee
  rw [hv]
  show FnD L (.fn f) vs H _
  obtain ⟨hv1, hv2, hv3⟩ := hf
  have e1 : vs.map (V.ren (sgOf H ([].map some) [])) = vs := by rw [← V.rens_map]; exact V.rens_closed _ hv1
  refine ⟨[], [], [], r, [], .fn f, rfl, rfl, rfl, ?_, rfl, Nat.le_refl _, fun i hi => by simp at hi, ?_⟩
  · rw [e1]; exact hv3
  · rw [V.ren_closed _ hv2]
    have e2 : H.back [] [] = H := by simp [Heap.back, Heap.upds]
    rw [e2]
    exact ⟨hi, k⟩
theorem dops_make {f : Nat} {args : List AOpd} {vs : List V} {r : V} {h' : Heap} (hg : i.goes E.get = some true) (hop : i.op = .call (.fn f) args) (hv : evals (opval L.G E.get) args = some vs) (hf : MFn L f vs r h')
    (hi : indB (ancM ms i.anc) { dst := i.dst, looks := i.looks, v := some (r.ren (upσ H.length)), need := [], eff := effB H.length [] [] h', slot := H.length, k := h'.length } 0 rs = true)
    (k : dopsP L l (rs ++ [{ dst := i.dst, looks := i.looks, v := some (r.ren (upσ H.length)), need := [], eff := effB H.length [] [] h', slot := H.length, k := h'.length }]) (ms ++ [ancM ms i.anc]) K (E.put i.dst (r.ren (upσ H.length))) (H ++ h'.map (Option.map (Blk.ren (upσ H.length))))) : dopsP L (i :: l) rs ms K E H := by
  unfold dopsP dstepP
  rw [hg]
  dsimp only
  rw [hop]
  dsimp only
  unfold callee
  rw [hv]
  show FnD L (.fn f) vs H _
  obtain ⟨hv1, hv3⟩ := hf
  have e1 : vs.map (V.ren (sgOf H ([].map some) [])) = vs := by rw [← V.rens_map]; exact V.rens_closed _ hv1
  refine ⟨[], [], [], r, h', .fn f, rfl, rfl, rfl, ?_, rfl, Nat.zero_le _, fun i hi => by simp at hi, ?_⟩
  · rw [e1]; exact hv3
  · rw [outσ_nil]
    have e2 : H.back [] h' = H ++ h'.map (Option.map (Blk.ren (upσ H.length))) := by simp [Heap.back, Heap.upds, outσ_nil]
    rw [e2]
    exact ⟨hi, k⟩
theorem dops_nil (k : K E H) : dopsP L [] rs ms K E H := k
theorem wDrawD {n0 N : Nat} {Q : Exit → Env → Heap → Prop} {c : AC} {l : List AI} {ks : List Nat} (h : c = .ops true l ks) (k : dopsP L l [] [] (fun E H => Q .normal (E.kill ks) H) E H) : SWP L n0 N c Q E H := by
  subst h; exact SWP.draw k
end
end Go.Proofs.YtnhfbabenifbkaaGreatDoor
set_option linter.unusedVariables false
set_option linter.unusedSimpArgs false
namespace Go.Proofs.YtnhfbabenifbkaaGreatDoor
def pushW (c : UInt8) : List (List UInt8) → List (List UInt8)
  | [] => [[c]]
  | w :: ws => (c :: w) :: ws
/-- A text cut at each blank. -/
def splitL : List UInt8 → List (List UInt8)
  | [] => [[]]
  | c :: r => if c = 32 then [] :: splitL r else pushW c (splitL r)
def joinL : List (List UInt8) → List UInt8
  | [] => []
  | w :: ws => w ++ ws.flatMap fun v => 32 :: v
def NoB (w : List UInt8) : Prop := ∀ c ∈ w, c ≠ 32
theorem split_ne : ∀ s, splitL s ≠ []
  | [] => by simp [splitL]
  | c :: r => by
    rw [splitL]
    split
    · simp
    · cases splitL r <;> simp [pushW]
theorem split_blank (r : List UInt8) : splitL (32 :: r) = [] :: splitL r := by rw [splitL, if_pos rfl]
theorem split_word : ∀ {w : List UInt8}, NoB w → splitL w = [w]
  | [], _ => rfl
  | c :: w, h => by
    rw [splitL, if_neg (h c (by simp)), split_word (fun c hc => h c (by simp [hc]))]; rfl
theorem split_app : ∀ {w : List UInt8}, NoB w → ∀ r, splitL (w ++ 32 :: r) = w :: splitL r
  | [], _, r => split_blank r
  | c :: w, h, r => by
    rw [List.cons_append, splitL, if_neg (h c (by simp)), split_app (fun c hc => h c (by simp [hc]))]; rfl
theorem join_push (c : UInt8) {l : List (List UInt8)} (h : l ≠ []) : joinL (pushW c l) = c :: joinL l := by
  cases l with
  | nil => exact absurd rfl h
  | cons w ws => rfl
theorem join_split : ∀ s, joinL (splitL s) = s
  | [] => rfl
  | c :: r => by
    rw [splitL]
    by_cases h : c = 32
    · rw [if_pos h, h]
      have := join_split r
      cases hr : splitL r with
      | nil => exact absurd hr (split_ne r)
      | cons w ws => rw [hr] at this; rw [← this]; rfl
    · rw [if_neg h, join_push c (split_ne r), join_split r]
theorem split_len : ∀ s, (splitL s).length = Lib.countByte s 32 + 1
  | [] => rfl
  | c :: r => by
    rw [splitL]
    have ih := split_len r
    by_cases h : c = 32
    · subst h; rw [if_pos rfl, List.length_cons, ih]
      simp [Lib.countByte]
    · rw [if_neg h]
      have e : (pushW c (splitL r)).length = (splitL r).length := by
        cases hr : splitL r with
        | nil => exact absurd hr (split_ne r)
        | cons w ws => rfl
      rw [e, ih]
      simp [Lib.countByte, h]
/-- Where the first blank is. -/
theorem index_blank : ∀ s, (Lib.indexByte s 32 = -1 ∧ NoB s) ∨ ∃ (w r : List UInt8), s = w ++ 32 :: r ∧ NoB w ∧ Lib.indexByte s 32 = (w.length : Int)
  | [] => .inl ⟨rfl, fun c h => by cases h⟩
  | c :: s => by
    by_cases h : c = 32
    · subst h; exact .inr ⟨[], s, rfl, fun _ h => absurd h List.not_mem_nil, by simp [Lib.indexByte]⟩
    · rcases index_blank s with ⟨h1, h2⟩ | ⟨w, r, rfl, h1, h2⟩
      · left
        refine ⟨by simp [Lib.indexByte, h, h1], fun d hd => ?_⟩
        rcases List.mem_cons.1 hd with rfl | hd
        · exact h
        · exact h2 d hd
      · right
        refine ⟨c :: w, r, rfl, fun d hd => ?_, ?_⟩
        · rcases List.mem_cons.1 hd with rfl | hd
          · exact h
          · exact h1 d hd
        · have : ¬ ((w.length : Int) = -1) := by omega
          simp [Lib.indexByte, h, h2, this]
theorem split_one {s : List UInt8} : (splitL s).length = 1 ↔ NoB s := by
  constructor
  · intro h
    rcases index_blank s with ⟨_, h2⟩ | ⟨w, r, rfl, h1, _⟩
    · exact h2
    · rw [split_app h1] at h
      have := split_ne r
      rw [List.length_cons] at h
      exact absurd (List.length_eq_zero_iff.1 (by omega)) this
  · intro h; rw [split_word h]; rfl
def kindL (w : List UInt8) : Int := if w = [114, 97, 110, 107] then 1 else if w = [109, 97, 114, 107] then 2 else if w = [115, 99, 111, 114, 101] then 3 else 0
theorem kind_name {k : Int} (h : k = 1 ∨ k = 2 ∨ k = 3) : kindL (nameL k) = k := by
  rcases h with rfl | rfl | rfl <;> decide
theorem name_kind {w : List UInt8} (h : kindL w = 1 ∨ kindL w = 2 ∨ kindL w = 3) : nameL (kindL w) = w := by
  unfold kindL at h ⊢
  by_cases h1 : w = [114, 97, 110, 107]
  · rw [if_pos h1, h1]; decide
  · rw [if_neg h1] at h ⊢
    by_cases h2 : w = [109, 97, 114, 107]
    · rw [if_pos h2, h2]; decide
    · rw [if_neg h2] at h ⊢
      by_cases h3 : w = [115, 99, 111, 114, 101]
      · rw [if_pos h3, h3]; decide
      · rw [if_neg h3] at h; omega
def wordsMarks (s : List UInt8) : List (List UInt8) := (splitL s).tail
def headW (s : List UInt8) : List UInt8 := (splitL s).headD []
theorem head_tail (s : List UInt8) : splitL s = headW s :: wordsMarks s := by
  unfold headW wordsMarks
  cases h : splitL s with
  | nil => exact absurd h (split_ne s)
  | cons w ws => rfl
/-- A ballot read, given how a word is read as a number. -/
def readF (f : List UInt8 → Int) (s : List UInt8) : Int × List Int := (kindL (headW s), (wordsMarks s).map f)
def readL (s : List UInt8) : (Int × List Int) × Int := if aloneL (readF numberL s).1 (readF numberL s).2 = true then (readF numberL s, 0) else ((0, []), 11)
def preadL (f : List UInt8 → Int) (s : List UInt8) : (Int × List Int) × Int := if aloneL (readF f s).1 (readF f s).2 = true ∧ nameL (readF f s).1 ++ marksL (readF f s).2 = s then (readF f s, 0) else ((0, []), 11)
theorem number_dig : ∀ n, n < 11 → numberL (dig n) = (n : Int) := by
  intro n hn
  have : ((List.range 11).all fun n => decide (numberL (dig n) = (n : Int))) = true := by decide +kernel
  exact of_decide_eq_true (List.all_eq_true.1 this n (List.mem_range.2 hn))
theorem dig_noB : ∀ n, n < 11 → NoB (dig n) := by
  intro n hn
  have : ((List.range 11).all fun n => (dig n).all fun c => decide (c ≠ 32)) = true := by decide +kernel
  have := List.all_eq_true.1 this n (List.mem_range.2 hn)
  exact fun c hc => of_decide_eq_true (List.all_eq_true.1 this c hc)
theorem numberGo_dig (s : List UInt8) : ∀ d n, 0 ≤ numberGo s d n → dig (numberGo s d n).toNat = s
  | 0, n, h => by simp [numberGo] at h
  | d + 1, n, h => by
    rw [numberGo] at h ⊢
    by_cases e : dig n = s
    · rw [if_pos e]; exact e
    · rw [if_neg e] at h ⊢; exact numberGo_dig s d (n + 1) h
theorem dig_number {s : List UInt8} (h : 0 ≤ numberL s) : dig (numberL s).toNat = s := numberGo_dig s 20 0 h
theorem name_noB (k : Int) : NoB (nameL k) := by
  unfold nameL NoB
  by_cases h1 : k = 1
  · rw [if_pos h1]; decide
  · rw [if_neg h1]
    by_cases h2 : k = 2
    · rw [if_pos h2]; decide
    · rw [if_neg h2]
      by_cases h3 : k = 3
      · rw [if_pos h3]; decide
      · rw [if_neg h3]; intro c hc; cases hc
theorem split_marks : ∀ (l : List Int) (w : List UInt8), NoB w → (∀ m ∈ l, 0 ≤ m ∧ m < 11) → splitL (w ++ marksL l) = w :: l.map fun m => dig m.toNat
  | [], w, hw, _ => by simp [marksL, split_word hw]
  | m :: r, w, hw, h => by
    have e : marksL (m :: r) = 32 :: (dig m.toNat ++ marksL r) := by simp [marksL]
    rw [e, split_app hw, split_marks r _ (dig_noB _ (by have := h m (by simp); omega)) (fun x hx => h x (by simp [hx]))]
    rfl
theorem alone_kind' {k : Int} {l : List Int} (h : aloneL k l = true) : k = 1 ∨ k = 2 ∨ k = 3 := alone_kind (by unfold aloneL at h; exact of_decide_eq_true h)
theorem split_text {k : Int} {l : List Int} (h : aloneL k l = true) : splitL (nameL k ++ marksL l) = nameL k :: l.map fun m => dig m.toNat := split_marks l _ (name_noB k) (alone_marks h)
theorem readF_text {f : List UInt8 → Int} (hf : ∀ n, n < 11 → f (dig n) = (n : Int)) {k : Int} {l : List Int} (h : aloneL k l = true) : readF f (nameL k ++ marksL l) = (k, l) := by
  unfold readF headW wordsMarks
  rw [split_text h]
  show (kindL (nameL k), (l.map fun m => dig m.toNat).map f) = (k, l)
  rw [kind_name (alone_kind' h), List.map_map]
  congr 1
  have hm := alone_marks h
  conv => rhs; rw [← List.map_id l]
  refine List.map_congr_left fun m hx => ?_
  have := hm m hx
  show f (dig m.toNat) = m
  rw [hf _ (by omega)]; omega
theorem text_of_read {s : List UInt8} (h : aloneL (readF numberL s).1 (readF numberL s).2 = true) : nameL (readF numberL s).1 ++ marksL (readF numberL s).2 = s := by
  have hk := alone_kind' h
  have hm := alone_marks h
  have e := join_split s
  rw [head_tail s] at e
  have e2 : joinL (headW s :: wordsMarks s) = headW s ++ (wordsMarks s).flatMap fun v => 32 :: v := rfl
  rw [e2] at e
  conv => rhs; rw [← e]
  unfold readF at hk hm ⊢
  dsimp only at hk hm ⊢
  rw [name_kind hk]
  congr 1
  unfold marksL
  rw [List.flatMap_def, List.flatMap_def, List.map_map]
  congr 1
  refine List.map_congr_left fun w hw => ?_
  have := hm (numberL w) (List.mem_map.2 ⟨w, hw, rfl⟩)
  show 32 :: dig (numberL w).toNat = 32 :: w
  rw [dig_number this.1]
theorem pread_eq {f : List UInt8 → Int} (hf : ∀ n, n < 11 → f (dig n) = (n : Int)) (s : List UInt8) : preadL f s = readL s := by
  unfold preadL readL
  by_cases h1 : aloneL (readF f s).1 (readF f s).2 = true ∧ nameL (readF f s).1 ++ marksL (readF f s).2 = s
  · rw [if_pos h1]
    obtain ⟨h2, h3⟩ := h1
    have e : readF numberL s = readF f s := by
      conv => lhs; rw [← h3]
      exact readF_text number_dig h2
    rw [e, if_pos h2]
  · rw [if_neg h1]
    by_cases h2 : aloneL (readF numberL s).1 (readF numberL s).2 = true
    · exfalso
      have h3 := text_of_read h2
      apply h1
      have e : readF f s = readF numberL s := by
        conv => lhs; rw [← h3]
        exact readF_text hf h2
      rw [e]
      exact ⟨h2, h3⟩
    · rw [if_neg h2]
theorem read_text {k : Int} {l : List Int} (h : aloneL k l = true) : readL (nameL k ++ marksL l) = ((k, l), 0) := by
  unfold readL
  rw [readF_text number_dig h]
  exact if_pos h
theorem read_ok {s : List UInt8} (h : aloneL (readF numberL s).1 (readF numberL s).2 = true) : readL s = (readF numberL s, 0) := if_pos h
theorem read_bad {s : List UInt8} (h : aloneL (readF numberL s).1 (readF numberL s).2 = false) : readL s = ((0, []), 11) := if_neg (by rw [h]; simp)
end Go.Proofs.YtnhfbabenifbkaaGreatDoor
set_option maxRecDepth 100000
set_option maxHeartbeats 4000000
set_option linter.unusedVariables false
set_option linter.unusedSimpArgs false
namespace Go.Proofs.YtnhfbabenifbkaaGreatDoor
theorem binV_sadd {a b : List UInt8} (h : a.length + b.length ≤ 1152921504606846976) : binV .add (.str a) (.str b) = some (.str (a ++ b)) := by
  show binStr .add a b = _
  unfold binStr strBig
  exact if_pos h
theorem binV_seql {a b : List UInt8} : binV .eql (.str a) (.str b) = some (.bool (decide (a = b))) := by
  show some (V.bool (a == b)) = _
  rw [show (a == b) = decide (a = b) from by by_cases h : a = b <;> simp [h]]
theorem binV_sneq {a b : List UInt8} : binV .neq (.str a) (.str b) = some (.bool (!decide (a = b))) := by
  show some (V.bool (!(a == b))) = _
  rw [show (a == b) = decide (a = b) from by by_cases h : a = b <;> simp [h]]
/-- A row of one text. -/
def srow (s : List UInt8) : List V := [.str s]
theorem srow_eq (s : List UInt8) : srow s = [.str s] := rfl
theorem closed_srow (x : List UInt8) : (srow x).all V.closed = true := rfl
attribute [push_cast] srow_eq
def namesS : List (List UInt8) := [[], [114, 97, 110, 107], [109, 97, 114, 107], [115, 99, 111, 114, 101]]
theorem rem_n {n m : Nat} (h : m ≠ 0) : binV .rem (.int .i64 (n : Int)) (.int .i64 (m : Int)) = some (.int .i64 ((n % m : Nat) : Int)) := by
  have h' : ¬ ((m : Int) = 0) := by omega
  have e : (n : Int).tmod (m : Int) = ((n % m : Nat) : Int) := (Int.ofNat_tmod n m).symm
  simp only [binV, binInt, h', if_true, if_false, e]
theorem quo_n {n m : Nat} (h : m ≠ 0) (hn : n < 9223372036854775808) : binV .quo (.int .i64 (n : Int)) (.int .i64 (m : Int)) = some (.int .i64 ((n / m : Nat) : Int)) := by
  have h' : ¬ ((m : Int) = 0) := by omega
  have e : (n : Int).tdiv (m : Int) = ((n / m : Nat) : Int) := (Int.ofNat_tdiv n m).symm
  have hlt : n / m < 9223372036854775808 := Nat.lt_of_le_of_lt (Nat.div_le_self n m) hn
  simp only [binV, binInt, h', if_true, if_false, e, wrap_nat hlt]
def tens : List UInt8 := [48, 49, 50, 51, 52, 53, 54, 55, 56, 57]
theorem tens_at {n : Nat} (h : n < 10) : (tens.drop n).take (n + 1 - n) = [UInt8.ofNat (48 + n)] := by
  have : ((List.range 10).all fun n => decide ((tens.drop n).take (n + 1 - n) = [UInt8.ofNat (48 + n)])) = true := by decide +kernel
  exact of_decide_eq_true (List.all_eq_true.1 this n (List.mem_range.2 h))
variable {L : Lib} (hL : L.T = tab.get)
include hL
theorem names_v : VFn L 51 [] (tl srow 1 namesS (some 4)) := by
  refine VFn.start (F := T51.1) (by rw [hL]; rfl) rfl rfl rfl ?_
  (repeat' (first | refine wSeq rfl ?_ | refine wBlock rfl ?_ | refine wSkip rfl ?_ | refine wExit rfl ?_ | refine wRet rfl ?_ | refine wCondT rfl rfl ?_ | refine wCondF rfl rfl ?_ | refine wOps rfl ?_ | refine wDraw rfl rfl ?_ | simp only [seval, push_cast, ↓reduceIte, ↓bP_some, ↓aP_true, reduceCtorEq]))
  exact FnQ.frz [0] rfl rfl
theorem digits_v (n : Nat) (hn : n < 20) : VFn L 53 [.int .i64 (n : Int)] (.str (dig n)) := by
  refine VFn.start (F := T53.1) (by rw [hL]; rfl) rfl rfl rfl ?_
  have h1 : binV .rem (.int .i64 (n : Int)) (.int .i64 10) = some (.int .i64 ((n % 10 : Nat) : Int)) := rem_n (m := 10) (by decide)
  have h2 : binV .quo (.int .i64 (n : Int)) (.int .i64 10) = some (.int .i64 ((n / 10 : Nat) : Int)) := quo_n (m := 10) (by decide) (by omega)
  have l1 : n % 10 < 10 := by omega
  have l2 : n / 10 < 10 := by omega
  rw [dig]
  have e3 : n < 10 → n % 10 = n := fun h => Nat.mod_eq_of_lt h
  generalize n % 10 = a at *
  generalize n / 10 = b at *
  have w1 := wrap_succ (show a < 9223372036854775807 by omega)
  have w2 := wrap_succ (show b < 9223372036854775807 by omega)
  have e1 := tens_at l1
  have e2 := tens_at l2
  unfold tens at e1 e2
  have l1 : a + 1 ≤ 10 := l1
  have l2 : b + 1 ≤ 10 := l2
  by_cases h : n < 10
  · have hd : ¬ (10 : Int) ≤ (n : Int) := by omega
    rw [if_pos h]
    have e3 := e3 h
    subst e3
    (repeat' (first | refine wSeq rfl ?_ | refine wBlock rfl ?_ | refine wSkip rfl ?_ | refine wExit rfl ?_ | refine wRet rfl ?_ | refine wCondT rfl rfl ?_ | refine wCondF rfl rfl ?_ | refine wOps rfl ?_ | refine wDraw rfl rfl ?_ | simp only [seval, push_cast, ↓reduceIte, ↓bP_some, ↓aP_true, reduceCtorEq, h1, w1, l1, e1, hd, Nat.le_add_right]))
    exact FnQ.ret rfl rfl
  · have hd : (10 : Int) ≤ (n : Int) := by omega
    rw [if_neg h]
    have sa : ∀ a b : UInt8, binV .add (.str [a]) (.str [b]) = some (.str [a, b]) := fun a b => binV_sadd (a := [a]) (b := [b]) (by simp)
    (repeat' (first | refine wSeq rfl ?_ | refine wBlock rfl ?_ | refine wSkip rfl ?_ | refine wExit rfl ?_ | refine wRet rfl ?_ | refine wCondT rfl rfl ?_ | refine wCondF rfl rfl ?_ | refine wOps rfl ?_ | refine wDraw rfl rfl ?_ | simp only [seval, push_cast, ↓reduceIte, ↓bP_some, ↓aP_true, reduceCtorEq, h1, h2, w1, w2, l1, l2, e1, e2, hd, Nat.le_add_right, sa]))
    exact FnQ.ret rfl rfl
theorem number_v (s : List UInt8) : VFn L 57 [.str s] (.int .i64 (numberL s)) := by
  refine VFn.start (F := T57.1) (by rw [hL]; rfl) rfl rfl rfl ?_
  (repeat' (first | refine wSeq rfl ?_ | refine wBlock rfl ?_ | refine wSkip rfl ?_ | refine wExit rfl ?_ | refine wRet rfl ?_ | refine wCondT rfl rfl ?_ | refine wCondF rfl rfl ?_ | refine wOps rfl ?_ | refine wDraw rfl rfl ?_ | simp only [seval, push_cast, ↓reduceIte, ↓bP_some, ↓aP_true, reduceCtorEq]))
  refine wCnt rfl 3 20 (fun _ => []) (fun j => numberL s = numberGo s (20 - j) j) rfl rfl ?_ ?_
  · intro j hj hI
    have hj' : (j : Int) < 20 := by omega
    have hw := wrap_succ (show j < 9223372036854775807 by omega)
    by_cases hq : dig j = s
    · (repeat' (first | refine wSeq rfl ?_ | refine wBlock rfl ?_ | refine wSkip rfl ?_ | refine wExit rfl ?_ | refine wRet rfl ?_ | refine wCondT rfl rfl ?_ | refine wCondF rfl rfl ?_ | refine wOps rfl ?_ | refine wDraw rfl rfl ?_ | refine opsV_call rfl rfl (digits_v hL j hj) ?_ | simp only [seval, push_cast, ↓reduceIte, ↓bP_some, ↓aP_true, reduceCtorEq, hj', binV_seql, hq, decide_true]))
      rw [hI, number_hit hj hq]
      exact FnQ.ret rfl rfl
    · (repeat' (first | refine wSeq rfl ?_ | refine wBlock rfl ?_ | refine wSkip rfl ?_ | refine wExit rfl ?_ | refine wRet rfl ?_ | refine wCondT rfl rfl ?_ | refine wCondF rfl rfl ?_ | refine wOps rfl ?_ | refine wDraw rfl rfl ?_ | refine opsV_call rfl rfl (digits_v hL j hj) ?_ | simp only [seval, push_cast, ↓reduceIte, ↓bP_some, ↓aP_true, reduceCtorEq, hj', binV_seql, hq, decide_false, hw]))
      exact qR_n rfl rfl (by rw [hI, number_miss hj hq]; congr 1; omega)
  · intro hI
    (repeat' (first | refine wSeq rfl ?_ | refine wBlock rfl ?_ | refine wSkip rfl ?_ | refine wExit rfl ?_ | refine wRet rfl ?_ | refine wCondT rfl rfl ?_ | refine wCondF rfl rfl ?_ | refine wOps rfl ?_ | refine wDraw rfl rfl ?_ | simp only [seval, push_cast, ↓reduceIte, ↓bP_some, ↓aP_true, reduceCtorEq]))
    rw [hI, number_end (by decide)]
    exact FnQ.ret rfl rfl
theorem small_v (n : Nat) (hn : n < 11) : VFn L 98 [.int .i64 (n : Int)] (.str (dig n)) := by
  refine VFn.start (F := T98.1) (by rw [hL]; rfl) rfl rfl rfl ?_
  by_cases h : n < 10
  · have h1 : (n : Int) < 10 := by omega
    have w1 := wrap_succ (show n < 9223372036854775807 by omega)
    have e : ((List.range 10).all fun n => decide ((([48, 49, 50, 51, 52, 53, 54, 55, 56, 57, 97, 98, 99, 100, 101, 102, 103, 104, 105, 106, 107, 108, 109, 110, 111, 112, 113, 114, 115, 116, 117, 118, 119, 120, 121, 122] : List UInt8).drop n).take (n + 1 - n) = dig n)) = true := by decide +kernel
    have e1 := of_decide_eq_true (List.all_eq_true.1 e n (List.mem_range.2 h))
    have l1 : n + 1 ≤ 36 := by omega
    (repeat' (first | refine wSeq rfl ?_ | refine wBlock rfl ?_ | refine wSkip rfl ?_ | refine wExit rfl ?_ | refine wRet rfl ?_ | refine wCondT rfl rfl ?_ | refine wCondF rfl rfl ?_ | refine wOps rfl ?_ | refine wDraw rfl rfl ?_ | simp only [seval, push_cast, ↓reduceIte, ↓bP_some, ↓aP_true, reduceCtorEq, h1, w1, l1, e1, Nat.le_add_right]))
    exact FnQ.ret rfl rfl
  · obtain rfl : n = 10 := by omega
    have w20 : IntKind.i64.wrap 20 = 20 := wrap_i64 (by decide) (by decide)
    have w22 : IntKind.i64.wrap 22 = 22 := wrap_i64 (by decide) (by decide)
    have t20 : V.nat? (.int .i64 20) = some 20 := rfl
    have t22 : V.nat? (.int .i64 22) = some 22 := rfl
    (repeat' (first | refine wSeq rfl ?_ | refine wBlock rfl ?_ | refine wSkip rfl ?_ | refine wExit rfl ?_ | refine wRet rfl ?_ | refine wCondT rfl rfl ?_ | refine wCondF rfl rfl ?_ | refine wOps rfl ?_ | refine wDraw rfl rfl ?_ | simp only [seval, push_cast, ↓reduceIte, ↓bP_some, ↓aP_true, reduceCtorEq, w20, w22, t20, t22]))
    exact FnQ.ret rfl rfl
theorem itoa_v (n : Nat) (hn : n < 11) : VFn L 52 [.int .i64 (n : Int)] (.str (dig n)) := by
  have h100 : (n : Int) < 100 := by omega
  have f1 : VFn L 83 [.int .i64 (n : Int), .int .i64 10] (.str (dig n)) := by
    refine VFn.start (F := T83.1) (by rw [hL]; rfl) rfl rfl rfl ?_
    have h0 : (0 : Int) ≤ (n : Int) := by omega
    (repeat' (first | refine wSeq rfl ?_ | refine wBlock rfl ?_ | refine wSkip rfl ?_ | refine wExit rfl ?_ | refine wRet rfl ?_ | refine wCondT rfl rfl ?_ | refine wCondF rfl rfl ?_ | refine wOps rfl ?_ | refine wDraw rfl rfl ?_ | refine opsV_call rfl rfl (small_v hL n hn) ?_ | simp only [seval, push_cast, ↓reduceIte, ↓bP_some, ↓aP_true, reduceCtorEq, h100, h0]))
    exact FnQ.ret rfl rfl
  have f2 : VFn L 65 [.int .i64 (n : Int)] (.str (dig n)) := by
    refine VFn.start (F := T65.1) (by rw [hL]; rfl) rfl rfl rfl ?_
    (repeat' (first | refine wSeq rfl ?_ | refine wBlock rfl ?_ | refine wSkip rfl ?_ | refine wExit rfl ?_ | refine wRet rfl ?_ | refine wCondT rfl rfl ?_ | refine wCondF rfl rfl ?_ | refine wOps rfl ?_ | refine wDraw rfl rfl ?_ | refine opsV_call rfl rfl (f1) ?_ | simp only [seval, push_cast, ↓reduceIte, ↓bP_some, ↓aP_true, reduceCtorEq]))
    exact FnQ.ret rfl rfl
  refine VFn.start (F := T52.1) (by rw [hL]; rfl) rfl rfl rfl ?_
  (repeat' (first | refine wSeq rfl ?_ | refine wBlock rfl ?_ | refine wSkip rfl ?_ | refine wExit rfl ?_ | refine wRet rfl ?_ | refine wCondT rfl rfl ?_ | refine wCondF rfl rfl ?_ | refine wOps rfl ?_ | refine wDraw rfl rfl ?_ | refine opsV_call rfl rfl (f2) ?_ | simp only [seval, push_cast, ↓reduceIte, ↓bP_some, ↓aP_true, reduceCtorEq]))
  exact FnQ.ret rfl rfl
theorem text_v (k : Int) (s : Nat) (l : List Int) (c : Option Nat) (hs : s = 1 ∨ l = []) (hl : l.length ≤ 17592186043904) : VFn L 25 [(.agg [.int .u8 k, tl mrow s (l) c])] (.tup [.str (btextL k l).1, .int .i64 (btextL k l).2]) := by
  have hl2 : l.length < 4611686018427387904 := by omega
  refine VFn.start (F := T25.1) (by rw [hL]; rfl) rfl rfl rfl ?_
  cases hal : aloneL k l with
  | false =>
    (repeat' (first | refine wSeq rfl ?_ | refine wBlock rfl ?_ | refine wSkip rfl ?_ | refine wExit rfl ?_ | refine wRet rfl ?_ | refine wCondT rfl rfl ?_ | refine wCondF rfl rfl ?_ | refine wOps rfl ?_ | refine wDraw rfl rfl ?_ | refine opsV_call rfl rfl (alone_v hL _ _ _ _ hs hl2) ?_ | simp only [seval, push_cast, ↓reduceIte, ↓bP_some, ↓aP_true, reduceCtorEq, hal]))
    rw [btext_bad hal]
    exact FnQ.ret rfl rfl
  | true =>
    have hm := alone_marks hal
    rw [btext_ok hal]
    dsimp only
    rcases alone_kind' hal with rfl | rfl | rfl
    · have hnm := name_len 1
      (repeat' (first | refine wSeq rfl ?_ | refine wBlock rfl ?_ | refine wSkip rfl ?_ | refine wExit rfl ?_ | refine wRet rfl ?_ | refine wCondT rfl rfl ?_ | refine wCondF rfl rfl ?_ | refine wOps rfl ?_ | refine wDraw rfl rfl ?_ | refine opsV_call rfl rfl (alone_v hL _ _ _ _ hs hl2) ?_ | refine opsV_call rfl rfl (names_v hL) ?_ | simp only [seval, push_cast, ↓reduceIte, ↓bP_some, ↓aP_true, reduceCtorEq, hal, iaQ_tl (l := namesS) (i := 1) (by decide), show namesS[1]? = some (nameL 1) from by decide]))
      generalize nameL 1 = nm at hnm ⊢
      refine wCnt rfl 18 l.length (fun j => [(4, .str (nm ++ marksL (l.take j)))]) (fun _ => True) (by rw [List.take_zero, show marksL [] = [] from rfl, List.append_nil]; rfl) trivial ?_ ?_
      · intro j hj _
        obtain ⟨m, hx, hmem⟩ := get_of hj
        obtain rfl := size_of hs hj
        have hm := hm m hmem
        obtain ⟨n, rfl⟩ : ∃ n : Nat, m = n := ⟨m.toNat, by omega⟩
        have hn : n < 11 := by omega
        have hw := wrap_succ (show j < 9223372036854775807 by omega)
        have hst := marks_snoc (l.take j) (n : Int)
        rw [← take_snoc hx, Int.toNat_natCast] at hst
        rw [hst]
        have hml := marks_len (l.take j)
        have hdl := dig_len n
        rw [List.length_take] at hml
        have s1 : binV .add (.str [32]) (.str (dig n)) = some (.str ([32] ++ dig n)) := binV_sadd (by simp; omega)
        have s2 : binV .add (.str (nm ++ marksL (l.take j))) (.str ([32] ++ dig n)) = some (.str ((nm ++ marksL (l.take j)) ++ ([32] ++ dig n))) := binV_sadd (by simp; omega)
        rw [← List.append_assoc nm]
        generalize nm ++ marksL (l.take j) = acc at *
        generalize hdn : [32] ++ dig n = dn at *
        (repeat' (first | refine wSeq rfl ?_ | refine wBlock rfl ?_ | refine wSkip rfl ?_ | refine wExit rfl ?_ | refine wRet rfl ?_ | refine wCondT rfl rfl ?_ | refine wCondF rfl rfl ?_ | refine wOps rfl ?_ | refine wDraw rfl rfl ?_ | refine opsV_call rfl rfl (itoa_v hL n hn) ?_ | simp only [seval, push_cast, ↓reduceIte, ↓bP_some, ↓aP_true, reduceCtorEq, hj, hx, iaQ_tl hj, hw, s1, s2]))
        exact qR_n rfl rfl trivial
      · intro _
        rw [take_all]
        (repeat' (first | refine wSeq rfl ?_ | refine wBlock rfl ?_ | refine wSkip rfl ?_ | refine wExit rfl ?_ | refine wRet rfl ?_ | refine wCondT rfl rfl ?_ | refine wCondF rfl rfl ?_ | refine wOps rfl ?_ | refine wDraw rfl rfl ?_ | simp only [seval, push_cast, ↓reduceIte, ↓bP_some, ↓aP_true, reduceCtorEq]))
        exact FnQ.ret rfl rfl
    · have hnm := name_len 2
      (repeat' (first | refine wSeq rfl ?_ | refine wBlock rfl ?_ | refine wSkip rfl ?_ | refine wExit rfl ?_ | refine wRet rfl ?_ | refine wCondT rfl rfl ?_ | refine wCondF rfl rfl ?_ | refine wOps rfl ?_ | refine wDraw rfl rfl ?_ | refine opsV_call rfl rfl (alone_v hL _ _ _ _ hs hl2) ?_ | refine opsV_call rfl rfl (names_v hL) ?_ | simp only [seval, push_cast, ↓reduceIte, ↓bP_some, ↓aP_true, reduceCtorEq, hal, iaQ_tl (l := namesS) (i := 2) (by decide), show namesS[2]? = some (nameL 2) from by decide]))
      generalize nameL 2 = nm at hnm ⊢
      refine wCnt rfl 18 l.length (fun j => [(4, .str (nm ++ marksL (l.take j)))]) (fun _ => True) (by rw [List.take_zero, show marksL [] = [] from rfl, List.append_nil]; rfl) trivial ?_ ?_
      · intro j hj _
        obtain ⟨m, hx, hmem⟩ := get_of hj
        obtain rfl := size_of hs hj
        have hm := hm m hmem
        obtain ⟨n, rfl⟩ : ∃ n : Nat, m = n := ⟨m.toNat, by omega⟩
        have hn : n < 11 := by omega
        have hw := wrap_succ (show j < 9223372036854775807 by omega)
        have hst := marks_snoc (l.take j) (n : Int)
        rw [← take_snoc hx, Int.toNat_natCast] at hst
        rw [hst]
        have hml := marks_len (l.take j)
        have hdl := dig_len n
        rw [List.length_take] at hml
        have s1 : binV .add (.str [32]) (.str (dig n)) = some (.str ([32] ++ dig n)) := binV_sadd (by simp; omega)
        have s2 : binV .add (.str (nm ++ marksL (l.take j))) (.str ([32] ++ dig n)) = some (.str ((nm ++ marksL (l.take j)) ++ ([32] ++ dig n))) := binV_sadd (by simp; omega)
        rw [← List.append_assoc nm]
        generalize nm ++ marksL (l.take j) = acc at *
        generalize hdn : [32] ++ dig n = dn at *
        (repeat' (first | refine wSeq rfl ?_ | refine wBlock rfl ?_ | refine wSkip rfl ?_ | refine wExit rfl ?_ | refine wRet rfl ?_ | refine wCondT rfl rfl ?_ | refine wCondF rfl rfl ?_ | refine wOps rfl ?_ | refine wDraw rfl rfl ?_ | refine opsV_call rfl rfl (itoa_v hL n hn) ?_ | simp only [seval, push_cast, ↓reduceIte, ↓bP_some, ↓aP_true, reduceCtorEq, hj, hx, iaQ_tl hj, hw, s1, s2]))
        exact qR_n rfl rfl trivial
      · intro _
        rw [take_all]
        (repeat' (first | refine wSeq rfl ?_ | refine wBlock rfl ?_ | refine wSkip rfl ?_ | refine wExit rfl ?_ | refine wRet rfl ?_ | refine wCondT rfl rfl ?_ | refine wCondF rfl rfl ?_ | refine wOps rfl ?_ | refine wDraw rfl rfl ?_ | simp only [seval, push_cast, ↓reduceIte, ↓bP_some, ↓aP_true, reduceCtorEq]))
        exact FnQ.ret rfl rfl
    · have hnm := name_len 3
      (repeat' (first | refine wSeq rfl ?_ | refine wBlock rfl ?_ | refine wSkip rfl ?_ | refine wExit rfl ?_ | refine wRet rfl ?_ | refine wCondT rfl rfl ?_ | refine wCondF rfl rfl ?_ | refine wOps rfl ?_ | refine wDraw rfl rfl ?_ | refine opsV_call rfl rfl (alone_v hL _ _ _ _ hs hl2) ?_ | refine opsV_call rfl rfl (names_v hL) ?_ | simp only [seval, push_cast, ↓reduceIte, ↓bP_some, ↓aP_true, reduceCtorEq, hal, iaQ_tl (l := namesS) (i := 3) (by decide), show namesS[3]? = some (nameL 3) from by decide]))
      generalize nameL 3 = nm at hnm ⊢
      refine wCnt rfl 18 l.length (fun j => [(4, .str (nm ++ marksL (l.take j)))]) (fun _ => True) (by rw [List.take_zero, show marksL [] = [] from rfl, List.append_nil]; rfl) trivial ?_ ?_
      · intro j hj _
        obtain ⟨m, hx, hmem⟩ := get_of hj
        obtain rfl := size_of hs hj
        have hm := hm m hmem
        obtain ⟨n, rfl⟩ : ∃ n : Nat, m = n := ⟨m.toNat, by omega⟩
        have hn : n < 11 := by omega
        have hw := wrap_succ (show j < 9223372036854775807 by omega)
        have hst := marks_snoc (l.take j) (n : Int)
        rw [← take_snoc hx, Int.toNat_natCast] at hst
        rw [hst]
        have hml := marks_len (l.take j)
        have hdl := dig_len n
        rw [List.length_take] at hml
        have s1 : binV .add (.str [32]) (.str (dig n)) = some (.str ([32] ++ dig n)) := binV_sadd (by simp; omega)
        have s2 : binV .add (.str (nm ++ marksL (l.take j))) (.str ([32] ++ dig n)) = some (.str ((nm ++ marksL (l.take j)) ++ ([32] ++ dig n))) := binV_sadd (by simp; omega)
        rw [← List.append_assoc nm]
        generalize nm ++ marksL (l.take j) = acc at *
        generalize hdn : [32] ++ dig n = dn at *
        (repeat' (first | refine wSeq rfl ?_ | refine wBlock rfl ?_ | refine wSkip rfl ?_ | refine wExit rfl ?_ | refine wRet rfl ?_ | refine wCondT rfl rfl ?_ | refine wCondF rfl rfl ?_ | refine wOps rfl ?_ | refine wDraw rfl rfl ?_ | refine opsV_call rfl rfl (itoa_v hL n hn) ?_ | simp only [seval, push_cast, ↓reduceIte, ↓bP_some, ↓aP_true, reduceCtorEq, hj, hx, iaQ_tl hj, hw, s1, s2]))
        exact qR_n rfl rfl trivial
      · intro _
        rw [take_all]
        (repeat' (first | refine wSeq rfl ?_ | refine wBlock rfl ?_ | refine wSkip rfl ?_ | refine wExit rfl ?_ | refine wRet rfl ?_ | refine wCondT rfl rfl ?_ | refine wCondF rfl rfl ?_ | refine wOps rfl ?_ | refine wDraw rfl rfl ?_ | simp only [seval, push_cast, ↓reduceIte, ↓bP_some, ↓aP_true, reduceCtorEq]))
        exact FnQ.ret rfl rfl
theorem rtext_v (k : Int) (s : Nat) (l : List Int) (c : Option Nat) (hs : s = 1 ∨ l = []) (hl : l.length ≤ 17592186043904) : VFn L 26 [(.agg [.int .u8 k, tl mrow s (l) c])] (.tup [.str (btextL k l).1, .int .i64 (btextL k l).2]) := by
  have hl2 : l.length < 4611686018427387904 := by omega
  refine VFn.start (F := T26.1) (by rw [hL]; rfl) rfl rfl rfl ?_
  cases hal : aloneL k l with
  | false =>
    have hc : ¬ checkL k l (amongL k l) = 0 := fun h => by rw [alone_of h] at hal; cases hal
    (repeat' (first | refine wSeq rfl ?_ | refine wBlock rfl ?_ | refine wSkip rfl ?_ | refine wExit rfl ?_ | refine wRet rfl ?_ | refine wCondT rfl rfl ?_ | refine wCondF rfl rfl ?_ | refine wOps rfl ?_ | refine wDraw rfl rfl ?_ | refine opsV_call rfl rfl (rcheck_v hL _ _ _ _ _ hs hl2) ?_ | refine opsV_call rfl rfl (ramong_v hL _ _ _ _) ?_ | simp only [seval, push_cast, ↓reduceIte, ↓bP_some, ↓aP_true, reduceCtorEq, hc]))
    rw [btext_bad hal]
    exact FnQ.ret rfl rfl
  | true =>
    have hc : checkL k l (amongL k l) = 0 := by unfold aloneL at hal; exact of_decide_eq_true hal
    have hm := alone_marks hal
    rw [btext_ok hal]
    dsimp only
    rcases alone_kind' hal with rfl | rfl | rfl
    · have hnm := name_len 1
      (repeat' (first | refine wSeq rfl ?_ | refine wBlock rfl ?_ | refine wSkip rfl ?_ | refine wExit rfl ?_ | refine wRet rfl ?_ | refine wCondT rfl rfl ?_ | refine wCondF rfl rfl ?_ | refine wOps rfl ?_ | refine wDraw rfl rfl ?_ | refine opsV_call rfl rfl (rcheck_v hL _ _ _ _ _ hs hl2) ?_ | refine opsV_call rfl rfl (ramong_v hL _ _ _ _) ?_ | simp only [seval, push_cast, ↓reduceIte, ↓bP_some, ↓aP_true, reduceCtorEq, hc]))
      rw [show (V.str [114, 97, 110, 107]) = V.str (nameL 1) from rfl]
      generalize nameL 1 = nm at hnm ⊢
      refine wCnt rfl 6 l.length (fun j => [(5, .str (nm ++ marksL (l.take j)))]) (fun _ => True) (by rw [List.take_zero, show marksL [] = [] from rfl, List.append_nil]; rfl) trivial ?_ ?_
      · intro j hj _
        obtain ⟨m, hx, hmem⟩ := get_of hj
        obtain rfl := size_of hs hj
        have hm := hm m hmem
        obtain ⟨n, rfl⟩ : ∃ n : Nat, m = n := ⟨m.toNat, by omega⟩
        have hn : n < 20 := by omega
        have hw := wrap_succ (show j < 9223372036854775807 by omega)
        have hst := marks_snoc (l.take j) (n : Int)
        rw [← take_snoc hx, Int.toNat_natCast] at hst
        rw [hst]
        have hml := marks_len (l.take j)
        have hdl := dig_len n
        rw [List.length_take] at hml
        have s1 : binV .add (.str (nm ++ marksL (l.take j))) (.str [32]) = some (.str ((nm ++ marksL (l.take j)) ++ [32])) := binV_sadd (by simp; omega)
        have s2 : binV .add (.str ((nm ++ marksL (l.take j)) ++ [32])) (.str (dig n)) = some (.str (((nm ++ marksL (l.take j)) ++ [32]) ++ dig n)) := binV_sadd (by simp; omega)
        rw [← List.append_assoc nm, ← List.append_assoc]
        generalize nm ++ marksL (l.take j) = acc at *
        generalize hdn : acc ++ [32] = dn at *
        (repeat' (first | refine wSeq rfl ?_ | refine wBlock rfl ?_ | refine wSkip rfl ?_ | refine wExit rfl ?_ | refine wRet rfl ?_ | refine wCondT rfl rfl ?_ | refine wCondF rfl rfl ?_ | refine wOps rfl ?_ | refine wDraw rfl rfl ?_ | refine opsV_call rfl rfl (digits_v hL n hn) ?_ | simp only [seval, push_cast, ↓reduceIte, ↓bP_some, ↓aP_true, reduceCtorEq, hj, hx, iaQ_tl hj, hw, s1, s2]))
        exact qR_n rfl rfl trivial
      · intro _
        rw [take_all]
        (repeat' (first | refine wSeq rfl ?_ | refine wBlock rfl ?_ | refine wSkip rfl ?_ | refine wExit rfl ?_ | refine wRet rfl ?_ | refine wCondT rfl rfl ?_ | refine wCondF rfl rfl ?_ | refine wOps rfl ?_ | refine wDraw rfl rfl ?_ | simp only [seval, push_cast, ↓reduceIte, ↓bP_some, ↓aP_true, reduceCtorEq]))
        exact FnQ.ret rfl rfl
    · have hnm := name_len 2
      (repeat' (first | refine wSeq rfl ?_ | refine wBlock rfl ?_ | refine wSkip rfl ?_ | refine wExit rfl ?_ | refine wRet rfl ?_ | refine wCondT rfl rfl ?_ | refine wCondF rfl rfl ?_ | refine wOps rfl ?_ | refine wDraw rfl rfl ?_ | refine opsV_call rfl rfl (rcheck_v hL _ _ _ _ _ hs hl2) ?_ | refine opsV_call rfl rfl (ramong_v hL _ _ _ _) ?_ | simp only [seval, push_cast, ↓reduceIte, ↓bP_some, ↓aP_true, reduceCtorEq, hc]))
      rw [show (V.str [109, 97, 114, 107]) = V.str (nameL 2) from rfl]
      generalize nameL 2 = nm at hnm ⊢
      refine wCnt rfl 6 l.length (fun j => [(5, .str (nm ++ marksL (l.take j)))]) (fun _ => True) (by rw [List.take_zero, show marksL [] = [] from rfl, List.append_nil]; rfl) trivial ?_ ?_
      · intro j hj _
        obtain ⟨m, hx, hmem⟩ := get_of hj
        obtain rfl := size_of hs hj
        have hm := hm m hmem
        obtain ⟨n, rfl⟩ : ∃ n : Nat, m = n := ⟨m.toNat, by omega⟩
        have hn : n < 20 := by omega
        have hw := wrap_succ (show j < 9223372036854775807 by omega)
        have hst := marks_snoc (l.take j) (n : Int)
        rw [← take_snoc hx, Int.toNat_natCast] at hst
        rw [hst]
        have hml := marks_len (l.take j)
        have hdl := dig_len n
        rw [List.length_take] at hml
        have s1 : binV .add (.str (nm ++ marksL (l.take j))) (.str [32]) = some (.str ((nm ++ marksL (l.take j)) ++ [32])) := binV_sadd (by simp; omega)
        have s2 : binV .add (.str ((nm ++ marksL (l.take j)) ++ [32])) (.str (dig n)) = some (.str (((nm ++ marksL (l.take j)) ++ [32]) ++ dig n)) := binV_sadd (by simp; omega)
        rw [← List.append_assoc nm, ← List.append_assoc]
        generalize nm ++ marksL (l.take j) = acc at *
        generalize hdn : acc ++ [32] = dn at *
        (repeat' (first | refine wSeq rfl ?_ | refine wBlock rfl ?_ | refine wSkip rfl ?_ | refine wExit rfl ?_ | refine wRet rfl ?_ | refine wCondT rfl rfl ?_ | refine wCondF rfl rfl ?_ | refine wOps rfl ?_ | refine wDraw rfl rfl ?_ | refine opsV_call rfl rfl (digits_v hL n hn) ?_ | simp only [seval, push_cast, ↓reduceIte, ↓bP_some, ↓aP_true, reduceCtorEq, hj, hx, iaQ_tl hj, hw, s1, s2]))
        exact qR_n rfl rfl trivial
      · intro _
        rw [take_all]
        (repeat' (first | refine wSeq rfl ?_ | refine wBlock rfl ?_ | refine wSkip rfl ?_ | refine wExit rfl ?_ | refine wRet rfl ?_ | refine wCondT rfl rfl ?_ | refine wCondF rfl rfl ?_ | refine wOps rfl ?_ | refine wDraw rfl rfl ?_ | simp only [seval, push_cast, ↓reduceIte, ↓bP_some, ↓aP_true, reduceCtorEq]))
        exact FnQ.ret rfl rfl
    · have hnm := name_len 3
      (repeat' (first | refine wSeq rfl ?_ | refine wBlock rfl ?_ | refine wSkip rfl ?_ | refine wExit rfl ?_ | refine wRet rfl ?_ | refine wCondT rfl rfl ?_ | refine wCondF rfl rfl ?_ | refine wOps rfl ?_ | refine wDraw rfl rfl ?_ | refine opsV_call rfl rfl (rcheck_v hL _ _ _ _ _ hs hl2) ?_ | refine opsV_call rfl rfl (ramong_v hL _ _ _ _) ?_ | simp only [seval, push_cast, ↓reduceIte, ↓bP_some, ↓aP_true, reduceCtorEq, hc]))
      rw [show (V.str [115, 99, 111, 114, 101]) = V.str (nameL 3) from rfl]
      generalize nameL 3 = nm at hnm ⊢
      refine wCnt rfl 6 l.length (fun j => [(5, .str (nm ++ marksL (l.take j)))]) (fun _ => True) (by rw [List.take_zero, show marksL [] = [] from rfl, List.append_nil]; rfl) trivial ?_ ?_
      · intro j hj _
        obtain ⟨m, hx, hmem⟩ := get_of hj
        obtain rfl := size_of hs hj
        have hm := hm m hmem
        obtain ⟨n, rfl⟩ : ∃ n : Nat, m = n := ⟨m.toNat, by omega⟩
        have hn : n < 20 := by omega
        have hw := wrap_succ (show j < 9223372036854775807 by omega)
        have hst := marks_snoc (l.take j) (n : Int)
        rw [← take_snoc hx, Int.toNat_natCast] at hst
        rw [hst]
        have hml := marks_len (l.take j)
        have hdl := dig_len n
        rw [List.length_take] at hml
        have s1 : binV .add (.str (nm ++ marksL (l.take j))) (.str [32]) = some (.str ((nm ++ marksL (l.take j)) ++ [32])) := binV_sadd (by simp; omega)
        have s2 : binV .add (.str ((nm ++ marksL (l.take j)) ++ [32])) (.str (dig n)) = some (.str (((nm ++ marksL (l.take j)) ++ [32]) ++ dig n)) := binV_sadd (by simp; omega)
        rw [← List.append_assoc nm, ← List.append_assoc]
        generalize nm ++ marksL (l.take j) = acc at *
        generalize hdn : acc ++ [32] = dn at *
        (repeat' (first | refine wSeq rfl ?_ | refine wBlock rfl ?_ | refine wSkip rfl ?_ | refine wExit rfl ?_ | refine wRet rfl ?_ | refine wCondT rfl rfl ?_ | refine wCondF rfl rfl ?_ | refine wOps rfl ?_ | refine wDraw rfl rfl ?_ | refine opsV_call rfl rfl (digits_v hL n hn) ?_ | simp only [seval, push_cast, ↓reduceIte, ↓bP_some, ↓aP_true, reduceCtorEq, hj, hx, iaQ_tl hj, hw, s1, s2]))
        exact qR_n rfl rfl trivial
      · intro _
        rw [take_all]
        (repeat' (first | refine wSeq rfl ?_ | refine wBlock rfl ?_ | refine wSkip rfl ?_ | refine wExit rfl ?_ | refine wRet rfl ?_ | refine wCondT rfl rfl ?_ | refine wCondF rfl rfl ?_ | refine wOps rfl ?_ | refine wDraw rfl rfl ?_ | simp only [seval, push_cast, ↓reduceIte, ↓bP_some, ↓aP_true, reduceCtorEq]))
        exact FnQ.ret rfl rfl
end Go.Proofs.YtnhfbabenifbkaaGreatDoor
set_option maxRecDepth 100000
set_option maxHeartbeats 4000000
set_option linter.unusedVariables false
set_option linter.unusedSimpArgs false
namespace Go.Proofs.YtnhfbabenifbkaaGreatDoor
theorem count_le (s : List UInt8) : Lib.countByte s 32 ≤ s.length := by
  have h : ∀ s : List UInt8, (splitL s).length ≤ s.length + 1 := by
    intro s
    induction s with
    | nil => simp [splitL]
    | cons c r ih =>
      rw [splitL]
      by_cases h : c = 32
      · rw [if_pos h]; simp; omega
      · rw [if_neg h]
        have e : (pushW c (splitL r)).length = (splitL r).length := by
          cases hr : splitL r with
          | nil => exact absurd hr (split_ne r)
          | cons w ws => rfl
        rw [e]; simp; omega
  have := h s
  rw [split_len] at this
  omega
theorem srow_set {r : List (List UInt8)} {i : Nat} {x : List UInt8} : (r.map srow).set i [.str x] = (r.set i x).map srow := by rw [List.map_set]; rfl
theorem row_srow {r : List (List UInt8)} {i : Nat} : (r.map srow)[i]? = (r[i]?).map srow := List.getElem?_map
variable {L : Lib} (hL : L.T = tab.get)
include hL
theorem sindex_v (s : List UInt8) : VFn L 86 [.str s, .str [32]] (.int .i64 (Lib.indexByte s 32)) := by
  have x1 : xfnV 1 (.str s) (.int .u8 32) = some (.int .i64 (Lib.indexByte s 32)) := rfl
  have x2 : ((32 : UInt8).toNat : Int) = 32 := rfl
  have f1 : VFn L 115 [.str s, .int .u8 32] (.int .i64 (Lib.indexByte s 32)) := by
    refine VFn.start (F := T115.1) (by rw [hL]; rfl) rfl rfl rfl ?_
    (repeat' (first | refine wSeq rfl ?_ | refine wBlock rfl ?_ | refine wSkip rfl ?_ | refine wExit rfl ?_ | refine wRet rfl ?_ | refine wCondT rfl rfl ?_ | refine wCondF rfl rfl ?_ | refine wOps rfl ?_ | refine wDraw rfl rfl ?_ | simp only [seval, push_cast, ↓reduceIte, ↓bP_some, ↓aP_true, reduceCtorEq, x1]))
    exact FnQ.ret rfl rfl
  have f2 : VFn L 105 [.str s, .str [32]] (.int .i64 (Lib.indexByte s 32)) := by
    refine VFn.start (F := T105.1) (by rw [hL]; rfl) rfl rfl rfl ?_
    by_cases e : [32] = s
    · subst e
      (repeat' (first | refine wSeq rfl ?_ | refine wBlock rfl ?_ | refine wSkip rfl ?_ | refine wExit rfl ?_ | refine wRet rfl ?_ | refine wCondT rfl rfl ?_ | refine wCondF rfl rfl ?_ | refine wOps rfl ?_ | refine wDraw rfl rfl ?_ | refine opsV_call rfl rfl (f1) ?_ | simp only [seval, push_cast, ↓reduceIte, ↓bP_some, ↓aP_true, reduceCtorEq, x2, binV_seql, decide_true]))
      exact FnQ.ret rfl rfl
    · (repeat' (first | refine wSeq rfl ?_ | refine wBlock rfl ?_ | refine wSkip rfl ?_ | refine wExit rfl ?_ | refine wRet rfl ?_ | refine wCondT rfl rfl ?_ | refine wCondF rfl rfl ?_ | refine wOps rfl ?_ | refine wDraw rfl rfl ?_ | refine opsV_call rfl rfl (f1) ?_ | simp only [seval, push_cast, ↓reduceIte, ↓bP_some, ↓aP_true, reduceCtorEq, x2, binV_seql, e, decide_false]))
      exact FnQ.ret rfl rfl
  refine VFn.start (F := T86.1) (by rw [hL]; rfl) rfl rfl rfl ?_
  (repeat' (first | refine wSeq rfl ?_ | refine wBlock rfl ?_ | refine wSkip rfl ?_ | refine wExit rfl ?_ | refine wRet rfl ?_ | refine wCondT rfl rfl ?_ | refine wCondF rfl rfl ?_ | refine wOps rfl ?_ | refine wDraw rfl rfl ?_ | refine opsV_call rfl rfl (f2) ?_ | simp only [seval, push_cast, ↓reduceIte, ↓bP_some, ↓aP_true, reduceCtorEq]))
  exact FnQ.ret rfl rfl
theorem scount_v (s : List UInt8) : VFn L 85 [.str s, .str [32]] (.int .i64 ((Lib.countByte s 32 : Nat) : Int)) := by
  have x1 : xfnV 0 (.str s) (.int .u8 32) = some (.int .i64 ((Lib.countByte s 32 : Nat) : Int)) := rfl
  have x2 : ((32 : UInt8).toNat : Int) = 32 := rfl
  refine VFn.start (F := T85.1) (by rw [hL]; rfl) rfl rfl rfl ?_
  (repeat' (first | refine wSeq rfl ?_ | refine wBlock rfl ?_ | refine wSkip rfl ?_ | refine wExit rfl ?_ | refine wRet rfl ?_ | refine wCondT rfl rfl ?_ | refine wCondF rfl rfl ?_ | refine wOps rfl ?_ | refine wDraw rfl rfl ?_ | simp only [seval, push_cast, ↓reduceIte, ↓bP_some, ↓aP_true, reduceCtorEq, x1, x2]))
  exact FnQ.ret rfl rfl
theorem split_v (s : List UInt8) (hs : s.length ≤ 1000000) : VFn L 54 [.str s, .str [32]] (tl srow 1 (splitL s) (some (splitL s).length)) := by
  have f1 : VFn L 66 [.str s, .str [32], .int .i64 0, .int .i64 (-1)] (tl srow 1 (splitL s) (some (splitL s).length)) := by
    refine VFn.start (F := T66.1) (by rw [hL]; rfl) rfl rfl rfl ?_
    have hN := count_le s
    have hlen := split_len s
    have hcv := scount_v hL s
    generalize Lib.countByte s 32 = N at *
    have hmin : ¬ ((s.length : Int) + 1 < (N : Int) + 1) := by omega
    have w1 := wrap_succ (show N < 9223372036854775807 by omega)
    have w2 := wrap_succ (show s.length < 9223372036854775807 by omega)
    have w3 := wrap_nat (show N < 9223372036854775808 by omega)
    have r1 : (N + 1) * 16 ≤ 140737488355328 := by omega
    have r2 : N + 1 < 9223372036854775808 := by omega
    (repeat' (first | refine wSeq rfl ?_ | refine wBlock rfl ?_ | refine wSkip rfl ?_ | refine wExit rfl ?_ | refine wRet rfl ?_ | refine wCondT rfl rfl ?_ | refine wCondF rfl rfl ?_ | refine wOps rfl ?_ | refine wDraw rfl rfl ?_ | refine opsV_call rfl rfl (hcv) ?_ | simp only [seval, push_cast, ↓reduceIte, ↓bP_some, ↓aP_true, reduceCtorEq, binV_seql, hmin, w1, w2, w3, r1, r2]))
    refine wWhile rfl (fun p : List (List UInt8) × List UInt8 => [(0, .str p.2), (1, .str [32]), (2, .int .i64 0), (3, .int .i64 (N : Int)), (9, .ref 0 1 0 (N + 1) (some (N + 1))), (10, .int .i64 (p.1.length : Int))]) (fun p => [some (.arr 1 ((p.1 ++ List.replicate (N + 1 - p.1.length) []).map srow))]) (fun p => p.2.length) (fun p => splitL s = p.1 ++ splitL p.2 ∧ p.2.length ≤ s.length) ([], s) rfl (by rw [List.nil_append, List.map_replicate]; rfl) ⟨rfl, Nat.le_refl _⟩ ?_
    rintro ⟨ws, r⟩ ⟨hI, hr⟩
    dsimp only at hI hr ⊢
    have hsum := congrArg List.length hI
    rw [List.length_append, hlen] at hsum
    rcases index_blank r with ⟨h1, h2⟩ | ⟨w, r', rfl, h1, h2⟩
    · have e := split_word h2
      rw [e, List.length_singleton] at hsum
      obtain rfl : ws.length = N := by omega
      have hset : (ws ++ List.replicate (ws.length + 1 - ws.length) ([] : List UInt8)).set ws.length r = splitL s := by
        rw [hI, e, Nat.add_sub_cancel_left, List.set_append_right _ _ (Nat.le_refl _), Nat.sub_self]; rfl
      have hg : (ws ++ List.replicate (ws.length + 1 - ws.length) ([] : List UInt8))[ws.length]? = some [] := by
        rw [Nat.add_sub_cancel_left, List.getElem?_append_right (Nat.le_refl _), Nat.sub_self]; rfl
      (repeat' (first | refine wSeq rfl ?_ | refine wBlock rfl ?_ | refine wSkip rfl ?_ | refine wExit rfl ?_ | refine wRet rfl ?_ | refine wCondT rfl rfl ?_ | refine wCondF rfl rfl ?_ | refine wOps rfl ?_ | refine wDraw rfl rfl ?_ | simp only [seval, push_cast, ↓reduceIte, ↓bP_some, ↓aP_true, reduceCtorEq, w1, row_srow, hg, srow_set, hset]))
      refine FnQ.frz [0] rfl ?_
      rw [← hlen]
      exact frz_ref closed_srow (by decide) rfl rfl
    · rw [split_app h1, List.length_cons] at hsum
      have hpos := List.length_pos_iff.2 (split_ne r')
      have hlt : ws.length < N := by omega
      have hwl : w.length ≤ s.length := by rw [List.length_append] at hr; omega
      have w4 := wrap_nat (show w.length < 9223372036854775808 by omega)
      have w5 := wrap_succ (show w.length < 9223372036854775807 by omega)
      have w6 := wrap_succ (show ws.length < 9223372036854775807 by omega)
      have hrep : List.replicate (N + 1 - ws.length) ([] : List UInt8) = [] :: List.replicate (N + 1 - (ws.length + 1)) [] := by
        rw [show N + 1 - ws.length = (N + 1 - (ws.length + 1)) + 1 by omega]; rfl
      have hg : (ws ++ List.replicate (N + 1 - ws.length) ([] : List UInt8))[ws.length]? = some [] := by
        rw [hrep, List.getElem?_append_right (Nat.le_refl _), Nat.sub_self]; rfl
      have hset : (ws ++ List.replicate (N + 1 - ws.length) ([] : List UInt8)).set ws.length w = (ws ++ [w]) ++ List.replicate (N + 1 - (ws.length + 1)) [] := by
        rw [hrep, List.set_append_right _ _ (Nat.le_refl _), Nat.sub_self, List.append_assoc]; rfl
      have t1 : ((w ++ 32 :: r').drop 0).take (w.length - 0) = w := by rw [List.drop_zero, Nat.sub_zero, List.take_left]
      have t2 : ((w ++ 32 :: r').drop (w.length + 1)).take (w.length + (r'.length + 1) - (w.length + 1)) = r' := by
        rw [show w ++ 32 :: r' = (w ++ [32]) ++ r' by simp, List.drop_left' (by simp), List.take_of_length_le (by omega)]
      have l1 : w.length ≤ w.length + (r'.length + 1) := by omega
      have l2 : w.length + 1 ≤ w.length + (r'.length + 1) := by omega
      have n0 : ¬ ((w.length : Int) < 0) := by omega
      have hltN : ws.length < N + 1 := by omega
      rw [List.drop_zero, Nat.sub_zero] at t1
      (repeat' (first | refine wSeq rfl ?_ | refine wBlock rfl ?_ | refine wSkip rfl ?_ | refine wExit rfl ?_ | refine wRet rfl ?_ | refine wCondT rfl rfl ?_ | refine wCondF rfl rfl ?_ | refine wOps rfl ?_ | refine wDraw rfl rfl ?_ | refine opsV_call rfl rfl (sindex_v hL (w ++ 32 :: r')) ?_ | simp only [seval, push_cast, ↓reduceIte, ↓bP_some, ↓aP_true, reduceCtorEq, hlt, hltN, h2, n0, w4, w5, w6, l1, l2, t1, t2, row_srow, hg, srow_set, hset, List.length_append, Int.add_zero, List.drop_zero, Nat.sub_zero, Nat.zero_le]))
      refine qW_n (ws ++ [w], r') ?_ ?_ ⟨?_, ?_, ?_⟩
      · simp
      · simp [hltN]
      · simp; omega
      · dsimp only; rw [hI, split_app h1, List.append_assoc]; rfl
      · dsimp only; rw [List.length_append, List.length_cons] at hr; omega
  refine VFn.start (F := T54.1) (by rw [hL]; rfl) rfl rfl rfl ?_
  (repeat' (first | refine wSeq rfl ?_ | refine wBlock rfl ?_ | refine wSkip rfl ?_ | refine wExit rfl ?_ | refine wRet rfl ?_ | refine wCondT rfl rfl ?_ | refine wCondF rfl rfl ?_ | refine wOps rfl ?_ | refine wDraw rfl rfl ?_ | refine opsV_call rfl rfl (f1) ?_ | simp only [seval, push_cast, ↓reduceIte, ↓bP_some, ↓aP_true, reduceCtorEq]))
  exact FnQ.ret rfl rfl
/-- The place of a text among the names. -/
def placeW : List (List UInt8) → List UInt8 → Nat → Int
  | [], _, _ => -1
  | w :: ws, s, i => if s = w then (i : Int) else placeW ws s (i + 1)
theorem nindex_v (s : List UInt8) (c : Option Nat) : VFn L 55 [tl srow 1 namesS c, .str s] (.int .i64 (placeW namesS s 0)) := by
  refine VFn.start (F := T55.1) (by rw [hL]; rfl) rfl rfl rfl ?_
  (repeat' (first | refine wSeq rfl ?_ | refine wBlock rfl ?_ | refine wSkip rfl ?_ | refine wExit rfl ?_ | refine wRet rfl ?_ | refine wCondT rfl rfl ?_ | refine wCondF rfl rfl ?_ | refine wOps rfl ?_ | refine wDraw rfl rfl ?_ | simp only [seval, push_cast, ↓reduceIte, ↓bP_some, ↓aP_true, reduceCtorEq]))
  refine wCnt rfl 8 namesS.length (fun _ => []) (fun j => placeW namesS s 0 = placeW (namesS.drop j) s j) rfl rfl ?_ ?_
  · intro j hj hI
    obtain ⟨w, hw, _⟩ := get_of (l := namesS) hj
    have hws := wrap_succ (show j < 9223372036854775807 by have : namesS.length = 4 := rfl; omega)
    have hd : namesS.drop j = w :: namesS.drop (j + 1) := by
      obtain ⟨h1, h2⟩ := List.getElem?_eq_some_iff.1 hw
      rw [List.drop_eq_getElem_cons h1, h2]
    rw [hd, placeW] at hI
    by_cases e : s = w
    · rw [if_pos e] at hI
      (repeat' (first | refine wSeq rfl ?_ | refine wBlock rfl ?_ | refine wSkip rfl ?_ | refine wExit rfl ?_ | refine wRet rfl ?_ | refine wCondT rfl rfl ?_ | refine wCondF rfl rfl ?_ | refine wOps rfl ?_ | refine wDraw rfl rfl ?_ | simp only [seval, push_cast, ↓reduceIte, ↓bP_some, ↓aP_true, reduceCtorEq, hj, hw, iaQ_tl (l := namesS) hj, binV_seql, e, decide_true]))
      rw [← e, hI]
      exact FnQ.ret rfl rfl
    · rw [if_neg e] at hI
      (repeat' (first | refine wSeq rfl ?_ | refine wBlock rfl ?_ | refine wSkip rfl ?_ | refine wExit rfl ?_ | refine wRet rfl ?_ | refine wCondT rfl rfl ?_ | refine wCondF rfl rfl ?_ | refine wOps rfl ?_ | refine wDraw rfl rfl ?_ | simp only [seval, push_cast, ↓reduceIte, ↓bP_some, ↓aP_true, reduceCtorEq, hj, hw, iaQ_tl (l := namesS) hj, binV_seql, e, decide_false, hws]))
      exact qR_n rfl rfl hI
  · intro hI
    (repeat' (first | refine wSeq rfl ?_ | refine wBlock rfl ?_ | refine wSkip rfl ?_ | refine wExit rfl ?_ | refine wRet rfl ?_ | refine wCondT rfl rfl ?_ | refine wCondF rfl rfl ?_ | refine wOps rfl ?_ | refine wDraw rfl rfl ?_ | simp only [seval, push_cast, ↓reduceIte, ↓bP_some, ↓aP_true, reduceCtorEq]))
    rw [hI]
    exact FnQ.ret rfl rfl
omit hL
theorem place_kind (s : List UInt8) : (if placeW namesS s 0 < 0 then 0 else placeW namesS s 0) = kindL s := by
  by_cases h0 : s = []
  · subst h0; decide
  by_cases h1 : s = [114, 97, 110, 107]
  · subst h1; decide
  by_cases h2 : s = [109, 97, 114, 107]
  · subst h2; decide
  by_cases h3 : s = [115, 99, 111, 114, 101]
  · subst h3; decide
  simp [namesS, placeW, kindL, h0, h1, h2, h3]
theorem kind_u8 (s : List UInt8) : IntKind.u8.wrap (kindL s) = kindL s := by
  unfold kindL
  split
  · decide
  · split
    · decide
    · split <;> decide
end Go.Proofs.YtnhfbabenifbkaaGreatDoor
set_option maxRecDepth 100000
set_option maxHeartbeats 4000000
set_option linter.unusedVariables false
set_option linter.unusedSimpArgs false
namespace Go.Proofs.YtnhfbabenifbkaaGreatDoor
theorem frz_accS {α : Type} {f : α → List V} (hf : ∀ x, (f x).all V.closed = true) {H : Heap} {src : List (Option Nat)} {fz : List Nat} {a n : Nat} {r : List α} (hp : posIn src a 0 = none) (hn : 0 < n) (ha : fz.contains a = true) (h : H.get a = accB f n r) : ∃ s c, (s = n ∨ r = []) ∧ V.ren (sgOf H src fz) (accV a n r) = tl f s r c := by
  by_cases hr : r = []
  · subst hr; exact ⟨0, some 0, .inr rfl, rfl⟩
  · rw [accB_cons hr] at h
    refine ⟨n, none, .inl rfl, ?_⟩
    rw [accV_cons hr]
    have e : sgOf H src fz a = .frz n (r.map f) := by
      unfold sgOf
      simp only [hp, ha, h, closeds_tl hf, cond_true]
    rw [V.ren, e]
    simp only [true_and, hn, Nat.zero_add, List.length_map, Nat.le_refl, and_self, if_true, List.drop_zero]
    rw [List.take_of_length_le (by simp)]; rfl
theorem word_len : ∀ (s : List UInt8) (w : List UInt8), w ∈ splitL s → w.length ≤ s.length
  | [], w, h => by simp [splitL] at h; subst h; simp
  | c :: r, w, h => by
    rw [splitL] at h
    have ih := word_len r
    by_cases hc : c = 32
    · rw [if_pos hc] at h
      rcases List.mem_cons.1 h with rfl | h
      · simp
      · have := ih w h; simp; omega
    · rw [if_neg hc] at h
      cases hr : splitL r with
      | nil => exact absurd hr (split_ne r)
      | cons v vs =>
        rw [hr] at h ih
        rcases List.mem_cons.1 h with rfl | h
        · have := ih v (by simp); simp; omega
        · have := ih w (by simp [h]); simp; omega
variable {L : Lib} (hL : L.T = tab.get)
include hL
theorem read_v {f : List UInt8 → Int} (hA : ∀ w : List UInt8, w.length ≤ 1000000 → VFn L 56 [.str w] (.tup [.int .i64 (f w), .bot])) (hf : ∀ n, n < 11 → f (dig n) = (n : Int)) (s : List UInt8) (hs : s.length ≤ 1000000) :
    ∃ t c', (t = 1 ∨ (readL s).1.2 = []) ∧ VFn L 27 [.str s] (.tup [(.agg [.int .u8 (readL s).1.1, tl mrow t ((readL s).1.2) c']), .int .i64 (readL s).2]) := by
  have hwl : ∀ w ∈ wordsMarks s, w.length ≤ 1000000 := fun w hw => Nat.le_trans (word_len s w (by rw [head_tail s]; exact List.mem_cons_of_mem _ hw)) hs
  have hWl : (wordsMarks s).length ≤ 1000000 := by
    have h1 := split_len s
    have h2 := count_le s
    rw [head_tail s, List.length_cons] at h1
    omega
  have hsp := split_v hL s hs
  have hpk := place_kind (headW s)
  have hku := kind_u8 (headW s)
  rw [head_tail s, List.length_cons] at hsp
  rw [← pread_eq hf]
  unfold preadL
  have hrf : readF f s = (kindL (headW s), (wordsMarks s).map f) := rfl
  rw [hrf]
  generalize wordsMarks s = W at *
  generalize headW s = h0 at *
  obtain ⟨s', c', hs', hfz⟩ := frz_accS (f := mrow) closed_mrow (src := [some 0, some 1]) (n := 1) (a := 2) (r := W.map f) (H := [some (Blk.arr 2 [[V.int IntKind.u8 0, V.lst 0 [] (some 0)]]), some (Blk.arr 2 [[V.int IntKind.u8 (kindL h0), accV 2 1 (W.map f)]]), accB mrow 1 (W.map f)]) (fz := [2]) rfl (by decide) rfl rfl
  have hW2 : (W.map f).length ≤ 17592186043904 := by simp; omega
  have key : ∀ (t : Nat) (c : Option Nat) (r : (Int × List Int) × Int), (∀ (k : Int) (tx : List UInt8) (e : Int), k = kindL h0 → btextL k (W.map f) = (tx, e) → (e = 0 ∧ tx = s → r = ((k, W.map f), 0) ∧ t = s' ∧ c = c') ∧ (¬ (e = 0 ∧ tx = s) → r = ((0, []), 11) ∧ t = 0 ∧ c = some 0)) → VFn L 27 [.str s] (.tup [(.agg [.int .u8 r.1.1, tl mrow t (r.1.2) c]), .int .i64 r.2]) := by
    intro t c r hr
    have htx := text_v hL (kindL h0) s' (W.map f) c' hs' hW2
    have hr := hr (kindL h0) (btextL (kindL h0) (W.map f)).1 (btextL (kindL h0) (W.map f)).2 rfl rfl
    generalize (btextL (kindL h0) (W.map f)).1 = tx at htx hr
    generalize (btextL (kindL h0) (W.map f)).2 = e at htx hr
    refine VFn.start (F := T27.1) (by rw [hL]; rfl) rfl rfl rfl ?_
    (repeat' (first | refine wSeq rfl ?_ | refine wBlock rfl ?_ | refine wSkip rfl ?_ | refine wExit rfl ?_ | refine wRet rfl ?_ | refine wCondT rfl rfl ?_ | refine wCondF rfl rfl ?_ | refine wOps rfl ?_ | refine wDraw rfl rfl ?_ | refine opsV_call rfl rfl (hsp) ?_ | refine opsV_call rfl rfl (names_v hL) ?_ | refine opsV_call rfl rfl (nindex_v hL h0 _) ?_ | simp only [seval, push_cast, ↓reduceIte, ↓bP_some, ↓aP_true, reduceCtorEq, iaQ_tl (l := h0 :: W) (i := 0) (by simp), hpk, hku, sliceV_lo (l := h0 :: W) (n := 1) one_ok (by simp), Option.map_some]))
    refine wPad [some 0, some 1, none] rfl rfl rfl ?_
    refine wCntH rfl 25 W.length (fun _ => []) (fun j => [some (Blk.arr 2 [[V.int IntKind.u8 0, V.lst 0 [] (some 0)]]), some (Blk.arr 2 [[V.int IntKind.u8 (kindL h0), accV 2 1 ((W.take j).map f)]]), accB mrow 1 ((W.take j).map f)]) (fun j => True) rfl rfl trivial ?_ ?_
    · intro j hj _
      obtain ⟨w, hx, hmem⟩ := get_of hj
      have hw := wrap_succ (show j < 9223372036854775807 by omega)
      have hst : (W.take (j + 1)).map f = (W.take j).map f ++ [f w] := by rw [take_snoc hx, List.map_append]; rfl
      have hlen : ((W.take j).map f).length ≤ j := by simp; omega
      rw [hst]
      generalize (W.take j).map f = r at *
      have hroom : (r.length + 1) * 8 ≤ 140737488355328 := by omega
      have hV : accV 2 1 r = .lst 0 [] (some 0) ∧ accB mrow 1 r = none ∧ r = [] ∨ accV 2 1 r = .ref 2 1 0 r.length none ∧ accB mrow 1 r = some (.arr 1 (r.map mrow)) ∧ r ≠ [] := by
        by_cases hr : r = []
        · subst hr; exact .inl ⟨rfl, rfl, rfl⟩
        · exact .inr ⟨accV_cons hr, accB_cons hr, hr⟩
      rcases hV with ⟨hV, hB, rfl⟩ | ⟨hV, hB, hr⟩
      · (repeat' (first | refine wSeq rfl ?_ | refine wBlock rfl ?_ | refine wSkip rfl ?_ | refine wExit rfl ?_ | refine wRet rfl ?_ | refine wCondT rfl rfl ?_ | refine wCondF rfl rfl ?_ | refine wOps rfl ?_ | refine wDraw rfl rfl ?_ | refine opsV_call rfl rfl (hA w (hwl w hmem)) ?_ | simp only [seval, push_cast, ↓reduceIte, ↓bP_some, ↓aP_true, reduceCtorEq, hj, hV, hB, hw, hx, iaQ_tl hj]))
        exact qR_s [some 0, some 1, some 4] [] rfl rfl rfl trivial
      · (repeat' (first | refine wSeq rfl ?_ | refine wBlock rfl ?_ | refine wSkip rfl ?_ | refine wExit rfl ?_ | refine wRet rfl ?_ | refine wCondT rfl rfl ?_ | refine wCondF rfl rfl ?_ | refine wOps rfl ?_ | refine wDraw rfl rfl ?_ | refine opsV_call rfl rfl (hA w (hwl w hmem)) ?_ | simp only [seval, push_cast, ↓reduceIte, ↓bP_some, ↓aP_true, reduceCtorEq, hj, hV, hB, hw, hroom, hx, iaQ_tl hj]))
        exact qR_s [some 0, some 1, some 4] [] rfl rfl (by (simp only [accV_snoc, accB_snoc, accV_nil, accB_nil]; (repeat (first | exact sh_n | refine sh_c (sh_b closed_mrow rfl) ?_ | refine sh_c rfl ?_)))) trivial
    · intro _
      rw [take_all]
      refine wShift [some 0, some 1] [2] (E1 := [(0, V.str s), (2, V.ptr 0 2 0 0), (5, V.ptr 1 2 0 0), (23, tl srow 1 W (some W.length)), (24, V.int IntKind.i64 W.length), (25, V.int IntKind.i64 W.length)]) (H1 := [some (Blk.arr 2 [[V.int IntKind.u8 0, V.lst 0 [] (some 0)]]), some (Blk.arr 2 [[V.int IntKind.u8 (kindL h0), tl mrow s' (W.map f) c']])]) rfl rfl (congrArg (fun v => [some (Blk.arr 2 [[V.int IntKind.u8 0, V.lst 0 [] (some 0)]]), some (Blk.arr 2 [[V.int IntKind.u8 (kindL h0), v]])]) hfz) ?_
      by_cases e0 : e = 0
      · by_cases e1 : tx = s
        · obtain ⟨rfl, rfl, rfl⟩ := hr.1 ⟨e0, e1⟩
          (repeat' (first | refine wSeq rfl ?_ | refine wBlock rfl ?_ | refine wSkip rfl ?_ | refine wExit rfl ?_ | refine wRet rfl ?_ | refine wCondT rfl rfl ?_ | refine wCondF rfl rfl ?_ | refine wOps rfl ?_ | refine wDraw rfl rfl ?_ | refine opsV_call rfl rfl (htx) ?_ | simp only [seval, push_cast, ↓reduceIte, ↓bP_some, ↓aP_true, reduceCtorEq, e0, binV_sneq, e1, decide_true]))
          exact FnQ.ret rfl rfl
        · obtain ⟨rfl, rfl, rfl⟩ := hr.2 (fun h => e1 h.2)
          (repeat' (first | refine wSeq rfl ?_ | refine wBlock rfl ?_ | refine wSkip rfl ?_ | refine wExit rfl ?_ | refine wRet rfl ?_ | refine wCondT rfl rfl ?_ | refine wCondF rfl rfl ?_ | refine wOps rfl ?_ | refine wDraw rfl rfl ?_ | refine opsV_call rfl rfl (htx) ?_ | simp only [seval, push_cast, ↓reduceIte, ↓bP_some, ↓aP_true, reduceCtorEq, e0, binV_sneq, e1, decide_false]))
          exact FnQ.ret rfl rfl
      · obtain ⟨rfl, rfl, rfl⟩ := hr.2 (fun h => e0 h.1)
        (repeat' (first | refine wSeq rfl ?_ | refine wBlock rfl ?_ | refine wSkip rfl ?_ | refine wExit rfl ?_ | refine wRet rfl ?_ | refine wCondT rfl rfl ?_ | refine wCondF rfl rfl ?_ | refine wOps rfl ?_ | refine wDraw rfl rfl ?_ | refine opsV_call rfl rfl (htx) ?_ | simp only [seval, push_cast, ↓reduceIte, ↓bP_some, ↓aP_true, reduceCtorEq, e0]))
        exact FnQ.ret rfl rfl
  by_cases hg : aloneL (kindL h0) (W.map f) = true ∧ nameL (kindL h0) ++ marksL (W.map f) = s
  · rw [if_pos hg]
    refine ⟨s', c', hs', key s' c' _ ?_⟩
    intro k tx e hk he
    subst hk
    rw [btext_ok hg.1] at he
    cases he
    exact ⟨fun _ => ⟨rfl, rfl, rfl⟩, fun h => absurd ⟨rfl, hg.2⟩ h⟩
  · rw [if_neg hg]
    refine ⟨0, some 0, .inr rfl, key 0 (some 0) _ ?_⟩
    intro k tx e hk he
    subst hk
    refine ⟨fun h => ?_, fun _ => ⟨rfl, rfl, rfl⟩⟩
    exfalso
    cases ha : aloneL (kindL h0) (W.map f) with
    | false => rw [btext_bad ha] at he; cases he; exact absurd h.1 (by decide)
    | true => rw [btext_ok ha] at he; cases he; exact hg ⟨ha, h.2⟩
end Go.Proofs.YtnhfbabenifbkaaGreatDoor
set_option maxRecDepth 100000
set_option maxHeartbeats 4000000
set_option linter.unusedVariables false
set_option linter.unusedSimpArgs false
namespace Go.Proofs.YtnhfbabenifbkaaGreatDoor
theorem srow_snoc {r : List (List UInt8)} {x : List UInt8} : r.map srow ++ [[.str x]] = (r ++ [x]).map srow := by rw [List.map_append]; rfl
theorem drop_next {s : List UInt8} {f j : Nat} {c : UInt8} (hf : f ≤ j) (hc : s[j]? = some c) : s.drop f = (s.drop f).take (j - f) ++ c :: s.drop (j + 1) := by
  have h1 : (s.drop f)[j - f]? = some c := by rw [List.getElem?_drop, show f + (j - f) = j by omega, hc]
  have h2 := List.take_append_drop (j - f) (s.drop f)
  have h3 : (s.drop f).drop (j - f) = c :: (s.drop f).drop (j - f + 1) := by
    obtain ⟨h4, h5⟩ := List.getElem?_eq_some_iff.1 h1
    rw [List.drop_eq_getElem_cons h4, h5]
  rw [h3, List.drop_drop, show f + (j - f + 1) = j + 1 by omega] at h2
  exact h2.symm
theorem take_next {s : List UInt8} {f j : Nat} {c : UInt8} (hf : f ≤ j) (hc : s[j]? = some c) : (s.drop f).take (j + 1 - f) = (s.drop f).take (j - f) ++ [c] := by
  have h1 : (s.drop f)[j - f]? = some c := by rw [List.getElem?_drop, show f + (j - f) = j by omega, hc]
  rw [show j + 1 - f = (j - f) + 1 by omega, List.take_add_one, h1]; rfl
variable {L : Lib} (hL : L.T = tab.get)
include hL
theorem rread_v (s : List UInt8) (hs : s.length ≤ 1000000) :
    ∃ t c', (t = 1 ∨ (readL s).1.2 = []) ∧ VFn L 28 [.str s] (.tup [(.agg [.int .u8 (readL s).1.1, tl mrow t ((readL s).1.2) c']), .int .i64 (readL s).2]) := by
  have h1 := split_len s
  have h2 := count_le s
  have hWl : (wordsMarks s).length ≤ 1000000 := by
    rw [head_tail s, List.length_cons] at h1
    omega
  have hsl : (splitL s).length ≤ 1000001 := by omega
  have hht := head_tail s
  have hrd : readL s = if aloneL (kindL (headW s)) ((wordsMarks s).map numberL) = true then ((kindL (headW s), (wordsMarks s).map numberL), 0) else ((0, []), 11) := rfl
  obtain ⟨s', c', hs', hfz⟩ := frz_accS (f := mrow) closed_mrow (src := [some 0, some 1]) (n := 1) (a := 2) (r := (wordsMarks s).map numberL) (H := [some (Blk.arr 2 [[V.int IntKind.u8 0, V.lst 0 [] (some 0)]]), some (Blk.arr 2 [[V.int IntKind.u8 (kindL (headW s)), accV 2 1 ((wordsMarks s).map numberL)]]), accB mrow 1 ((wordsMarks s).map numberL)]) (fz := [2]) rfl (by decide) rfl rfl
  have key : ∀ (t : Nat) (c : Option Nat) (r : (Int × List Int) × Int), (aloneL (kindL (headW s)) ((wordsMarks s).map numberL) = true → r = ((kindL (headW s), (wordsMarks s).map numberL), 0) ∧ t = s' ∧ c = c') → (aloneL (kindL (headW s)) ((wordsMarks s).map numberL) = false → r = ((0, []), 11) ∧ t = 0 ∧ c = some 0) → VFn L 28 [.str s] (.tup [(.agg [.int .u8 r.1.1, tl mrow t (r.1.2) c]), .int .i64 r.2]) := by
    intro t c r hr1 hr2
    refine VFn.start (F := T28.1) (by rw [hL]; rfl) rfl rfl rfl ?_
    (repeat' (first | refine wSeq rfl ?_ | refine wBlock rfl ?_ | refine wSkip rfl ?_ | refine wExit rfl ?_ | refine wRet rfl ?_ | refine wCondT rfl rfl ?_ | refine wCondF rfl rfl ?_ | refine wOps rfl ?_ | refine wDraw rfl rfl ?_ | simp only [seval, push_cast, ↓reduceIte, ↓bP_some, ↓aP_true, reduceCtorEq]))
    refine wPad [some 0, none] rfl rfl rfl ?_
    refine wWhile rfl (fun p : Nat × List (List UInt8) × Nat => [(0, .str s), (2, .ptr 0 2 0 0), (4, accV 1 1 p.2.1), (5, .int .i64 (p.2.2 : Int)), (6, .int .i64 (p.1 : Int))]) (fun p => [some (Blk.arr 2 [[V.int IntKind.u8 0, V.lst 0 [] (some 0)]]), accB srow 1 p.2.1]) (fun p => s.length + 1 - p.1) (fun p => p.2.1.length ≤ 1000001 ∧ (p.1 ≤ s.length ∧ p.2.2 ≤ p.1 ∧ NoB ((s.drop p.2.2).take (p.1 - p.2.2)) ∧ splitL s = p.2.1 ++ splitL (s.drop p.2.2) ∨ p.1 = s.length + 1 ∧ p.2.1 = splitL s ∧ p.2.2 = s.length + 1)) (0, [], 0) rfl rfl ⟨by simp, .inl ⟨Nat.zero_le _, Nat.le_refl _, by simp [NoB], rfl⟩⟩ ?_
    rintro ⟨j, ws, f⟩ ⟨hws, hI⟩
    dsimp only at hws hI ⊢
    have hw := wrap_succ (show j < 9223372036854775807 by rcases hI with ⟨h, _⟩ | ⟨h, _⟩ <;> omega)
    have hroom : (ws.length + 1) * 16 ≤ 140737488355328 := by omega
    have hV : accV 1 1 ws = .lst 0 [] (some 0) ∧ accB srow 1 ws = none ∧ ws = [] ∨ accV 1 1 ws = .ref 1 1 0 ws.length none ∧ accB srow 1 ws = some (.arr 1 (ws.map srow)) ∧ ws ≠ [] := by
      by_cases hr : ws = []
      · subst hr; exact .inl ⟨rfl, rfl, rfl⟩
      · exact .inr ⟨accV_cons hr, accB_cons hr, hr⟩
    rcases hI with ⟨hj, hf, hn, hI⟩ | ⟨rfl, rfl, rfl⟩
    · by_cases hje : j = s.length
      · subst hje
        have hw0 : (s.drop f).take (s.length - f) = s.drop f := List.take_of_length_le (by simp)
        rw [hw0] at hn
        have hsp : splitL s = ws ++ [s.drop f] := by rw [hI, split_word hn]
        have hlen2 : (ws ++ [s.drop f]).length ≤ 1000001 := by rw [← hsp]; exact hsl
        obtain ⟨wd, hwd⟩ : ∃ wd, s.drop f = wd := ⟨_, rfl⟩
        rw [hwd] at hsp hlen2
        have hw0 : (s.drop f).take (s.length - f) = wd := hw0.trans hwd
        have hm : s.length + 1 - (s.length + 1) < s.length + 1 - s.length ∧ (ws ++ [wd]).length ≤ 1000001 ∧ (s.length + 1 ≤ s.length ∧ s.length + 1 ≤ s.length + 1 ∧ NoB ((s.drop (s.length + 1)).take (s.length + 1 - (s.length + 1))) ∧ splitL s = (ws ++ [wd]) ++ splitL (s.drop (s.length + 1)) ∨ s.length + 1 = s.length + 1 ∧ ws ++ [wd] = splitL s ∧ s.length + 1 = s.length + 1) := ⟨by omega, hlen2, .inr ⟨rfl, hsp.symm, rfl⟩⟩
        rcases hV with ⟨hV, hB, rfl⟩ | ⟨hV, hB, hr⟩
        · (repeat' (first | refine wSeq rfl ?_ | refine wBlock rfl ?_ | refine wSkip rfl ?_ | refine wExit rfl ?_ | refine wRet rfl ?_ | refine wCondT rfl rfl ?_ | refine wCondF rfl rfl ?_ | refine wOps rfl ?_ | refine wDraw rfl rfl ?_ | simp only [seval, push_cast, ↓reduceIte, ↓bP_some, ↓aP_true, reduceCtorEq, hV, hB, hw, hf, hw0]))
          exact qW_s (s.length + 1, [wd], s.length + 1) [some 0, some 3] [] rfl rfl rfl hm
        · (repeat' (first | refine wSeq rfl ?_ | refine wBlock rfl ?_ | refine wSkip rfl ?_ | refine wExit rfl ?_ | refine wRet rfl ?_ | refine wCondT rfl rfl ?_ | refine wCondF rfl rfl ?_ | refine wOps rfl ?_ | refine wDraw rfl rfl ?_ | simp only [seval, push_cast, ↓reduceIte, ↓bP_some, ↓aP_true, reduceCtorEq, hV, hB, hw, hf, hw0, hroom, srow_snoc]))
          exact qW_s (s.length + 1, ws ++ [wd], s.length + 1) [some 0, some 3] [] rfl (by simp only [accV_snoc]; rfl) (by (simp only [accV_snoc, accB_snoc, accV_nil, accB_nil]; (repeat (first | exact sh_n | refine sh_c (sh_b closed_srow rfl) ?_ | refine sh_c rfl ?_)))) hm
      · have hjl : j < s.length := by omega
        obtain ⟨c, hc, _⟩ := get_of hjl
        by_cases hc32 : c = 32
        · subst hc32
          have hnx := drop_next hf hc
          have hsp : splitL s = (ws ++ [(s.drop f).take (j - f)]) ++ splitL (s.drop (j + 1)) := by
            rw [hI]
            conv => lhs; rw [hnx]
            rw [split_app hn, List.append_assoc]; rfl
          have hlen2 : (ws ++ [(s.drop f).take (j - f)]).length ≤ 1000001 := by
            have := congrArg List.length hsp
            rw [List.length_append] at this
            omega
          obtain ⟨wd, hw0⟩ : ∃ wd, (s.drop f).take (j - f) = wd := ⟨_, rfl⟩
          rw [hw0] at hsp hlen2
          have hm : s.length + 1 - (j + 1) < s.length + 1 - j ∧ (ws ++ [wd]).length ≤ 1000001 ∧ (j + 1 ≤ s.length ∧ j + 1 ≤ j + 1 ∧ NoB ((s.drop (j + 1)).take (j + 1 - (j + 1))) ∧ splitL s = (ws ++ [wd]) ++ splitL (s.drop (j + 1)) ∨ j + 1 = s.length + 1 ∧ ws ++ [wd] = splitL s ∧ j + 1 = s.length + 1) := ⟨by omega, hlen2, .inl ⟨hjl, Nat.le_refl _, by simp [NoB], hsp⟩⟩
          have x2 : ((32 : UInt8).toNat : Int) = 32 := rfl
          rcases hV with ⟨hV, hB, rfl⟩ | ⟨hV, hB, hr⟩
          · (repeat' (first | refine wSeq rfl ?_ | refine wBlock rfl ?_ | refine wSkip rfl ?_ | refine wExit rfl ?_ | refine wRet rfl ?_ | refine wCondT rfl rfl ?_ | refine wCondF rfl rfl ?_ | refine wOps rfl ?_ | refine wDraw rfl rfl ?_ | simp only [seval, push_cast, ↓reduceIte, ↓bP_some, ↓aP_true, reduceCtorEq, hV, hB, hw, hf, hj, hje, hc, x2, hw0]))
            exact qW_s (j + 1, [wd], j + 1) [some 0, some 3] [] rfl rfl rfl hm
          · (repeat' (first | refine wSeq rfl ?_ | refine wBlock rfl ?_ | refine wSkip rfl ?_ | refine wExit rfl ?_ | refine wRet rfl ?_ | refine wCondT rfl rfl ?_ | refine wCondF rfl rfl ?_ | refine wOps rfl ?_ | refine wDraw rfl rfl ?_ | simp only [seval, push_cast, ↓reduceIte, ↓bP_some, ↓aP_true, reduceCtorEq, hV, hB, hw, hf, hj, hje, hc, x2, hw0, hroom, srow_snoc]))
            exact qW_s (j + 1, ws ++ [wd], j + 1) [some 0, some 3] [] rfl (by simp only [accV_snoc]; rfl) (by (simp only [accV_snoc, accB_snoc, accV_nil, accB_nil]; (repeat (first | exact sh_n | refine sh_c (sh_b closed_srow rfl) ?_ | refine sh_c rfl ?_)))) hm
        · have hcn0 : c.toNat = 32 → c = 32 := fun h => UInt8.toNat_inj.1 (by rw [h]; rfl)
          have hcn : ¬ ((c.toNat : Int) = 32) := fun h => hc32 (hcn0 (by omega))
          (repeat' (first | refine wSeq rfl ?_ | refine wBlock rfl ?_ | refine wSkip rfl ?_ | refine wExit rfl ?_ | refine wRet rfl ?_ | refine wCondT rfl rfl ?_ | refine wCondF rfl rfl ?_ | refine wOps rfl ?_ | refine wDraw rfl rfl ?_ | simp only [seval, push_cast, ↓reduceIte, ↓bP_some, ↓aP_true, reduceCtorEq, hw, hj, hje, hc, hcn]))
          refine qW_n (j + 1, ws, f) rfl rfl ⟨by dsimp only; omega, hws, .inl ⟨hjl, by dsimp only; omega, ?_, hI⟩⟩
          dsimp only
          rw [take_next hf hc]
          intro d hd
          rcases List.mem_append.1 hd with hd | hd
          · exact hn d hd
          · simp at hd; rw [hd]; exact hc32
    · obtain ⟨s1, c1, hs1, hfz1⟩ := frz_accS (f := srow) closed_srow (src := [some 0]) (n := 1) (a := 1) (r := splitL s) (H := [some (Blk.arr 2 [[V.int IntKind.u8 0, V.lst 0 [] (some 0)]]), accB srow 1 (splitL s)]) (fz := [1]) rfl (by decide) rfl rfl
      obtain rfl := hs1.resolve_right (split_ne s)
      refine wShift [some 0] [1] (E1 := [(0, V.str s), (2, V.ptr 0 2 0 0), (4, tl srow 1 (splitL s) c1), (5, V.int IntKind.i64 ((s.length + 1 : Nat) : Int)), (6, V.int IntKind.i64 ((s.length + 1 : Nat) : Int))]) (H1 := [some (Blk.arr 2 [[V.int IntKind.u8 0, V.lst 0 [] (some 0)]])]) rfl (congrArg (fun v => [(0, V.str s), (2, V.ptr 0 2 0 0), (4, v), (5, V.int IntKind.i64 ((s.length + 1 : Nat) : Int)), (6, V.int IntKind.i64 ((s.length + 1 : Nat) : Int))]) hfz1) rfl ?_
      have hno : ¬ ((s.length : Int) + 1 ≤ s.length) := by omega
      have hal := fun h => (hr1 h)
      rw [hht]
      clear hht hrd hsl h1 h2 hV hroom hws hw hfz1
      generalize wordsMarks s = W at *
      generalize headW s = h0 at *
      have hW2 : (W.map numberL).length < 4611686018427387904 := by simp; omega
      by_cases q1 : h0 = [114, 97, 110, 107]
      · have hk : kindL h0 = 1 := by unfold kindL; rw [if_pos q1]
        rw [hk] at hr1 hr2 hfz
        (repeat' (first | refine wSeq rfl ?_ | refine wBlock rfl ?_ | refine wSkip rfl ?_ | refine wExit rfl ?_ | refine wRet rfl ?_ | refine wCondT rfl rfl ?_ | refine wCondF rfl rfl ?_ | refine wOps rfl ?_ | refine wDraw rfl rfl ?_ | simp only [seval, push_cast, ↓reduceIte, ↓bP_some, ↓aP_true, reduceCtorEq, hno, binV_seql, decide_eq_true q1, decide_true, decide_false, iaQ_tl (l := h0 :: W) (i := 0) (by simp)]))
        refine wPad [some 0, some 1, none] rfl rfl rfl ?_
        refine wUp rfl W.length (fun j => [(2, .ptr 0 2 0 0), (4, tl srow 1 (h0 :: W) c1), (7, .ptr 1 2 0 0), (8, .int .i64 ((j + 1 : Nat) : Int))]) (fun j => [some (Blk.arr 2 [[V.int IntKind.u8 0, V.lst 0 [] (some 0)]]), some (Blk.arr 2 [[V.int IntKind.u8 1, accV 2 1 ((W.take j).map numberL)]]), accB mrow 1 ((W.take j).map numberL)]) (fun j => True) rfl rfl trivial ?_ ?_
        · intro j hj _
          obtain ⟨w, hx, hmem⟩ := get_of hj
          have hw : IntKind.i64.wrap ((j : Int) + 1 + 1) = (j : Int) + 1 + 1 := wrap_i64 (by omega) (by omega)
          have hst : (W.take (j + 1)).map numberL = (W.take j).map numberL ++ [numberL w] := by rw [take_snoc hx, List.map_append]; rfl
          have hlen : ((W.take j).map numberL).length ≤ j := by simp; omega
          have hj1 : ((j : Int) + 1 < (W.length : Int) + 1) := by omega
          rw [hst]
          generalize (W.take j).map numberL = r at *
          have hroom : (r.length + 1) * 8 ≤ 140737488355328 := by omega
          have hV : accV 2 1 r = .lst 0 [] (some 0) ∧ accB mrow 1 r = none ∧ r = [] ∨ accV 2 1 r = .ref 2 1 0 r.length none ∧ accB mrow 1 r = some (.arr 1 (r.map mrow)) ∧ r ≠ [] := by
            by_cases hr : r = []
            · subst hr; exact .inl ⟨rfl, rfl, rfl⟩
            · exact .inr ⟨accV_cons hr, accB_cons hr, hr⟩
          rcases hV with ⟨hV, hB, rfl⟩ | ⟨hV, hB, hr⟩
          · (repeat' (first | refine wSeq rfl ?_ | refine wBlock rfl ?_ | refine wSkip rfl ?_ | refine wExit rfl ?_ | refine wRet rfl ?_ | refine wCondT rfl rfl ?_ | refine wCondF rfl rfl ?_ | refine wOps rfl ?_ | refine wDraw rfl rfl ?_ | refine opsV_call rfl rfl (number_v hL w) ?_ | simp only [seval, push_cast, ↓reduceIte, ↓bP_some, ↓aP_true, reduceCtorEq, hj, hj1, hV, hB, hw, hx, iaQ_tl (l := h0 :: W) (i := j + 1) (by simp; omega)]))
            exact qR_s [some 0, some 1, some 4] [] rfl rfl rfl trivial
          · (repeat' (first | refine wSeq rfl ?_ | refine wBlock rfl ?_ | refine wSkip rfl ?_ | refine wExit rfl ?_ | refine wRet rfl ?_ | refine wCondT rfl rfl ?_ | refine wCondF rfl rfl ?_ | refine wOps rfl ?_ | refine wDraw rfl rfl ?_ | refine opsV_call rfl rfl (number_v hL w) ?_ | simp only [seval, push_cast, ↓reduceIte, ↓bP_some, ↓aP_true, reduceCtorEq, hj, hj1, hV, hB, hw, hroom, hx, iaQ_tl (l := h0 :: W) (i := j + 1) (by simp; omega)]))
            exact qR_s [some 0, some 1, some 4] [] rfl rfl (by (simp only [accV_snoc, accB_snoc, accV_nil, accB_nil]; (repeat (first | exact sh_n | refine sh_c (sh_b closed_mrow rfl) ?_ | refine sh_c rfl ?_)))) trivial
        · intro _
          rw [take_all]
          refine wShift [some 0, some 1] [2] (E1 := [(2, .ptr 0 2 0 0), (4, tl srow 1 (h0 :: W) c1), (7, .ptr 1 2 0 0), (8, .int .i64 ((W.length + 1 : Nat) : Int))]) (H1 := [some (Blk.arr 2 [[V.int IntKind.u8 0, V.lst 0 [] (some 0)]]), some (Blk.arr 2 [[V.int IntKind.u8 1, tl mrow s' (W.map numberL) c']])]) rfl rfl (congrArg (fun v => [some (Blk.arr 2 [[V.int IntKind.u8 0, V.lst 0 [] (some 0)]]), some (Blk.arr 2 [[V.int IntKind.u8 1, v]])]) hfz) ?_
          have hj1 : ¬ ((W.length : Int) + 1 < (W.length : Int) + 1) := by omega
          cases ha : aloneL 1 (W.map numberL) with
          | true =>
            obtain ⟨rfl, rfl, rfl⟩ := hr1 ha
            have hc : checkL 1 (W.map numberL) (amongL 1 (W.map numberL)) = 0 := by unfold aloneL at ha; exact of_decide_eq_true ha
            (repeat' (first | refine wSeq rfl ?_ | refine wBlock rfl ?_ | refine wSkip rfl ?_ | refine wExit rfl ?_ | refine wRet rfl ?_ | refine wCondT rfl rfl ?_ | refine wCondF rfl rfl ?_ | refine wOps rfl ?_ | refine wDraw rfl rfl ?_ | refine opsV_call rfl rfl (rcheck_v hL _ _ _ _ _ hs' hW2) ?_ | refine opsV_call rfl rfl (ramong_v hL _ _ _ _) ?_ | simp only [seval, push_cast, ↓reduceIte, ↓bP_some, ↓aP_true, reduceCtorEq, hj1, hc]))
            exact FnQ.ret rfl rfl
          | false =>
            obtain ⟨rfl, rfl, rfl⟩ := hr2 ha
            have hc : ¬ checkL 1 (W.map numberL) (amongL 1 (W.map numberL)) = 0 := fun h => by rw [alone_of h] at ha; cases ha
            (repeat' (first | refine wSeq rfl ?_ | refine wBlock rfl ?_ | refine wSkip rfl ?_ | refine wExit rfl ?_ | refine wRet rfl ?_ | refine wCondT rfl rfl ?_ | refine wCondF rfl rfl ?_ | refine wOps rfl ?_ | refine wDraw rfl rfl ?_ | refine opsV_call rfl rfl (rcheck_v hL _ _ _ _ _ hs' hW2) ?_ | refine opsV_call rfl rfl (ramong_v hL _ _ _ _) ?_ | simp only [seval, push_cast, ↓reduceIte, ↓bP_some, ↓aP_true, reduceCtorEq, hj1, hc]))
            exact FnQ.ret rfl rfl
      by_cases q2 : h0 = [109, 97, 114, 107]
      · have hk : kindL h0 = 2 := by unfold kindL; rw [if_neg q1]; rw [if_pos q2]
        rw [hk] at hr1 hr2 hfz
        (repeat' (first | refine wSeq rfl ?_ | refine wBlock rfl ?_ | refine wSkip rfl ?_ | refine wExit rfl ?_ | refine wRet rfl ?_ | refine wCondT rfl rfl ?_ | refine wCondF rfl rfl ?_ | refine wOps rfl ?_ | refine wDraw rfl rfl ?_ | simp only [seval, push_cast, ↓reduceIte, ↓bP_some, ↓aP_true, reduceCtorEq, hno, binV_seql, q1, decide_eq_true q2, decide_true, decide_false, iaQ_tl (l := h0 :: W) (i := 0) (by simp)]))
        refine wPad [some 0, some 1, none] rfl rfl rfl ?_
        refine wUp rfl W.length (fun j => [(2, .ptr 0 2 0 0), (4, tl srow 1 (h0 :: W) c1), (7, .ptr 1 2 0 0), (8, .int .i64 ((j + 1 : Nat) : Int))]) (fun j => [some (Blk.arr 2 [[V.int IntKind.u8 0, V.lst 0 [] (some 0)]]), some (Blk.arr 2 [[V.int IntKind.u8 2, accV 2 1 ((W.take j).map numberL)]]), accB mrow 1 ((W.take j).map numberL)]) (fun j => True) rfl rfl trivial ?_ ?_
        · intro j hj _
          obtain ⟨w, hx, hmem⟩ := get_of hj
          have hw : IntKind.i64.wrap ((j : Int) + 1 + 1) = (j : Int) + 1 + 1 := wrap_i64 (by omega) (by omega)
          have hst : (W.take (j + 1)).map numberL = (W.take j).map numberL ++ [numberL w] := by rw [take_snoc hx, List.map_append]; rfl
          have hlen : ((W.take j).map numberL).length ≤ j := by simp; omega
          have hj1 : ((j : Int) + 1 < (W.length : Int) + 1) := by omega
          rw [hst]
          generalize (W.take j).map numberL = r at *
          have hroom : (r.length + 1) * 8 ≤ 140737488355328 := by omega
          have hV : accV 2 1 r = .lst 0 [] (some 0) ∧ accB mrow 1 r = none ∧ r = [] ∨ accV 2 1 r = .ref 2 1 0 r.length none ∧ accB mrow 1 r = some (.arr 1 (r.map mrow)) ∧ r ≠ [] := by
            by_cases hr : r = []
            · subst hr; exact .inl ⟨rfl, rfl, rfl⟩
            · exact .inr ⟨accV_cons hr, accB_cons hr, hr⟩
          rcases hV with ⟨hV, hB, rfl⟩ | ⟨hV, hB, hr⟩
          · (repeat' (first | refine wSeq rfl ?_ | refine wBlock rfl ?_ | refine wSkip rfl ?_ | refine wExit rfl ?_ | refine wRet rfl ?_ | refine wCondT rfl rfl ?_ | refine wCondF rfl rfl ?_ | refine wOps rfl ?_ | refine wDraw rfl rfl ?_ | refine opsV_call rfl rfl (number_v hL w) ?_ | simp only [seval, push_cast, ↓reduceIte, ↓bP_some, ↓aP_true, reduceCtorEq, hj, hj1, hV, hB, hw, hx, iaQ_tl (l := h0 :: W) (i := j + 1) (by simp; omega)]))
            exact qR_s [some 0, some 1, some 4] [] rfl rfl rfl trivial
          · (repeat' (first | refine wSeq rfl ?_ | refine wBlock rfl ?_ | refine wSkip rfl ?_ | refine wExit rfl ?_ | refine wRet rfl ?_ | refine wCondT rfl rfl ?_ | refine wCondF rfl rfl ?_ | refine wOps rfl ?_ | refine wDraw rfl rfl ?_ | refine opsV_call rfl rfl (number_v hL w) ?_ | simp only [seval, push_cast, ↓reduceIte, ↓bP_some, ↓aP_true, reduceCtorEq, hj, hj1, hV, hB, hw, hroom, hx, iaQ_tl (l := h0 :: W) (i := j + 1) (by simp; omega)]))
            exact qR_s [some 0, some 1, some 4] [] rfl rfl (by (simp only [accV_snoc, accB_snoc, accV_nil, accB_nil]; (repeat (first | exact sh_n | refine sh_c (sh_b closed_mrow rfl) ?_ | refine sh_c rfl ?_)))) trivial
        · intro _
          rw [take_all]
          refine wShift [some 0, some 1] [2] (E1 := [(2, .ptr 0 2 0 0), (4, tl srow 1 (h0 :: W) c1), (7, .ptr 1 2 0 0), (8, .int .i64 ((W.length + 1 : Nat) : Int))]) (H1 := [some (Blk.arr 2 [[V.int IntKind.u8 0, V.lst 0 [] (some 0)]]), some (Blk.arr 2 [[V.int IntKind.u8 2, tl mrow s' (W.map numberL) c']])]) rfl rfl (congrArg (fun v => [some (Blk.arr 2 [[V.int IntKind.u8 0, V.lst 0 [] (some 0)]]), some (Blk.arr 2 [[V.int IntKind.u8 2, v]])]) hfz) ?_
          have hj1 : ¬ ((W.length : Int) + 1 < (W.length : Int) + 1) := by omega
          cases ha : aloneL 2 (W.map numberL) with
          | true =>
            obtain ⟨rfl, rfl, rfl⟩ := hr1 ha
            have hc : checkL 2 (W.map numberL) (amongL 2 (W.map numberL)) = 0 := by unfold aloneL at ha; exact of_decide_eq_true ha
            (repeat' (first | refine wSeq rfl ?_ | refine wBlock rfl ?_ | refine wSkip rfl ?_ | refine wExit rfl ?_ | refine wRet rfl ?_ | refine wCondT rfl rfl ?_ | refine wCondF rfl rfl ?_ | refine wOps rfl ?_ | refine wDraw rfl rfl ?_ | refine opsV_call rfl rfl (rcheck_v hL _ _ _ _ _ hs' hW2) ?_ | refine opsV_call rfl rfl (ramong_v hL _ _ _ _) ?_ | simp only [seval, push_cast, ↓reduceIte, ↓bP_some, ↓aP_true, reduceCtorEq, hj1, hc]))
            exact FnQ.ret rfl rfl
          | false =>
            obtain ⟨rfl, rfl, rfl⟩ := hr2 ha
            have hc : ¬ checkL 2 (W.map numberL) (amongL 2 (W.map numberL)) = 0 := fun h => by rw [alone_of h] at ha; cases ha
            (repeat' (first | refine wSeq rfl ?_ | refine wBlock rfl ?_ | refine wSkip rfl ?_ | refine wExit rfl ?_ | refine wRet rfl ?_ | refine wCondT rfl rfl ?_ | refine wCondF rfl rfl ?_ | refine wOps rfl ?_ | refine wDraw rfl rfl ?_ | refine opsV_call rfl rfl (rcheck_v hL _ _ _ _ _ hs' hW2) ?_ | refine opsV_call rfl rfl (ramong_v hL _ _ _ _) ?_ | simp only [seval, push_cast, ↓reduceIte, ↓bP_some, ↓aP_true, reduceCtorEq, hj1, hc]))
            exact FnQ.ret rfl rfl
      by_cases q3 : h0 = [115, 99, 111, 114, 101]
      · have hk : kindL h0 = 3 := by unfold kindL; rw [if_neg q1]; rw [if_neg q2]; rw [if_pos q3]
        rw [hk] at hr1 hr2 hfz
        (repeat' (first | refine wSeq rfl ?_ | refine wBlock rfl ?_ | refine wSkip rfl ?_ | refine wExit rfl ?_ | refine wRet rfl ?_ | refine wCondT rfl rfl ?_ | refine wCondF rfl rfl ?_ | refine wOps rfl ?_ | refine wDraw rfl rfl ?_ | simp only [seval, push_cast, ↓reduceIte, ↓bP_some, ↓aP_true, reduceCtorEq, hno, binV_seql, q1, q2, decide_eq_true q3, decide_true, decide_false, iaQ_tl (l := h0 :: W) (i := 0) (by simp)]))
        refine wPad [some 0, some 1, none] rfl rfl rfl ?_
        refine wUp rfl W.length (fun j => [(2, .ptr 0 2 0 0), (4, tl srow 1 (h0 :: W) c1), (7, .ptr 1 2 0 0), (8, .int .i64 ((j + 1 : Nat) : Int))]) (fun j => [some (Blk.arr 2 [[V.int IntKind.u8 0, V.lst 0 [] (some 0)]]), some (Blk.arr 2 [[V.int IntKind.u8 3, accV 2 1 ((W.take j).map numberL)]]), accB mrow 1 ((W.take j).map numberL)]) (fun j => True) rfl rfl trivial ?_ ?_
        · intro j hj _
          obtain ⟨w, hx, hmem⟩ := get_of hj
          have hw : IntKind.i64.wrap ((j : Int) + 1 + 1) = (j : Int) + 1 + 1 := wrap_i64 (by omega) (by omega)
          have hst : (W.take (j + 1)).map numberL = (W.take j).map numberL ++ [numberL w] := by rw [take_snoc hx, List.map_append]; rfl
          have hlen : ((W.take j).map numberL).length ≤ j := by simp; omega
          have hj1 : ((j : Int) + 1 < (W.length : Int) + 1) := by omega
          rw [hst]
          generalize (W.take j).map numberL = r at *
          have hroom : (r.length + 1) * 8 ≤ 140737488355328 := by omega
          have hV : accV 2 1 r = .lst 0 [] (some 0) ∧ accB mrow 1 r = none ∧ r = [] ∨ accV 2 1 r = .ref 2 1 0 r.length none ∧ accB mrow 1 r = some (.arr 1 (r.map mrow)) ∧ r ≠ [] := by
            by_cases hr : r = []
            · subst hr; exact .inl ⟨rfl, rfl, rfl⟩
            · exact .inr ⟨accV_cons hr, accB_cons hr, hr⟩
          rcases hV with ⟨hV, hB, rfl⟩ | ⟨hV, hB, hr⟩
          · (repeat' (first | refine wSeq rfl ?_ | refine wBlock rfl ?_ | refine wSkip rfl ?_ | refine wExit rfl ?_ | refine wRet rfl ?_ | refine wCondT rfl rfl ?_ | refine wCondF rfl rfl ?_ | refine wOps rfl ?_ | refine wDraw rfl rfl ?_ | refine opsV_call rfl rfl (number_v hL w) ?_ | simp only [seval, push_cast, ↓reduceIte, ↓bP_some, ↓aP_true, reduceCtorEq, hj, hj1, hV, hB, hw, hx, iaQ_tl (l := h0 :: W) (i := j + 1) (by simp; omega)]))
            exact qR_s [some 0, some 1, some 4] [] rfl rfl rfl trivial
          · (repeat' (first | refine wSeq rfl ?_ | refine wBlock rfl ?_ | refine wSkip rfl ?_ | refine wExit rfl ?_ | refine wRet rfl ?_ | refine wCondT rfl rfl ?_ | refine wCondF rfl rfl ?_ | refine wOps rfl ?_ | refine wDraw rfl rfl ?_ | refine opsV_call rfl rfl (number_v hL w) ?_ | simp only [seval, push_cast, ↓reduceIte, ↓bP_some, ↓aP_true, reduceCtorEq, hj, hj1, hV, hB, hw, hroom, hx, iaQ_tl (l := h0 :: W) (i := j + 1) (by simp; omega)]))
            exact qR_s [some 0, some 1, some 4] [] rfl rfl (by (simp only [accV_snoc, accB_snoc, accV_nil, accB_nil]; (repeat (first | exact sh_n | refine sh_c (sh_b closed_mrow rfl) ?_ | refine sh_c rfl ?_)))) trivial
        · intro _
          rw [take_all]
          refine wShift [some 0, some 1] [2] (E1 := [(2, .ptr 0 2 0 0), (4, tl srow 1 (h0 :: W) c1), (7, .ptr 1 2 0 0), (8, .int .i64 ((W.length + 1 : Nat) : Int))]) (H1 := [some (Blk.arr 2 [[V.int IntKind.u8 0, V.lst 0 [] (some 0)]]), some (Blk.arr 2 [[V.int IntKind.u8 3, tl mrow s' (W.map numberL) c']])]) rfl rfl (congrArg (fun v => [some (Blk.arr 2 [[V.int IntKind.u8 0, V.lst 0 [] (some 0)]]), some (Blk.arr 2 [[V.int IntKind.u8 3, v]])]) hfz) ?_
          have hj1 : ¬ ((W.length : Int) + 1 < (W.length : Int) + 1) := by omega
          cases ha : aloneL 3 (W.map numberL) with
          | true =>
            obtain ⟨rfl, rfl, rfl⟩ := hr1 ha
            have hc : checkL 3 (W.map numberL) (amongL 3 (W.map numberL)) = 0 := by unfold aloneL at ha; exact of_decide_eq_true ha
            (repeat' (first | refine wSeq rfl ?_ | refine wBlock rfl ?_ | refine wSkip rfl ?_ | refine wExit rfl ?_ | refine wRet rfl ?_ | refine wCondT rfl rfl ?_ | refine wCondF rfl rfl ?_ | refine wOps rfl ?_ | refine wDraw rfl rfl ?_ | refine opsV_call rfl rfl (rcheck_v hL _ _ _ _ _ hs' hW2) ?_ | refine opsV_call rfl rfl (ramong_v hL _ _ _ _) ?_ | simp only [seval, push_cast, ↓reduceIte, ↓bP_some, ↓aP_true, reduceCtorEq, hj1, hc]))
            exact FnQ.ret rfl rfl
          | false =>
            obtain ⟨rfl, rfl, rfl⟩ := hr2 ha
            have hc : ¬ checkL 3 (W.map numberL) (amongL 3 (W.map numberL)) = 0 := fun h => by rw [alone_of h] at ha; cases ha
            (repeat' (first | refine wSeq rfl ?_ | refine wBlock rfl ?_ | refine wSkip rfl ?_ | refine wExit rfl ?_ | refine wRet rfl ?_ | refine wCondT rfl rfl ?_ | refine wCondF rfl rfl ?_ | refine wOps rfl ?_ | refine wDraw rfl rfl ?_ | refine opsV_call rfl rfl (rcheck_v hL _ _ _ _ _ hs' hW2) ?_ | refine opsV_call rfl rfl (ramong_v hL _ _ _ _) ?_ | simp only [seval, push_cast, ↓reduceIte, ↓bP_some, ↓aP_true, reduceCtorEq, hj1, hc]))
            exact FnQ.ret rfl rfl
      have hk : kindL h0 = 0 := by unfold kindL; rw [if_neg q1]; rw [if_neg q2]; rw [if_neg q3]
      rw [hk] at hr1 hr2 hfz
      (repeat' (first | refine wSeq rfl ?_ | refine wBlock rfl ?_ | refine wSkip rfl ?_ | refine wExit rfl ?_ | refine wRet rfl ?_ | refine wCondT rfl rfl ?_ | refine wCondF rfl rfl ?_ | refine wOps rfl ?_ | refine wDraw rfl rfl ?_ | simp only [seval, push_cast, ↓reduceIte, ↓bP_some, ↓aP_true, reduceCtorEq, hno, binV_seql, q1, q2, q3, decide_true, decide_false, iaQ_tl (l := h0 :: W) (i := 0) (by simp)]))
      refine wPad [some 0, some 1, none] rfl rfl rfl ?_
      refine wUp rfl W.length (fun j => [(2, .ptr 0 2 0 0), (4, tl srow 1 (h0 :: W) c1), (7, .ptr 1 2 0 0), (8, .int .i64 ((j + 1 : Nat) : Int))]) (fun j => [some (Blk.arr 2 [[V.int IntKind.u8 0, V.lst 0 [] (some 0)]]), some (Blk.arr 2 [[V.int IntKind.u8 0, accV 2 1 ((W.take j).map numberL)]]), accB mrow 1 ((W.take j).map numberL)]) (fun j => True) rfl rfl trivial ?_ ?_
      · intro j hj _
        obtain ⟨w, hx, hmem⟩ := get_of hj
        have hw : IntKind.i64.wrap ((j : Int) + 1 + 1) = (j : Int) + 1 + 1 := wrap_i64 (by omega) (by omega)
        have hst : (W.take (j + 1)).map numberL = (W.take j).map numberL ++ [numberL w] := by rw [take_snoc hx, List.map_append]; rfl
        have hlen : ((W.take j).map numberL).length ≤ j := by simp; omega
        have hj1 : ((j : Int) + 1 < (W.length : Int) + 1) := by omega
        rw [hst]
        generalize (W.take j).map numberL = r at *
        have hroom : (r.length + 1) * 8 ≤ 140737488355328 := by omega
        have hV : accV 2 1 r = .lst 0 [] (some 0) ∧ accB mrow 1 r = none ∧ r = [] ∨ accV 2 1 r = .ref 2 1 0 r.length none ∧ accB mrow 1 r = some (.arr 1 (r.map mrow)) ∧ r ≠ [] := by
          by_cases hr : r = []
          · subst hr; exact .inl ⟨rfl, rfl, rfl⟩
          · exact .inr ⟨accV_cons hr, accB_cons hr, hr⟩
        rcases hV with ⟨hV, hB, rfl⟩ | ⟨hV, hB, hr⟩
        · (repeat' (first | refine wSeq rfl ?_ | refine wBlock rfl ?_ | refine wSkip rfl ?_ | refine wExit rfl ?_ | refine wRet rfl ?_ | refine wCondT rfl rfl ?_ | refine wCondF rfl rfl ?_ | refine wOps rfl ?_ | refine wDraw rfl rfl ?_ | refine opsV_call rfl rfl (number_v hL w) ?_ | simp only [seval, push_cast, ↓reduceIte, ↓bP_some, ↓aP_true, reduceCtorEq, hj, hj1, hV, hB, hw, hx, iaQ_tl (l := h0 :: W) (i := j + 1) (by simp; omega)]))
          exact qR_s [some 0, some 1, some 4] [] rfl rfl rfl trivial
        · (repeat' (first | refine wSeq rfl ?_ | refine wBlock rfl ?_ | refine wSkip rfl ?_ | refine wExit rfl ?_ | refine wRet rfl ?_ | refine wCondT rfl rfl ?_ | refine wCondF rfl rfl ?_ | refine wOps rfl ?_ | refine wDraw rfl rfl ?_ | refine opsV_call rfl rfl (number_v hL w) ?_ | simp only [seval, push_cast, ↓reduceIte, ↓bP_some, ↓aP_true, reduceCtorEq, hj, hj1, hV, hB, hw, hroom, hx, iaQ_tl (l := h0 :: W) (i := j + 1) (by simp; omega)]))
          exact qR_s [some 0, some 1, some 4] [] rfl rfl (by (simp only [accV_snoc, accB_snoc, accV_nil, accB_nil]; (repeat (first | exact sh_n | refine sh_c (sh_b closed_mrow rfl) ?_ | refine sh_c rfl ?_)))) trivial
      · intro _
        rw [take_all]
        refine wShift [some 0, some 1] [2] (E1 := [(2, .ptr 0 2 0 0), (4, tl srow 1 (h0 :: W) c1), (7, .ptr 1 2 0 0), (8, .int .i64 ((W.length + 1 : Nat) : Int))]) (H1 := [some (Blk.arr 2 [[V.int IntKind.u8 0, V.lst 0 [] (some 0)]]), some (Blk.arr 2 [[V.int IntKind.u8 0, tl mrow s' (W.map numberL) c']])]) rfl rfl (congrArg (fun v => [some (Blk.arr 2 [[V.int IntKind.u8 0, V.lst 0 [] (some 0)]]), some (Blk.arr 2 [[V.int IntKind.u8 0, v]])]) hfz) ?_
        have hj1 : ¬ ((W.length : Int) + 1 < (W.length : Int) + 1) := by omega
        cases ha : aloneL 0 (W.map numberL) with
        | true =>
          obtain ⟨rfl, rfl, rfl⟩ := hr1 ha
          have hc : checkL 0 (W.map numberL) (amongL 0 (W.map numberL)) = 0 := by unfold aloneL at ha; exact of_decide_eq_true ha
          (repeat' (first | refine wSeq rfl ?_ | refine wBlock rfl ?_ | refine wSkip rfl ?_ | refine wExit rfl ?_ | refine wRet rfl ?_ | refine wCondT rfl rfl ?_ | refine wCondF rfl rfl ?_ | refine wOps rfl ?_ | refine wDraw rfl rfl ?_ | refine opsV_call rfl rfl (rcheck_v hL _ _ _ _ _ hs' hW2) ?_ | refine opsV_call rfl rfl (ramong_v hL _ _ _ _) ?_ | simp only [seval, push_cast, ↓reduceIte, ↓bP_some, ↓aP_true, reduceCtorEq, hj1, hc]))
          exact FnQ.ret rfl rfl
        | false =>
          obtain ⟨rfl, rfl, rfl⟩ := hr2 ha
          have hc : ¬ checkL 0 (W.map numberL) (amongL 0 (W.map numberL)) = 0 := fun h => by rw [alone_of h] at ha; cases ha
          (repeat' (first | refine wSeq rfl ?_ | refine wBlock rfl ?_ | refine wSkip rfl ?_ | refine wExit rfl ?_ | refine wRet rfl ?_ | refine wCondT rfl rfl ?_ | refine wCondF rfl rfl ?_ | refine wOps rfl ?_ | refine wDraw rfl rfl ?_ | refine opsV_call rfl rfl (rcheck_v hL _ _ _ _ _ hs' hW2) ?_ | refine opsV_call rfl rfl (ramong_v hL _ _ _ _) ?_ | simp only [seval, push_cast, ↓reduceIte, ↓bP_some, ↓aP_true, reduceCtorEq, hj1, hc]))
          exact FnQ.ret rfl rfl
  cases ha : aloneL (kindL (headW s)) ((wordsMarks s).map numberL) with
  | true =>
    rw [hrd, if_pos ha]
    exact ⟨s', c', hs', key s' c' _ (fun _ => ⟨rfl, rfl, rfl⟩) (fun h => by rw [ha] at h; cases h)⟩
  | false =>
    rw [hrd, if_neg (by rw [ha]; simp)]
    exact ⟨0, some 0, .inr rfl, key 0 (some 0) _ (fun h => by rw [ha] at h; cases h) (fun _ => ⟨rfl, rfl, rfl⟩)⟩
end Go.Proofs.YtnhfbabenifbkaaGreatDoor
set_option maxRecDepth 100000
set_option maxHeartbeats 4000000
set_option linter.unusedVariables false
set_option linter.unusedSimpArgs false
namespace Go.Proofs.YtnhfbabenifbkaaGreatDoor
theorem back_delx {B0 B2 B3 B4 B5 : Option Blk} {t kf : Nat} {left : List Bool} {d : Option Nat} {q : List Int} : Heap.back [B0, some (.arr 1 [[tl brow t left d]]), B2, B3, B4, B5] [4, 1, 3] [some (.arr 1 (q.map mrow)), some (.arr 1 [[tl brow t left d]]), some (.arr 1 [[.fn kf [] [.ptr 1 1 0 0]]])] = [B0, some (.arr 1 [[tl brow t left d]]), B2, some (.arr 1 [[.fn kf [] [.ptr 1 1 0 0]]]), some (.arr 1 (q.map mrow)), B5] := back_del
variable {L : Lib} (hL : L.T = tab.get)
include hL
theorem deleteFunc_t {Hc : Heap} {l : List Int} {kf : Nat} {fs cs : List V} {p : Int → Bool} (hl : l.length < 4611686018427387904) (hf : ∀ (b : Blk) (x : Int), AFn L (.fn kf) (fs ++ [.int .i64 x] ++ cs) (some b :: Hc) (fun r H' => r = .bool (p x) ∧ H' = some b :: Hc)) :
    AFn L (.fn 47) [.ref 0 1 0 l.length none, .fn kf fs cs] (some (.arr 1 (l.map mrow)) :: Hc) (fun r H' => r = .ref 0 1 0 (l.filter fun x => !p x).length none ∧ H' = some (.arr 1 (((l.filter fun x => !p x) ++ List.replicate (l.length - (l.filter fun x => !p x).length) 0).map mrow)) :: Hc) := by
  refine AFn.of_body (F := T47.1) (by rw [hL]; rfl) rfl ?_
  have hv : IsSl (some (.arr 1 (l.map mrow)) :: Hc) (.ref 0 1 0 l.length none) l := ⟨rfl, fun i x hx => by
    have hi := (List.getElem?_eq_some_iff.1 hx).1
    refine ⟨.ptr 0 1 (0 + i) 0, by rw [iaQ_ref, if_pos ⟨rfl, hi⟩], ?_⟩
    rw [loadQ_ptr, Heap.get_cons0, loadB_arr, Nat.zero_add, row_tl, hx]; rfl⟩
  (repeat' (first | refine wSeq rfl ?_ | refine wBlock rfl ?_ | refine wSkip rfl ?_ | refine wExit rfl ?_ | refine wRet rfl ?_ | refine wCondT rfl rfl ?_ | refine wCondF rfl rfl ?_ | refine wOpsP rfl ?_ | refine wDraw rfl rfl ?_ | simp only [seval, push_cast, ↓reduceIte, ↓bP_some, ↓aP_true, reduceCtorEq]))
  refine opsP_all (vs := [.ref 0 1 0 l.length none, .fn kf fs cs]) rfl (indexFunc_a hL hv hl (fun x _ => hf _ x)) ?_
  rintro r h' ⟨rfl, rfl⟩
  rcases findL_ge p l 0 with ⟨h1, h2⟩ | ⟨i, h1, h2, h3, x, h4, h5⟩
  · (repeat' (first | refine wSeq rfl ?_ | refine wBlock rfl ?_ | refine wSkip rfl ?_ | refine wExit rfl ?_ | refine wRet rfl ?_ | refine wCondT rfl rfl ?_ | refine wCondF rfl rfl ?_ | refine wOps rfl ?_ | refine wDraw rfl rfl ?_ | simp only [seval, push_cast, ↓reduceIte, ↓bP_some, ↓aP_true, reduceCtorEq, h1]))
    have e : (l.filter fun x => !p x) = l := List.filter_eq_self.2 fun x hx => by rw [h2 x hx]; rfl
    exact FnQ.at rfl ⟨by rw [e], by rw [e, Nat.sub_self, List.replicate_zero, List.append_nil]⟩
  · rw [Nat.zero_add] at h2
    (repeat' (first | refine wSeq rfl ?_ | refine wBlock rfl ?_ | refine wSkip rfl ?_ | refine wExit rfl ?_ | refine wRet rfl ?_ | refine wCondT rfl rfl ?_ | refine wCondF rfl rfl ?_ | refine wOps rfl ?_ | refine wDraw rfl rfl ?_ | simp only [seval, push_cast, ↓reduceIte, ↓bP_some, ↓aP_true, reduceCtorEq, h2, wrap_succ (show i < 9223372036854775807 by omega)]))
    refine wWhile rfl (fun s : Nat × Nat × List Int => [(0, .ref 0 1 0 l.length none), (1, .fn kf fs cs), (5, .int .i64 (s.2.1 : Nat)), (6, .int .i64 (s.1 : Nat))]) (fun s => some (.arr 1 (s.2.2.map mrow)) :: Hc) (fun s => l.length - s.1) (fun s => s.2.1 ≤ s.1 ∧ s.1 ≤ l.length ∧ s.2.2.length = l.length ∧ s.2.2.take s.2.1 = (l.take s.1).filter (fun x => !p x) ∧ s.2.2.drop s.1 = l.drop s.1) (i + 1, i, l) rfl rfl ?_ ?_
    · refine ⟨Nat.le_succ i, h1, rfl, ?_, rfl⟩
      show l.take i = (l.take (i + 1)).filter _
      rw [take_snoc h4, List.filter_append]
      have e1 : (l.take i).filter (fun x => !p x) = l.take i := List.filter_eq_self.2 fun x hx => by rw [h3 x hx]; rfl
      rw [e1]; simp [h5]
    · rintro ⟨j, i', s4⟩ ⟨g1, g2, g3, g4, g5⟩
      dsimp only at g1 g2 g3 g4 g5 ⊢
      by_cases hj : j < l.length
      · obtain ⟨x, hx, hm⟩ := get_of hj
        have hrx : s4[j]? = some x := by
          have := congrArg (fun q => q[0]?) g5
          simp only [List.getElem?_drop, Nat.add_zero] at this
          rw [this, hx]
        have hi' : i' < l.length := by omega
        (repeat' (first | refine wSeq rfl ?_ | refine wBlock rfl ?_ | refine wSkip rfl ?_ | refine wExit rfl ?_ | refine wRet rfl ?_ | refine wCondT rfl rfl ?_ | refine wCondF rfl rfl ?_ | refine wOpsP rfl ?_ | refine wDraw rfl rfl ?_ | simp only [seval, push_cast, ↓reduceIte, ↓bP_some, ↓aP_true, reduceCtorEq, hj, hrx]))
        refine opsP_all (k := kf) (vs := fs ++ [.int .i64 x] ++ cs) rfl (hf _ x) ?_
        rintro v h' ⟨rfl, rfl⟩
        have hw := wrap_succ (show j < 9223372036854775807 by omega)
        have hw2 := wrap_succ (show i' < 9223372036854775807 by omega)
        cases hp : p x with
        | true =>
          (repeat' (first | refine wSeq rfl ?_ | refine wBlock rfl ?_ | refine wSkip rfl ?_ | refine wExit rfl ?_ | refine wRet rfl ?_ | refine wCondT rfl rfl ?_ | refine wCondF rfl rfl ?_ | refine wOps rfl ?_ | refine wDraw rfl rfl ?_ | simp only [seval, push_cast, ↓reduceIte, ↓bP_some, ↓aP_true, reduceCtorEq, hw]))
          refine qW_n (j + 1, i', s4) rfl rfl ⟨by dsimp only; omega, by dsimp only; omega, hj, g3, ?_, ?_⟩
          · dsimp only; rw [g4, take_snoc hx, List.filter_append]; simp [hp]
          · dsimp only
            have := congrArg (List.drop 1) g5
            rw [List.drop_drop, List.drop_drop] at this
            exact this
        | false =>
          obtain ⟨f1, f2⟩ := set_fill hx g1 g3 g4 g5 hp
          obtain ⟨z, hz, _⟩ := get_of (show i' < s4.length by omega)
          (repeat' (first | refine wSeq rfl ?_ | refine wBlock rfl ?_ | refine wSkip rfl ?_ | refine wExit rfl ?_ | refine wRet rfl ?_ | refine wCondT rfl rfl ?_ | refine wCondF rfl rfl ?_ | refine wOps rfl ?_ | refine wDraw rfl rfl ?_ | simp only [seval, push_cast, ↓reduceIte, ↓bP_some, ↓aP_true, reduceCtorEq, hw, hw2, hi', hz, mrow_set, Nat.succ_pos Hc.length]))
          exact qW_n (j + 1, i' + 1, s4.set i' x) rfl rfl ⟨by dsimp only; omega, by dsimp only; omega, hj, by dsimp only; rw [List.length_set, g3], f1, f2⟩
      · obtain rfl : j = l.length := by omega
        have q1 : i' + (l.length - i') ≤ s4.length := by omega
        have q2 : i' ≤ l.length := g1
        (repeat' (first | refine wSeq rfl ?_ | refine wBlock rfl ?_ | refine wSkip rfl ?_ | refine wExit rfl ?_ | refine wRet rfl ?_ | refine wCondT rfl rfl ?_ | refine wCondF rfl rfl ?_ | refine wOps rfl ?_ | refine wDraw rfl rfl ?_ | simp only [seval, push_cast, ↓reduceIte, ↓bP_some, ↓aP_true, reduceCtorEq, q2, clrV_ref, clrR_arr, q1, over_zero, Nat.succ_pos Hc.length, Nat.zero_le, Nat.sub_zero]))
        rw [take_all] at g4
        have g6 : (l.filter fun x => !p x).length = i' := by rw [← g4, List.length_take]; omega
        rw [g4]
        exact FnQ.at rfl ⟨by rw [g6], by rw [g6, List.drop_eq_nil_of_le (show s4.length ≤ i' + (l.length - i') by omega), List.append_nil]⟩
def keepT (k : Int) (l : List Int) (left : List Bool) : List Int := if k = 1 ∨ k = 2 then List.replicate (l.length - (keepL k l left).length) 0 else []
theorem keep_m (k : Int) (t : Nat) (l : List Int) (left : List Bool) (c d : Option Nat) (hne : l ≠ []) (hl : l.length ≤ 17592186043904) (ht : t = 1 ∨ left = []) (hm : left.length < 4611686018427387904) : MFn L 21 [(.agg [.int .u8 k, tl mrow 1 (l) c]), tl brow t left d] (.agg [.int .u8 k, .ref 0 1 0 (keepL k l left).length none]) [some (.arr 1 ((keepL k l left ++ keepT k l left).map mrow))] := by
  refine ⟨rfl, ?_⟩
  refine AFn.of_body (F := T21.1) (by rw [hL]; rfl) rfl ?_
  (repeat' (first | refine wSeq rfl ?_ | refine wBlock rfl ?_ | refine wSkip rfl ?_ | refine wExit rfl ?_ | refine wRet rfl ?_ | refine wCondT rfl rfl ?_ | refine wCondF rfl rfl ?_ | refine wOpsM [46] rfl ?_ | refine wDrawM [46] rfl rfl ?_ | refine opsV_make rfl rfl (clone_v hL l c hne hl) ?_ | simp only [seval, push_cast, ↓reduceIte, ↓bP_some, ↓aP_true, reduceCtorEq, ren_up_ref, ren_tl closed_mrow]))
  by_cases h12 : k = 1 ∨ k = 2
  · have ek := keep_12 h12 l left
    rcases h12 with rfl | rfl
    all_goals
      (repeat' (first | refine wSeq rfl ?_ | refine wBlock rfl ?_ | refine wSkip rfl ?_ | refine wExit rfl ?_ | refine wRet rfl ?_ | refine wCondT rfl rfl ?_ | refine wCondF rfl rfl ?_ | refine wOpsP rfl ?_ | refine wDraw rfl rfl ?_ | simp only [seval, push_cast, ↓reduceIte, ↓bP_some, ↓aP_true, reduceCtorEq]))
      refine opsP_frm (k := 47) (vs := [.ref 4 1 0 l.length none, .fn 48 [] [.ptr 3 1 0 0]]) (vs' := [.ref 0 1 0 l.length none, .fn 48 [] [.ptr 2 1 0 0]]) (H0 := [some (.arr 1 (l.map mrow)), some (.arr 1 [[tl brow t left d]]), some (.arr 1 [[.fn 45 [] [.ptr 1 1 0 0]]])]) [4, 1, 3] rfl rfl rfl rfl (sh_c (sh_b closed_mrow rfl) (sh_c rfl (sh_c rfl sh_n))) (deleteFunc_t (p := fun x => !isLeft left x) hL (by omega) (fun b x => isnt_a (a := 1) (b := 2) hL rfl rfl ht hm x)) ?_
      rintro r h' ⟨rfl, rfl⟩
      rw [ek, back_del, ren_del]
      (repeat' (first | refine wSeq rfl ?_ | refine wBlock rfl ?_ | refine wSkip rfl ?_ | refine wExit rfl ?_ | refine wRet rfl ?_ | refine wCondT rfl rfl ?_ | refine wCondF rfl rfl ?_ | refine wOps rfl ?_ | refine wDraw rfl rfl ?_ | simp only [seval, push_cast, ↓reduceIte, ↓bP_some, ↓aP_true, reduceCtorEq]))
      exact FnQ.sh [some 4] [] rfl rfl rfl (sh_c (sh_b closed_mrow rfl) sh_n) ⟨rfl, rfl⟩
  · have h1 : ¬ k = 1 := fun h => h12 (.inl h)
    have h2 : ¬ k = 2 := fun h => h12 (.inr h)
    by_cases h3 : k = 3
    · subst h3
      (repeat' (first | refine wSeq rfl ?_ | refine wBlock rfl ?_ | refine wSkip rfl ?_ | refine wExit rfl ?_ | refine wRet rfl ?_ | refine wCondT rfl rfl ?_ | refine wCondF rfl rfl ?_ | refine wOps rfl ?_ | refine wDraw rfl rfl ?_ | simp only [seval, push_cast, ↓reduceIte, ↓bP_some, ↓aP_true, reduceCtorEq]))
      refine wCntH rfl 30 l.length (fun _ => []) (fun j => [some (Blk.arr 2 [[V.int IntKind.u8 3, tl mrow 1 l c]]), some (Blk.arr 1 [[tl brow t left d]]), some (Blk.arr 2 [[V.int IntKind.u8 0, V.lst 0 [] (some 0)]]), some (Blk.arr 1 [[V.fn 45 [] [V.ptr 1 1 0 0]]]), some (Blk.arr 1 ((keepL 3 (l.take j) left ++ l.drop j).map mrow)), some (Blk.arr 2 [[V.int IntKind.u8 3, V.ref 4 1 0 l.length none]])]) (fun _ => True) rfl (by rw [List.take_zero, keep_nil]; rfl) trivial ?_ ?_
      · intro j hj _
        obtain ⟨x, hx, _⟩ := get_of hj
        have hk := keep_step (k := 3) (left := left) hx
        have hlen := keep_3len (l.take j) left
        rw [List.length_take, Nat.min_eq_left (Nat.le_of_lt hj)] at hlen
        have hd := drop_at' hx
        have hw := wrap_succ (show j < 9223372036854775807 by omega)
        (repeat' (first | refine wSeq rfl ?_ | refine wBlock rfl ?_ | refine wSkip rfl ?_ | refine wExit rfl ?_ | refine wRet rfl ?_ | refine wCondT rfl rfl ?_ | refine wCondF rfl rfl ?_ | refine wOpsP rfl ?_ | refine wDraw rfl rfl ?_ | simp only [seval, push_cast, ↓reduceIte, ↓bP_some, ↓aP_true, reduceCtorEq, hj]))
        refine opsP_all (k := 45) (vs := [.int .i64 (j : Nat), .ptr 1 1 0 0]) rfl (is_a hL rfl ht hm j) ?_
        rintro r h' ⟨rfl, rfl⟩
        have hil : isLeft left (j : Int) = left[j]?.getD false := by simp [isLeft]
        have e1 : keep1 3 left j x = [if left[j]?.getD false then x else 0] := rfl
        rw [e1] at hk
        rw [hil]
        cases hb : left[j]?.getD false with
        | true =>
          rw [hb, if_pos rfl] at hk
          (repeat' (first | refine wSeq rfl ?_ | refine wBlock rfl ?_ | refine wSkip rfl ?_ | refine wExit rfl ?_ | refine wRet rfl ?_ | refine wCondT rfl rfl ?_ | refine wCondF rfl rfl ?_ | refine wOps rfl ?_ | refine wDraw rfl rfl ?_ | simp only [seval, push_cast, ↓reduceIte, ↓bP_some, ↓aP_true, reduceCtorEq, hw]))
          exact qR_n rfl (by rw [hk, hd, List.append_assoc]; rfl) trivial
        | false =>
          rw [hb, if_neg (by decide)] at hk
          have hz : (keepL 3 (l.take j) left ++ l.drop j)[j]? = some x := by rw [hd, List.getElem?_append_right (by omega), hlen, Nat.sub_self]; rfl
          have hset : (keepL 3 (l.take j) left ++ l.drop j).set j 0 = keepL 3 (l.take (j + 1)) left ++ l.drop (j + 1) := by
            rw [hk, hd, List.set_append_right _ _ (by omega), hlen, Nat.sub_self, List.append_assoc]; rfl
          (repeat' (first | refine wSeq rfl ?_ | refine wBlock rfl ?_ | refine wSkip rfl ?_ | refine wExit rfl ?_ | refine wRet rfl ?_ | refine wCondT rfl rfl ?_ | refine wCondF rfl rfl ?_ | refine wOps rfl ?_ | refine wDraw rfl rfl ?_ | simp only [seval, push_cast, ↓reduceIte, ↓bP_some, ↓aP_true, reduceCtorEq, hw, hj, hz, mrow_set, hset]))
          exact qR_n rfl rfl trivial
      · intro _
        rw [take_all, List.drop_eq_nil_of_le (Nat.le_refl _)]
        (repeat' (first | refine wSeq rfl ?_ | refine wBlock rfl ?_ | refine wSkip rfl ?_ | refine wExit rfl ?_ | refine wRet rfl ?_ | refine wCondT rfl rfl ?_ | refine wCondF rfl rfl ?_ | refine wOps rfl ?_ | refine wDraw rfl rfl ?_ | simp only [seval, push_cast, ↓reduceIte, ↓bP_some, ↓aP_true, reduceCtorEq]))
        rw [← keep_3len l left]
        exact FnQ.sh [some 4] [] rfl rfl rfl (sh_c (sh_b closed_mrow rfl) sh_n) ⟨rfl, by rw [show keepT 3 l left = [] from if_neg (by decide), List.append_nil]⟩
    · have ek : keepL k l left = l := by unfold keepL; rw [if_neg h12, if_neg h3]
      rw [ek]
      (repeat' (first | refine wSeq rfl ?_ | refine wBlock rfl ?_ | refine wSkip rfl ?_ | refine wExit rfl ?_ | refine wRet rfl ?_ | refine wCondT rfl rfl ?_ | refine wCondF rfl rfl ?_ | refine wOps rfl ?_ | refine wDraw rfl rfl ?_ | simp only [seval, push_cast, ↓reduceIte, ↓bP_some, ↓aP_true, reduceCtorEq, h1, h2, h3]))
      exact FnQ.sh [some 4] [] rfl rfl rfl (sh_c (sh_b closed_mrow rfl) sh_n) ⟨rfl, by rw [show keepT k l left = [] from if_neg h12, List.append_nil]⟩
theorem renameM_1 (s u : Nat) (l p : List Int) (c d : Option Nat) (ht : turnedL p = true) (hf : fineL 1 l p.length = true) (hs : s = 1 ∨ l = []) (hl : l.length ≤ 17592186043904) (hu : u = 1 ∨ p = []) (hp : p.length < 4611686018427387904) : MFn L 23 [(.agg [.int .u8 1, tl mrow s (l) c]), tl mrow u p d] (.tup [.agg [.int .u8 1, .ref 0 1 0 l.length (some l.length)], .int .i64 0]) [some (.arr 1 ((l.map (imL p)).map mrow))] := by
  have h10 := turned_len ht
  have hroom : l.length * 8 ≤ 140737488355328 := by omega
  have hsz : l.length < 9223372036854775808 := by omega
  refine ⟨rfl, ?_⟩
  refine AFn.of_body (F := T23.1) (by rw [hL]; rfl) rfl ?_
  (repeat' (first | refine wSeq rfl ?_ | refine wBlock rfl ?_ | refine wSkip rfl ?_ | refine wExit rfl ?_ | refine wRet rfl ?_ | refine wCondT rfl rfl ?_ | refine wCondF rfl rfl ?_ | refine wOps rfl ?_ | refine wDraw rfl rfl ?_ | refine opsV_call rfl rfl (turned_v hL _ _ _ hu hp) ?_ | refine opsV_call rfl rfl (fine_v hL _ _ _ _ _ hs (show l.length < 4611686018427387904 by omega) (show ((p.length : Nat) : Int) ≤ 10 by omega)) ?_ | simp only [seval, push_cast, ↓reduceIte, ↓bP_some, ↓aP_true, reduceCtorEq, ht, hf, hroom, hsz]))
  refine wCntH rfl 29 l.length (fun _ => []) (fun j => [some (Blk.arr 2 [[V.int IntKind.u8 1, tl mrow s l c]]), some (Blk.arr 2 [[V.int IntKind.u8 0, V.lst 0 [] (some 0)]]), some (Blk.arr 1 (((l.take j).map (imL p) ++ List.replicate (l.length - j) 0).map mrow)), some (Blk.arr 2 [[V.int IntKind.u8 1, V.ref 2 1 0 l.length (some l.length)]])]) (fun _ => True) rfl (by rw [List.take_zero, List.map_nil, List.nil_append, Nat.sub_zero, List.map_replicate]; rfl) trivial ?_ ?_
  · intro j hj _
    obtain ⟨x, hx, _⟩ := get_of hj
    obtain rfl := size_of hs hj
    have hrg : 0 ≤ x ∧ x < p.length := Decidable.byContradiction fun h => by rw [fine_out (by decide) hx h] at hf; cases hf
    obtain ⟨n, rfl⟩ : ∃ n : Nat, x = n := ⟨x.toNat, by omega⟩
    have hn : n < p.length := by omega
    obtain ⟨y, hy, _⟩ := get_of hn
    obtain rfl := size_of hu hn
    have hw := wrap_succ (show j < 9223372036854775807 by omega)
    have hst : (l.take (j + 1)).map (imL p) = (l.take j).map (imL p) ++ [y] := by rw [take_snoc hx, List.map_append]; simp [imL, hy]
    have hlen : ((l.take j).map (imL p)).length = j := by simp; omega
    have hz := fillI_get (z := (0 : Int)) hlen hj
    have hset := fillI_set (z := (0 : Int)) (v := y) hlen hj
    rw [← hst] at hset
    (repeat' (first | refine wSeq rfl ?_ | refine wBlock rfl ?_ | refine wSkip rfl ?_ | refine wExit rfl ?_ | refine wRet rfl ?_ | refine wCondT rfl rfl ?_ | refine wCondF rfl rfl ?_ | refine wOps rfl ?_ | refine wDraw rfl rfl ?_ | simp only [seval, push_cast, ↓reduceIte, ↓bP_some, ↓aP_true, reduceCtorEq, hj, hx, hy, iaQ_tl hj, iaQ_tl hn, hw, hz, mrow_set, hset]))
    exact qR_n rfl rfl trivial
  · intro _
    rw [take_all, Nat.sub_self, List.replicate_zero, List.append_nil]
    (repeat' (first | refine wSeq rfl ?_ | refine wBlock rfl ?_ | refine wSkip rfl ?_ | refine wExit rfl ?_ | refine wRet rfl ?_ | refine wCondT rfl rfl ?_ | refine wCondF rfl rfl ?_ | refine wOps rfl ?_ | refine wDraw rfl rfl ?_ | simp only [seval, push_cast, ↓reduceIte, ↓bP_some, ↓aP_true, reduceCtorEq]))
    exact FnQ.sh [some 2] [] rfl rfl rfl (sh_c (sh_b closed_mrow rfl) sh_n) ⟨rfl, rfl⟩
theorem renameM_2 (s u : Nat) (l p : List Int) (c d : Option Nat) (ht : turnedL p = true) (hf : fineL 2 l p.length = true) (hs : s = 1 ∨ l = []) (hl : l.length ≤ 17592186043904) (hu : u = 1 ∨ p = []) (hp : p.length < 4611686018427387904) : MFn L 23 [(.agg [.int .u8 2, tl mrow s (l) c]), tl mrow u p d] (.tup [.agg [.int .u8 2, .ref 0 1 0 l.length (some l.length)], .int .i64 0]) [some (.arr 1 ((((List.range p.length).map Int.ofNat).filter fun c => decide (placeL p c ∈ l)).map mrow))] := by
  have h10 := turned_len ht
  have hroom : l.length * 8 ≤ 140737488355328 := by omega
  have hsz : l.length < 9223372036854775808 := by omega
  refine ⟨rfl, ?_⟩
  refine AFn.of_body (F := T23.1) (by rw [hL]; rfl) rfl ?_
  (repeat' (first | refine wSeq rfl ?_ | refine wBlock rfl ?_ | refine wSkip rfl ?_ | refine wExit rfl ?_ | refine wRet rfl ?_ | refine wCondT rfl rfl ?_ | refine wCondF rfl rfl ?_ | refine wOps rfl ?_ | refine wDraw rfl rfl ?_ | refine opsV_call rfl rfl (turned_v hL _ _ _ hu hp) ?_ | refine opsV_call rfl rfl (fine_v hL _ _ _ _ _ hs (show l.length < 4611686018427387904 by omega) (show ((p.length : Nat) : Int) ≤ 10 by omega)) ?_ | simp only [seval, push_cast, ↓reduceIte, ↓bP_some, ↓aP_true, reduceCtorEq, ht, hf, hroom, hsz]))
  refine wCntH rfl 29 l.length (fun _ => []) (fun j => [some (Blk.arr 2 [[V.int IntKind.u8 2, tl mrow s l c]]), some (Blk.arr 2 [[V.int IntKind.u8 0, V.lst 0 [] (some 0)]]), some (Blk.arr 1 (((l.take j).map (imL p) ++ List.replicate (l.length - j) 0).map mrow)), some (Blk.arr 2 [[V.int IntKind.u8 2, V.ref 2 1 0 l.length (some l.length)]])]) (fun _ => True) rfl (by rw [List.take_zero, List.map_nil, List.nil_append, Nat.sub_zero, List.map_replicate]; rfl) trivial ?_ ?_
  · intro j hj _
    obtain ⟨x, hx, _⟩ := get_of hj
    obtain rfl := size_of hs hj
    have hrg : 0 ≤ x ∧ x < p.length := Decidable.byContradiction fun h => by rw [fine_out (by decide) hx h] at hf; cases hf
    obtain ⟨n, rfl⟩ : ∃ n : Nat, x = n := ⟨x.toNat, by omega⟩
    have hn : n < p.length := by omega
    obtain ⟨y, hy, _⟩ := get_of hn
    obtain rfl := size_of hu hn
    have hw := wrap_succ (show j < 9223372036854775807 by omega)
    have hst : (l.take (j + 1)).map (imL p) = (l.take j).map (imL p) ++ [y] := by rw [take_snoc hx, List.map_append]; simp [imL, hy]
    have hlen : ((l.take j).map (imL p)).length = j := by simp; omega
    have hz := fillI_get (z := (0 : Int)) hlen hj
    have hset := fillI_set (z := (0 : Int)) (v := y) hlen hj
    rw [← hst] at hset
    (repeat' (first | refine wSeq rfl ?_ | refine wBlock rfl ?_ | refine wSkip rfl ?_ | refine wExit rfl ?_ | refine wRet rfl ?_ | refine wCondT rfl rfl ?_ | refine wCondF rfl rfl ?_ | refine wOps rfl ?_ | refine wDraw rfl rfl ?_ | simp only [seval, push_cast, ↓reduceIte, ↓bP_some, ↓aP_true, reduceCtorEq, hj, hx, hy, iaQ_tl hj, iaQ_tl hn, hw, hz, mrow_set, hset]))
    exact qR_n rfl rfl trivial
  · intro _
    rw [take_all, Nat.sub_self, List.replicate_zero, List.append_nil]
    have hml : (l.map (imL p)).length = l.length := by simp
    have h12 : (l.map (imL p)).length ≤ 12 := by
      rw [hml]
      obtain ⟨hu, hr⟩ := fine_up hf
      rcases up_len hu hr with e | e
      · rw [e]; simp
      · omega
    have hso := sort_a hL (Hc := []) (c := some l.length) h12
    rw [hml] at hso
    (repeat' (first | refine wSeq rfl ?_ | refine wBlock rfl ?_ | refine wSkip rfl ?_ | refine wExit rfl ?_ | refine wRet rfl ?_ | refine wCondT rfl rfl ?_ | refine wCondF rfl rfl ?_ | refine wOpsP rfl ?_ | refine wDraw rfl rfl ?_ | simp only [seval, push_cast, ↓reduceIte, ↓bP_some, ↓aP_true, reduceCtorEq]))
    refine opsP_frm (k := 50) (vs' := [.ref 0 1 0 l.length (some l.length)]) (H0 := [some (.arr 1 ((l.map (imL p)).map mrow))]) [2] rfl rfl rfl rfl (sh_c (sh_b closed_mrow rfl) sh_n) hso ?_
    rintro r h' ⟨rfl, q, q1, q2, rfl⟩
    rw [back_two, ren_tup0, rename_sorted ht hf q1 q2]
    have hql : l.length = (((List.range p.length).map Int.ofNat).filter fun c => decide (placeL p c ∈ l)).length := by rw [← rename_sorted ht hf q1 q2, q1.length_eq, hml]
    generalize (((List.range p.length).map Int.ofNat).filter fun c => decide (placeL p c ∈ l)) = z at hql ⊢
    (repeat' (first | refine wSeq rfl ?_ | refine wBlock rfl ?_ | refine wSkip rfl ?_ | refine wExit rfl ?_ | refine wRet rfl ?_ | refine wCondT rfl rfl ?_ | refine wCondF rfl rfl ?_ | refine wOps rfl ?_ | refine wDraw rfl rfl ?_ | simp only [seval, push_cast, ↓reduceIte, ↓bP_some, ↓aP_true, reduceCtorEq]))
    exact FnQ.sh [some 2] [] rfl rfl rfl (sh_c (sh_b closed_mrow rfl) sh_n) ⟨rfl, rfl⟩
theorem renameM_3 (s u : Nat) (l p : List Int) (c d : Option Nat) (ht : turnedL p = true) (hf : fineL 3 l p.length = true) (hs : s = 1 ∨ l = []) (hl : l.length ≤ 17592186043904) (hu : u = 1 ∨ p = []) (hp : p.length < 4611686018427387904) : MFn L 23 [(.agg [.int .u8 3, tl mrow s (l) c]), tl mrow u p d] (.tup [.agg [.int .u8 3, .ref 0 1 0 l.length (some l.length)], .int .i64 0]) [some (.arr 1 (((List.range p.length).map fun (c : Nat) => l[(placeL p (c : Int)).toNat]?.getD 0).map mrow))] := by
  have h10 := turned_len ht
  have hroom : l.length * 8 ≤ 140737488355328 := by omega
  have hsz : l.length < 9223372036854775808 := by omega
  have hll : l.length = p.length := by
    have e : fineL 3 l p.length = (l.all (inB 0 11) && decide ((l.length : Int) = p.length)) := rfl
    rw [e, Bool.and_eq_true] at hf
    have := of_decide_eq_true hf.2
    omega
  refine ⟨rfl, ?_⟩
  refine AFn.of_body (F := T23.1) (by rw [hL]; rfl) rfl ?_
  (repeat' (first | refine wSeq rfl ?_ | refine wBlock rfl ?_ | refine wSkip rfl ?_ | refine wExit rfl ?_ | refine wRet rfl ?_ | refine wCondT rfl rfl ?_ | refine wCondF rfl rfl ?_ | refine wOps rfl ?_ | refine wDraw rfl rfl ?_ | refine opsV_call rfl rfl (turned_v hL _ _ _ hu hp) ?_ | refine opsV_call rfl rfl (fine_v hL _ _ _ _ _ hs (show l.length < 4611686018427387904 by omega) (show ((p.length : Nat) : Int) ≤ 10 by omega)) ?_ | simp only [seval, push_cast, ↓reduceIte, ↓bP_some, ↓aP_true, reduceCtorEq, ht, hf, hroom, hsz]))
  refine wCntH rfl 29 l.length (fun _ => []) (fun j => [some (Blk.arr 2 [[V.int IntKind.u8 3, tl mrow s l c]]), some (Blk.arr 2 [[V.int IntKind.u8 0, V.lst 0 [] (some 0)]]), some (Blk.arr 1 ((scoreTo l p j).map mrow)), some (Blk.arr 2 [[V.int IntKind.u8 3, V.ref 2 1 0 l.length (some l.length)]])]) (fun _ => True) rfl (by rw [score_zero ht, List.map_replicate, hll]; rfl) trivial ?_ ?_
  · intro j hj _
    obtain ⟨x, hx, _⟩ := get_of hj
    obtain rfl := size_of hs hj
    have hjp : j < p.length := by omega
    obtain ⟨y, hy, hym⟩ := get_of hjp
    obtain rfl := size_of hu hjp
    have hyr := turned_range ht hym
    obtain ⟨m, rfl⟩ : ∃ m : Nat, y = m := ⟨y.toNat, by omega⟩
    have hmp : m < p.length := by omega
    have hml : m < l.length := by omega
    have hw := wrap_succ (show j < 9223372036854775807 by omega)
    have hz := score_get (l := l) (j := j) hmp
    have hset := score_step ht hy hx hmp
    (repeat' (first | refine wSeq rfl ?_ | refine wBlock rfl ?_ | refine wSkip rfl ?_ | refine wExit rfl ?_ | refine wRet rfl ?_ | refine wCondT rfl rfl ?_ | refine wCondF rfl rfl ?_ | refine wOps rfl ?_ | refine wDraw rfl rfl ?_ | simp only [seval, push_cast, ↓reduceIte, ↓bP_some, ↓aP_true, reduceCtorEq, hj, hx, hy, iaQ_tl hj, iaQ_tl hjp, hml, hw, hz, mrow_set, hset]))
    exact qR_n rfl rfl trivial
  · intro _
    have hsa : scoreTo l p l.length = (List.range p.length).map fun (c : Nat) => l[(placeL p (c : Int)).toNat]?.getD 0 := by rw [hll]; exact score_all
    rw [hsa]
    (repeat' (first | refine wSeq rfl ?_ | refine wBlock rfl ?_ | refine wSkip rfl ?_ | refine wExit rfl ?_ | refine wRet rfl ?_ | refine wCondT rfl rfl ?_ | refine wCondF rfl rfl ?_ | refine wOps rfl ?_ | refine wDraw rfl rfl ?_ | simp only [seval, push_cast, ↓reduceIte, ↓bP_some, ↓aP_true, reduceCtorEq]))
    exact FnQ.sh [some 2] [] rfl rfl rfl (sh_c (sh_b closed_mrow rfl) sh_n) ⟨rfl, rfl⟩
theorem rename_m (k : Int) (s u : Nat) (l p : List Int) (c d : Option Nat) (ht : turnedL p = true) (hf : fineL k l p.length = true) (hs : s = 1 ∨ l = []) (hl : l.length ≤ 17592186043904) (hu : u = 1 ∨ p = []) (hp : p.length < 4611686018427387904) : MFn L 23 [(.agg [.int .u8 k, tl mrow s (l) c]), tl mrow u p d] (.tup [.agg [.int .u8 k, .ref 0 1 0 l.length (some l.length)], .int .i64 0]) [some (.arr 1 ((renameL k l p).1.2.map mrow))] := by
  by_cases h1 : k = 1
  · subst h1
    rw [rename_res1 ht hf]
    exact renameM_1 hL s u l p c d ht hf hs hl hu hp
  · by_cases h2 : k = 2
    · subst h2
      rw [rename_res2 ht hf]
      exact renameM_2 hL s u l p c d ht hf hs hl hu hp
    · have h3 : k = 3 := Decidable.byContradiction fun h => by rw [fine_else h1 h2 h] at hf; cases hf
      subst h3
      rw [rename_res3 ht hf]
      exact renameM_3 hL s u l p c d ht hf hs hl hu hp
theorem rename_e1 (k : Int) (s u : Nat) (l p : List Int) (c d : Option Nat) (ht : turnedL p = false) (hu : u = 1 ∨ p = []) (hp : p.length < 4611686018427387904) : VFn L 23 [(.agg [.int .u8 k, tl mrow s (l) c]), tl mrow u p d] (.tup [(.agg [.int .u8 0, tl mrow 0 (([] : List Int)) (some 0)]), .int .i64 2]) := by
  refine VFn.start (F := T23.1) (by rw [hL]; rfl) rfl rfl rfl ?_
  (repeat' (first | refine wSeq rfl ?_ | refine wBlock rfl ?_ | refine wSkip rfl ?_ | refine wExit rfl ?_ | refine wRet rfl ?_ | refine wCondT rfl rfl ?_ | refine wCondF rfl rfl ?_ | refine wOps rfl ?_ | refine wDraw rfl rfl ?_ | refine opsV_call rfl rfl (turned_v hL _ _ _ hu hp) ?_ | simp only [seval, push_cast, ↓reduceIte, ↓bP_some, ↓aP_true, reduceCtorEq, ht]))
  exact FnQ.ret rfl rfl
theorem rename_e2 (k : Int) (s u : Nat) (l p : List Int) (c d : Option Nat) (ht : turnedL p = true) (hf : fineL k l p.length = false) (hs : s = 1 ∨ l = []) (hl : l.length < 4611686018427387904) (hu : u = 1 ∨ p = []) (hp : p.length < 4611686018427387904) : VFn L 23 [(.agg [.int .u8 k, tl mrow s (l) c]), tl mrow u p d] (.tup [(.agg [.int .u8 0, tl mrow 0 (([] : List Int)) (some 0)]), .int .i64 8]) := by
  have h10 := turned_len ht
  refine VFn.start (F := T23.1) (by rw [hL]; rfl) rfl rfl rfl ?_
  (repeat' (first | refine wSeq rfl ?_ | refine wBlock rfl ?_ | refine wSkip rfl ?_ | refine wExit rfl ?_ | refine wRet rfl ?_ | refine wCondT rfl rfl ?_ | refine wCondF rfl rfl ?_ | refine wOps rfl ?_ | refine wDraw rfl rfl ?_ | refine opsV_call rfl rfl (turned_v hL _ _ _ hu hp) ?_ | refine opsV_call rfl rfl (fine_v hL _ _ _ _ _ hs hl (show ((p.length : Nat) : Int) ≤ 10 by omega)) ?_ | simp only [seval, push_cast, ↓reduceIte, ↓bP_some, ↓aP_true, reduceCtorEq, ht, hf]))
  exact FnQ.ret rfl rfl
end Go.Proofs.YtnhfbabenifbkaaGreatDoor
set_option maxRecDepth 100000
set_option maxHeartbeats 100000000
set_option linter.unusedVariables false
set_option linter.unusedSimpArgs false
namespace Go.Proofs.YtnhfbabenifbkaaGreatDoor
theorem words_leK {s : List UInt8} (hs : s.length ≤ 1000000) : (wordsMarks s).length ≤ 1000000 := by
  have h1 := split_len s
  have h2 := count_le s
  rw [head_tail s, List.length_cons] at h1
  omega
theorem rename_is {k : Int} {l p : List Int} (ht : turnedL p = true) (hf : fineL k l p.length = true) : renameL k l p = ((k, (renameL k l p).1.2), 0) := by
  by_cases h1 : k = 1
  · subst h1; unfold renameL; rw [if_neg (by rw [ht]; simp), if_neg (by rw [hf]; simp), if_pos rfl]
  · by_cases h2 : k = 2
    · subst h2; unfold renameL; rw [if_neg (by rw [ht]; simp), if_neg (by rw [hf]; simp), if_neg (by decide), if_pos rfl]
    · have h3 : k = 3 := Decidable.byContradiction fun h => by rw [fine_else h1 h2 h] at hf; cases hf
      subst h3; unfold renameL; rw [if_neg (by rw [ht]; simp), if_neg (by rw [hf]; simp), if_neg (by decide), if_neg (by decide)]
/-- A list overwritten, as far as j. -/
def spoilt (X : List Int) (j : Nat) : List Int := List.replicate j 77 ++ X.drop j
theorem spoilt_zero {X : List Int} : spoilt X 0 = X := rfl
theorem spoilt_get {X : List Int} {j : Nat} {x : Int} (h : X[j]? = some x) : (spoilt X j)[j]? = some x := by
  unfold spoilt
  rw [List.getElem?_append_right (by simp), List.length_replicate, Nat.sub_self, List.getElem?_drop, Nat.add_zero, h]
theorem spoilt_set {X : List Int} {j : Nat} (h : j < X.length) : (spoilt X j).set j 77 = spoilt X (j + 1) := by
  unfold spoilt
  rw [List.set_append_right _ _ (by simp), List.length_replicate, Nat.sub_self, List.drop_eq_getElem_cons h, List.set_cons_zero, List.replicate_succ', List.append_assoc]; rfl
theorem ren_agg {σ : Nat → Sg} {cs : List V} : V.ren σ (.agg cs) = .agg (cs.map (V.ren σ)) := by rw [V.ren, V.rens_map]
theorem ren_tup {σ : Nat → Sg} {cs : List V} : V.ren σ (.tup cs) = .tup (cs.map (V.ren σ)) := by rw [V.ren, V.rens_map]
theorem ren_int {σ : Nat → Sg} {k : IntKind} {n : Int} : V.ren σ (.int k n) = .int k n := rfl
theorem ren_bool {σ : Nat → Sg} {b : Bool} : V.ren σ (.bool b) = .bool b := rfl
theorem ren_str {σ : Nat → Sg} {s : List UInt8} : V.ren σ (.str s) = .str s := rfl
theorem ren_lst {σ : Nat → Sg} {s : Nat} {r : List (List V)} {c : Option Nat} : V.ren σ (.lst s r c) = .lst s r c := rfl
theorem ren_tls {α : Type} {f : α → List V} {σ : Nat → Sg} {s : Nat} {r : List α} {c : Option Nat} : V.ren σ (tl f s r c) = tl f s r c := rfl
variable {L : Lib} (hL : L.T = tab.get)
include hL
theorem bkeeps_v (hw : VFn L 10 [] (.bool true)) (hrd : ∀ s : List UInt8, s.length ≤ 1000000 → ∃ t c', (t = 1 ∨ (readL s).1.2 = []) ∧ VFn L 27 [.str s] (.tup [(.agg [.int .u8 (readL s).1.1, tl mrow t ((readL s).1.2) c']), .int .i64 (readL s).2]))
    (k : Int) (l : List Int) (hl : l.length ≤ 17592186043904) (left : List Bool) (h2 : left.length ≤ 140737488351232) (p : List Int) (hp : p.length ≤ 17592186043904) (s : List UInt8) : VFn L 4 [(.agg [.int .u8 k, tl mrow 1 (l) none]), tl brow 1 left none, tl mrow 1 p none, .str s] (.bool true) := by
  have hl2 : l.length < 4611686018427387904 := by omega
  have hp2 : p.length < 4611686018427387904 := by omega
  refine VFn.start (F := T4.1) (by rw [hL]; rfl) rfl rfl rfl ?_
  (repeat' (first | refine wSeq rfl ?_ | refine wBlock rfl ?_ | refine wSkip rfl ?_ | refine wExit rfl ?_ | refine wRet rfl ?_ | refine wCondT rfl rfl ?_ | refine wCondF rfl rfl ?_ | refine wOpsP rfl ?_ | refine wDraw rfl rfl ?_ | simp only [seval, push_cast, ↓reduceIte, ↓bP_some, ↓aP_true, reduceCtorEq]))
  refine opsP_bor [1] rfl (vs' := [tl brw 2 [(k, l)] (some 1)]) rfl (great_v hL _ _ (show 1 < 4611686018427387904 by decide)) rfl ?_
  cases hg : ([(k, l)].any fun b => decide (60 < b.2.length)) with
  | true =>
    (repeat' (first | refine wSeq rfl ?_ | refine wBlock rfl ?_ | refine wSkip rfl ?_ | refine wExit rfl ?_ | refine wRet rfl ?_ | refine wCondT rfl rfl ?_ | refine wCondF rfl rfl ?_ | refine wOps rfl ?_ | refine wDraw rfl rfl ?_ | refine opsV_call rfl rfl (hw) ?_ | simp only [seval, push_cast, ↓reduceIte, ↓bP_some, ↓aP_true, reduceCtorEq]))
    exact FnQ.ret rfl rfl
  | false =>
    have hl60 : l.length ≤ 60 := by simp at hg; omega
    by_cases hle : (60 : Int) < left.length
    · (repeat' (first | refine wSeq rfl ?_ | refine wBlock rfl ?_ | refine wSkip rfl ?_ | refine wExit rfl ?_ | refine wRet rfl ?_ | refine wCondT rfl rfl ?_ | refine wCondF rfl rfl ?_ | refine wOps rfl ?_ | refine wDraw rfl rfl ?_ | refine opsV_call rfl rfl (hw) ?_ | simp only [seval, push_cast, ↓reduceIte, ↓bP_some, ↓aP_true, reduceCtorEq, hle]))
      exact FnQ.ret rfl rfl
    by_cases hpe : (60 : Int) < p.length
    · (repeat' (first | refine wSeq rfl ?_ | refine wBlock rfl ?_ | refine wSkip rfl ?_ | refine wExit rfl ?_ | refine wRet rfl ?_ | refine wCondT rfl rfl ?_ | refine wCondF rfl rfl ?_ | refine wOps rfl ?_ | refine wDraw rfl rfl ?_ | refine opsV_call rfl rfl (hw) ?_ | simp only [seval, push_cast, ↓reduceIte, ↓bP_some, ↓aP_true, reduceCtorEq, hle, hpe]))
      exact FnQ.ret rfl rfl
    by_cases hse : (200 : Int) < s.length
    · (repeat' (first | refine wSeq rfl ?_ | refine wBlock rfl ?_ | refine wSkip rfl ?_ | refine wExit rfl ?_ | refine wRet rfl ?_ | refine wCondT rfl rfl ?_ | refine wCondF rfl rfl ?_ | refine wOps rfl ?_ | refine wDraw rfl rfl ?_ | refine opsV_call rfl rfl (hw) ?_ | simp only [seval, push_cast, ↓reduceIte, ↓bP_some, ↓aP_true, reduceCtorEq, hle, hpe, hse]))
      exact FnQ.ret rfl rfl
    obtain ⟨t0, c0, ht0, hr0⟩ := hrd s (by omega)
    obtain ⟨t9, c9, ht9, hr9⟩ := rread_v hL s (by omega)
    obtain ⟨t1, c1, ht1, hk1⟩ := rkeep_v hL k 1 1 l left none none (.inl rfl) hl (.inl rfl) (by omega)
    obtain ⟨t2, c2, ht2, hr2⟩ := rrename_v hL k 1 1 l p none none (.inl rfl) hl (.inl rfl) hp
    have hrl : (readL s).1.2.length ≤ 1000000 := by
      cases ha : aloneL (readF numberL s).1 (readF numberL s).2 with
      | true => rw [read_ok ha]; unfold readF; simp; exact words_leK (by omega)
      | false => rw [read_bad ha]; simp
    have hsr := rsame_v hL (readL s).1.1 (readL s).1.1 t0 t9 (readL s).1.2 (readL s).1.2 c0 c9 ht0 ht9 (by omega) (by omega)
    rw [same_self] at hsr
    have htx := text_v hL k 1 l none (.inl rfl) hl
    have hrt := rtext_v hL k 1 l none (.inl rfl) hl
    have hkl := keep_len k l left
    have hks := rsame_v hL k k 1 t1 (keepL k l left) (keepL k l left) none c1 (.inl rfl) ht1 (by omega) (by omega)
    rw [same_self] at hks
    have hin := rints_v hL 1 1 l l none (some 0) (.inl rfl) (.inl rfl) hl2 hl2
    have hin2 := rints_v hL 1 1 l l none none (.inl rfl) (.inl rfl) hl2 hl2
    rw [decide_eq_true rfl] at hin hin2
    generalize (readL s).1.1 = k3 at *
    generalize (readL s).1.2 = l3 at *
    generalize (readL s).2 = e3 at *
    generalize (btextL k l).1 = tx at *
    generalize (btextL k l).2 = te at *
    by_cases hne : l = []
    · subst hne
      have hkv := keep_v hL k 1 1 [] left none none (.inl rfl) hl (.inl rfl) (by omega)
      rw [keep_nil] at hkv hk1 hks
      have hin3 := rints_v hL 1 1 [] [] none (some 0) (.inl rfl) (.inl rfl) hl2 hl2
      cases ht : turnedL p with
      | false =>
        have hrm := rename_e1 hL k 1 1 [] p none none ht (.inl rfl) hp2
        have hri : renameL k [] p = ((0, []), 2) := if_pos ht
        rw [hri] at hr2 ht2
        dsimp only at hr2 ht2
        have hrs := rsame_v hL 0 0 0 t2 [] [] (some 0) c2 (.inr rfl) ht2 (by decide) (by decide)
        rw [same_self] at hrs
        (repeat' (first | refine wSeq rfl ?_ | refine wBlock rfl ?_ | refine wSkip rfl ?_ | refine wExit rfl ?_ | refine wRet rfl ?_ | refine wCondT rfl rfl ?_ | refine wCondF rfl rfl ?_ | refine wOpsP rfl ?_ | refine wDrawM [] rfl rfl ?_ | refine opsV_call (k := 21) rfl rfl (hkv) ?_ | refine opsP_call (k := 21) rfl (hkv) ?_ | refine opsV_call (k := 22) rfl rfl (hk1) ?_ | refine opsP_call (k := 22) rfl (hk1) ?_ | refine opsV_call (k := 23) rfl rfl (hrm) ?_ | refine opsP_call (k := 23) rfl (hrm) ?_ | refine opsV_call (k := 24) rfl rfl (hr2) ?_ | refine opsP_call (k := 24) rfl (hr2) ?_ | refine opsV_call (k := 25) rfl rfl (htx) ?_ | refine opsP_call (k := 25) rfl (htx) ?_ | refine opsV_call (k := 26) rfl rfl (hrt) ?_ | refine opsP_call (k := 26) rfl (hrt) ?_ | refine opsV_call (k := 27) rfl rfl (hr0) ?_ | refine opsP_call (k := 27) rfl (hr0) ?_ | refine opsV_call (k := 28) rfl rfl (hr9) ?_ | refine opsP_call (k := 28) rfl (hr9) ?_ | simp only [seval, push_cast, ↓reduceIte, ↓bP_some, ↓aP_true, reduceCtorEq, hle, hpe, hse, rowsOf_tl, List.length_nil, happ_eq, upds_nil, upds_cons, ren_up_ref, ren_tl closed_mrow, ren_agg, ren_tup, ren_int, ren_bool, ren_str, ren_lst, ren_tls, List.map_cons, List.map_nil, Option.map_some, List.length_append]))
        (repeat' (first | refine wSeq rfl ?_ | refine wBlock rfl ?_ | refine wSkip rfl ?_ | refine wExit rfl ?_ | refine wRet rfl ?_ | refine wCondT rfl rfl ?_ | refine wCondF rfl rfl ?_ | refine wOpsP rfl ?_ | refine wDrawM [] rfl rfl ?_ | refine opsV_call rfl rfl (hks) ?_ | refine opsP_call rfl (hks) ?_ | refine opsV_call rfl rfl (hrs) ?_ | refine opsP_call rfl (hrs) ?_ | refine opsV_call rfl rfl (hsr) ?_ | refine opsP_call rfl (hsr) ?_ | simp only [seval, push_cast, ↓reduceIte, ↓bP_some, ↓aP_true, reduceCtorEq, hle, hpe, hse, rowsOf_tl, List.length_nil, happ_eq, upds_nil, upds_cons, ren_up_ref, ren_tl closed_mrow, ren_agg, ren_tup, ren_int, ren_bool, ren_str, ren_lst, ren_tls, List.map_cons, List.map_nil, Option.map_some, List.length_append, binV_sneq, decide_true]))
        refine wCnt rfl 24 0 (fun _ => []) (fun _ => True) rfl trivial (fun j hj => absurd hj (by omega)) (fun _ => ?_)
        (repeat' (first | refine wSeq rfl ?_ | refine wBlock rfl ?_ | refine wSkip rfl ?_ | refine wExit rfl ?_ | refine wRet rfl ?_ | refine wCondT rfl rfl ?_ | refine wCondF rfl rfl ?_ | refine wOps rfl ?_ | refine wDraw rfl rfl ?_ | simp only [seval, push_cast, ↓reduceIte, ↓bP_some, ↓aP_true, reduceCtorEq, List.length_nil]))
        refine wCnt rfl 25 0 (fun _ => []) (fun _ => True) rfl trivial (fun j hj => absurd hj (by omega)) (fun _ => ?_)
        (repeat' (first | refine wSeq rfl ?_ | refine wBlock rfl ?_ | refine wSkip rfl ?_ | refine wExit rfl ?_ | refine wRet rfl ?_ | refine wCondT rfl rfl ?_ | refine wCondF rfl rfl ?_ | refine wOpsP rfl ?_ | refine wDraw rfl rfl ?_ | simp only [seval, push_cast, ↓reduceIte, ↓bP_some, ↓aP_true, reduceCtorEq, List.length_nil]))
        refine opsP_bor [2] rfl (vs' := [tl mrow 1 [] none, tl mrow 1 [] (some 0)]) (congrArg (fun v => [tl mrow 1 [] none, v]) (frz_ref (l := []) closed_mrow (by decide) rfl rfl)) hin rfl ?_
        (repeat' (first | refine wSeq rfl ?_ | refine wBlock rfl ?_ | refine wSkip rfl ?_ | refine wExit rfl ?_ | refine wRet rfl ?_ | refine wCondT rfl rfl ?_ | refine wCondF rfl rfl ?_ | refine wOpsP rfl ?_ | refine wDrawM [] rfl rfl ?_ | refine opsV_call rfl rfl (hw) ?_ | refine opsP_call rfl (hw) ?_ | simp only [seval, push_cast, ↓reduceIte, ↓bP_some, ↓aP_true, reduceCtorEq]))
        exact FnQ.ret rfl rfl
      | true =>
        cases hf : fineL k [] p.length with
        | false =>
          have hrm := rename_e2 hL k 1 1 [] p none none ht hf (.inl rfl) (by decide) (.inl rfl) hp2
          have hri : renameL k [] p = ((0, []), 8) := by unfold renameL; rw [if_neg (by rw [ht]; simp), if_pos hf]
          rw [hri] at hr2 ht2
          dsimp only at hr2 ht2
          have hrs := rsame_v hL 0 0 0 t2 [] [] (some 0) c2 (.inr rfl) ht2 (by decide) (by decide)
          rw [same_self] at hrs
          (repeat' (first | refine wSeq rfl ?_ | refine wBlock rfl ?_ | refine wSkip rfl ?_ | refine wExit rfl ?_ | refine wRet rfl ?_ | refine wCondT rfl rfl ?_ | refine wCondF rfl rfl ?_ | refine wOpsP rfl ?_ | refine wDrawM [] rfl rfl ?_ | refine opsV_call (k := 21) rfl rfl (hkv) ?_ | refine opsP_call (k := 21) rfl (hkv) ?_ | refine opsV_call (k := 22) rfl rfl (hk1) ?_ | refine opsP_call (k := 22) rfl (hk1) ?_ | refine opsV_call (k := 23) rfl rfl (hrm) ?_ | refine opsP_call (k := 23) rfl (hrm) ?_ | refine opsV_call (k := 24) rfl rfl (hr2) ?_ | refine opsP_call (k := 24) rfl (hr2) ?_ | refine opsV_call (k := 25) rfl rfl (htx) ?_ | refine opsP_call (k := 25) rfl (htx) ?_ | refine opsV_call (k := 26) rfl rfl (hrt) ?_ | refine opsP_call (k := 26) rfl (hrt) ?_ | refine opsV_call (k := 27) rfl rfl (hr0) ?_ | refine opsP_call (k := 27) rfl (hr0) ?_ | refine opsV_call (k := 28) rfl rfl (hr9) ?_ | refine opsP_call (k := 28) rfl (hr9) ?_ | simp only [seval, push_cast, ↓reduceIte, ↓bP_some, ↓aP_true, reduceCtorEq, hle, hpe, hse, rowsOf_tl, List.length_nil, happ_eq, upds_nil, upds_cons, ren_up_ref, ren_tl closed_mrow, ren_agg, ren_tup, ren_int, ren_bool, ren_str, ren_lst, ren_tls, List.map_cons, List.map_nil, Option.map_some, List.length_append]))
          (repeat' (first | refine wSeq rfl ?_ | refine wBlock rfl ?_ | refine wSkip rfl ?_ | refine wExit rfl ?_ | refine wRet rfl ?_ | refine wCondT rfl rfl ?_ | refine wCondF rfl rfl ?_ | refine wOpsP rfl ?_ | refine wDrawM [] rfl rfl ?_ | refine opsV_call rfl rfl (hks) ?_ | refine opsP_call rfl (hks) ?_ | refine opsV_call rfl rfl (hrs) ?_ | refine opsP_call rfl (hrs) ?_ | refine opsV_call rfl rfl (hsr) ?_ | refine opsP_call rfl (hsr) ?_ | simp only [seval, push_cast, ↓reduceIte, ↓bP_some, ↓aP_true, reduceCtorEq, hle, hpe, hse, rowsOf_tl, List.length_nil, happ_eq, upds_nil, upds_cons, ren_up_ref, ren_tl closed_mrow, ren_agg, ren_tup, ren_int, ren_bool, ren_str, ren_lst, ren_tls, List.map_cons, List.map_nil, Option.map_some, List.length_append, binV_sneq, decide_true]))
          refine wCnt rfl 24 0 (fun _ => []) (fun _ => True) rfl trivial (fun j hj => absurd hj (by omega)) (fun _ => ?_)
          (repeat' (first | refine wSeq rfl ?_ | refine wBlock rfl ?_ | refine wSkip rfl ?_ | refine wExit rfl ?_ | refine wRet rfl ?_ | refine wCondT rfl rfl ?_ | refine wCondF rfl rfl ?_ | refine wOps rfl ?_ | refine wDraw rfl rfl ?_ | simp only [seval, push_cast, ↓reduceIte, ↓bP_some, ↓aP_true, reduceCtorEq, List.length_nil]))
          refine wCnt rfl 25 0 (fun _ => []) (fun _ => True) rfl trivial (fun j hj => absurd hj (by omega)) (fun _ => ?_)
          (repeat' (first | refine wSeq rfl ?_ | refine wBlock rfl ?_ | refine wSkip rfl ?_ | refine wExit rfl ?_ | refine wRet rfl ?_ | refine wCondT rfl rfl ?_ | refine wCondF rfl rfl ?_ | refine wOpsP rfl ?_ | refine wDraw rfl rfl ?_ | simp only [seval, push_cast, ↓reduceIte, ↓bP_some, ↓aP_true, reduceCtorEq, List.length_nil]))
          refine opsP_bor [2] rfl (vs' := [tl mrow 1 [] none, tl mrow 1 [] (some 0)]) (congrArg (fun v => [tl mrow 1 [] none, v]) (frz_ref (l := []) closed_mrow (by decide) rfl rfl)) hin rfl ?_
          (repeat' (first | refine wSeq rfl ?_ | refine wBlock rfl ?_ | refine wSkip rfl ?_ | refine wExit rfl ?_ | refine wRet rfl ?_ | refine wCondT rfl rfl ?_ | refine wCondF rfl rfl ?_ | refine wOpsP rfl ?_ | refine wDrawM [] rfl rfl ?_ | refine opsV_call rfl rfl (hw) ?_ | refine opsP_call rfl (hw) ?_ | simp only [seval, push_cast, ↓reduceIte, ↓bP_some, ↓aP_true, reduceCtorEq]))
          exact FnQ.ret rfl rfl
        | true =>
          have hrm := rename_v hL k 1 1 [] p none none ht hf (.inl rfl) (by simp) (.inl rfl) hp2
          have hri := rename_is ht hf
          have hrl0 := rename_len ht hf
          rw [hri] at hr2
          dsimp only at hr2
          clear hri
          have hX0 : (renameL k [] p).1.2 = [] := List.length_eq_zero_iff.1 hrl0
          rw [hX0] at hr2 hrm ht2
          have hrs := rsame_v hL k k 1 t2 [] [] (some 0) c2 (.inl rfl) ht2 (by decide) (by decide)
          rw [same_self] at hrs
          (repeat' (first | refine wSeq rfl ?_ | refine wBlock rfl ?_ | refine wSkip rfl ?_ | refine wExit rfl ?_ | refine wRet rfl ?_ | refine wCondT rfl rfl ?_ | refine wCondF rfl rfl ?_ | refine wOpsP rfl ?_ | refine wDrawM [] rfl rfl ?_ | refine opsV_call (k := 21) rfl rfl (hkv) ?_ | refine opsP_call (k := 21) rfl (hkv) ?_ | refine opsV_call (k := 22) rfl rfl (hk1) ?_ | refine opsP_call (k := 22) rfl (hk1) ?_ | refine opsV_call (k := 23) rfl rfl (hrm) ?_ | refine opsP_call (k := 23) rfl (hrm) ?_ | refine opsV_call (k := 24) rfl rfl (hr2) ?_ | refine opsP_call (k := 24) rfl (hr2) ?_ | refine opsV_call (k := 25) rfl rfl (htx) ?_ | refine opsP_call (k := 25) rfl (htx) ?_ | refine opsV_call (k := 26) rfl rfl (hrt) ?_ | refine opsP_call (k := 26) rfl (hrt) ?_ | refine opsV_call (k := 27) rfl rfl (hr0) ?_ | refine opsP_call (k := 27) rfl (hr0) ?_ | refine opsV_call (k := 28) rfl rfl (hr9) ?_ | refine opsP_call (k := 28) rfl (hr9) ?_ | simp only [seval, push_cast, ↓reduceIte, ↓bP_some, ↓aP_true, reduceCtorEq, hle, hpe, hse, rowsOf_tl, List.length_nil, happ_eq, upds_nil, upds_cons, ren_up_ref, ren_tl closed_mrow, ren_agg, ren_tup, ren_int, ren_bool, ren_str, ren_lst, ren_tls, List.map_cons, List.map_nil, Option.map_some, List.length_append]))
          (repeat' (first | refine wSeq rfl ?_ | refine wBlock rfl ?_ | refine wSkip rfl ?_ | refine wExit rfl ?_ | refine wRet rfl ?_ | refine wCondT rfl rfl ?_ | refine wCondF rfl rfl ?_ | refine wOpsP rfl ?_ | refine wDrawM [] rfl rfl ?_ | refine opsV_call rfl rfl (hks) ?_ | refine opsP_call rfl (hks) ?_ | refine opsV_call rfl rfl (hrs) ?_ | refine opsP_call rfl (hrs) ?_ | refine opsV_call rfl rfl (hsr) ?_ | refine opsP_call rfl (hsr) ?_ | simp only [seval, push_cast, ↓reduceIte, ↓bP_some, ↓aP_true, reduceCtorEq, hle, hpe, hse, rowsOf_tl, List.length_nil, happ_eq, upds_nil, upds_cons, ren_up_ref, ren_tl closed_mrow, ren_agg, ren_tup, ren_int, ren_bool, ren_str, ren_lst, ren_tls, List.map_cons, List.map_nil, Option.map_some, List.length_append, binV_sneq, decide_true]))
          refine wCnt rfl 24 0 (fun _ => []) (fun _ => True) rfl trivial (fun j hj => absurd hj (by omega)) (fun _ => ?_)
          (repeat' (first | refine wSeq rfl ?_ | refine wBlock rfl ?_ | refine wSkip rfl ?_ | refine wExit rfl ?_ | refine wRet rfl ?_ | refine wCondT rfl rfl ?_ | refine wCondF rfl rfl ?_ | refine wOps rfl ?_ | refine wDraw rfl rfl ?_ | simp only [seval, push_cast, ↓reduceIte, ↓bP_some, ↓aP_true, reduceCtorEq, List.length_nil]))
          refine wCnt rfl 25 0 (fun _ => []) (fun _ => True) rfl trivial (fun j hj => absurd hj (by omega)) (fun _ => ?_)
          (repeat' (first | refine wSeq rfl ?_ | refine wBlock rfl ?_ | refine wSkip rfl ?_ | refine wExit rfl ?_ | refine wRet rfl ?_ | refine wCondT rfl rfl ?_ | refine wCondF rfl rfl ?_ | refine wOpsP rfl ?_ | refine wDraw rfl rfl ?_ | simp only [seval, push_cast, ↓reduceIte, ↓bP_some, ↓aP_true, reduceCtorEq, List.length_nil]))
          refine opsP_bor [2] rfl (vs' := [tl mrow 1 [] none, tl mrow 1 [] (some 0)]) (congrArg (fun v => [tl mrow 1 [] none, v]) (frz_ref (l := []) closed_mrow (by decide) rfl rfl)) hin rfl ?_
          (repeat' (first | refine wSeq rfl ?_ | refine wBlock rfl ?_ | refine wSkip rfl ?_ | refine wExit rfl ?_ | refine wRet rfl ?_ | refine wCondT rfl rfl ?_ | refine wCondF rfl rfl ?_ | refine wOpsP rfl ?_ | refine wDrawM [] rfl rfl ?_ | refine opsV_call rfl rfl (hw) ?_ | refine opsP_call rfl (hw) ?_ | simp only [seval, push_cast, ↓reduceIte, ↓bP_some, ↓aP_true, reduceCtorEq]))
          exact FnQ.ret rfl rfl
    · have hne' : ¬ l.length ≤ 0 := fun e => hne (List.length_eq_zero_iff.1 (Nat.le_zero.1 e))
      have hroom : l.length * 8 ≤ 140737488355328 := by omega
      have hkm := keep_m hL k 1 l left none none hne hl (.inl rfl) (by omega)
      cases ht : turnedL p with
      | false =>
        have hrm := rename_e1 hL k 1 1 l p none none ht (.inl rfl) hp2
        have hri : renameL k l p = ((0, []), 2) := if_pos ht
        rw [hri] at hr2 ht2
        dsimp only at hr2 ht2
        have hrs := rsame_v hL 0 0 0 t2 [] [] (some 0) c2 (.inr rfl) ht2 (by decide) (by decide)
        rw [same_self] at hrs
        (repeat' (first | refine wSeq rfl ?_ | refine wBlock rfl ?_ | refine wSkip rfl ?_ | refine wExit rfl ?_ | refine wRet rfl ?_ | refine wCondT rfl rfl ?_ | refine wCondF rfl rfl ?_ | refine wOpsP rfl ?_ | refine wDrawM [21] rfl rfl ?_ | refine opsV_call (k := 22) rfl rfl (hk1) ?_ | refine opsP_call (k := 22) rfl (hk1) ?_ | simp only [seval, push_cast, ↓reduceIte, ↓bP_some, ↓aP_true, reduceCtorEq, hle, hpe, hse, rowsOf_tl, hne', hroom, ren_up_ref, ren_tl closed_mrow]))
        refine wDrawD rfl ?_
        refine dops_op rfl rfl rfl rfl rfl ?_
        refine dops_op rfl rfl rfl rfl rfl ?_
        refine dops_make rfl rfl rfl hkm rfl ?_
        refine dops_op rfl rfl rfl rfl rfl ?_
        refine dops_op rfl rfl rfl rfl rfl ?_
        refine dops_call rfl rfl rfl hk1 rfl ?_
        refine dops_op rfl rfl rfl rfl rfl ?_
        refine dops_op rfl rfl rfl rfl rfl ?_
        refine dops_op rfl rfl rfl rfl rfl ?_
        refine dops_op rfl rfl rfl rfl rfl ?_
        refine dops_nil ?_
        simp only [seval, push_cast, ↓reduceIte, ↓bP_some, ↓aP_true, reduceCtorEq, happ_eq, upds_nil, upds_cons, ren_up_ref, ren_tl closed_mrow, ren_agg, ren_tup, ren_int, ren_bool, ren_str, ren_lst, ren_tls, List.map_cons, List.map_nil, Option.map_some, List.length_append]
        (repeat' (first | refine wSeq rfl ?_ | refine wBlock rfl ?_ | refine wSkip rfl ?_ | refine wExit rfl ?_ | refine wRet rfl ?_ | refine wCondT rfl rfl ?_ | refine wCondF rfl rfl ?_ | refine wOpsP rfl ?_ | refine wDrawM [] rfl rfl ?_ | refine opsV_call (k := 22) rfl rfl (hk1) ?_ | refine opsP_call (k := 22) rfl (hk1) ?_ | refine opsV_call (k := 23) rfl rfl (hrm) ?_ | refine opsP_call (k := 23) rfl (hrm) ?_ | refine opsV_call (k := 24) rfl rfl (hr2) ?_ | refine opsP_call (k := 24) rfl (hr2) ?_ | refine opsV_call (k := 25) rfl rfl (htx) ?_ | refine opsP_call (k := 25) rfl (htx) ?_ | refine opsV_call (k := 26) rfl rfl (hrt) ?_ | refine opsP_call (k := 26) rfl (hrt) ?_ | refine opsV_call (k := 27) rfl rfl (hr0) ?_ | refine opsP_call (k := 27) rfl (hr0) ?_ | refine opsV_call (k := 28) rfl rfl (hr9) ?_ | refine opsP_call (k := 28) rfl (hr9) ?_ | simp only [seval, push_cast, ↓reduceIte, ↓bP_some, ↓aP_true, reduceCtorEq, happ_eq, upds_nil, upds_cons, ren_up_ref, ren_tl closed_mrow, ren_agg, ren_tup, ren_int, ren_bool, ren_str, ren_lst, ren_tls, List.map_cons, List.map_nil, Option.map_some, List.length_append]))
        refine opsP_bor [4] rfl (vs' := [(.agg [.int .u8 k, tl mrow 1 (keepL k l left) none]), (.agg [.int .u8 k, tl mrow t1 (keepL k l left) c1])]) (congrArg (fun v => [V.agg [V.int IntKind.u8 k, v], (.agg [.int .u8 k, tl mrow t1 (keepL k l left) c1])]) (frz_part (t := keepT k l left) closed_mrow (by decide) rfl rfl)) hks rfl ?_
        (repeat' (first | refine wSeq rfl ?_ | refine wBlock rfl ?_ | refine wSkip rfl ?_ | refine wExit rfl ?_ | refine wRet rfl ?_ | refine wCondT rfl rfl ?_ | refine wCondF rfl rfl ?_ | refine wOpsP rfl ?_ | refine wDrawM [] rfl rfl ?_ | refine opsV_call rfl rfl (hsr) ?_ | refine opsP_call rfl (hsr) ?_ | simp only [seval, push_cast, ↓reduceIte, ↓bP_some, ↓aP_true, reduceCtorEq, happ_eq, upds_nil, upds_cons, ren_up_ref, ren_tl closed_mrow, ren_agg, ren_tup, ren_int, ren_bool, ren_str, ren_lst, ren_tls, List.map_cons, List.map_nil, Option.map_some, List.length_append]))
        (repeat' (first | refine wSeq rfl ?_ | refine wBlock rfl ?_ | refine wSkip rfl ?_ | refine wExit rfl ?_ | refine wRet rfl ?_ | refine wCondT rfl rfl ?_ | refine wCondF rfl rfl ?_ | refine wOpsP rfl ?_ | refine wDrawM [] rfl rfl ?_ | refine opsV_call rfl rfl (hks) ?_ | refine opsP_call rfl (hks) ?_ | refine opsV_call rfl rfl (hrs) ?_ | refine opsP_call rfl (hrs) ?_ | refine opsV_call rfl rfl (hsr) ?_ | refine opsP_call rfl (hsr) ?_ | simp only [seval, push_cast, ↓reduceIte, ↓bP_some, ↓aP_true, reduceCtorEq, happ_eq, upds_nil, upds_cons, ren_up_ref, ren_tl closed_mrow, ren_agg, ren_tup, ren_int, ren_bool, ren_str, ren_lst, ren_tls, List.map_cons, List.map_nil, Option.map_some, List.length_append, binV_sneq, decide_true]))
        refine wCntH rfl 24 (keepL k l left).length (fun _ => []) (fun j => [some (Blk.arr 2 [[V.int IntKind.u8 k, tl mrow 1 l none]]), some (Blk.arr 2 [[V.int IntKind.u8 k, tl mrow 1 l none]]), some (Blk.arr 1 []), some (Blk.arr 1 (List.map mrow l)), some (Blk.arr 1 (List.map mrow (spoilt (keepL k l left ++ keepT k l left) j))), some (Blk.arr 2 [[V.int IntKind.u8 k, V.ref 4 1 0 (keepL k l left).length none]]), some (Blk.arr 2 [[V.int IntKind.u8 k, tl mrow t1 (keepL k l left) c1]]), some (Blk.arr 2 [[V.int IntKind.u8 0, tl mrow 0 [] (some 0)]]), some (Blk.arr 2 [[V.int IntKind.u8 0, tl mrow t2 [] c2]]), some (Blk.arr 2 [[V.int IntKind.u8 k3, tl mrow t0 l3 c0]]), some (Blk.arr 2 [[V.int IntKind.u8 k3, tl mrow t9 l3 c9]])]) (fun _ => True) rfl (by rw [spoilt_zero]) trivial ?_ ?_
        · intro j hj _
          obtain ⟨x, hx, _⟩ := get_of (l := (keepL k l left ++ keepT k l left)) (i := j) (by first | exact hj | (rw [List.length_append]; omega))
          have g1 := spoilt_get hx
          have g2 := spoilt_set (List.getElem?_eq_some_iff.1 hx).1
          have w1 := wrap_succ (show j < 9223372036854775807 by omega)
          (repeat' (first | refine wSeq rfl ?_ | refine wBlock rfl ?_ | refine wSkip rfl ?_ | refine wExit rfl ?_ | refine wRet rfl ?_ | refine wCondT rfl rfl ?_ | refine wCondF rfl rfl ?_ | refine wOps rfl ?_ | refine wDraw rfl rfl ?_ | simp only [seval, push_cast, ↓reduceIte, ↓bP_some, ↓aP_true, reduceCtorEq, hj, g1, mrow_set, g2, w1]))
          exact qR_n rfl rfl trivial
        intro _
        (repeat' (first | refine wSeq rfl ?_ | refine wBlock rfl ?_ | refine wSkip rfl ?_ | refine wExit rfl ?_ | refine wRet rfl ?_ | refine wCondT rfl rfl ?_ | refine wCondF rfl rfl ?_ | refine wOps rfl ?_ | refine wDraw rfl rfl ?_ | simp only [seval, push_cast, ↓reduceIte, ↓bP_some, ↓aP_true, reduceCtorEq, List.length_nil]))
        refine wCnt rfl 25 0 (fun _ => []) (fun _ => True) rfl trivial (fun j hj => absurd hj (by omega)) (fun _ => ?_)
        (repeat' (first | refine wSeq rfl ?_ | refine wBlock rfl ?_ | refine wSkip rfl ?_ | refine wExit rfl ?_ | refine wRet rfl ?_ | refine wCondT rfl rfl ?_ | refine wCondF rfl rfl ?_ | refine wOpsP rfl ?_ | refine wDraw rfl rfl ?_ | simp only [seval, push_cast, ↓reduceIte, ↓bP_some, ↓aP_true, reduceCtorEq, List.length_nil]))
        refine opsP_bor [3] rfl (vs' := [tl mrow 1 l none, tl mrow 1 l none]) (congrArg (fun v => [tl mrow 1 l none, v]) (frz_ref (l := l) closed_mrow (by decide) rfl rfl)) hin2 rfl ?_
        (repeat' (first | refine wSeq rfl ?_ | refine wBlock rfl ?_ | refine wSkip rfl ?_ | refine wExit rfl ?_ | refine wRet rfl ?_ | refine wCondT rfl rfl ?_ | refine wCondF rfl rfl ?_ | refine wOpsP rfl ?_ | refine wDrawM [] rfl rfl ?_ | refine opsV_call rfl rfl (hw) ?_ | refine opsP_call rfl (hw) ?_ | simp only [seval, push_cast, ↓reduceIte, ↓bP_some, ↓aP_true, reduceCtorEq]))
        exact FnQ.ret rfl rfl
      | true =>
        cases hf : fineL k l p.length with
        | false =>
          have hrm := rename_e2 hL k 1 1 l p none none ht hf (.inl rfl) hl2 (.inl rfl) hp2
          have hri : renameL k l p = ((0, []), 8) := by unfold renameL; rw [if_neg (by rw [ht]; simp), if_pos hf]
          rw [hri] at hr2 ht2
          dsimp only at hr2 ht2
          have hrs := rsame_v hL 0 0 0 t2 [] [] (some 0) c2 (.inr rfl) ht2 (by decide) (by decide)
          rw [same_self] at hrs
          (repeat' (first | refine wSeq rfl ?_ | refine wBlock rfl ?_ | refine wSkip rfl ?_ | refine wExit rfl ?_ | refine wRet rfl ?_ | refine wCondT rfl rfl ?_ | refine wCondF rfl rfl ?_ | refine wOpsP rfl ?_ | refine wDrawM [21] rfl rfl ?_ | refine opsV_call (k := 22) rfl rfl (hk1) ?_ | refine opsP_call (k := 22) rfl (hk1) ?_ | simp only [seval, push_cast, ↓reduceIte, ↓bP_some, ↓aP_true, reduceCtorEq, hle, hpe, hse, rowsOf_tl, hne', hroom, ren_up_ref, ren_tl closed_mrow]))
          refine wDrawD rfl ?_
          refine dops_op rfl rfl rfl rfl rfl ?_
          refine dops_op rfl rfl rfl rfl rfl ?_
          refine dops_make rfl rfl rfl hkm rfl ?_
          refine dops_op rfl rfl rfl rfl rfl ?_
          refine dops_op rfl rfl rfl rfl rfl ?_
          refine dops_call rfl rfl rfl hk1 rfl ?_
          refine dops_op rfl rfl rfl rfl rfl ?_
          refine dops_op rfl rfl rfl rfl rfl ?_
          refine dops_op rfl rfl rfl rfl rfl ?_
          refine dops_op rfl rfl rfl rfl rfl ?_
          refine dops_nil ?_
          simp only [seval, push_cast, ↓reduceIte, ↓bP_some, ↓aP_true, reduceCtorEq, happ_eq, upds_nil, upds_cons, ren_up_ref, ren_tl closed_mrow, ren_agg, ren_tup, ren_int, ren_bool, ren_str, ren_lst, ren_tls, List.map_cons, List.map_nil, Option.map_some, List.length_append]
          (repeat' (first | refine wSeq rfl ?_ | refine wBlock rfl ?_ | refine wSkip rfl ?_ | refine wExit rfl ?_ | refine wRet rfl ?_ | refine wCondT rfl rfl ?_ | refine wCondF rfl rfl ?_ | refine wOpsP rfl ?_ | refine wDrawM [] rfl rfl ?_ | refine opsV_call (k := 22) rfl rfl (hk1) ?_ | refine opsP_call (k := 22) rfl (hk1) ?_ | refine opsV_call (k := 23) rfl rfl (hrm) ?_ | refine opsP_call (k := 23) rfl (hrm) ?_ | refine opsV_call (k := 24) rfl rfl (hr2) ?_ | refine opsP_call (k := 24) rfl (hr2) ?_ | refine opsV_call (k := 25) rfl rfl (htx) ?_ | refine opsP_call (k := 25) rfl (htx) ?_ | refine opsV_call (k := 26) rfl rfl (hrt) ?_ | refine opsP_call (k := 26) rfl (hrt) ?_ | refine opsV_call (k := 27) rfl rfl (hr0) ?_ | refine opsP_call (k := 27) rfl (hr0) ?_ | refine opsV_call (k := 28) rfl rfl (hr9) ?_ | refine opsP_call (k := 28) rfl (hr9) ?_ | simp only [seval, push_cast, ↓reduceIte, ↓bP_some, ↓aP_true, reduceCtorEq, happ_eq, upds_nil, upds_cons, ren_up_ref, ren_tl closed_mrow, ren_agg, ren_tup, ren_int, ren_bool, ren_str, ren_lst, ren_tls, List.map_cons, List.map_nil, Option.map_some, List.length_append]))
          refine opsP_bor [4] rfl (vs' := [(.agg [.int .u8 k, tl mrow 1 (keepL k l left) none]), (.agg [.int .u8 k, tl mrow t1 (keepL k l left) c1])]) (congrArg (fun v => [V.agg [V.int IntKind.u8 k, v], (.agg [.int .u8 k, tl mrow t1 (keepL k l left) c1])]) (frz_part (t := keepT k l left) closed_mrow (by decide) rfl rfl)) hks rfl ?_
          (repeat' (first | refine wSeq rfl ?_ | refine wBlock rfl ?_ | refine wSkip rfl ?_ | refine wExit rfl ?_ | refine wRet rfl ?_ | refine wCondT rfl rfl ?_ | refine wCondF rfl rfl ?_ | refine wOpsP rfl ?_ | refine wDrawM [] rfl rfl ?_ | refine opsV_call rfl rfl (hsr) ?_ | refine opsP_call rfl (hsr) ?_ | simp only [seval, push_cast, ↓reduceIte, ↓bP_some, ↓aP_true, reduceCtorEq, happ_eq, upds_nil, upds_cons, ren_up_ref, ren_tl closed_mrow, ren_agg, ren_tup, ren_int, ren_bool, ren_str, ren_lst, ren_tls, List.map_cons, List.map_nil, Option.map_some, List.length_append]))
          (repeat' (first | refine wSeq rfl ?_ | refine wBlock rfl ?_ | refine wSkip rfl ?_ | refine wExit rfl ?_ | refine wRet rfl ?_ | refine wCondT rfl rfl ?_ | refine wCondF rfl rfl ?_ | refine wOpsP rfl ?_ | refine wDrawM [] rfl rfl ?_ | refine opsV_call rfl rfl (hks) ?_ | refine opsP_call rfl (hks) ?_ | refine opsV_call rfl rfl (hrs) ?_ | refine opsP_call rfl (hrs) ?_ | refine opsV_call rfl rfl (hsr) ?_ | refine opsP_call rfl (hsr) ?_ | simp only [seval, push_cast, ↓reduceIte, ↓bP_some, ↓aP_true, reduceCtorEq, happ_eq, upds_nil, upds_cons, ren_up_ref, ren_tl closed_mrow, ren_agg, ren_tup, ren_int, ren_bool, ren_str, ren_lst, ren_tls, List.map_cons, List.map_nil, Option.map_some, List.length_append, binV_sneq, decide_true]))
          refine wCntH rfl 24 (keepL k l left).length (fun _ => []) (fun j => [some (Blk.arr 2 [[V.int IntKind.u8 k, tl mrow 1 l none]]), some (Blk.arr 2 [[V.int IntKind.u8 k, tl mrow 1 l none]]), some (Blk.arr 1 []), some (Blk.arr 1 (List.map mrow l)), some (Blk.arr 1 (List.map mrow (spoilt (keepL k l left ++ keepT k l left) j))), some (Blk.arr 2 [[V.int IntKind.u8 k, V.ref 4 1 0 (keepL k l left).length none]]), some (Blk.arr 2 [[V.int IntKind.u8 k, tl mrow t1 (keepL k l left) c1]]), some (Blk.arr 2 [[V.int IntKind.u8 0, tl mrow 0 [] (some 0)]]), some (Blk.arr 2 [[V.int IntKind.u8 0, tl mrow t2 [] c2]]), some (Blk.arr 2 [[V.int IntKind.u8 k3, tl mrow t0 l3 c0]]), some (Blk.arr 2 [[V.int IntKind.u8 k3, tl mrow t9 l3 c9]])]) (fun _ => True) rfl (by rw [spoilt_zero]) trivial ?_ ?_
          · intro j hj _
            obtain ⟨x, hx, _⟩ := get_of (l := (keepL k l left ++ keepT k l left)) (i := j) (by first | exact hj | (rw [List.length_append]; omega))
            have g1 := spoilt_get hx
            have g2 := spoilt_set (List.getElem?_eq_some_iff.1 hx).1
            have w1 := wrap_succ (show j < 9223372036854775807 by omega)
            (repeat' (first | refine wSeq rfl ?_ | refine wBlock rfl ?_ | refine wSkip rfl ?_ | refine wExit rfl ?_ | refine wRet rfl ?_ | refine wCondT rfl rfl ?_ | refine wCondF rfl rfl ?_ | refine wOps rfl ?_ | refine wDraw rfl rfl ?_ | simp only [seval, push_cast, ↓reduceIte, ↓bP_some, ↓aP_true, reduceCtorEq, hj, g1, mrow_set, g2, w1]))
            exact qR_n rfl rfl trivial
          intro _
          (repeat' (first | refine wSeq rfl ?_ | refine wBlock rfl ?_ | refine wSkip rfl ?_ | refine wExit rfl ?_ | refine wRet rfl ?_ | refine wCondT rfl rfl ?_ | refine wCondF rfl rfl ?_ | refine wOps rfl ?_ | refine wDraw rfl rfl ?_ | simp only [seval, push_cast, ↓reduceIte, ↓bP_some, ↓aP_true, reduceCtorEq, List.length_nil]))
          refine wCnt rfl 25 0 (fun _ => []) (fun _ => True) rfl trivial (fun j hj => absurd hj (by omega)) (fun _ => ?_)
          (repeat' (first | refine wSeq rfl ?_ | refine wBlock rfl ?_ | refine wSkip rfl ?_ | refine wExit rfl ?_ | refine wRet rfl ?_ | refine wCondT rfl rfl ?_ | refine wCondF rfl rfl ?_ | refine wOpsP rfl ?_ | refine wDraw rfl rfl ?_ | simp only [seval, push_cast, ↓reduceIte, ↓bP_some, ↓aP_true, reduceCtorEq, List.length_nil]))
          refine opsP_bor [3] rfl (vs' := [tl mrow 1 l none, tl mrow 1 l none]) (congrArg (fun v => [tl mrow 1 l none, v]) (frz_ref (l := l) closed_mrow (by decide) rfl rfl)) hin2 rfl ?_
          (repeat' (first | refine wSeq rfl ?_ | refine wBlock rfl ?_ | refine wSkip rfl ?_ | refine wExit rfl ?_ | refine wRet rfl ?_ | refine wCondT rfl rfl ?_ | refine wCondF rfl rfl ?_ | refine wOpsP rfl ?_ | refine wDrawM [] rfl rfl ?_ | refine opsV_call rfl rfl (hw) ?_ | refine opsP_call rfl (hw) ?_ | simp only [seval, push_cast, ↓reduceIte, ↓bP_some, ↓aP_true, reduceCtorEq]))
          exact FnQ.ret rfl rfl
        | true =>
          have hrm := rename_m hL k 1 1 l p none none ht hf (.inl rfl) hl (.inl rfl) hp2
          have hri := rename_is ht hf
          have hrl0 := rename_len ht hf
          rw [hri] at hr2
          dsimp only at hr2
          clear hri
          generalize (renameL k l p).1.2 = X at *
          rw [← hrl0] at hrm
          have hrs := rsame_v hL k k 1 t2 X X (some X.length) c2 (.inl rfl) ht2 (by omega) (by omega)
          rw [same_self] at hrs
          (repeat' (first | refine wSeq rfl ?_ | refine wBlock rfl ?_ | refine wSkip rfl ?_ | refine wExit rfl ?_ | refine wRet rfl ?_ | refine wCondT rfl rfl ?_ | refine wCondF rfl rfl ?_ | refine wOpsP rfl ?_ | refine wDrawM [21] rfl rfl ?_ | refine opsV_call (k := 22) rfl rfl (hk1) ?_ | refine opsP_call (k := 22) rfl (hk1) ?_ | simp only [seval, push_cast, ↓reduceIte, ↓bP_some, ↓aP_true, reduceCtorEq, hle, hpe, hse, rowsOf_tl, hne', hroom, ren_up_ref, ren_tl closed_mrow]))
          refine wDrawD rfl ?_
          refine dops_op rfl rfl rfl rfl rfl ?_
          refine dops_op rfl rfl rfl rfl rfl ?_
          refine dops_make rfl rfl rfl hkm rfl ?_
          refine dops_op rfl rfl rfl rfl rfl ?_
          refine dops_op rfl rfl rfl rfl rfl ?_
          refine dops_call rfl rfl rfl hk1 rfl ?_
          refine dops_op rfl rfl rfl rfl rfl ?_
          refine dops_op rfl rfl rfl rfl rfl ?_
          refine dops_op rfl rfl rfl rfl rfl ?_
          refine dops_op rfl rfl rfl rfl rfl ?_
          refine dops_nil ?_
          simp only [seval, push_cast, ↓reduceIte, ↓bP_some, ↓aP_true, reduceCtorEq, happ_eq, upds_nil, upds_cons, ren_up_ref, ren_tl closed_mrow, ren_agg, ren_tup, ren_int, ren_bool, ren_str, ren_lst, ren_tls, List.map_cons, List.map_nil, Option.map_some, List.length_append]
          (repeat' (first | refine wSeq rfl ?_ | refine wBlock rfl ?_ | refine wSkip rfl ?_ | refine wExit rfl ?_ | refine wRet rfl ?_ | refine wCondT rfl rfl ?_ | refine wCondF rfl rfl ?_ | refine wOpsP rfl ?_ | refine wDrawM [] rfl rfl ?_ | refine opsV_call (k := 22) rfl rfl (hk1) ?_ | refine opsP_call (k := 22) rfl (hk1) ?_ | refine opsV_make (k := 23) rfl rfl (hrm) ?_ | (refine opsP_any (k := .fn 23) rfl ((hrm).at _) ?_; rintro _ _ ⟨rfl, rfl⟩) | refine opsV_call (k := 24) rfl rfl (hr2) ?_ | refine opsP_call (k := 24) rfl (hr2) ?_ | refine opsV_call (k := 25) rfl rfl (htx) ?_ | refine opsP_call (k := 25) rfl (htx) ?_ | refine opsV_call (k := 26) rfl rfl (hrt) ?_ | refine opsP_call (k := 26) rfl (hrt) ?_ | refine opsV_call (k := 27) rfl rfl (hr0) ?_ | refine opsP_call (k := 27) rfl (hr0) ?_ | refine opsV_call (k := 28) rfl rfl (hr9) ?_ | refine opsP_call (k := 28) rfl (hr9) ?_ | simp only [seval, push_cast, ↓reduceIte, ↓bP_some, ↓aP_true, reduceCtorEq, happ_eq, upds_nil, upds_cons, ren_up_ref, ren_tl closed_mrow, ren_agg, ren_tup, ren_int, ren_bool, ren_str, ren_lst, ren_tls, List.map_cons, List.map_nil, Option.map_some, List.length_append]))
          refine opsP_bor [4] rfl (vs' := [(.agg [.int .u8 k, tl mrow 1 (keepL k l left) none]), (.agg [.int .u8 k, tl mrow t1 (keepL k l left) c1])]) (congrArg (fun v => [V.agg [V.int IntKind.u8 k, v], (.agg [.int .u8 k, tl mrow t1 (keepL k l left) c1])]) (frz_part (t := keepT k l left) closed_mrow (by decide) rfl rfl)) hks rfl ?_
          (repeat' (first | refine wSeq rfl ?_ | refine wBlock rfl ?_ | refine wSkip rfl ?_ | refine wExit rfl ?_ | refine wRet rfl ?_ | refine wCondT rfl rfl ?_ | refine wCondF rfl rfl ?_ | refine wOpsP rfl ?_ | refine wDrawM [] rfl rfl ?_ | refine opsV_call rfl rfl (hsr) ?_ | refine opsP_call rfl (hsr) ?_ | simp only [seval, push_cast, ↓reduceIte, ↓bP_some, ↓aP_true, reduceCtorEq, happ_eq, upds_nil, upds_cons, ren_up_ref, ren_tl closed_mrow, ren_agg, ren_tup, ren_int, ren_bool, ren_str, ren_lst, ren_tls, List.map_cons, List.map_nil, Option.map_some, List.length_append]))
          refine opsP_bor [7] rfl (vs' := [(.agg [.int .u8 k, tl mrow 1 (X) (some X.length)]), (.agg [.int .u8 k, tl mrow t2 (X) c2])]) (congrArg (fun v => [V.agg [V.int IntKind.u8 k, v], (.agg [.int .u8 k, tl mrow t2 (X) c2])]) (frz_ref (l := X) closed_mrow (by decide) rfl rfl)) hrs rfl ?_
          (repeat' (first | refine wSeq rfl ?_ | refine wBlock rfl ?_ | refine wSkip rfl ?_ | refine wExit rfl ?_ | refine wRet rfl ?_ | refine wCondT rfl rfl ?_ | refine wCondF rfl rfl ?_ | refine wOpsP rfl ?_ | refine wDrawM [] rfl rfl ?_ | refine opsV_call rfl rfl (hsr) ?_ | refine opsP_call rfl (hsr) ?_ | simp only [seval, push_cast, ↓reduceIte, ↓bP_some, ↓aP_true, reduceCtorEq, happ_eq, upds_nil, upds_cons, ren_up_ref, ren_tl closed_mrow, ren_agg, ren_tup, ren_int, ren_bool, ren_str, ren_lst, ren_tls, List.map_cons, List.map_nil, Option.map_some, List.length_append, binV_sneq, decide_true]))
          refine wCntH rfl 24 (keepL k l left).length (fun _ => []) (fun j => [some (Blk.arr 2 [[V.int IntKind.u8 k, tl mrow 1 l none]]), some (Blk.arr 2 [[V.int IntKind.u8 k, tl mrow 1 l none]]), some (Blk.arr 1 []), some (Blk.arr 1 (List.map mrow l)), some (Blk.arr 1 (List.map mrow (spoilt (keepL k l left ++ keepT k l left) j))), some (Blk.arr 2 [[V.int IntKind.u8 k, V.ref 4 1 0 (keepL k l left).length none]]), some (Blk.arr 2 [[V.int IntKind.u8 k, tl mrow t1 (keepL k l left) c1]]), some (Blk.arr 1 (List.map mrow X)), some (Blk.arr 2 [[V.int IntKind.u8 k, V.ref 7 1 0 X.length (some X.length)]]), some (Blk.arr 2 [[V.int IntKind.u8 k, tl mrow t2 X c2]]), some (Blk.arr 2 [[V.int IntKind.u8 k3, tl mrow t0 l3 c0]]), some (Blk.arr 2 [[V.int IntKind.u8 k3, tl mrow t9 l3 c9]])]) (fun _ => True) rfl (by rw [spoilt_zero]) trivial ?_ ?_
          · intro j hj _
            obtain ⟨x, hx, _⟩ := get_of (l := (keepL k l left ++ keepT k l left)) (i := j) (by first | exact hj | (rw [List.length_append]; omega))
            have g1 := spoilt_get hx
            have g2 := spoilt_set (List.getElem?_eq_some_iff.1 hx).1
            have w1 := wrap_succ (show j < 9223372036854775807 by omega)
            (repeat' (first | refine wSeq rfl ?_ | refine wBlock rfl ?_ | refine wSkip rfl ?_ | refine wExit rfl ?_ | refine wRet rfl ?_ | refine wCondT rfl rfl ?_ | refine wCondF rfl rfl ?_ | refine wOps rfl ?_ | refine wDraw rfl rfl ?_ | simp only [seval, push_cast, ↓reduceIte, ↓bP_some, ↓aP_true, reduceCtorEq, hj, g1, mrow_set, g2, w1]))
            exact qR_n rfl rfl trivial
          intro _
          (repeat' (first | refine wSeq rfl ?_ | refine wBlock rfl ?_ | refine wSkip rfl ?_ | refine wExit rfl ?_ | refine wRet rfl ?_ | refine wCondT rfl rfl ?_ | refine wCondF rfl rfl ?_ | refine wOps rfl ?_ | refine wDraw rfl rfl ?_ | simp only [seval, push_cast, ↓reduceIte, ↓bP_some, ↓aP_true, reduceCtorEq, List.length_nil]))
          refine wCntH rfl 25 X.length (fun _ => []) (fun j => [some (Blk.arr 2 [[V.int IntKind.u8 k, tl mrow 1 l none]]), some (Blk.arr 2 [[V.int IntKind.u8 k, tl mrow 1 l none]]), some (Blk.arr 1 []), some (Blk.arr 1 (List.map mrow l)), some (Blk.arr 1 (List.map mrow (spoilt (keepL k l left ++ keepT k l left) (keepL k l left).length))), some (Blk.arr 2 [[V.int IntKind.u8 k, V.ref 4 1 0 (keepL k l left).length none]]), some (Blk.arr 2 [[V.int IntKind.u8 k, tl mrow t1 (keepL k l left) c1]]), some (Blk.arr 1 (List.map mrow (spoilt X j))), some (Blk.arr 2 [[V.int IntKind.u8 k, V.ref 7 1 0 X.length (some X.length)]]), some (Blk.arr 2 [[V.int IntKind.u8 k, tl mrow t2 X c2]]), some (Blk.arr 2 [[V.int IntKind.u8 k3, tl mrow t0 l3 c0]]), some (Blk.arr 2 [[V.int IntKind.u8 k3, tl mrow t9 l3 c9]])]) (fun _ => True) rfl (by rw [spoilt_zero]) trivial ?_ ?_
          · intro j hj _
            obtain ⟨x, hx, _⟩ := get_of (l := X) (i := j) (by first | exact hj | (rw [List.length_append]; omega))
            have g1 := spoilt_get hx
            have g2 := spoilt_set (List.getElem?_eq_some_iff.1 hx).1
            have w1 := wrap_succ (show j < 9223372036854775807 by omega)
            (repeat' (first | refine wSeq rfl ?_ | refine wBlock rfl ?_ | refine wSkip rfl ?_ | refine wExit rfl ?_ | refine wRet rfl ?_ | refine wCondT rfl rfl ?_ | refine wCondF rfl rfl ?_ | refine wOps rfl ?_ | refine wDraw rfl rfl ?_ | simp only [seval, push_cast, ↓reduceIte, ↓bP_some, ↓aP_true, reduceCtorEq, hj, g1, mrow_set, g2, w1]))
            exact qR_n rfl rfl trivial
          intro _
          (repeat' (first | refine wSeq rfl ?_ | refine wBlock rfl ?_ | refine wSkip rfl ?_ | refine wExit rfl ?_ | refine wRet rfl ?_ | refine wCondT rfl rfl ?_ | refine wCondF rfl rfl ?_ | refine wOpsP rfl ?_ | refine wDraw rfl rfl ?_ | simp only [seval, push_cast, ↓reduceIte, ↓bP_some, ↓aP_true, reduceCtorEq, List.length_nil]))
          refine opsP_bor [3] rfl (vs' := [tl mrow 1 l none, tl mrow 1 l none]) (congrArg (fun v => [tl mrow 1 l none, v]) (frz_ref (l := l) closed_mrow (by decide) rfl rfl)) hin2 rfl ?_
          (repeat' (first | refine wSeq rfl ?_ | refine wBlock rfl ?_ | refine wSkip rfl ?_ | refine wExit rfl ?_ | refine wRet rfl ?_ | refine wCondT rfl rfl ?_ | refine wCondF rfl rfl ?_ | refine wOpsP rfl ?_ | refine wDrawM [] rfl rfl ?_ | refine opsV_call rfl rfl (hw) ?_ | refine opsP_call rfl (hw) ?_ | simp only [seval, push_cast, ↓reduceIte, ↓bP_some, ↓aP_true, reduceCtorEq]))
          exact FnQ.ret rfl rfl
omit hL
end Go.Proofs.YtnhfbabenifbkaaGreatDoor
