/- What layer 8 computes, as plain functions on lists of numbers; laws about them. Nothing of the program is named here. · Laws about what layer 8 computes. Nothing of the program is named here. · More laws about what layer 8 computes. Nothing of the program is named here. · Ballots as texts. Nothing of the program is named here. · Plain laws of what is kept of a ballot. · Sorted lists and permutations. Nothing of the program is named here. · Plain laws of permutations and of sorted lists. · Plain laws of renaming a ballot. · Outcomes: seats, renaming, comparing, as plain functions. Nothing of the program is named here. -/
import Derived.Lib.ItoaNum
import Derived.Test.YtaehkmmlacpleaaM1
import Derived.Test.YtaehkmmlacpleaaM2
set_option linter.unusedVariables false
namespace Go.Proofs.Ytaehkmmlacpleaa
/-- The place of a number, or -1. -/
def placeL : List Int → Int → Int
  | [], _ => -1
  | a :: r, x => if a = x then 0 else if placeL r x < 0 then -1 else placeL r x + 1
def turnedL (p : List Int) : Bool := decide (1 ≤ p.length ∧ p.length ≤ 10) && (List.range p.length).all fun i => decide ((i : Int) ∈ p)
/-- A permutation's image of a number. -/
def imL (p : List Int) (m : Int) : Int := p[m.toNat]?.getD 0
end Go.Proofs.Ytaehkmmlacpleaa
set_option linter.unusedVariables false
namespace Go.Proofs.Ytaehkmmlacpleaa

theorem place_nonneg : ∀ (l : List Int) (x : Int), 0 ≤ placeL l x ↔ x ∈ l
  | [], x => by simp [placeL]
  | a :: r, x => by
    rw [placeL, List.mem_cons]
    by_cases h : a = x
    · rw [if_pos h]; simp [h]
    · rw [if_neg h]
      have ih := place_nonneg r x
      by_cases h2 : placeL r x < 0
      · rw [if_pos h2]
        constructor
        · intro h3; omega
        · rintro (h3 | h3)
          · exact absurd h3.symm h
          · have := ih.2 h3; omega
      · rw [if_neg h2]
        constructor
        · intro _; exact .inr (ih.1 (by omega))
        · intro _; omega
theorem place_get : ∀ (l : List Int) (x : Int), x ∈ l → l[(placeL l x).toNat]? = some x
  | [], x, h => by cases h
  | a :: r, x, h => by
    rw [placeL]
    by_cases e : a = x
    · rw [if_pos e]; simp [e]
    · rw [if_neg e]
      have hr : x ∈ r := by
        rcases List.mem_cons.1 h with h | h
        · exact absurd h.symm e
        · exact h
      have h0 := (place_nonneg r x).2 hr
      rw [if_neg (by omega), show (placeL r x + 1).toNat = (placeL r x).toNat + 1 by omega, List.getElem?_cons_succ]
      exact place_get r x hr
/- Validity, read from the front. -/
/- The favorite by scores. -/
end Go.Proofs.Ytaehkmmlacpleaa
set_option linter.unusedVariables false
namespace Go.Proofs.Ytaehkmmlacpleaa

end Go.Proofs.Ytaehkmmlacpleaa
set_option linter.unusedVariables false
namespace Go.Proofs.Ytaehkmmlacpleaa
end Go.Proofs.Ytaehkmmlacpleaa
set_option linter.unusedVariables false
set_option linter.unusedSimpArgs false
namespace Go.Proofs.Ytaehkmmlacpleaa
end Go.Proofs.Ytaehkmmlacpleaa
set_option linter.unusedVariables false
set_option linter.unusedSimpArgs false
namespace Go.Proofs.Ytaehkmmlacpleaa
theorem pw_at {m : List Int} (hs : m.Pairwise (· ≤ ·)) {i j : Nat} {x y : Int} (hij : i ≤ j) (hx : m[i]? = some x) (hy : m[j]? = some y) : x ≤ y := by
  obtain ⟨h1, rfl⟩ := List.getElem?_eq_some_iff.1 hx
  obtain ⟨h2, rfl⟩ := List.getElem?_eq_some_iff.1 hy
  by_cases e : i = j
  · subst e; exact Int.le_refl _
  · exact List.pairwise_iff_getElem.1 hs i j h1 h2 (by omega)
/-- Sorted numbers among which all up to their count are: each is at least its place. -/
theorem up_place {m : List Int} (hs : m.Pairwise (· ≤ ·)) (ha : ∀ i : Nat, i < m.length → (i : Int) ∈ m) : ∀ (d v : Nat) (x : Int), v + d = m.length → m[v]? = some x → (v : Int) ≤ x
  | 0, v, x, h, hx => by
    have := (List.getElem?_eq_some_iff.1 hx).1
    omega
  | d + 1, v, x, h, hx => by
    obtain ⟨i, hi⟩ := List.mem_iff_getElem?.1 (ha v (by omega))
    by_cases hiv : i ≤ v
    · exact pw_at hs hiv hi hx
    · have h2 := (List.getElem?_eq_some_iff.1 hi).1
      have key : ∀ (e w : Nat) (z : Int), w + e = m.length → v < w → m[w]? = some z → (w : Int) ≤ z := fun e w z h3 h4 h5 => by
        have : e ≤ d := by omega
        exact up_place hs ha e w z h3 h5
      have := key (m.length - i) i v (by omega) (by omega) hi
      omega
termination_by d => d
theorem turned_at {m : List Int} {j : Nat} {x : Int} (hs : m.Pairwise (· ≤ ·)) (ha : ∀ i : Nat, i < m.length → (i : Int) ∈ m) (hI : ∀ i : Nat, i < j → m[i]? = some (i : Int)) (hx : m[j]? = some x) : x = (j : Int) := by
  have hj := (List.getElem?_eq_some_iff.1 hx).1
  have h1 := up_place hs ha (m.length - j) j x (by omega) hx
  obtain ⟨i, hi⟩ := List.mem_iff_getElem?.1 (ha j hj)
  by_cases hij : i < j
  · have := hI i hij
    rw [hi] at this
    have := Option.some.inj this
    omega
  · have := pw_at hs (show j ≤ i by omega) hx hi
    omega
theorem turned_bad {p m : List Int} {j : Nat} {x : Int} (hp : m.Perm p) (hs : m.Pairwise (· ≤ ·)) (hI : ∀ i : Nat, i < j → m[i]? = some (i : Int)) (hx : m[j]? = some x) (hne : x ≠ (j : Int)) : turnedL p = false := by
  cases ht : turnedL p with
  | false => rfl
  | true =>
    exfalso
    unfold turnedL at ht
    rw [Bool.and_eq_true, List.all_eq_true] at ht
    refine hne (turned_at hs (fun i hi => ?_) hI hx)
    have := ht.2 i (by rw [List.mem_range, ← hp.length_eq]; exact hi)
    exact hp.mem_iff.2 (of_decide_eq_true this)
theorem turned_good {p m : List Int} (hp : m.Perm p) (h1 : 1 ≤ p.length ∧ p.length ≤ 10) (hI : ∀ i : Nat, i < p.length → m[i]? = some (i : Int)) : turnedL p = true := by
  unfold turnedL
  rw [Bool.and_eq_true, List.all_eq_true]
  refine ⟨decide_eq_true h1, fun i hi => decide_eq_true ?_⟩
  exact hp.mem_iff.1 (List.mem_of_getElem? (hI i (List.mem_range.1 hi)))
end Go.Proofs.Ytaehkmmlacpleaa
set_option linter.unusedVariables false
set_option linter.unusedSimpArgs false
namespace Go.Proofs.Ytaehkmmlacpleaa
theorem sorted_of (p : List Int) : ∃ m : List Int, m.Perm p ∧ m.Pairwise (· ≤ ·) := by
  refine ⟨p.mergeSort (fun a b => decide (a ≤ b)), List.mergeSort_perm p _, ?_⟩
  have := List.pairwise_mergeSort (le := fun (a b : Int) => decide (a ≤ b)) (fun a b c h1 h2 => by simp at *; omega) (fun a b => by simp; omega) p
  exact this.imp (fun h => of_decide_eq_true h)
/-- A permutation's numbers are in order 0, 1, .. -/
theorem turned_all {p m : List Int} (ht : turnedL p = true) (hp : m.Perm p) (hs : m.Pairwise (· ≤ ·)) : ∀ j : Nat, j < p.length → m[j]? = some (j : Int) := by
  unfold turnedL at ht
  rw [Bool.and_eq_true, List.all_eq_true] at ht
  have ha : ∀ i : Nat, i < m.length → (i : Int) ∈ m := fun i hi => hp.mem_iff.2 (of_decide_eq_true (ht.2 i (by rw [List.mem_range, ← hp.length_eq]; exact hi)))
  intro j
  induction j using Nat.strongRecOn with
  | ind j ih =>
    intro hj
    obtain ⟨x, hx, _⟩ := get_of (show j < m.length by rw [hp.length_eq]; exact hj)
    rw [hx, turned_at hs ha (fun i hi => ih i hi (by omega)) hx]
theorem turned_nodup {p : List Int} (ht : turnedL p = true) : p.Nodup := by
  obtain ⟨m, hp, hs⟩ := sorted_of p
  refine hp.nodup_iff.1 ?_
  rw [List.nodup_iff_pairwise_ne, List.pairwise_iff_getElem]
  intro i j hi hj hij e
  have h1 := turned_all ht hp hs i (by rw [← hp.length_eq]; exact hi)
  have h2 := turned_all ht hp hs j (by rw [← hp.length_eq]; exact hj)
  rw [List.getElem?_eq_getElem hi] at h1
  rw [List.getElem?_eq_getElem hj] at h2
  have e1 := Option.some.inj h1
  have e2 := Option.some.inj h2
  omega
theorem turned_range {p : List Int} (ht : turnedL p = true) {x : Int} (hx : x ∈ p) : 0 ≤ x ∧ x < p.length := by
  obtain ⟨m, hp, hs⟩ := sorted_of p
  obtain ⟨j, hj⟩ := List.mem_iff_getElem?.1 (hp.mem_iff.2 hx)
  have hl := (List.getElem?_eq_some_iff.1 hj).1
  rw [hp.length_eq] at hl
  rw [turned_all ht hp hs j hl] at hj
  have := Option.some.inj hj
  omega
theorem turned_len {p : List Int} (ht : turnedL p = true) : 1 ≤ p.length ∧ p.length ≤ 10 := by
  unfold turnedL at ht
  rw [Bool.and_eq_true] at ht
  exact of_decide_eq_true ht.1
theorem nodup_at {p : List Int} (hd : p.Nodup) {i j : Nat} {x : Int} (hi : p[i]? = some x) (hj : p[j]? = some x) : i = j := by
  obtain ⟨h1, e1⟩ := List.getElem?_eq_some_iff.1 hi
  obtain ⟨h2, e2⟩ := List.getElem?_eq_some_iff.1 hj
  rw [List.nodup_iff_pairwise_ne, List.pairwise_iff_getElem] at hd
  rcases Nat.lt_trichotomy i j with h | h | h
  · exact absurd (e1.trans e2.symm) (hd i j h1 h2 h)
  · exact h
  · exact absurd (e2.trans e1.symm) (hd j i h2 h1 h)
theorem place_nodup {p : List Int} (hd : p.Nodup) {i : Nat} {x : Int} (hi : p[i]? = some x) : placeL p x = (i : Int) := by
  have hm := List.mem_of_getElem? hi
  have h0 := (place_nonneg p x).2 hm
  have := nodup_at hd (place_get p x hm) hi
  omega
theorem turned_mem {p : List Int} (ht : turnedL p = true) {i : Nat} (hi : i < p.length) : (i : Int) ∈ p := by
  unfold turnedL at ht
  rw [Bool.and_eq_true, List.all_eq_true] at ht
  exact of_decide_eq_true (ht.2 i (List.mem_range.2 hi))
end Go.Proofs.Ytaehkmmlacpleaa
set_option linter.unusedVariables false
set_option linter.unusedSimpArgs false
namespace Go.Proofs.Ytaehkmmlacpleaa
end Go.Proofs.Ytaehkmmlacpleaa
set_option linter.unusedVariables false
namespace Go.Proofs.Ytaehkmmlacpleaa
instance : Inhabited Rt := ⟨⟨false, none, none⟩⟩
def seatsGo (n : Int) : List Int → List Int → Option (List Int)
  | [], acc => some acc
  | c :: r, acc => if c < 0 ∨ n ≤ c then none else seatsGo n r (acc.set c.toNat (acc.getD c.toNat 0 + 1))
def seatsL (el : List Int) (n : Int) : Option (List Int) := if n < 1 ∨ 10 < n then none else seatsGo n el (List.replicate n.toNat 0)
def ofL (l : List Int) (n : Int) : Bool := l.all fun c => decide (0 ≤ c ∧ c < n)
def ofRd (d : Rd) (n : Int) : Bool := decide ((d.had.l.length : Int) = n) && ofL d.el.l n && ofL d.out.l n
def ofTi (t : Ti) (n : Int) : Bool := ofL t.among.l n && ofL [t.chosen] n
def fitsO (o : Oc) (n : Int) : Bool := ofL o.el.l n && (o.rounds.l.all fun d => ofRd d n) && (o.ties.l.all fun t => ofTi t n)
/-- Numbers from 0 to 9 in order. -/
def risingL (l : List Int) : List Int := (List.range 10).flatMap fun (n : Nat) => l.filter fun x => decide (x = (n : Int))
def hadP (p : List Int) (l : List Rt) : List Rt := (List.range p.length).map fun (c : Nat) => l.getD (placeL p (c : Int)).toNat default
def renRd (p : List Int) (d : Rd) : Rd := { had := some (hadP p d.had.l), lost := d.lost, el := d.el.map (·.map (imL p)), out := d.out.map (·.map (imL p)) }
def renTi (p : List Int) (t : Ti) : Ti := { among := t.among.map (fun l => risingL (l.map (imL p))), chosen := imL p t.chosen }
def renO (p : List Int) (o : Oc) : Oc := { el := o.el.map (·.map (imL p)), rounds := o.rounds.map (·.map (renRd p)), ties := o.ties.map (·.map (renTi p)) }
def zeroO : Oc := ⟨none, none, none⟩
def renL (o : Oc) (p : List Int) : Oc × Int := if turnedL p = true ∧ fitsO o p.length = true then (renO p o, 0) else (zeroO, 2)
/-- What outcomes hold, whether nil or empty. -/
abbrev ErRt := Bool × List Int × List Int
abbrev ErRd := List ErRt × ErRt × List Int × List Int
instance decRt : DecidableEq ErRt := inferInstance
instance decRd : DecidableEq ErRd := inferInstance
def erRt (r : Rt) : ErRt := (r.neg, r.num.l, r.den.l)
def erRd (d : Rd) : ErRd := (d.had.l.map erRt, erRt d.lost, d.el.l, d.out.l)
def erTi (t : Ti) : List Int × Int := (t.among.l, t.chosen)
abbrev ErOc := List Int × List ErRd × List (List Int × Int)
def erOc (o : Oc) : ErOc := (o.el.l, o.rounds.l.map erRd, o.ties.l.map erTi)
def sameRt (a b : Rt) : Bool := decide (erRt a = erRt b)
def sameRd (a b : Rd) : Bool := decide (erRd a = erRd b)
def sameTi (a b : Ti) : Bool := decide (erTi a = erTi b)
def sameO (a b : Oc) : Bool := decide (a.el.l = b.el.l) && decide (a.rounds.l.map erRd = b.rounds.l.map erRd) && decide (a.ties.l.map erTi = b.ties.l.map erTi)
theorem sameO_iff {a b : Oc} : sameO a b = true ↔ erOc a = erOc b := by
  unfold sameO erOc
  simp only [Bool.and_eq_true, decide_eq_true_eq, Prod.mk.injEq, and_assoc]
theorem sameO_refl (a : Oc) : sameO a a = true := sameO_iff.2 rfl
theorem l_map {α β : Type} {o : Nl α} {f : List α → List β} (h : f [] = []) : Nl.l (o.map f) = f o.l := by cases o <;> simp [Nl.l, h]
theorem list_ne {α β : Type} {e : α → β} {a b : List α} {i : Nat} {x y : α} (ha : a[i]? = some x) (hb : b[i]? = some y) (h : e x ≠ e y) : a.map e ≠ b.map e := fun he => by
  have := congrArg (fun l => l[i]?) he
  simp only [List.getElem?_map, ha, hb, Option.map_some, Option.some.injEq] at this
  exact h this
theorem ofL_iff {l : List Int} {n : Int} : ofL l n = true ↔ ∀ x ∈ l, 0 ≤ x ∧ x < n := by
  unfold ofL
  simp only [List.all_eq_true, decide_eq_true_eq]
theorem rising_perm {l : List Int} (h : ∀ x ∈ l, 0 ≤ x ∧ x < 10) : (risingL l).Perm l ∧ (risingL l).Pairwise (· ≤ ·) := by
  have cnt : ∀ (k : Nat) (x : Int), ((List.range k).flatMap fun (n : Nat) => l.filter fun x => decide (x = (n : Int))).count x = if 0 ≤ x ∧ x < (k : Int) then l.count x else 0 := by
    intro k x
    induction k with
    | zero => simp; omega
    | succ k ih =>
      rw [List.range_succ, List.flatMap_append, List.count_append, ih]
      simp only [List.flatMap_cons, List.flatMap_nil, List.append_nil]
      by_cases hx : x = (k : Int)
      · subst hx
        rw [if_neg (by omega), if_pos (by omega), List.count_filter (by simp)]
        omega
      · have : (l.filter fun x => decide (x = (k : Int))).count x = 0 := by
          rw [List.count_eq_zero]
          intro hm
          have := (List.mem_filter.1 hm).2
          simp at this
          exact hx this
        rw [this, Nat.add_zero]
        by_cases h1 : 0 ≤ x ∧ x < (k : Int)
        · rw [if_pos h1, if_pos (by omega)]
        · rw [if_neg h1, if_neg (by omega)]
  constructor
  · rw [List.perm_iff_count]
    intro x
    unfold risingL
    rw [cnt 10 x]
    by_cases hx : 0 ≤ x ∧ x < (10 : Nat)
    · rw [if_pos hx]
    · rw [if_neg hx]
      exact (List.count_eq_zero.2 (fun hm => hx (h x hm))).symm
  · have srt : ∀ (k : Nat), (((List.range k).flatMap fun (n : Nat) => l.filter fun x => decide (x = (n : Int))).Pairwise (· ≤ ·)) ∧ ∀ x ∈ ((List.range k).flatMap fun (n : Nat) => l.filter fun x => decide (x = (n : Int))), x < k := by
      intro k
      induction k with
      | zero => simp
      | succ k ih =>
        rw [List.range_succ, List.flatMap_append]
        simp only [List.flatMap_cons, List.flatMap_nil, List.append_nil]
        have hk : ∀ x ∈ (l.filter fun x => decide (x = (k : Int))), x = (k : Int) := fun x hx => by simpa using (List.mem_filter.1 hx).2
        refine ⟨List.pairwise_append.2 ⟨ih.1, ?_, fun a ha b hb => ?_⟩, fun x hx => ?_⟩
        · refine List.pairwise_iff_forall_sublist.2 (fun {a b} hs => ?_)
          have h1 := hk a (hs.subset (by simp))
          have h2 := hk b (hs.subset (by simp))
          omega
        · have h1 := ih.2 a ha
          have h2 := hk b hb
          omega
        · rcases List.mem_append.1 hx with hx | hx
          · have := ih.2 x hx; omega
          · have := hk x hx; omega
    exact (srt 10).1
theorem rising_eq {l m : List Int} (h : ∀ x ∈ l, 0 ≤ x ∧ x < 10) (hp : l.Perm m) (hs : m.Pairwise (· ≤ ·)) : m = risingL l := by
  obtain ⟨h1, h2⟩ := rising_perm h
  exact List.Perm.eq_of_pairwise (fun a b _ _ h1 h2 => Int.le_antisymm h1 h2) hs h2 (hp.symm.trans h1.symm)
theorem had_len (p : List Int) (l : List Rt) : (hadP p l).length = p.length := by simp [hadP]
/-- What is laid at each candidate's new number is the list renamed. -/
theorem had_eq {p : List Int} (ht : turnedL p = true) {l q : List Rt} (hq : q.length = p.length) (hl : l.length = p.length) (h : ∀ (c : Nat) (m : Nat) (x : Rt), p[c]? = some (m : Int) → l[c]? = some x → q[m]? = some x) : q = hadP p l := by
  apply List.ext_getElem?
  intro m
  by_cases hm : m < p.length
  · have hmem := turned_mem ht hm
    obtain ⟨c, hc⟩ := List.mem_iff_getElem?.1 hmem
    have hcl := (List.getElem?_eq_some_iff.1 hc).1
    have hx : l[c]? = some (l[c]'(by omega)) := List.getElem?_eq_getElem _
    rw [h c m _ hc hx]
    unfold hadP
    rw [List.getElem?_map, List.getElem?_range hm, Option.map_some, place_nodup (turned_nodup ht) hc]
    simp [hx]
  · rw [List.getElem?_eq_none (by omega), List.getElem?_eq_none (by rw [had_len]; omega)]
theorem had_at {p : List Int} (ht : turnedL p = true) {l : List Rt} (hl : l.length = p.length) {c m : Nat} {x : Rt} (hc : p[c]? = some (m : Int)) (hx : l[c]? = some x) : (hadP p l)[m]? = some x := by
  have hm : m < p.length := by
    have := turned_range ht (List.mem_of_getElem? hc); omega
  unfold hadP
  rw [List.getElem?_map, List.getElem?_range hm, Option.map_some, place_nodup (turned_nodup ht) hc]
  simp [hx]
end Go.Proofs.Ytaehkmmlacpleaa
