/- What layer 8 computes, as plain functions on lists of numbers; laws about them. Nothing of the program is named here. · Laws about what layer 8 computes. Nothing of the program is named here. · More laws about what layer 8 computes. Nothing of the program is named here. · Ballots as texts. Nothing of the program is named here. · Plain laws of what is kept of a ballot. · Sorted lists and permutations. Nothing of the program is named here. · Plain laws of permutations and of sorted lists. · Plain laws of renaming a ballot. · Outcomes: seats, renaming, comparing, as plain functions. Nothing of the program is named here. · Outcomes: renaming by a permutation and then by its inverse; what renaming does to seats. Nothing of the program is named here. -/
import Derived.Lib.ItoaNum
import Derived.Test.YtkpfhnicdlgjiaaGreatM1
import Derived.Test.YtkpfhnicdlgjiaaGreatM2
set_option linter.unusedVariables false
namespace Go.Proofs.YtkpfhnicdlgjiaaGreat
/-- The place of a number, or -1. -/
def placeL : List Int → Int → Int
  | [], _ => -1
  | a :: r, x => if a = x then 0 else if placeL r x < 0 then -1 else placeL r x + 1
def turnedL (p : List Int) : Bool := decide (1 ≤ p.length ∧ p.length ≤ 10) && (List.range p.length).all fun i => decide ((i : Int) ∈ p)
/-- A permutation's image of a number. -/
def imL (p : List Int) (m : Int) : Int := p[m.toNat]?.getD 0
end Go.Proofs.YtkpfhnicdlgjiaaGreat
set_option linter.unusedVariables false
namespace Go.Proofs.YtkpfhnicdlgjiaaGreat

theorem place_nonneg : ∀ (l : List Int) (x : Int), 0 ≤ placeL l x ↔ x ∈ l
  | [], x => by simp [placeL]
  | a :: r, x => by
    rw [placeL, List.mem_cons]
    by_cases h : a = x
    · rw [if_pos h]; simp [h]
    · rw [if_neg h]
      have ih := place_nonneg r x
      by_cases h2 : placeL r x < 0
      · rw [if_pos h2]
        constructor
        · intro h3; omega
        · rintro (h3 | h3)
          · exact absurd h3.symm h
          · have := ih.2 h3; omega
      · rw [if_neg h2]
        constructor
        · intro _; exact .inr (ih.1 (by omega))
        · intro _; omega
theorem place_get : ∀ (l : List Int) (x : Int), x ∈ l → l[(placeL l x).toNat]? = some x
  | [], x, h => by cases h
  | a :: r, x, h => by
    rw [placeL]
    by_cases e : a = x
    · rw [if_pos e]; simp [e]
    · rw [if_neg e]
      have hr : x ∈ r := by
        rcases List.mem_cons.1 h with h | h
        · exact absurd h.symm e
        · exact h
      have h0 := (place_nonneg r x).2 hr
      rw [if_neg (by omega), show (placeL r x + 1).toNat = (placeL r x).toNat + 1 by omega, List.getElem?_cons_succ]
      exact place_get r x hr
theorem place_lt (l : List Int) (x : Int) : placeL l x < l.length := by
  rcases Decidable.em (x ∈ l) with h | h
  · have := (List.getElem?_eq_some_iff.1 (place_get l x h)).1
    have := (place_nonneg l x).2 h
    omega
  · have := mt (place_nonneg l x).1 h; omega

/- Validity, read from the front. -/
/- The favorite by scores. -/
end Go.Proofs.YtkpfhnicdlgjiaaGreat
set_option linter.unusedVariables false
namespace Go.Proofs.YtkpfhnicdlgjiaaGreat

end Go.Proofs.YtkpfhnicdlgjiaaGreat
set_option linter.unusedVariables false
namespace Go.Proofs.YtkpfhnicdlgjiaaGreat
end Go.Proofs.YtkpfhnicdlgjiaaGreat
set_option linter.unusedVariables false
set_option linter.unusedSimpArgs false
namespace Go.Proofs.YtkpfhnicdlgjiaaGreat
end Go.Proofs.YtkpfhnicdlgjiaaGreat
set_option linter.unusedVariables false
set_option linter.unusedSimpArgs false
namespace Go.Proofs.YtkpfhnicdlgjiaaGreat
theorem pw_at {m : List Int} (hs : m.Pairwise (· ≤ ·)) {i j : Nat} {x y : Int} (hij : i ≤ j) (hx : m[i]? = some x) (hy : m[j]? = some y) : x ≤ y := by
  obtain ⟨h1, rfl⟩ := List.getElem?_eq_some_iff.1 hx
  obtain ⟨h2, rfl⟩ := List.getElem?_eq_some_iff.1 hy
  by_cases e : i = j
  · subst e; exact Int.le_refl _
  · exact List.pairwise_iff_getElem.1 hs i j h1 h2 (by omega)
/-- Sorted numbers among which all up to their count are: each is at least its place. -/
theorem up_place {m : List Int} (hs : m.Pairwise (· ≤ ·)) (ha : ∀ i : Nat, i < m.length → (i : Int) ∈ m) : ∀ (d v : Nat) (x : Int), v + d = m.length → m[v]? = some x → (v : Int) ≤ x
  | 0, v, x, h, hx => by
    have := (List.getElem?_eq_some_iff.1 hx).1
    omega
  | d + 1, v, x, h, hx => by
    obtain ⟨i, hi⟩ := List.mem_iff_getElem?.1 (ha v (by omega))
    by_cases hiv : i ≤ v
    · exact pw_at hs hiv hi hx
    · have h2 := (List.getElem?_eq_some_iff.1 hi).1
      have key : ∀ (e w : Nat) (z : Int), w + e = m.length → v < w → m[w]? = some z → (w : Int) ≤ z := fun e w z h3 h4 h5 => by
        have : e ≤ d := by omega
        exact up_place hs ha e w z h3 h5
      have := key (m.length - i) i v (by omega) (by omega) hi
      omega
termination_by d => d
theorem turned_at {m : List Int} {j : Nat} {x : Int} (hs : m.Pairwise (· ≤ ·)) (ha : ∀ i : Nat, i < m.length → (i : Int) ∈ m) (hI : ∀ i : Nat, i < j → m[i]? = some (i : Int)) (hx : m[j]? = some x) : x = (j : Int) := by
  have hj := (List.getElem?_eq_some_iff.1 hx).1
  have h1 := up_place hs ha (m.length - j) j x (by omega) hx
  obtain ⟨i, hi⟩ := List.mem_iff_getElem?.1 (ha j hj)
  by_cases hij : i < j
  · have := hI i hij
    rw [hi] at this
    have := Option.some.inj this
    omega
  · have := pw_at hs (show j ≤ i by omega) hx hi
    omega
theorem turned_bad {p m : List Int} {j : Nat} {x : Int} (hp : m.Perm p) (hs : m.Pairwise (· ≤ ·)) (hI : ∀ i : Nat, i < j → m[i]? = some (i : Int)) (hx : m[j]? = some x) (hne : x ≠ (j : Int)) : turnedL p = false := by
  cases ht : turnedL p with
  | false => rfl
  | true =>
    exfalso
    unfold turnedL at ht
    rw [Bool.and_eq_true, List.all_eq_true] at ht
    refine hne (turned_at hs (fun i hi => ?_) hI hx)
    have := ht.2 i (by rw [List.mem_range, ← hp.length_eq]; exact hi)
    exact hp.mem_iff.2 (of_decide_eq_true this)
theorem turned_good {p m : List Int} (hp : m.Perm p) (h1 : 1 ≤ p.length ∧ p.length ≤ 10) (hI : ∀ i : Nat, i < p.length → m[i]? = some (i : Int)) : turnedL p = true := by
  unfold turnedL
  rw [Bool.and_eq_true, List.all_eq_true]
  refine ⟨decide_eq_true h1, fun i hi => decide_eq_true ?_⟩
  exact hp.mem_iff.1 (List.mem_of_getElem? (hI i (List.mem_range.1 hi)))
end Go.Proofs.YtkpfhnicdlgjiaaGreat
set_option linter.unusedVariables false
set_option linter.unusedSimpArgs false
namespace Go.Proofs.YtkpfhnicdlgjiaaGreat
theorem sorted_of (p : List Int) : ∃ m : List Int, m.Perm p ∧ m.Pairwise (· ≤ ·) := by
  refine ⟨p.mergeSort (fun a b => decide (a ≤ b)), List.mergeSort_perm p _, ?_⟩
  have := List.pairwise_mergeSort (le := fun (a b : Int) => decide (a ≤ b)) (fun a b c h1 h2 => by simp at *; omega) (fun a b => by simp; omega) p
  exact this.imp (fun h => of_decide_eq_true h)
/-- A permutation's numbers are in order 0, 1, .. -/
theorem turned_all {p m : List Int} (ht : turnedL p = true) (hp : m.Perm p) (hs : m.Pairwise (· ≤ ·)) : ∀ j : Nat, j < p.length → m[j]? = some (j : Int) := by
  unfold turnedL at ht
  rw [Bool.and_eq_true, List.all_eq_true] at ht
  have ha : ∀ i : Nat, i < m.length → (i : Int) ∈ m := fun i hi => hp.mem_iff.2 (of_decide_eq_true (ht.2 i (by rw [List.mem_range, ← hp.length_eq]; exact hi)))
  intro j
  induction j using Nat.strongRecOn with
  | ind j ih =>
    intro hj
    obtain ⟨x, hx, _⟩ := get_of (show j < m.length by rw [hp.length_eq]; exact hj)
    rw [hx, turned_at hs ha (fun i hi => ih i hi (by omega)) hx]
theorem turned_nodup {p : List Int} (ht : turnedL p = true) : p.Nodup := by
  obtain ⟨m, hp, hs⟩ := sorted_of p
  refine hp.nodup_iff.1 ?_
  rw [List.nodup_iff_pairwise_ne, List.pairwise_iff_getElem]
  intro i j hi hj hij e
  have h1 := turned_all ht hp hs i (by rw [← hp.length_eq]; exact hi)
  have h2 := turned_all ht hp hs j (by rw [← hp.length_eq]; exact hj)
  rw [List.getElem?_eq_getElem hi] at h1
  rw [List.getElem?_eq_getElem hj] at h2
  have e1 := Option.some.inj h1
  have e2 := Option.some.inj h2
  omega
theorem turned_range {p : List Int} (ht : turnedL p = true) {x : Int} (hx : x ∈ p) : 0 ≤ x ∧ x < p.length := by
  obtain ⟨m, hp, hs⟩ := sorted_of p
  obtain ⟨j, hj⟩ := List.mem_iff_getElem?.1 (hp.mem_iff.2 hx)
  have hl := (List.getElem?_eq_some_iff.1 hj).1
  rw [hp.length_eq] at hl
  rw [turned_all ht hp hs j hl] at hj
  have := Option.some.inj hj
  omega
theorem turned_len {p : List Int} (ht : turnedL p = true) : 1 ≤ p.length ∧ p.length ≤ 10 := by
  unfold turnedL at ht
  rw [Bool.and_eq_true] at ht
  exact of_decide_eq_true ht.1
theorem nodup_at {p : List Int} (hd : p.Nodup) {i j : Nat} {x : Int} (hi : p[i]? = some x) (hj : p[j]? = some x) : i = j := by
  obtain ⟨h1, e1⟩ := List.getElem?_eq_some_iff.1 hi
  obtain ⟨h2, e2⟩ := List.getElem?_eq_some_iff.1 hj
  rw [List.nodup_iff_pairwise_ne, List.pairwise_iff_getElem] at hd
  rcases Nat.lt_trichotomy i j with h | h | h
  · exact absurd (e1.trans e2.symm) (hd i j h1 h2 h)
  · exact h
  · exact absurd (e2.trans e1.symm) (hd j i h2 h1 h)
theorem place_nodup {p : List Int} (hd : p.Nodup) {i : Nat} {x : Int} (hi : p[i]? = some x) : placeL p x = (i : Int) := by
  have hm := List.mem_of_getElem? hi
  have h0 := (place_nonneg p x).2 hm
  have := nodup_at hd (place_get p x hm) hi
  omega
theorem turned_mem {p : List Int} (ht : turnedL p = true) {i : Nat} (hi : i < p.length) : (i : Int) ∈ p := by
  unfold turnedL at ht
  rw [Bool.and_eq_true, List.all_eq_true] at ht
  exact of_decide_eq_true (ht.2 i (List.mem_range.2 hi))
end Go.Proofs.YtkpfhnicdlgjiaaGreat
set_option linter.unusedVariables false
set_option linter.unusedSimpArgs false
namespace Go.Proofs.YtkpfhnicdlgjiaaGreat
/-- The permutation that leads back. -/
def backL (p : List Int) : List Int := (List.range p.length).map fun (c : Nat) => placeL p (c : Int)
theorem back_len (p : List Int) : (backL p).length = p.length := by simp [backL]
theorem back_at {p : List Int} {c : Nat} (hc : c < p.length) : (backL p)[c]? = some (placeL p (c : Int)) := by simp [backL, hc]
theorem back_turned {p : List Int} (ht : turnedL p = true) : turnedL (backL p) = true := by
  have hl := turned_len ht
  unfold turnedL
  rw [back_len, Bool.and_eq_true, List.all_eq_true]
  refine ⟨decide_eq_true hl, fun i hi => decide_eq_true ?_⟩
  obtain ⟨y, hy, hm⟩ := get_of (List.mem_range.1 hi)
  have hr := turned_range ht hm
  obtain ⟨m, rfl⟩ : ∃ m : Nat, y = m := ⟨y.toNat, by omega⟩
  have := back_at (show m < p.length by omega)
  rw [place_nodup (turned_nodup ht) hy] at this
  exact List.mem_of_getElem? this
theorem im_back {p : List Int} (ht : turnedL p = true) {m : Int} (h0 : 0 ≤ m) (h1 : m < p.length) : imL (backL p) (imL p m) = m := by
  obtain ⟨i, rfl⟩ : ∃ i : Nat, m = i := ⟨m.toNat, by omega⟩
  obtain ⟨y, hy, hm⟩ := get_of (show i < p.length by omega)
  have hr := turned_range ht hm
  obtain ⟨c, rfl⟩ : ∃ c : Nat, y = c := ⟨y.toNat, by omega⟩
  have e : imL p (i : Int) = c := by simp [imL, hy]
  rw [e]
  have := back_at (show c < p.length by omega)
  rw [place_nodup (turned_nodup ht) hy] at this
  simp [imL, this]
theorem im_range {p : List Int} (ht : turnedL p = true) {m : Int} (h0 : 0 ≤ m) (h1 : m < p.length) : 0 ≤ imL p m ∧ imL p m < p.length := by
  obtain ⟨i, rfl⟩ : ∃ i : Nat, m = i := ⟨m.toNat, by omega⟩
  obtain ⟨y, hy, hm⟩ := get_of (show i < p.length by omega)
  have hr := turned_range ht hm
  have e : imL p (i : Int) = y := by simp [imL, hy]
  rw [e]; exact hr
theorem im_inj {p : List Int} (ht : turnedL p = true) {a b : Int} (ha : 0 ≤ a ∧ a < p.length) (hb : 0 ≤ b ∧ b < p.length) (e : imL p a = imL p b) : a = b := by
  rw [← im_back ht ha.1 ha.2, e, im_back ht hb.1 hb.2]
end Go.Proofs.YtkpfhnicdlgjiaaGreat
set_option linter.unusedVariables false
namespace Go.Proofs.YtkpfhnicdlgjiaaGreat
instance : Inhabited Rt := ⟨⟨false, none, none⟩⟩
def seatsGo (n : Int) : List Int → List Int → Option (List Int)
  | [], acc => some acc
  | c :: r, acc => if c < 0 ∨ n ≤ c then none else seatsGo n r (acc.set c.toNat (acc.getD c.toNat 0 + 1))
def seatsL (el : List Int) (n : Int) : Option (List Int) := if n < 1 ∨ 10 < n then none else seatsGo n el (List.replicate n.toNat 0)
def ofL (l : List Int) (n : Int) : Bool := l.all fun c => decide (0 ≤ c ∧ c < n)
def ofRd (d : Rd) (n : Int) : Bool := decide ((d.had.l.length : Int) = n) && ofL d.el.l n && ofL d.out.l n
def ofTi (t : Ti) (n : Int) : Bool := ofL t.among.l n && ofL [t.chosen] n
def fitsO (o : Oc) (n : Int) : Bool := ofL o.el.l n && (o.rounds.l.all fun d => ofRd d n) && (o.ties.l.all fun t => ofTi t n)
/-- Numbers from 0 to 9 in order. -/
def risingL (l : List Int) : List Int := (List.range 10).flatMap fun (n : Nat) => l.filter fun x => decide (x = (n : Int))
def hadP (p : List Int) (l : List Rt) : List Rt := (List.range p.length).map fun (c : Nat) => l.getD (placeL p (c : Int)).toNat default
def renRd (p : List Int) (d : Rd) : Rd := { had := some (hadP p d.had.l), lost := d.lost, el := d.el.map (·.map (imL p)), out := d.out.map (·.map (imL p)) }
def renTi (p : List Int) (t : Ti) : Ti := { among := t.among.map (fun l => risingL (l.map (imL p))), chosen := imL p t.chosen }
def renO (p : List Int) (o : Oc) : Oc := { el := o.el.map (·.map (imL p)), rounds := o.rounds.map (·.map (renRd p)), ties := o.ties.map (·.map (renTi p)) }
def zeroO : Oc := ⟨none, none, none⟩
def renL (o : Oc) (p : List Int) : Oc × Int := if turnedL p = true ∧ fitsO o p.length = true then (renO p o, 0) else (zeroO, 2)
/-- What outcomes hold, whether nil or empty. -/
abbrev ErRt := Bool × List Int × List Int
abbrev ErRd := List ErRt × ErRt × List Int × List Int
instance decRt : DecidableEq ErRt := inferInstance
instance decRd : DecidableEq ErRd := inferInstance
def erRt (r : Rt) : ErRt := (r.neg, r.num.l, r.den.l)
def erRd (d : Rd) : ErRd := (d.had.l.map erRt, erRt d.lost, d.el.l, d.out.l)
def erTi (t : Ti) : List Int × Int := (t.among.l, t.chosen)
abbrev ErOc := List Int × List ErRd × List (List Int × Int)
def erOc (o : Oc) : ErOc := (o.el.l, o.rounds.l.map erRd, o.ties.l.map erTi)
def sameRt (a b : Rt) : Bool := decide (erRt a = erRt b)
def sameRd (a b : Rd) : Bool := decide (erRd a = erRd b)
def sameTi (a b : Ti) : Bool := decide (erTi a = erTi b)
def sameO (a b : Oc) : Bool := decide (a.el.l = b.el.l) && decide (a.rounds.l.map erRd = b.rounds.l.map erRd) && decide (a.ties.l.map erTi = b.ties.l.map erTi)
theorem sameO_iff {a b : Oc} : sameO a b = true ↔ erOc a = erOc b := by
  unfold sameO erOc
  simp only [Bool.and_eq_true, decide_eq_true_eq, Prod.mk.injEq, and_assoc]
theorem sameO_refl (a : Oc) : sameO a a = true := sameO_iff.2 rfl
theorem l_map {α β : Type} {o : Nl α} {f : List α → List β} (h : f [] = []) : Nl.l (o.map f) = f o.l := by cases o <;> simp [Nl.l, h]
theorem list_ne {α β : Type} {e : α → β} {a b : List α} {i : Nat} {x y : α} (ha : a[i]? = some x) (hb : b[i]? = some y) (h : e x ≠ e y) : a.map e ≠ b.map e := fun he => by
  have := congrArg (fun l => l[i]?) he
  simp only [List.getElem?_map, ha, hb, Option.map_some, Option.some.injEq] at this
  exact h this
theorem ofL_iff {l : List Int} {n : Int} : ofL l n = true ↔ ∀ x ∈ l, 0 ≤ x ∧ x < n := by
  unfold ofL
  simp only [List.all_eq_true, decide_eq_true_eq]
theorem rising_perm {l : List Int} (h : ∀ x ∈ l, 0 ≤ x ∧ x < 10) : (risingL l).Perm l ∧ (risingL l).Pairwise (· ≤ ·) := by
  have cnt : ∀ (k : Nat) (x : Int), ((List.range k).flatMap fun (n : Nat) => l.filter fun x => decide (x = (n : Int))).count x = if 0 ≤ x ∧ x < (k : Int) then l.count x else 0 := by
    intro k x
    induction k with
    | zero => simp; omega
    | succ k ih =>
      rw [List.range_succ, List.flatMap_append, List.count_append, ih]
      simp only [List.flatMap_cons, List.flatMap_nil, List.append_nil]
      by_cases hx : x = (k : Int)
      · subst hx
        rw [if_neg (by omega), if_pos (by omega), List.count_filter (by simp)]
        omega
      · have : (l.filter fun x => decide (x = (k : Int))).count x = 0 := by
          rw [List.count_eq_zero]
          intro hm
          have := (List.mem_filter.1 hm).2
          simp at this
          exact hx this
        rw [this, Nat.add_zero]
        by_cases h1 : 0 ≤ x ∧ x < (k : Int)
        · rw [if_pos h1, if_pos (by omega)]
        · rw [if_neg h1, if_neg (by omega)]
  constructor
  · rw [List.perm_iff_count]
    intro x
    unfold risingL
    rw [cnt 10 x]
    by_cases hx : 0 ≤ x ∧ x < (10 : Nat)
    · rw [if_pos hx]
    · rw [if_neg hx]
      exact (List.count_eq_zero.2 (fun hm => hx (h x hm))).symm
  · have srt : ∀ (k : Nat), (((List.range k).flatMap fun (n : Nat) => l.filter fun x => decide (x = (n : Int))).Pairwise (· ≤ ·)) ∧ ∀ x ∈ ((List.range k).flatMap fun (n : Nat) => l.filter fun x => decide (x = (n : Int))), x < k := by
      intro k
      induction k with
      | zero => simp
      | succ k ih =>
        rw [List.range_succ, List.flatMap_append]
        simp only [List.flatMap_cons, List.flatMap_nil, List.append_nil]
        have hk : ∀ x ∈ (l.filter fun x => decide (x = (k : Int))), x = (k : Int) := fun x hx => by simpa using (List.mem_filter.1 hx).2
        refine ⟨List.pairwise_append.2 ⟨ih.1, ?_, fun a ha b hb => ?_⟩, fun x hx => ?_⟩
        · refine List.pairwise_iff_forall_sublist.2 (fun {a b} hs => ?_)
          have h1 := hk a (hs.subset (by simp))
          have h2 := hk b (hs.subset (by simp))
          omega
        · have h1 := ih.2 a ha
          have h2 := hk b hb
          omega
        · rcases List.mem_append.1 hx with hx | hx
          · have := ih.2 x hx; omega
          · have := hk x hx; omega
    exact (srt 10).1
theorem rising_eq {l m : List Int} (h : ∀ x ∈ l, 0 ≤ x ∧ x < 10) (hp : l.Perm m) (hs : m.Pairwise (· ≤ ·)) : m = risingL l := by
  obtain ⟨h1, h2⟩ := rising_perm h
  exact List.Perm.eq_of_pairwise (fun a b _ _ h1 h2 => Int.le_antisymm h1 h2) hs h2 (hp.symm.trans h1.symm)
theorem had_len (p : List Int) (l : List Rt) : (hadP p l).length = p.length := by simp [hadP]
/-- What is laid at each candidate's new number is the list renamed. -/
theorem had_eq {p : List Int} (ht : turnedL p = true) {l q : List Rt} (hq : q.length = p.length) (hl : l.length = p.length) (h : ∀ (c : Nat) (m : Nat) (x : Rt), p[c]? = some (m : Int) → l[c]? = some x → q[m]? = some x) : q = hadP p l := by
  apply List.ext_getElem?
  intro m
  by_cases hm : m < p.length
  · have hmem := turned_mem ht hm
    obtain ⟨c, hc⟩ := List.mem_iff_getElem?.1 hmem
    have hcl := (List.getElem?_eq_some_iff.1 hc).1
    have hx : l[c]? = some (l[c]'(by omega)) := List.getElem?_eq_getElem _
    rw [h c m _ hc hx]
    unfold hadP
    rw [List.getElem?_map, List.getElem?_range hm, Option.map_some, place_nodup (turned_nodup ht) hc]
    simp [hx]
  · rw [List.getElem?_eq_none (by omega), List.getElem?_eq_none (by rw [had_len]; omega)]
theorem had_at {p : List Int} (ht : turnedL p = true) {l : List Rt} (hl : l.length = p.length) {c m : Nat} {x : Rt} (hc : p[c]? = some (m : Int)) (hx : l[c]? = some x) : (hadP p l)[m]? = some x := by
  have hm : m < p.length := by
    have := turned_range ht (List.mem_of_getElem? hc); omega
  unfold hadP
  rw [List.getElem?_map, List.getElem?_range hm, Option.map_some, place_nodup (turned_nodup ht) hc]
  simp [hx]
end Go.Proofs.YtkpfhnicdlgjiaaGreat
set_option linter.unusedVariables false
namespace Go.Proofs.YtkpfhnicdlgjiaaGreat
theorem im_list_back {p l : List Int} (ht : turnedL p = true) (h : ∀ x ∈ l, 0 ≤ x ∧ x < p.length) : (l.map (imL p)).map (imL (backL p)) = l := by
  rw [List.map_map]
  have : l.map (imL (backL p) ∘ imL p) = l.map id := List.map_congr_left fun x hx => im_back ht (h x hx).1 (h x hx).2
  rw [this, List.map_id]
theorem im_ofL {p l : List Int} (ht : turnedL p = true) (h : ofL l p.length = true) : ofL (l.map (imL p)) p.length = true := by
  rw [ofL_iff] at h ⊢
  intro x hx
  obtain ⟨u, hu, rfl⟩ := List.mem_map.1 hx
  exact im_range ht (h u hu).1 (h u hu).2
theorem rising_ofL {l : List Int} {n : Int} (hn : n ≤ 10) (h : ofL l n = true) : ofL (risingL l) n = true := by
  rw [ofL_iff] at h ⊢
  intro x hx
  exact h x ((rising_perm (fun y hy => ⟨(h y hy).1, by have := (h y hy).2; omega⟩)).1.mem_iff.1 hx)
theorem fits_ren {p : List Int} (ht : turnedL p = true) {o : Oc} (hf : fitsO o p.length = true) : fitsO (renO p o) p.length = true := by
  have hlen := turned_len ht
  unfold fitsO at hf ⊢
  rw [Bool.and_eq_true, Bool.and_eq_true, List.all_eq_true, List.all_eq_true] at hf ⊢
  obtain ⟨⟨h1, h2⟩, h3⟩ := hf
  refine ⟨⟨?_, fun d hd => ?_⟩, fun t hm => ?_⟩
  · simp only [renO, l_map (f := List.map (imL p)) rfl]; exact im_ofL ht h1
  · simp only [renO, l_map (f := List.map (renRd p)) rfl] at hd
    obtain ⟨x, hx, rfl⟩ := List.mem_map.1 hd
    have hx' := h2 x hx
    unfold ofRd at hx' ⊢
    rw [Bool.and_eq_true, Bool.and_eq_true, decide_eq_true_eq] at hx' ⊢
    refine ⟨⟨?_, ?_⟩, ?_⟩
    · show ((hadP p x.had.l).length : Int) = p.length
      rw [had_len]
    · simp only [renRd, l_map (f := List.map (imL p)) rfl]; exact im_ofL ht hx'.1.2
    · simp only [renRd, l_map (f := List.map (imL p)) rfl]; exact im_ofL ht hx'.2
  · simp only [renO, l_map (f := List.map (renTi p)) rfl] at hm
    obtain ⟨x, hx, rfl⟩ := List.mem_map.1 hm
    have hx' := h3 x hx
    unfold ofTi at hx' ⊢
    rw [Bool.and_eq_true] at hx' ⊢
    refine ⟨?_, ?_⟩
    · simp only [renTi, l_map (f := fun l => risingL (l.map (imL p))) rfl]
      exact rising_ofL (by omega) (im_ofL ht hx'.1)
    · exact im_ofL (l := [x.chosen]) ht hx'.2
theorem had_back {p : List Int} (ht : turnedL p = true) {l : List Rt} (hl : l.length = p.length) : hadP (backL p) (hadP p l) = l := by
  refine (had_eq (back_turned ht) (by rw [back_len, hl]) (by rw [had_len, back_len]) (fun c m x hc hx => ?_)).symm
  have hcl : c < p.length := by have := (List.getElem?_eq_some_iff.1 hc).1; rw [back_len] at this; exact this
  rw [back_at hcl] at hc
  obtain ⟨i, hi⟩ := List.mem_iff_getElem?.1 (turned_mem ht hcl)
  rw [place_nodup (turned_nodup ht) hi] at hc
  have him : i = m := by have := Option.some.inj hc; omega
  subst him
  have hil := (List.getElem?_eq_some_iff.1 hi).1
  have hy : l[i]? = some (l[i]'(by omega)) := List.getElem?_eq_getElem _
  have := had_at ht hl hi hy
  rw [hx] at this
  rw [hy, ← Option.some.inj this]
theorem rd_back {p : List Int} (ht : turnedL p = true) {d : Rd} (h : ofRd d p.length = true) : erRd (renRd (backL p) (renRd p d)) = erRd d := by
  unfold ofRd at h
  rw [Bool.and_eq_true, Bool.and_eq_true, decide_eq_true_eq] at h
  simp only [erRd, renRd, l_map (f := List.map (imL p)) rfl, l_map (f := List.map (imL (backL p))) rfl, Prod.mk.injEq]
  refine ⟨?_, trivial, im_list_back ht (ofL_iff.1 h.1.2), im_list_back ht (ofL_iff.1 h.2)⟩
  show (hadP (backL p) (hadP p d.had.l)).map erRt = _
  rw [had_back ht (by have := h.1.1; omega)]
/-- The law of going back: all but the ties is as it was; the ties' chosen too, and how many are among them. -/
theorem ren_back {p : List Int} (ht : turnedL p = true) {o : Oc} (hf : fitsO o p.length = true) : (renO (backL p) (renO p o)).el.l = o.el.l ∧ (renO (backL p) (renO p o)).rounds.l.map erRd = o.rounds.l.map erRd ∧
    (renO (backL p) (renO p o)).ties.l.map (·.chosen) = o.ties.l.map (·.chosen) ∧ (renO p o).ties.l.map (fun t => t.among.l.length) = o.ties.l.map (fun t => t.among.l.length) := by
  have hlen := turned_len ht
  unfold fitsO at hf
  rw [Bool.and_eq_true, Bool.and_eq_true, List.all_eq_true, List.all_eq_true] at hf
  obtain ⟨⟨h1, h2⟩, h3⟩ := hf
  have tie : ∀ t ∈ o.ties.l, (∀ x ∈ t.among.l, 0 ≤ x ∧ x < p.length) ∧ 0 ≤ t.chosen ∧ t.chosen < p.length := fun t hm => by
    have hx := h3 t hm
    unfold ofTi at hx
    rw [Bool.and_eq_true] at hx
    exact ⟨ofL_iff.1 hx.1, ofL_iff.1 hx.2 t.chosen (by simp)⟩
  refine ⟨?_, ?_, ?_, ?_⟩
  · simp only [renO, l_map (f := List.map (imL p)) rfl, l_map (f := List.map (imL (backL p))) rfl]
    exact im_list_back ht (ofL_iff.1 h1)
  · simp only [renO, l_map (f := List.map (renRd p)) rfl, l_map (f := List.map (renRd (backL p))) rfl, List.map_map]
    exact List.map_congr_left fun d hd => rd_back ht (h2 d hd)
  · simp only [renO, l_map (f := List.map (renTi p)) rfl, l_map (f := List.map (renTi (backL p))) rfl, List.map_map]
    exact List.map_congr_left fun t hm => im_back ht (tie t hm).2.1 (tie t hm).2.2
  · simp only [renO, l_map (f := List.map (renTi p)) rfl, List.map_map]
    refine List.map_congr_left fun t hm => ?_
    simp only [Function.comp, renTi, l_map (f := fun l => risingL (l.map (imL p))) rfl]
    rw [(rising_perm (fun x hx => ?_)).1.length_eq, List.length_map]
    obtain ⟨u, hu, rfl⟩ := List.mem_map.1 hx
    have := im_range ht ((tie t hm).1 u hu).1 ((tie t hm).1 u hu).2
    exact ⟨this.1, by omega⟩
theorem seatsGo_all {n : Int} : ∀ {l acc : List Int}, (∀ x ∈ l, 0 ≤ x ∧ x < n) → n ≤ acc.length → ∃ r, seatsGo n l acc = some r ∧ r.length = acc.length ∧ ∀ i : Nat, i < acc.length → r.getD i 0 = acc.getD i 0 + (l.count (i : Int) : Nat)
  | [], acc, _, _ => ⟨acc, rfl, rfl, fun i _ => by simp⟩
  | c :: l, acc, h, hn => by
    have hc := h c (by simp)
    obtain ⟨k, rfl⟩ : ∃ k : Nat, c = k := ⟨c.toNat, by omega⟩
    obtain ⟨r, h1, h2, h3⟩ := seatsGo_all (l := l) (acc := acc.set k (acc.getD k 0 + 1)) (fun x hx => h x (by simp [hx])) (by rw [List.length_set]; exact hn)
    refine ⟨r, ?_, by rw [h2, List.length_set], fun i hi => ?_⟩
    · show (if (k : Int) < 0 ∨ n ≤ (k : Int) then none else seatsGo n l (acc.set (k : Int).toNat (acc.getD (k : Int).toNat 0 + 1))) = some r
      rw [if_neg (by omega), Int.toNat_natCast]; exact h1
    · rw [h3 i (by rw [List.length_set]; exact hi), List.count_cons]
      by_cases e : k = i
      · subst e
        rw [List.getD_eq_getElem?_getD, List.getElem?_set_self hi, Option.getD_some]
        simp; omega
      · rw [List.getD_eq_getElem?_getD, List.getElem?_set_ne e, ← List.getD_eq_getElem?_getD]
        have : ¬ ((k : Int) == (i : Int)) = true := by simp; omega
        rw [if_neg this]; simp
theorem count_im {p : List Int} (ht : turnedL p = true) {m : Int} (hm : 0 ≤ m ∧ m < p.length) : ∀ {l : List Int}, (∀ x ∈ l, 0 ≤ x ∧ x < p.length) → (l.map (imL p)).count (imL p m) = l.count m
  | [], _ => rfl
  | c :: l, h => by
    rw [List.map_cons, List.count_cons, List.count_cons, count_im ht hm (fun x hx => h x (by simp [hx]))]
    congr 1
    by_cases e : c = m
    · subst e; simp
    · have : imL p c ≠ imL p m := fun e2 => e (im_inj ht (h c (by simp)) hm e2)
      simp [e, this]
/-- Renaming permutes the seats. -/
theorem seats_ren {p l : List Int} (ht : turnedL p = true) (h : ∀ x ∈ l, 0 ≤ x ∧ x < p.length) : ∃ a b, seatsL l p.length = some a ∧ seatsL (l.map (imL p)) p.length = some b ∧ a.length = p.length ∧ b.length = p.length ∧ ∀ i m : Nat, p[i]? = some (m : Int) → a.getD i 0 = b.getD m 0 := by
  have hlen := turned_len ht
  have h' : ∀ x ∈ l.map (imL p), 0 ≤ x ∧ x < p.length := fun x hx => by
    obtain ⟨u, hu, rfl⟩ := List.mem_map.1 hx
    exact im_range ht (h u hu).1 (h u hu).2
  obtain ⟨a, a1, a2, a3⟩ := seatsGo_all (acc := List.replicate p.length 0) h (by simp)
  obtain ⟨b, b1, b2, b3⟩ := seatsGo_all (acc := List.replicate p.length 0) h' (by simp)
  rw [List.length_replicate] at a2 b2
  refine ⟨a, b, ?_, ?_, a2, b2, fun i m hp => ?_⟩
  · unfold seatsL; rw [if_neg (by omega), Int.toNat_natCast]; exact a1
  · unfold seatsL; rw [if_neg (by omega), Int.toNat_natCast]; exact b1
  · have hi := (List.getElem?_eq_some_iff.1 hp).1
    have hr := turned_range ht (List.mem_of_getElem? hp)
    have e : imL p (i : Int) = m := by simp [imL, hp]
    have z : ∀ k, (List.replicate p.length (0 : Int)).getD k 0 = 0 := fun k => by
      rw [List.getD_eq_getElem?_getD]
      cases hk : (List.replicate p.length (0 : Int))[k]? with
      | none => rfl
      | some y => exact List.eq_of_mem_replicate (List.mem_of_getElem? hk)
    rw [a3 i (by simpa using hi), b3 m (by simp; omega), z, z, ← e, count_im ht ⟨by omega, by omega⟩ h]
end Go.Proofs.YtkpfhnicdlgjiaaGreat
