/- What a table's text says of its rows: its lines are the rows' cells, and the words of one place begin at one index. Nothing of the program is named here. -/
import Derived.Test.YtefkhjbgkaknmaaDoorPl3
import Derived.Test.YtefkhjbgkaknmaaDoorPlB
set_option linter.unusedVariables false
namespace Go.Proofs.YtefkhjbgkaknmaaDoor
/-- Where the words of a place begin. -/
def colL (W : Nat → Nat) : Nat → Nat
  | 0 => 0
  | k + 1 => colL W k + (W k + 2)
theorem col_le (W : Nat → Nat) : ∀ (i k : Nat), i ≤ k → colL W i ≤ colL W k
  | i, 0, h => by rw [Nat.le_zero.1 h]; exact Nat.le_refl _
  | i, k + 1, h => by
    rcases Nat.lt_or_ge i (k + 1) with h1 | h1
    · have := col_le W i k (by omega); rw [colL]; omega
    · rw [show i = k + 1 by omega]; exact Nat.le_refl _
theorem tab_join (W : Nat → Nat) : ∀ (rows : List (List (List UInt8))), tabL W rows = joinFeed (rows.map (cellsL W 0))
  | [] => rfl
  | r :: rs => by rw [tabL, List.map_cons, joinFeed, tab_join W rs]
theorem word_nofeed {s : List UInt8} (h : wordL s = true) : ∀ c ∈ s, c.toNat ≠ 10 := by
  rw [wordL, Bool.and_eq_true] at h
  intro c hc e
  have := List.all_eq_true.1 h.1 c hc
  simp [okB] at this
  omega
theorem cells_nofeed (W : Nat → Nat) : ∀ (r : List (List UInt8)) (k : Nat), (∀ s ∈ r, wordL s = true) → ∀ c ∈ cellsL W k r, c.toNat ≠ 10
  | [], k, h => by intro c hc; cases k <;> cases hc
  | [s], k, h => word_nofeed (h s (by simp))
  | s :: t :: r, k, h => by
    intro c hc
    rw [cellsL] at hc
    rcases List.mem_append.1 hc with hc | hc
    · exact word_nofeed (h s (by simp)) c hc
    · rcases List.mem_append.1 hc with hc | hc
      · rw [(List.mem_replicate.1 hc).2]; decide
      · exact cells_nofeed W (t :: r) (k + 1) (fun x hx => h x (List.mem_cons_of_mem _ hx)) c hc
theorem row_words {rows : List (List (List UInt8))} (h : rows.any oddRow = false) : ∀ r ∈ rows, ∀ s ∈ r, wordL s = true := by
  intro r hr s hs
  have h1 : oddRow r = false := by
    cases hb : oddRow r with
    | false => rfl
    | true => rw [List.any_eq_true.2 ⟨r, hr, hb⟩] at h; cases h
  cases hw : wordL s with
  | true => rfl
  | false => rw [oddRow, List.any_eq_true.2 ⟨s, hs, by rw [hw]; rfl⟩] at h1; cases h1
theorem table_codes (rows : List (List (List UInt8))) : (tableL rows).2 = 0 ∨ ((tableL rows).1 = [] ∧ ((tableL rows).2 = 4 ∨ (tableL rows).2 = 11)) := by
  unfold tableL
  by_cases h1 : rows.any oddRow = true
  · rw [if_pos h1]; simp
  · rw [if_neg h1]
    by_cases h2 : 512 < rows.length
    · rw [if_pos h2]; simp
    · rw [if_neg h2]
      by_cases h3 : 16384 < (tabL (wideL rows) rows).length
      · rw [if_pos h3]; simp
      · rw [if_neg h3]; simp
theorem table_lines (rows : List (List (List UInt8))) (h : (tableL rows).2 = 0) : (∀ r ∈ rows, ∀ s ∈ r, wordL s = true) ∧ rows.length ≤ 512 ∧ (tableL rows).1.length ≤ 16384 ∧ linesL (tableL rows).1 = (rows.map (cellsL (wideL rows) 0), 0) := by
  unfold tableL at h ⊢
  by_cases h1 : rows.any oddRow = true
  · rw [if_pos h1] at h; simp at h
  · rw [if_neg h1] at h ⊢
    by_cases h2 : 512 < rows.length
    · rw [if_pos h2] at h; simp at h
    · rw [if_neg h2] at h ⊢
      by_cases h3 : 16384 < (tabL (wideL rows) rows).length
      · rw [if_pos h3] at h; simp at h
      · rw [if_neg h3]
        have hw := row_words (rows := rows) (by simpa using h1)
        refine ⟨hw, by omega, by simp only; omega, ?_⟩
        have ht : textL (rows.map (cellsL (wideL rows) 0)) = (tabL (wideL rows) rows, 0) := by
          unfold textL
          rw [if_neg (by rw [List.length_map]; omega), if_neg (by rw [(sizeGo_iff _ 0 (by omega)).2 (by rw [← tab_join]; omega)]; simp), if_neg ?_, tab_join]
          intro h4
          obtain ⟨x, hx, hf⟩ := List.any_eq_true.1 h4
          obtain ⟨r, hr, rfl⟩ := List.mem_map.1 hx
          obtain ⟨c, hc, h5⟩ := List.any_eq_true.1 hf
          exact cells_nofeed _ r 0 (hw r hr) c hc (of_decide_eq_true h5)
        have := lines_text (rows.map (cellsL (wideL rows) 0)) (by rw [ht])
        rw [ht] at this
        exact this
/-- One word further in a row's line. -/
theorem row_step (W : Nat → Nat) (r : List (List UInt8)) (line pre s : List UInt8) (n k : Nat) (hs : r[k]? = some s) (hW : s.length ≤ W k)
    (hl : line = pre ++ (List.replicate n 32 ++ cellsL W k (r.drop k))) (hat : pre.length + n = colL W k) :
    ∃ pre' n' post, line = pre ++ (List.replicate n 32 ++ (s ++ post)) ∧ line = pre' ++ (List.replicate n' 32 ++ cellsL W (k + 1) (r.drop (k + 1))) ∧ pre'.length = colL W k + s.length ∧ (k + 1 < r.length → pre'.length + n' = colL W (k + 1)) ∧ (r.length ≤ k + 1 → n' = 0) := by
  by_cases hlt : k + 1 < r.length
  · rw [cells_more W k r s hs hlt] at hl
    refine ⟨pre ++ (List.replicate n 32 ++ s), W k + 2 - s.length, _, hl, by rw [hl]; simp, by simp; omega, fun _ => ?_, fun h => by omega⟩
    simp only [List.length_append, List.length_replicate, colL]; omega
  · rw [cells_last W k r s hs hlt] at hl
    refine ⟨pre ++ (List.replicate n 32 ++ s), 0, [], by rw [hl]; simp, by rw [hl, cells_end _ _ _ hlt]; simp, by simp; omega, fun h => absurd h hlt, fun _ => rfl⟩
theorem blank_at {line pre rest : List UInt8} {n j : Nat} (hl : line = pre ++ (List.replicate n 32 ++ rest)) (hj : j < n) : line[pre.length + j]? = some 32 := by
  rw [hl, List.getElem?_append_right (by omega), List.getElem?_append_left (by simp; omega), List.getElem?_replicate, if_pos (by omega)]
theorem word_at {line pre s post : List UInt8} {n : Nat} (hl : line = pre ++ (List.replicate n 32 ++ (s ++ post))) (hs : wordL s = true) : ∃ c, line[pre.length + n]? = some c ∧ c.toNat ≠ 32 := by
  obtain ⟨h1, h2⟩ := word_nb hs
  cases s with
  | nil => exact absurd rfl h2
  | cons c s =>
    refine ⟨c, ?_, h1 c (by simp)⟩
    rw [hl, List.getElem?_append_right (by omega), List.getElem?_append_right (by simp)]
    simp
theorem word_cut {line pre s post : List UInt8} {n : Nat} (hl : line = pre ++ (List.replicate n 32 ++ (s ++ post))) : pre.length + n + s.length ≤ line.length ∧ (line.take (pre.length + n + s.length)).drop (pre.length + n) = s := by
  have h : line = (pre ++ List.replicate n 32) ++ (s ++ post) := by rw [hl]; simp
  have h2 : (pre ++ List.replicate n (32 : UInt8)).length = pre.length + n := by simp
  refine ⟨by rw [hl]; simp; omega, ?_⟩
  rw [h, ← h2, List.take_length_add_append, List.drop_left]; simp
end Go.Proofs.YtefkhjbgkaknmaaDoor
