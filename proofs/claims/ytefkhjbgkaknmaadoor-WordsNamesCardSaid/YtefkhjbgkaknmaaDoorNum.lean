/- Walks of the package words: Number. -/
import Derived.Test.YtefkhjbgkaknmaaDoorShelf2
import Derived.Test.YtefkhjbgkaknmaaDoorSh
import Derived.Test.YtefkhjbgkaknmaaDoorPlN
import Derived.Test.YtefkhjbgkaknmaaDoorW2a
import Derived.Lib.DecodeN
import Derived.WalkSmall
set_option linter.unusedVariables false
namespace Go.Proofs.YtefkhjbgkaknmaaDoor
open Go.RowKit Go.Shelf

def oddR (x : Nat) : Bool := decide (x < 48) || decide (57 < x)
theorem rune_ge (s : ByteArray) (i : Nat) (h : 128 ≤ (s.get! i).toNat) : 128 ≤ (Utf8.decode s i).1 := by
  rw [Lib.decode_at]
  generalize (s.get! i).toNat = b0 at h ⊢
  generalize (s.get! (i + 1)).toNat = b1
  generalize (s.get! (i + 2)).toNat = b2
  generalize (s.get! (i + 3)).toNat = b3
  unfold Lib.decodeN
  rw [if_neg (by omega)]
  repeat' split
  all_goals simp only; omega
theorem get_eq (s : ByteArray) (k : Nat) (h : k < s.size) : s.get! k = s[k] := by
  simp [ByteArray.get!, getElem!_pos, h]; rfl
theorem idx_odd (s : ByteArray) : ∀ (f pos : Nat), s.size ≤ pos + f → decide (0 ≤ Lib.idxFuncFrom oddR true s f pos) = ((bl s).drop pos).any (fun c => !digB c)
  | 0, pos, h => by
    rw [bl_drop_end s pos (by omega)]; rfl
  | f + 1, pos, h => by
    rw [Lib.idxFuncFrom]
    by_cases hp : pos < s.size
    · rw [if_pos hp, bl_drop_cons s pos hp, List.any_cons]
      by_cases ha : (s[pos]).toNat < 128
      · rw [decode_ascii s pos hp ha]
        by_cases hd : digB s[pos] = true
        · have : oddR s[pos].toNat = false := by simp [digB] at hd; simp [oddR]; omega
          simp only [this]
          rw [if_neg (by simp), idx_odd s f (pos + 1) (by omega), hd]; simp
        · have : oddR s[pos].toNat = true := by simp [digB] at hd; simp [oddR]; omega
          simp only [this, if_true]
          simp at hd; rw [hd]; simp
      · have h1 := rune_ge s pos (by rw [get_eq s pos hp]; omega)
        have : oddR (Utf8.decode s pos).1 = true := by simp [oddR]; omega
        rw [this, if_pos rfl]
        have hd : digB s[pos] = false := by simp [digB]; omega
        rw [hd]; simp
    · rw [if_neg hp, bl_drop_end s pos hp]; rfl

theorem oddr_walk (x : Nat) (w : World) (hx : x ≤ 1114111) : Calls Tryd.prog 27 #[.int .i32 (x : Int)] w fun e w' => e = .returned (.bool (oddR x)) ∧ ∃ q, w' = w.drewN q := by
  unfold oddR
  by_cases h1 : x < 48
  · go_enter Tryd.func27, Tryd.ntmps27
    go_wp2
    go_ret
    exact ⟨ret_bool (by first | rfl | (rw [decide_eq_true h1]; rfl)), 0, rfl⟩
  · by_cases h2 : 57 < x
    · go_enter Tryd.func27, Tryd.ntmps27
      go_wp2
      go_ret
      refine ⟨ret_bool ?_, 0, rfl⟩
      exact congr (congrArg or (decide_eq_decide.2 (by omega))) (decide_eq_decide.2 (by omega))
    · go_enter Tryd.func27, Tryd.ntmps27
      go_wp2
      go_ret
      refine ⟨ret_bool ?_, 0, rfl⟩
      exact congr (congrArg or (decide_eq_decide.2 (by omega))) (decide_eq_decide.2 (by omega))

theorem cf_walk (s : ByteArray) (w : World) (b : Bool) (hb : (bl s).any (fun c => !digB c) = b) :
    Calls Tryd.prog 26 #[.string s, .func (.func 27) #[] #[]] w fun e w' => e = .returned (.bool b) ∧ Below w.heap.size w w' := by
  subst hb
  have := idx_odd s s.size 0 (by omega)
  rw [List.drop_zero] at this
  rw [← this]
  exact Any.strings_ContainsFunc_runes (ρ := Tryd.laysGw17_ren) Tryd.laysGw17 27 #[] (enters_of Tryd.func27 (by kernel_rfl) rfl) oddR s w (fun W x hx _ => oddr_walk x W hx)

theorem trimp_walk (s : ByteArray) (w : World) : Calls Tryd.prog 25 #[.string s, .string ⟨#[45]⟩] w fun e w' => e = .returned (.string (ba (magL (bl s)))) ∧ w = w' := by
  refine (Tryd.strings_TrimPrefix s ⟨#[45]⟩ w).mono ?_
  rintro e w' ⟨he, hw⟩
  refine ⟨?_, hw.symm⟩
  rw [he]
  refine ret_str ?_
  show (⟨(Lib.trimPrefix (bl s) [45]).toArray⟩ : ByteArray) = ba (magL (bl s))
  have : Lib.trimPrefix (bl s) [45] = magL (bl s) := by
    unfold Lib.trimPrefix Lib.hasPrefix magL
    cases bl s with
    | nil => rfl
    | cons c r =>
      by_cases hc : c = 45
      · subst hc; simp [List.isPrefixOf]
      · have h1 : c.toNat ≠ 45 := fun h => hc (UInt8.toNat_inj.1 (by rw [h]; rfl))
        have h2 : (45 == c) = false := by simp; exact fun h => hc h.symm
        simp [List.isPrefixOf, h1, h2]
  rw [this]; rfl

def NumRes (s : ByteArray) (w : World) (e : Ending) (w' : World) : Prop :=
  e = .returned (.tuple #[.int .i64 (numL (bl s)).1, .int .i64 (numL (bl s)).2]) ∧ Below w.heap.size w w'
theorem num_form {s : ByteArray} {w w' : World} (h : formL (bl s) = false) (hb : Below w.heap.size w w') : NumRes s w (.returned (.tuple #[.int .i64 0, .int .i64 11])) w' := ⟨by unfold numL; rw [if_pos h], hb⟩
theorem num_great {s : ByteArray} {w w' : World} (h : formL (bl s) = true) (h2 : 4611686018427387904 < decVal 0 (magL (bl s))) (hb : Below w.heap.size w w') : NumRes s w (.returned (.tuple #[.int .i64 0, .int .i64 30])) w' := ⟨by unfold numL; rw [if_neg (by rw [h]; simp), if_pos h2], hb⟩
theorem num_ok {s : ByteArray} {w w' : World} (h : formL (bl s) = true) (h2 : ¬ 4611686018427387904 < decVal 0 (magL (bl s))) (v : Int) (hv : (if negL (bl s) then -(decVal 0 (magL (bl s)) : Int) else (decVal 0 (magL (bl s)) : Int)) = v) (hb : Below w.heap.size w w') : NumRes s w (.returned (.tuple #[.int .i64 v, .int .i64 0])) w' := ⟨by unfold numL; rw [if_neg (by rw [h]; simp), if_neg h2, hv], hb⟩

theorem atoi_ok_walk (s : ByteArray) (w : World) (hs : s.size ≤ 140737488351232) (v : Int) (h : Lib.atoiAll (bl s) = .ok v) :
    Calls Tryd.prog 28 #[.string s] w fun e w' => e = .returned (.tuple #[.int .i64 v, .nilIface]) ∧ Below w.heap.size w w' := by
  refine (Any.strconv_Atoi_ok (ρ := Tryd.laysC172_ren) Tryd.laysC172 s (by omega) v h w).mono ?_
  rintro e w' ⟨he, hw⟩
  refine ⟨he, ?_⟩
  rcases hw with rfl | ⟨t, rfl⟩
  · exact Below.refl _ _
  · exact Lib.bytesWorld_below _ _ _
theorem atoi_range_walk (s : ByteArray) (w : World) (hs : s.size ≤ 140737488351232) (h : Lib.atoiAll (bl s) = .range) (tp : TypeId) (p : Value) (hvar : w.var? Tryd.prog "strconv.ErrRange" = some #[.iface tp p]) :
    Calls Tryd.prog 28 #[.string s] w fun e w' => (∃ (m : Int) (N : Nat), e = .returned (.tuple #[.int .i64 m, .iface 90 (.pointer (some ⟨N, 0, none⟩))])) ∧ Below w.heap.size w w' := by
  refine (Any.strconv_Atoi_range_var (ρ := Tryd.laysC172_ren) Tryd.laysC172 s (by omega) h tp p w hvar).mono ?_
  rintro e w' ⟨N, he, _, _, hb⟩
  exact ⟨⟨_, N, he⟩, hb⟩

set_option maxRecDepth 100000 in
set_option maxHeartbeats 1000000 in
theorem number_walk (s : ByteArray) (w : World) (hs : s.size ≤ 140737488351232) (tp : TypeId) (p : Value) (hvar : w.var? Tryd.prog "strconv.ErrRange" = some #[.iface tp p]) (g : Nat) (hgn : Tryd.prog.globalNamed "strconv.ErrRange" = some g) (hgl : g < w.heap.size) :
    Calls Tryd.prog 9 #[.string s] w (NumRes s w) := by
  obtain ⟨x, hx⟩ : ∃ x, ba (magL (bl s)) = x := ⟨_, rfl⟩
  have hbx : bl x = magL (bl s) := by rw [← hx, bl_ba]
  have HT := Lib.hid (fun w => hx ▸ trimp_walk s w)
  clear hx
  by_cases h0 : magL (bl s) = []
  · have hE : x.toList.isEmpty = true := by rw [Lib.toList_data]; show (bl x).isEmpty = true; rw [hbx, h0]; rfl
    have HC := Lib.hid (show (bl x).any (fun c => !digB c) = false by rw [hbx, h0]; rfl)
    have HR := Lib.hid (fun w' (hb : Below w.heap.size w w') => num_form (s := s) (show formL (bl s) = false by simp [formL, h0]) hb)
    clear hbx h0
    go_enter Tryd.func9, Tryd.ntmps9
    go_wp2_with fail
    refine (HT.out _).mono ?_
    rintro e w' ⟨rfl, rfl⟩
    go_wp2_with fail
    refine (cf_walk _ _ _ HC.out).mono ?_
    rintro e w1 ⟨rfl, hb1⟩
    go_wp2_with fail
    go_ret2
    exact HR.out _ hb1
  have hx0 : 0 < x.size := by rw [← bl_length, hbx]; exact List.length_pos_iff.2 h0
  have hE : x.toList.isEmpty = false := by
    rw [Lib.toList_data]; show (bl x).isEmpty = false
    cases hq : bl x with
    | nil => rw [hbx] at hq; exact absurd hq h0
    | cons => rfl
  by_cases hodd : (bl x).any (fun c => !digB c) = true
  · have HC := Lib.hid hodd
    have hd : (magL (bl s)).all digB = false := by
      rw [← hbx]
      cases hq : (bl x).all digB with
      | false => rfl
      | true =>
        exfalso
        obtain ⟨c, hc, hcd⟩ := List.any_eq_true.1 hodd
        have := List.all_eq_true.1 hq c hc
        rw [this] at hcd; cases hcd
    have HR := Lib.hid (fun w' (hb : Below w.heap.size w w') => num_form (s := s) (show formL (bl s) = false by simp [formL, hd]) hb)
    clear hbx h0 hodd hd
    go_enter Tryd.func9, Tryd.ntmps9
    go_wp2_with fail
    refine (HT.out _).mono ?_
    rintro e w' ⟨rfl, rfl⟩
    go_wp2_with fail
    refine (cf_walk _ _ _ HC.out).mono ?_
    rintro e w1 ⟨rfl, hb1⟩
    go_wp2_with fail
    go_ret2
    exact HR.out _ hb1
  have hodd' : (bl x).any (fun c => !digB c) = false := by simpa using hodd
  have hall : (magL (bl s)).all digB = true := by
    rw [← hbx, List.all_eq_true]
    intro c hc
    have := List.any_eq_false.1 hodd' c hc
    simpa using this
  have HC := Lib.hid hodd'
  have hhead : (magL (bl s)).head?.map UInt8.toNat = some x[0].toNat := by
    rw [← hbx, List.head?_eq_getElem?, bl_get x 0 hx0]; rfl
  clear hodd hodd'
  by_cases hz : x[0].toNat = 48 ∧ 1 < s.size
  · have hb := byte_t (m := 48) 48 rfl hx0 hz.1
    have hne : (s.toList == [48]) = false := by
      rw [Lib.toList_data]
      show ((bl s) == [48]) = false
      have h1 : (bl s).length ≠ 1 := by rw [bl_length]; omega
      simp
      intro h; rw [h] at h1; exact h1 rfl
    have HR := Lib.hid (fun w' (hb : Below w.heap.size w w') => num_form (s := s) (show formL (bl s) = false by simp [formL, hhead, hz.1, bl_length, hz.2]) hb)
    clear hbx h0 hall hhead hz
    go_enter Tryd.func9, Tryd.ntmps9
    go_wp2_with fail
    refine (HT.out _).mono ?_
    rintro e w' ⟨rfl, rfl⟩
    go_wp2_with fail
    refine (cf_walk _ _ _ HC.out).mono ?_
    rintro e w1 ⟨rfl, hb1⟩
    go_wp2_with fail
    go_ret2
    exact HR.out _ hb1
  have hform : formL (bl s) = true := by
    simp only [formL, hall, hhead, bl_length]
    simp [h0]
    omega
  have key : ((((x[0].toNat : Nat) : Int) == 48) = false) ∨ ((((x[0].toNat : Nat) : Int) == 48) = true ∧ (s.toList == [48]) = true) := by
    by_cases h48 : x[0].toNat = 48
    · right
      refine ⟨byte_t (m := 48) 48 rfl hx0 h48, ?_⟩
      have hs1 : (bl s).length ≤ 1 := by rw [bl_length]; omega
      have : bl s = [48] := by
        cases hq : bl s with
        | nil => rw [hq] at h0; exact absurd rfl h0
        | cons c r =>
          have hr : r = [] := by rw [hq] at hs1; simp at hs1; exact hs1
          subst hr
          rw [hq] at hbx
          by_cases h45 : c.toNat = 45
          · rw [hq] at h0; exfalso; apply h0; simp [magL, h45]
          · have : bl x = [c] := by rw [hbx]; simp [magL, h45]
            have h2 : (bl x)[0]? = some x[0] := bl_get x 0 hx0
            rw [this] at h2
            simp at h2
            rw [h2]
            congr 1
            exact UInt8.toNat_inj.1 h48
      rw [Lib.toList_data]
      show ((bl s) == [48]) = true
      rw [this]; rfl
    · left; exact byte_f (m := 48) 48 rfl hx0 h48
  clear hbx h0 hall hhead hz
  have hvar1 : ∀ w', Below w.heap.size w w' → w'.var? Tryd.prog "strconv.ErrRange" = some #[.iface tp p] := fun w' hb => var?_below hb hgn hgl hvar
  by_cases hgr : 4611686018427387904 < decVal 0 (magL (bl s))
  · have HR := Lib.hid (fun w' (hb : Below w.heap.size w w') => num_great hform hgr hb)
    rcases atoi_great (bl s) hform hgr with hat | ⟨v, hat, hv⟩
    · have HA := Lib.hid (fun w' hb => atoi_range_walk s w' hs hat tp p (hvar1 w' hb))
      clear hvar1 hvar hgr hform hat
      rcases key with hb | ⟨hb, hst⟩ <;>
      ( go_enter Tryd.func9, Tryd.ntmps9
        go_wp2_with fail
        refine (HT.out _).mono ?_
        rintro e w' ⟨rfl, rfl⟩
        go_wp2_with fail
        refine (cf_walk _ _ _ HC.out).mono ?_
        rintro e w1 ⟨rfl, hb1⟩
        go_wp2_with fail
        refine (HA.out _ hb1).mono ?_
        rintro e w2 ⟨⟨m, N, rfl⟩, hb2⟩
        go_wp2_with fail
        go_ret2
        exact HR.out _ (hb1.trans (hb2.mono hb1.size)) )
    · have HA := Lib.hid (fun w' => atoi_ok_walk s w' hs v hat)
      clear hvar1 hvar hgr hform hat
      rcases hv with hv | hv <;> rcases key with hb | ⟨hb, hst⟩ <;>
      ( go_enter Tryd.func9, Tryd.ntmps9
        go_wp2_with fail
        refine (HT.out _).mono ?_
        rintro e w' ⟨rfl, rfl⟩
        go_wp2_with fail
        refine (cf_walk _ _ _ HC.out).mono ?_
        rintro e w1 ⟨rfl, hb1⟩
        go_wp2_with fail
        refine (HA.out _).mono ?_
        rintro e w2 ⟨rfl, hb2⟩
        go_wp2_with fail
        go_ret2
        exact HR.out _ (hb1.trans (hb2.mono hb1.size)) )
  · have hat := atoi_ok (bl s) hform (by omega)
    obtain ⟨v, hv⟩ : ∃ v, (if negL (bl s) then -(decVal 0 (magL (bl s)) : Int) else (decVal 0 (magL (bl s)) : Int)) = v := ⟨_, rfl⟩
    have hv1 : -4611686018427387904 ≤ v := by rw [← hv]; split <;> omega
    have hv2 : v ≤ 4611686018427387904 := by rw [← hv]; split <;> omega
    rw [hv] at hat
    have HA := Lib.hid (fun w' => atoi_ok_walk s w' hs v hat)
    have HR := Lib.hid (fun w' (hb : Below w.heap.size w w') => num_ok hform hgr v hv hb)
    clear hvar1 hvar hgr hform hat hv
    rcases key with hb | ⟨hb, hst⟩ <;>
    ( go_enter Tryd.func9, Tryd.ntmps9
      go_wp2_with fail
      refine (HT.out _).mono ?_
      rintro e w' ⟨rfl, rfl⟩
      go_wp2_with fail
      refine (cf_walk _ _ _ HC.out).mono ?_
      rintro e w1 ⟨rfl, hb1⟩
      go_wp2_with fail
      refine (HA.out _).mono ?_
      rintro e w2 ⟨rfl, hb2⟩
      go_wp2_with fail
      go_ret2
      exact HR.out _ (hb1.trans (hb2.mono hb1.size)) )
end Go.Proofs.YtefkhjbgkaknmaaDoor
