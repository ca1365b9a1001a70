/- The law WordsNumbers, walked out of its callees' contracts. -/
import Derived.Test.YtefkhjbgkaknmaaDoorNum3
set_option linter.unusedVariables false
namespace Go.Proofs.YtefkhjbgkaknmaaDoor
open Go.RowKit Go.Shelf

set_option maxRecDepth 100000 in
set_option maxHeartbeats 1000000 in
theorem numbers_law (s : ByteArray) (n : Int) (w : World) (hs : s.size ≤ 140737488351232) (h0 : -9223372036854775808 ≤ n) (h1 : n ≤ 9223372036854775807)
    (htab : ∀ w', Below w.heap.size w w' → Lib.TabIs Tryd.prog w' "internal/strconv.uint64pow10" .u64 Lib.pow10Tab) (tp : TypeId) (p : Value) (hvar : w.var? Tryd.prog "strconv.ErrRange" = some #[.iface tp p]) (g : Nat) (hgn : Tryd.prog.globalNamed "strconv.ErrRange" = some g) (hgl : g < w.heap.size) :
    Calls Tryd.prog 3 #[.string s, .int .i64 n] w fun e w' => e = .returned (.bool true) ∧ Below w.heap.size w w' := by
  by_cases hb : 20000 < s.size
  · clear htab
    go_enter Tryd.func3, Tryd.ntmps3
    go_wp2
    go_ret
    exact ⟨rfl, Below.refl _ _⟩
  have HT := Lib.hid htab
  have HV := Lib.hid (number_walk s w hs tp p hvar g hgn hgl)
  have HR := Lib.hid (fun w' => rnumber_walk s w' hs)
  have HS := Lib.hid (fun w' ht => show_walk n h0 h1 w' ht)
  have HQ := Lib.hid (fun w' => rshow_walk n h0 h1 w')
  obtain ⟨a, ha⟩ : ∃ a, (numL (bl s)).1 = a := ⟨_, rfl⟩
  obtain ⟨c, hc⟩ : ∃ c, (numL (bl s)).2 = c := ⟨_, rfl⟩
  obtain ⟨t, ht⟩ : ∃ t, ba (Lib.itoa n) = t := ⟨_, rfl⟩
  unfold NumRes at HV
  unfold RNumRes at HR
  rw [ha, hc] at HV HR
  rw [ht] at HS HQ
  clear htab hvar hgn hgl ha hc ht
  go_enter Tryd.func3, Tryd.ntmps3
  go_wp2_with fail
  refine HV.out.mono ?_
  rintro e w1 ⟨rfl, hb1⟩
  go_wp2_with fail
  refine (HR.out _).mono ?_
  rintro e w2 ⟨rfl, rfl⟩
  go_wp2_with fail
  refine (HS.out _ (HT.out _ hb1)).mono ?_
  rintro e w3 ⟨rfl, hb3⟩
  go_wp2_with fail
  refine (HQ.out _).mono ?_
  rintro e w4 ⟨rfl, hb4⟩
  go_wp2_with fail
  go_ret
  exact ⟨rfl, hb1.trans ((hb3.trans (hb4.mono hb3.size)).mono hb1.size)⟩
end Go.Proofs.YtefkhjbgkaknmaaDoor
