/- AL: strconv.Atoi at every string, known by what it yields alone; the two variables that it reads; contracts told of calls from outside, with these variables. -/
import Derived.Test.YtnhfbabenifbkaaGreatDoorAlOq
import Derived.Test.YtnhfbabenifbkaaGreatDoorShelf3
import Derived.Test.YtnhfbabenifbkaaGreatDoorRows
import Derived.Stop.LaidErr
import Derived.Stop.Joined
import Derived.WalkSmall
set_option maxRecDepth 100000
set_option linter.unusedVariables false
namespace Go.Proofs.YtnhfbabenifbkaaGreatDoor
open Go.RowKit Go.Shelf
open Go.Extern.Stop Go.Stop Go.Extern
theorem gSyn : Tryz.prog.globalNamed "strconv.ErrSyntax" = some 0 := by kernel_rfl
theorem gRng : Tryz.prog.globalNamed "strconv.ErrRange" = some 1 := by kernel_rfl
theorem gSynT : (Tryz.prog.globals[0]?).map (·.type) = some 68 := by kernel_rfl
theorem gRngT : (Tryz.prog.globals[1]?).map (·.type) = some 68 := by kernel_rfl
theorem cellsErr : Tryz.prog.cellsOf 138 = 1 := by kernel_rfl
theorem cellsStr9 : Tryz.prog.cellsOf 9 = 1 := by kernel_rfl
theorem star : "*" ++ "errors.errorString" = "*errors.errorString" := by decide
theorem rowErr (u : TypeId) (h : Tryz.prog.typeName? 3 u = some "*errors.errorString") : u = 136 :=
  typeName_ptr_named (nm := "errors.errorString") (by rw [star]; kernel_rfl) (by kernel_rfl) (by decide) u (by rw [star]; exact h)
/-- What an error variable holds. -/
def errV : V := .iptr 1 [[.iface 136 .bot]] 0 0
def GA (g : Nat) : Option V := bif Nat.beq g 0 then some errV else bif Nat.beq g 1 then some errV else none
def endN : Lib.NumEnd Int → List UInt8 → Int
  | .ok v, _ => v
  | .range, s => Lib.atoiSat s
  | _, _ => 0
def atoiN (s : List UInt8) : Int := endN (Lib.atoiAll s) s
def xAt (k : Nat) : List V → Option V
  | [.str s] => bif Nat.beq k 56 && Nat.ble s.length 1000000 then some (.tup [.int .i64 (atoiN s), .bot]) else none
  | _ => none
noncomputable def LA : Lib := { T := tab.get, G := GA, X := xAt }
noncomputable def CA : Ctx := { CC with G := GA }
theorem err_cell {w : World} {S : Nat → Prop} {g : Nat} (h : Rel CA.N w S (fun _ => none) errV (.pointer (some ⟨g, 0, none⟩))) : ∃ T p, w.cell? ⟨g, 0, none⟩ = some (.iface T p) := by
  unfold errV at h
  generalize hx : Value.pointer (some ⟨g, 0, none⟩) = x at h
  cases h with
  | iptr _ _ _ _ _ b off ys hS hr hy hv =>
    obtain ⟨h1, _⟩ := hy 0 _ 0 _ rfl rfl
    have h2 := hv 0 _ 0 _ rfl rfl
    generalize ys 0 0 = y at h1 h2
    cases h2 with
    | iface _ _ T ht _ y' _ =>
      have : g = b ∧ 0 = off + 0 * 1 + 0 := by
        have := Value.pointer.inj hx
        have := Option.some.inj this
        exact ⟨congrArg Addr.block this, congrArg Addr.off this⟩
      obtain ⟨rfl, h3⟩ := this
      rw [← h3] at h1
      exact ⟨T, y', h1⟩
theorem frm_below {w w' : World} (h : Below w.heap.size w w') : Frm (fun _ => False) w w' :=
  ⟨h.os, h.tape, h.output, h.size, fun b hb _ => h.block b hb, fun b m ⟨cells, T, fz, h1, h2⟩ => ⟨cells, T, fz, by rw [h.block b (Array.getElem?_eq_some_iff.1 h1).1]; exact h1, h2⟩⟩
theorem okA : Ok LA CA := by
  have h := okC
  refine ⟨h.fn, rfl, h.body, fun k fid args r hk hX A w β hp vs hh hg ha hA => ?_⟩
  have hk' : CT.fns k = some fid := hk
  obtain ⟨rfl, _⟩ := CT_fns hk'
  change xAt k args = some r at hX
  unfold xAt at hX
  split at hX
  · rename_i s
    cases hb : Nat.beq k 56 && Nat.ble s.length 1000000 with
    | false => rw [hb] at hX; cases hX
    | true =>
      rw [hb] at hX
      cases hX
      rw [Bool.and_eq_true] at hb
      obtain ⟨hb1, hb2⟩ := hb
      obtain rfl := Nat.eq_of_beq_eq_true hb1
      have hlen := Nat.le_of_ble_eq_true hb2
      obtain ⟨ha1, ha2⟩ := ha
      have hsz : vs.size = 1 := ha1
      have hr := ha2 0 _ vs[0] rfl (by simp [hsz])
      generalize hv0 : vs[0] = v0 at hr
      cases hr with
      | str _ b =>
        obtain rfl : vs = #[.string b] := by
          apply Array.ext
          · simp [hsz]
          · intro i h1 h2
            have : i = 0 := by omega
            subst this
            simpa using hv0
        have hbs : b.size ≤ 1000000 := by simpa using hlen
        obtain ⟨T0, p0, hc0⟩ := err_cell (hg 0 0 errV rfl rfl)
        obtain ⟨T1, p1, hc1⟩ := err_cell (hg 1 1 errV rfl rfl)
        have fin : ∀ {n : Int} {x : Value} {w' : World}, x.oneCell' = true → Below w.heap.size w w' → ∃ v, Ending.returned (.tuple #[.int .i64 n, x]) = .returned v ∧ Frm (fun _ => False) w w' ∧ Rel CA.N w' (Imm A w' β hp) β (.tup [.int .i64 n, .bot]) v := fun hx hbel => ⟨_, rfl, frm_below hbel, .tup _ _ _ rfl fun i c y hc hy => by
          match i with
          | 0 => simp at hc hy; subst hc; subst hy; exact .int _ _ _
          | 1 => simp at hc hy; subst hc; subst hy; exact .bot _ _ hx
          | n + 2 => simp at hc⟩
        cases he : Lib.atoiAll b.data.toList
        · rename_i v
          refine (Any.strconv_Atoi_ok (ρ := Tryz.laysC172_ren) Tryz.laysC172 b (by omega) v he w).mono ?_
          rintro e w' ⟨rfl, hw⟩
          have : atoiN b.data.toList = v := by unfold atoiN; rw [he]; rfl
          rw [this]
          refine fin rfl ?_
          rcases hw with rfl | ⟨t, rfl⟩
          · exact Below.refl _ _
          · exact Lib.bytesWorld_below _ _ _
        · refine (Any.strconv_Atoi_syntax (ρ := Tryz.laysC172_ren) Tryz.laysC172 b (by omega) he _ w hc0 (.inr ⟨_, _, rfl⟩)).mono ?_
          rintro e w' ⟨N, rfl, _, _, hbel⟩
          have : atoiN b.data.toList = 0 := by unfold atoiN; rw [he]; rfl
          rw [this]
          exact fin rfl hbel
        · refine (Any.strconv_Atoi_range (ρ := Tryz.laysC172_ren) Tryz.laysC172 b (by omega) he _ w hc1 (.inr ⟨_, _, rfl⟩)).mono ?_
          rintro e w' ⟨N, rfl, _, _, hbel⟩
          have : atoiN b.data.toList = Lib.atoiSat b.data.toList := by unfold atoiN; rw [he]; rfl
          rw [this]
          exact fin rfl hbel
  · cases hX
theorem atoi_v (s : List UInt8) (hs : s.length ≤ 1000000) : VFn LA 56 [.str s] (.tup [.int .i64 (atoiN s), .bot]) := by
  refine ⟨rfl, rfl, AFn.of_ext ?_ []⟩
  show (bif Nat.beq _ _ && Nat.ble s.length 1000000 then _ else _) = _
  rw [show Nat.ble s.length 1000000 = true from Nat.ble_eq_true_of_le hs]
  rfl
theorem vfn_lift {k : Nat} {vs : List V} {r : V} (h : VFn LL k vs r) : VFn LA k vs r := by
  refine ⟨h.1, h.2.1, fun C hC A w β xs hA hd hh hg ha => ?_⟩
  exact h.2.2 { C with G := fun _ => none } ⟨hC.fn, rfl, hC.body, fun _ _ _ _ _ hX => by cases hX⟩ A w β xs hA hd hh (fun g k v _ h => by cases h) ha
/-- What the listed variables give. -/
theorem errs_laid {r : List (String × DataW Unit)} {W : World} (h : laidMet Tryz.prog (("strconv.ErrRange", Rows.laid_strconv_ErrRange) :: ("strconv.ErrSyntax", Rows.laid_strconv_ErrSyntax) :: r) W) : GlobR (fun b => W.heap.size ≤ b ∨ True) CA W (fun _ => none) (Heap.get []) := by
  obtain ⟨a1, s1, hv1, _⟩ := laid_sentinel h gRng gRngT Tryz.underlying68 rowErr Tryz.underlying136 Tryz.underlying138 rfl rfl Tryz.underlying9 cellsErr cellsStr9
  obtain ⟨a0, s0, hv0, _⟩ := laid_sentinel h.tail gSyn gSynT Tryz.underlying68 rowErr Tryz.underlying136 Tryz.underlying138 rfl rfl Tryz.underlying9 cellsErr cellsStr9
  have c1 := World.var?_cell gRng hv1 0
  have c0 := World.var?_cell gSyn hv0 0
  have mk : ∀ (g : Nat) (a : Addr), W.cell? ⟨g, 0, none⟩ = some (.iface 136 (.pointer (some a))) → Rel CA.N W (Imm (fun b => W.heap.size ≤ b ∨ True) W (fun _ => none) (Heap.get [])) (fun _ => none) errV (.pointer (some ⟨g, 0, none⟩)) := fun g a hc =>
    Rel.iptr (fun _ => none) 1 [[.iface 136 .bot]] 0 0 g 0 (fun _ _ => .iface 136 (.pointer (some a))) (old_of hc)
      (fun i row hr => by match i with | 0 => simp at hr; subst hr; rfl | n + 1 => simp at hr)
      (fun i row j x hr hx => by
        match i with
        | 0 =>
          simp at hr; subst hr
          match j with
          | 0 => exact ⟨hc, rfl⟩
          | n + 1 => simp at hx
        | n + 1 => simp at hr)
      (fun i row j x hr hx => by
        match i with
        | 0 =>
          simp at hr; subst hr
          match j with
          | 0 => simp at hx; subst hx; exact .iface _ _ _ rfl _ _ (.bot _ _ rfl)
          | n + 1 => simp at hx
        | n + 1 => simp at hr)
  intro g k v hgk hG
  have hgk : some g = some k := hgk
  cases hgk
  have hG : GA g = some v := hG
  unfold GA at hG
  cases b0 : Nat.beq g 0 with
  | true =>
    rw [b0] at hG
    obtain rfl := Nat.eq_of_beq_eq_true b0
    cases hG
    exact mk 0 a0 (by simpa using c0)
  | false =>
    rw [b0] at hG
    cases b1 : Nat.beq g 1 with
    | true =>
      rw [b1] at hG
      obtain rfl := Nat.eq_of_beq_eq_true b1
      cases hG
      exact mk 1 a1 (by simpa using c1)
    | false => rw [b1] at hG; cases hG
theorem law_argsA {r : List (String × DataW Unit)} {k : Nat} {vs : List V} {xs : List Value} (h : AFn LA (.fn k) vs [] (fun r' H' => r' = .bool true ∧ H' = [])) (hk : CT.fns k = some k) (W : World) (hl : laidMet Tryz.prog (("strconv.ErrRange", Rows.laid_strconv_ErrRange) :: ("strconv.ErrSyntax", Rows.laid_strconv_ErrSyntax) :: r) W) (hr : RelAll W vs xs) :
    Calls Tryz.prog k xs.toArray W fun e w' => e = .returned (.bool true) ∧ Below W.heap.size W w' := by
  obtain ⟨h1, h2⟩ := hr.get
  refine Calls.mono (h CA okA (fun b => W.heap.size ≤ b ∨ True) W (fun _ => none) xs.toArray (fun _ _ => .inr trivial) (fun _ _ => rfl) ⟨fun a k h => by simp [Heap.get] at h, fun a a' b h => absurd (by simp [Heap.get]) h⟩ (errs_laid hl) ⟨by simp [h1], fun i v x hv hx => h2 i v x hv (by simpa using hx)⟩ k hk) ?_
  rintro e w' ⟨v, r', H', β', rfl, ⟨rfl, _⟩, _, _, _, _, hrel, _, hf⟩
  cases hrel
  exact ⟨rfl, ⟨hf.os, hf.tape, hf.output, hf.size, fun b hb => hf.block b hb (fun ⟨a, ha, _⟩ => by simp [Heap.get] at ha)⟩⟩
end Go.Proofs.YtnhfbabenifbkaaGreatDoor
