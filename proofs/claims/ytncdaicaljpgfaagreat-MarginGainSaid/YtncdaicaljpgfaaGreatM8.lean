/- AL: long runs, cut into pieces: what lay in memory stays, what was made is let go. · Margins: what the examples of the chapter lie in. -/
import Derived.Test.YtncdaicaljpgfaaGreatAlXl
import Derived.Test.YtncdaicaljpgfaaGreatM1
set_option maxRecDepth 100000
set_option linter.unusedVariables false
namespace Go.Proofs.YtncdaicaljpgfaaGreat
def eqEnv : Env → Env → Bool
  | [], [] => true
  | p :: r, q :: s => (Nat.beq p.1 q.1 && eqV p.2 q.2) && eqEnv r s
  | _, _ => false
theorem eqEnv_eq : ∀ {E E' : Env}, eqEnv E E' = true → E = E'
  | [], [], _ => rfl
  | [], _ :: _, h => by cases h
  | _ :: _, [], h => by cases h
  | (a, v) :: r, (b, w) :: s, h => by
    unfold eqEnv at h
    rw [Bool.and_eq_true, Bool.and_eq_true] at h
    rw [eqEnv_eq h.2, show a = b from Nat.eq_of_beq_eq_true h.1.1, show v = w from eqV_eq h.1.2]
def idS (n : Nat) : Nat → Sg := sgN (List.range n)
def keepT (T : Tri Blk) (n : Nat) : Bool := nodupO ((List.range n).map some) && (List.range n).all fun a => eqB ((T.get a).map (Blk.ren (idS n))) (T.get a)
noncomputable def stepOk (L : Lib) (f N n : Nat) (c : AC) (E E' : Env) (T : Tri Blk) : Bool := match codeF L (funcF L f) 1000000 N c E T n with | some (.normal, E1, T1, _) => eqEnv E1 E' && (List.range n).all fun a => eqB (T1.get a) (T.get a) | _ => false
theorem runC {L : Lib} {f fuel N : Nat} {c : AC} {E : Env} {T : Tri Blk} {n : Nat} {r : Option StX} (h : codeF L (funcF L f) fuel N c E T n = r) : codeR L (funcR L f) fuel N c E T n = r := by
  rw [codeF_eq, funcF_eq] at h; exact h
theorem runStep {L : Lib} {f N n : Nat} {c c2 : AC} {E E' : Env} {T : Tri Blk} {H : Heap} {Q : Exit → Env → Heap → Prop} (h : stepOk L f N n c E E' T = true) (hk : keepT T n = true) (he : eqEnv (E'.sh (idS n)) E' = true) (hr : HR T n H) (k : SWP L 0 N c2 Q E' H) : SWP L 0 N c (qN L 0 N c2 Q) E H := by
  unfold stepOk at h
  split at h
  case h_2 => cases h
  rename_i E1 T1 n1 hc
  rw [Bool.and_eq_true, List.all_eq_true] at h
  obtain ⟨h1, h2⟩ := h
  unfold keepT at hk
  rw [Bool.and_eq_true, List.all_eq_true] at hk
  obtain ⟨hn, hk⟩ := hk
  obtain rfl := eqEnv_eq h1
  refine codeR_sound (funcR_sound L f) c (runC hc) hr (fun H1 hr1 => ?_)
  show SWP L 0 N c2 Q E1 H1
  refine SWP.shift ((List.range n).map some) [] (by unfold okSh; rw [hn]; rfl) ?_
  rw [sgN_eq, show E1.sh (sgN (List.range n)) = E1 from eqEnv_eq he]
  have hH : H1.sh ((List.range n).map some) [] = H := by
    refine HR.unique (T := T) (n := n) ⟨by simp [Heap.sh], ?_⟩ hr
    funext a
    rw [Heap.sh_get, sgN_eq]
    by_cases ha : a < n
    · have e1 : ((List.range n).map some)[a]? = some (some a) := by simp [ha]
      have e2 : H1.get a = T.get a := by rw [hr1.2]; exact eqB_eq (h2 a (List.mem_range.2 ha))
      rw [e1]
      show (H1.get a).map (Blk.ren (sgN (List.range n))) = T.get a
      rw [e2]
      exact eqB_eq (hk a (List.mem_range.2 ha))
    · have e1 : ((List.range n).map some)[a]? = none := by simp; omega
      rw [e1]
      show none = T.get a
      rw [← hr.2]
      unfold Heap.get
      rw [List.getElem?_eq_none (by rw [hr.1]; omega)]; rfl
  rw [hH]
  exact k
end Go.Proofs.YtncdaicaljpgfaaGreat
set_option maxRecDepth 100000
set_option linter.unusedVariables false
set_option linter.unusedSimpArgs false
namespace Go.Proofs.YtncdaicaljpgfaaGreat
/-- The program's functions; the cheapest of some is looked for in every order. -/
noncomputable def LN : Lib := { LL with nd := fun k => Nat.beq k 176 }
def TW : Tri Blk := (.n (.n (.n (.n .e (some (.arr 2 [[.ref 4 1 0 1 (some 1), .int .i64 53], [.ref 5 1 0 1 (some 1), .int .i64 24], [.ref 6 1 0 1 (some 1), .int .i64 23]])) .e) (some (.arr 3 [[.int .i64 2, .int .u8 2, .ref 2 2 0 2 (some 2)]])) .e) (some (.arr 1 [[.int .i64 1]])) (.n .e (some (.arr 1 [[.int .i64 1]])) .e)) (some (.arr 1 [[.int .i64 0]])) (.n (.n (.n .e (some (.arr 3 [[.int .i64 3, .int .u8 2, .ref 7 2 0 3 (some 3)]])) .e) (some (.arr 1 [[.int .i64 0]])) .e) (some (.arr 2 [[.ref 0 1 0 1 (some 1), .int .i64 5], [.ref 1 1 0 1 (some 1), .int .i64 3]])) (.n .e (some (.arr 1 [[.int .i64 2]])) .e)))
def TW1 : Tri Blk := (.n (.n (.n .e (some (.arr 3 [[.int .i64 2, .int .u8 2, .ref 2 2 0 2 (some 2)]])) .e) (some (.arr 1 [[.int .i64 1]])) .e) (some (.arr 1 [[.int .i64 0]])) (.n .e (some (.arr 2 [[.ref 0 1 0 1 (some 1), .int .i64 5], [.ref 1 1 0 1 (some 1), .int .i64 3]])) .e))
def eW1 : Env := [(1, .ptr 3 3 0 0)]
def eW2 : Env := [(1, .ptr 3 3 0 0), (2, .ptr 8 3 0 0)]
def eW3 : Env := [(1, .ptr 3 3 0 0), (2, .ptr 8 3 0 0), (3, .int .i64 2), (4, .bool true), (5, .int .i64 0)]
def eW4 : Env := [(1, .ptr 3 3 0 0), (2, .ptr 8 3 0 0), (3, .int .i64 2), (4, .bool true), (5, .int .i64 0), (6, .int .i64 1), (8, .int .i64 0)]
def eW5 : Env := [(1, .ptr 3 3 0 0), (2, .ptr 8 3 0 0), (3, .int .i64 2), (4, .bool true), (5, .int .i64 0), (6, .int .i64 1), (8, .int .i64 0), (9, .int .i64 1), (10, .bool true), (11, .int .i64 0)]
def eW6 : Env := [(1, .ptr 3 3 0 0), (2, .ptr 8 3 0 0), (3, .int .i64 2), (4, .bool true), (5, .int .i64 0), (6, .int .i64 1), (8, .int .i64 0), (9, .int .i64 1), (10, .bool true), (11, .int .i64 0), (12, .int .i64 1), (13, .bool false), (14, .int .i64 0)]
def eW7 : Env := [(2, .ptr 8 3 0 0), (3, .int .i64 2), (4, .bool true), (5, .int .i64 0), (6, .int .i64 1), (8, .int .i64 0), (9, .int .i64 1), (10, .bool true), (11, .int .i64 0), (12, .int .i64 1), (13, .bool false), (14, .int .i64 0), (17, .int .i64 6)]
def eW8 : Env := [(2, .ptr 8 3 0 0), (3, .int .i64 2), (4, .bool true), (5, .int .i64 0), (6, .int .i64 1), (8, .int .i64 0), (9, .int .i64 1), (10, .bool true), (11, .int .i64 0), (12, .int .i64 1), (13, .bool false), (14, .int .i64 0), (17, .int .i64 6), (20, .int .i64 6)]
def eW9 : Env := [(3, .int .i64 2), (4, .bool true), (5, .int .i64 0), (6, .int .i64 1), (8, .int .i64 0), (9, .int .i64 1), (10, .bool true), (11, .int .i64 0), (12, .int .i64 1), (13, .bool false), (14, .int .i64 0), (17, .int .i64 6), (20, .int .i64 6), (23, .int .i64 270)]
def eW10 : Env := [(3, .int .i64 2), (4, .bool true), (5, .int .i64 0), (6, .int .i64 1), (8, .int .i64 0), (9, .int .i64 1), (10, .bool true), (11, .int .i64 0), (12, .int .i64 1), (13, .bool false), (14, .int .i64 0), (17, .int .i64 6), (20, .int .i64 6), (23, .int .i64 270), (24, .int .i64 15), (25, .int .i64 0)]
def eW11 : Env := [(3, .int .i64 2), (4, .bool true), (5, .int .i64 0), (6, .int .i64 1), (8, .int .i64 0), (9, .int .i64 1), (10, .bool true), (11, .int .i64 0), (12, .int .i64 1), (13, .bool false), (14, .int .i64 0), (17, .int .i64 6), (20, .int .i64 6), (23, .int .i64 270), (24, .int .i64 15), (25, .int .i64 0), (27, .int .i64 2)]
def eW12 : Env := [(3, .int .i64 2), (4, .bool true), (5, .int .i64 0), (6, .int .i64 1), (8, .int .i64 0), (9, .int .i64 1), (10, .bool true), (11, .int .i64 0), (12, .int .i64 1), (13, .bool false), (14, .int .i64 0), (17, .int .i64 6), (20, .int .i64 6), (23, .int .i64 270), (24, .int .i64 15), (25, .int .i64 0), (27, .int .i64 2), (28, .int .i64 4), (29, .bool true), (30, .int .i64 0)]
def eW13 : Env := [(3, .int .i64 2), (4, .bool true), (5, .int .i64 0), (6, .int .i64 1), (8, .int .i64 0), (9, .int .i64 1), (10, .bool true), (11, .int .i64 0), (12, .int .i64 1), (13, .bool false), (14, .int .i64 0), (17, .int .i64 6), (20, .int .i64 6), (23, .int .i64 270), (24, .int .i64 15), (25, .int .i64 0), (27, .int .i64 2), (28, .int .i64 4), (29, .bool true), (30, .int .i64 0), (32, .bool false), (33, .int .i64 0)]
def eW14 : Env := [(3, .int .i64 2), (4, .bool true), (5, .int .i64 0), (6, .int .i64 1), (8, .int .i64 0), (9, .int .i64 1), (10, .bool true), (11, .int .i64 0), (12, .int .i64 1), (13, .bool false), (14, .int .i64 0), (17, .int .i64 6), (20, .int .i64 6), (23, .int .i64 270), (24, .int .i64 15), (25, .int .i64 0), (27, .int .i64 2), (28, .int .i64 4), (29, .bool true), (30, .int .i64 0), (32, .bool false), (33, .int .i64 0), (36, .int .i64 2)]
theorem keepW : keepT TW 9 = true := by kernel_rfl
theorem fixW1 : eqEnv ((eW1).sh (idS 9)) eW1 = true := by kernel_rfl
theorem fixW2 : eqEnv ((eW2).sh (idS 9)) eW2 = true := by kernel_rfl
theorem fixW3 : eqEnv ((eW3).sh (idS 9)) eW3 = true := by kernel_rfl
theorem fixW4 : eqEnv ((eW4).sh (idS 9)) eW4 = true := by kernel_rfl
theorem fixW5 : eqEnv ((eW5).sh (idS 9)) eW5 = true := by kernel_rfl
theorem fixW6 : eqEnv ((eW6).sh (idS 9)) eW6 = true := by kernel_rfl
theorem fixW7 : eqEnv ((eW7).sh (idS 9)) eW7 = true := by kernel_rfl
theorem fixW8 : eqEnv ((eW8).sh (idS 9)) eW8 = true := by kernel_rfl
theorem fixW9 : eqEnv ((eW9).sh (idS 9)) eW9 = true := by kernel_rfl
theorem fixW10 : eqEnv ((eW10).sh (idS 9)) eW10 = true := by kernel_rfl
theorem fixW11 : eqEnv ((eW11).sh (idS 9)) eW11 = true := by kernel_rfl
theorem fixW12 : eqEnv ((eW12).sh (idS 9)) eW12 = true := by kernel_rfl
theorem fixW13 : eqEnv ((eW13).sh (idS 9)) eW13 = true := by kernel_rfl
theorem fixW14 : eqEnv ((eW14).sh (idS 9)) eW14 = true := by kernel_rfl
theorem runW0 : codeR LN (funcR LN 999) 1000000 T6.1.ntmps T6.1.body.l [] .e 0 = some (.normal, [], .e, 0) := by kernel_rfl
theorem runW1 : codeR LN (funcR LN 999) 1000000 T6.1.ntmps T6.1.body.r.l [] .e 0 = some (.normal, eW1, TW1, 4) := by kernel_rfl
theorem runW15 : codeR LN (funcR LN 999) 1000000 T6.1.ntmps T6.1.body.r.r.r.r.r.r.r.r.r.r.r.r.r.r.r.l eW14 TW 9 = some (.normal, [(0, .bool true)], TW, 9) := by kernel_rfl
theorem runW2 : codeR LN (funcR LN 999) 1000000 T6.1.ntmps T6.1.body.r.r.l eW1 TW1 4 = some (.normal, eW2, TW, 9) := by kernel_rfl
end Go.Proofs.YtncdaicaljpgfaaGreat
