/- AL: walking code by its places: no text of the code is needed. -/
import Derived.Test.YtnhfbabenifbkaaGreatDoorAlRw
set_option linter.unusedVariables false
set_option linter.unusedSimpArgs false
namespace Go.Proofs.YtnhfbabenifbkaaGreatDoor
/-- Parts of code, by place. -/
def AC.l : AC → AC
  | .seq a _ | .cond _ a _ | .block _ a | .loop a | .range _ _ a _ => a
  | c => c
def AC.r : AC → AC
  | .seq _ b | .cond _ _ b | .range _ _ _ b => b
  | c => c
def AC.tag : AC → Nat
  | .skip => 0 | .ops false _ _ => 1 | .ops true _ _ => 2 | .seq _ _ => 3 | .cond _ _ _ => 4 | .block _ _ => 5 | .loop _ => 6 | .range _ _ _ _ => 7 | .exit _ => 8 | .ret => 9 | .no => 10
def AC.il : AC → List AI
  | .ops _ l _ => l
  | _ => []
def AC.ks : AC → List Nat
  | .ops _ _ ks => ks
  | _ => []
def AC.id : AC → Nat
  | .block i _ | .exit i => i
  | _ => 0
def AC.c : AC → AOpd
  | .cond c _ _ => c
  | .range g _ _ _ => g
  | _ => .t 0
/-- What comes next; ends of blocks. -/
def qN (L : Lib) (n0 N : Nat) (c : AC) (Q : Exit → Env → Heap → Prop) : Exit → Env → Heap → Prop := AX.then (SWP L n0 N c Q) Q
def qB (id : Nat) (Q : Exit → Env → Heap → Prop) : Exit → Env → Heap → Prop := AX.inBlock id Q
section
variable {L : Lib} {n0 N : Nat} {Q : Exit → Env → Heap → Prop} {E : Env} {H : Heap} {c : AC}
theorem qN_n : qN L n0 N c Q .normal E H = SWP L n0 N c Q E H := rfl
theorem qN_e {i : Nat} : qN L n0 N c Q (.exit i) E H = Q (.exit i) E H := rfl
theorem qN_r : qN L n0 N c Q .ret E H = Q .ret E H := rfl
theorem qB_n {id : Nat} : qB id Q .normal E H = Q .normal E H := rfl
theorem qB_e {id i : Nat} : qB id Q (.exit i) E H = if i = id then Q .normal E H else Q (.exit i) E H := rfl
theorem qB_r {id : Nat} : qB id Q .ret E H = Q .ret E H := rfl
theorem wSkip (h : c.tag = 0) (k : Q .normal E H) : SWP L n0 N c Q E H := by
  cases c with
  | skip => exact SWP.skip k
  | ops d _ _ => cases d <;> cases h
  | _ => cases h
theorem wSeq (h : c.tag = 3) (k : SWP L n0 N c.l (qN L n0 N c.r Q) E H) : SWP L n0 N c Q E H := by
  cases c with
  | seq a b => exact SWP.seq k
  | ops d _ _ => cases d <;> cases h
  | _ => cases h
theorem wBlock (h : c.tag = 5) (k : SWP L n0 N c.l (qB c.id Q) E H) : SWP L n0 N c Q E H := by
  cases c with
  | block i a => exact SWP.block k
  | ops d _ _ => cases d <;> cases h
  | _ => cases h
theorem wExit (h : c.tag = 8) (k : Q (.exit c.id) E H) : SWP L n0 N c Q E H := by
  cases c with
  | exit i => exact SWP.exit k
  | ops d _ _ => cases d <;> cases h
  | _ => cases h
theorem wRet (h : c.tag = 9) (k : Q .ret E H) : SWP L n0 N c Q E H := by
  cases c with
  | ret => exact SWP.ret k
  | ops d _ _ => cases d <;> cases h
  | _ => cases h
theorem wOps {l : List AI} {ks : List Nat} (h : c = .ops false l ks) (k : opsV [] L l (fun E H => Q .normal (E.kill ks) H) E H) : SWP L n0 N c Q E H := by
  subst h; exact SWP.opsV k
theorem wOpsP {l : List AI} {ks : List Nat} (h : c = .ops false l ks) (k : opsP L l (fun E H => Q .normal (E.kill ks) H) E H) : SWP L n0 N c Q E H := by
  subst h; exact SWP.ops k
theorem wDraw {l : List AI} {ks : List Nat} (h : c = .ops true l ks) (hs : safeV [] l [] [] = true) (k : opsV [] L l (fun E H => Q .normal (E.kill ks) H) E H) : SWP L n0 N c Q E H := by
  subst h; exact SWP.drawV hs k
/-- Where calls make blocks. -/
theorem wOpsM (mk : List Nat) {l : List AI} {ks : List Nat} (h : c = .ops false l ks) (k : opsV mk L l (fun E H => Q .normal (E.kill ks) H) E H) : SWP L n0 N c Q E H := by
  subst h; exact SWP.opsV k
theorem wDrawM (mk : List Nat) {l : List AI} {ks : List Nat} (h : c = .ops true l ks) (hs : safeV mk l [] [] = true) (k : opsV mk L l (fun E H => Q .normal (E.kill ks) H) E H) : SWP L n0 N c Q E H := by
  subst h; exact SWP.drawV hs k
theorem wCondT (h : c.tag = 4) (hv : opval L.G E.get c.c = some (.bool true)) (k : SWP L n0 N c.l Q E H) : SWP L n0 N c Q E H := by
  cases c with
  | cond x a b => exact SWP.cond (t := true) hv k
  | ops d _ _ => cases d <;> cases h
  | _ => cases h
theorem wCondF (h : c.tag = 4) (hv : opval L.G E.get c.c = some (.bool false)) (k : SWP L n0 N c.r Q E H) : SWP L n0 N c Q E H := by
  cases c with
  | cond x a b => exact SWP.cond (t := false) hv k
  | ops d _ _ => cases d <;> cases h
  | _ => cases h
/-- Both ways. -/
theorem wCond {t : Bool} (h : c.tag = 4) (hv : opval L.G E.get c.c = some (.bool t)) (k1 : t = true → SWP L n0 N c.l Q E H) (k2 : t = false → SWP L n0 N c.r Q E H) : SWP L n0 N c Q E H := by
  cases t with
  | true => exact wCondT h hv (k1 rfl)
  | false => exact wCondF h hv (k2 rfl)
theorem wLoop (h : c.tag = 6) (I : Nat → Env → Heap → Prop) (m0 : Nat) (h0 : I m0 E H)
    (round : ∀ m E H, I m E H → SWP L n0 N c.l (AX.then (fun E' H' => ∃ m', m' < m ∧ (I m' E' H' ∨ ∃ src fz, okSh n0 src = true ∧ I m' (E'.sh (sgOf H' src fz)) (H'.sh src fz))) Q) E H) : SWP L n0 N c Q E H := by
  cases c with
  | loop x => exact SWP.loop I h0 round
  | ops d _ _ => cases d <;> cases h
  | _ => cases h
/-- Where a round of a counted loop ends. -/
def qR (n0 : Nat) (E1 : Env) (H1 : Heap) (P : Prop) (Q : Exit → Env → Heap → Prop) : Exit → Env → Heap → Prop
  | .normal, E, H => (E = E1 ∧ H = H1 ∨ ∃ src fz, okSh n0 src = true ∧ E.sh (sgOf H src fz) = E1 ∧ H.sh src fz = H1) ∧ P
  | e, E, H => Q e E H
theorem qR_e {E1 : Env} {H1 : Heap} {P : Prop} {i : Nat} : qR n0 E1 H1 P Q (.exit i) E H = Q (.exit i) E H := rfl
theorem qR_r {E1 : Env} {H1 : Heap} {P : Prop} : qR n0 E1 H1 P Q .ret E H = Q .ret E H := rfl
theorem qR_n {E1 : Env} {H1 : Heap} {P : Prop} (hE : E = E1) (hH : H = H1) (hP : P) : qR n0 E1 H1 P Q .normal E H := ⟨.inl ⟨hE, hH⟩, hP⟩
theorem qR_s {E1 : Env} {H1 : Heap} {P : Prop} (src : List (Option Nat)) (fz : List Nat) (ho : okSh n0 src = true) (hE : E.sh (sgOf H src fz) = E1) (hH : H.sh src fz = H1) (hP : P) : qR n0 E1 H1 P Q .normal E H := ⟨.inr ⟨src, fz, ho, hE, hH⟩, hP⟩
/-- A loop that counts from 0 to n: what registers and memory hold at round j, and what is known then. -/
theorem wUp (h : c.tag = 6) (n : Nat) (ES : Nat → Env) (HS : Nat → Heap) (I : Nat → Prop) (hE : E = ES 0) (hH : H = HS 0) (h0 : I 0)
    (round : ∀ j, j < n → I j → SWP L n0 N c.l (qR n0 (ES (j + 1)) (HS (j + 1)) (I (j + 1)) Q) (ES j) (HS j))
    (last : I n → SWP L n0 N c.l (qR n0 [] [] False Q) (ES n) (HS n)) : SWP L n0 N c Q E H := by
  refine wLoop h (fun m E H => ∃ j, j + m = n ∧ E = ES j ∧ H = HS j ∧ I j) n ⟨0, by omega, hE, hH, h0⟩ ?_
  rintro m _ _ ⟨j, hj, rfl, rfl, hI⟩
  by_cases hlt : j < n
  · refine SWP.mono (round j hlt hI) ?_
    intro e E' H' hq
    cases e with
    | normal =>
      obtain ⟨hq, hP⟩ := hq
      refine ⟨m - 1, by omega, ?_⟩
      rcases hq with ⟨h1, h2⟩ | ⟨src, fz, ho, h1, h2⟩
      · exact .inl ⟨j + 1, by omega, h1, h2, hP⟩
      · exact .inr ⟨src, fz, ho, j + 1, by omega, h1, h2, hP⟩
    | _ => exact hq
  · obtain rfl : j = n := by omega
    refine SWP.mono (last hI) ?_
    intro e E' H' hq
    cases e with
    | normal => exact absurd hq.2 id
    | _ => exact hq
end
attribute [push_cast] qN_n qN_e qN_r qB_n qB_e qB_r qR_e qR_r
theorem VFn.start {L : Lib} {k : Nat} {vs : List V} {r : V} {F : AFunc} (hT : L.T k = some F) (hn : vs.length = F.nargs) (hvs : V.closeds vs = true) (hr : r.closed = true) (h : SWP L 0 F.ntmps F.body (FnQ F 0 (fun r' H' => r' = r ∧ H' = [])) (argE vs 0) []) : VFn L k vs r := VFn.of_body hT hn hvs hr h
theorem argE_nil (i : Nat) : argE [] i = [] := rfl
theorem argE_cons (v : V) (r : List V) (i : Nat) : argE (v :: r) i = (i, v) :: argE r (i + 1) := rfl
attribute [push_cast] argE_nil argE_cons
end Go.Proofs.YtnhfbabenifbkaaGreatDoor
