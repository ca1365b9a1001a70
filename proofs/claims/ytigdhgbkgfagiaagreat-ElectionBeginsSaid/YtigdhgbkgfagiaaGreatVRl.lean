/- Loops rolled out, round by round. -/
import Derived.Test.YtigdhgbkgfagiaaGreatVM1
set_option maxRecDepth 100000
set_option linter.unusedVariables false
namespace Go.Proofs.YtigdhgbkgfagiaaGreat
section
variable {L:Lib} {n0 N:Nat} {Q:Exit→Env→Heap→Prop} {E:Env} {H:Heap} {c:AC}
def Rn (L:Lib) (n0 N:Nat) (c:AC) (Q:Exit→Env→Heap→Prop):Nat→Env→Heap→Prop
 | 0=>fun _ _=>False
 | n+1=>fun E H=>SWP L n0 N c (AX.then (Rn L n0 N c Q n) Q) E H
theorem Rn_s {n:Nat}:Rn L n0 N c Q (n+1) E H=SWP L n0 N c (AX.then (Rn L n0 N c Q n) Q) E H:=rfl
theorem then_n {P:Env→Heap→Prop}:AX.then P Q .normal E H=P E H:=rfl
theorem then_e {P:Env→Heap→Prop} {i:Nat}:AX.then P Q (.exit i) E H=Q (.exit i) E H:=rfl
theorem then_r {P:Env→Heap→Prop}:AX.then P Q .ret E H=Q .ret E H:=rfl
theorem wRoll (n:Nat) (h:c.tag=6) (k:Rn L n0 N c.l Q n E H):SWP L n0 N c Q E H:=by
 refine wLoop h (fun m E H=>Rn L n0 N c.l Q m E H) n k fun m E H hm=>?_
 cases m with
 | zero=>exact hm.elim
 | succ m=>exact SWP.mono hm fun e E H hq=>by cases e <;> first|exact ⟨m,Nat.lt_succ_self m,.inl hq⟩|exact hq
end
attribute [push_cast] Rn_s then_n then_e then_r
end Go.Proofs.YtigdhgbkgfagiaaGreat
