/- The chapter's example, run by the kernel. · What is accepted of the first deeds is accepted of all: the law, walked. -/
import Derived.Test.YtigdhgbkgfagiaaGreatZP1
import Derived.Test.YtigdhgbkgfagiaaGreatZM2
import Derived.Test.YtigdhgbkgfagiaaGreatZPB
set_option maxRecDepth 100000
set_option maxHeartbeats 4000000
namespace Go.Proofs.YtigdhgbkgfagiaaGreat
end Go.Proofs.YtigdhgbkgfagiaaGreat
set_option linter.unusedVariables false
set_option linter.unusedSimpArgs false
namespace Go.Proofs.YtigdhgbkgfagiaaGreat
theorem rkL_len {M:List Bool} {n w:Nat} {skips:Int}:∀(k j sk:Nat) (ms:List Int),(rkL M n w skips k j sk ms).1.length≤ms.length+k
 | 0,_,_,ms=>Nat.le_refl _
 | k+1,j,sk,ms=>by
  unfold rkL
  split
  ·split
   ·exact Nat.le_add_right _ _
   ·have:=rkL_len (M:=M) (n:=n) (w:=w) (skips:=skips) k (j+1) (sk+1) ms;omega
  ·rename_i x _
   have:=rkL_len (M:=M) (n:=n) (w:=w) (skips:=skips) k (j+1) 0 (if x∈ms then ms else ms++[x])
   have h2:(if x∈ms then ms else ms++[x]).length≤ms.length+1:=by split <;> simp
   omega
  ·exact Nat.le_add_right _ _
theorem read_len {c:Ct} {lo hi skips:Int} {B:List Int} {ds:List (Int×Bool)} (h:(readF c lo hi skips B ds).2=0):(readF c lo hi skips B ds).1.ms.length≤100:=by
 unfold readF at h ⊢
 by_cases h1:shCheck c B≠0
 ·rw [if_pos h1] at h
  exact absurd h h1
 ·rw [if_neg h1] at h ⊢
  have hc:checkC c=0:=by
   have h1':shCheck c B=0:=Decidable.not_not.1 h1
   unfold shCheck at h1'
   by_cases h:checkC c=0
   ·exact h
   ·rw [if_neg h] at h1';exact h1'
  obtain ⟨hc1,hc2,-⟩:=check_len hc
  have hw:=wide_le (k:=kindR c.rule) hc2
  split
  ·exact Nat.zero_le _
  ·split
   ·exact Nat.zero_le _
   ·split
    ·exact Nat.zero_le _
    ·rename_i M D _
     show (markR _ M _ _ _ _).1.length≤100
     unfold markR
     split
     ·have:=rkL_len (M:=M) (n:=c.cands.length) (w:=wideF (kindR c.rule) c.cands.length) (skips:=skips) (wideF (kindR c.rule) c.cands.length) 0 0 []
      simp only [List.length_nil] at this
      show (rkL _ _ _ _ _ _ _ _).1.length≤100
      omega
     ·split
      ·have:=scL_len (M:=M) (n:=c.cands.length) (w:=wideF (kindR c.rule) c.cands.length) c.cands.length
       omega
      ·split
       ·exact Nat.zero_le _
       ·have:=colL_len (M:=M) (w:=wideF (kindR c.rule) c.cands.length) (col:=0) c.cands.length
        show (colL _ _ _ _).length≤100
        omega
theorem accept_short {t:Tm} {s:Ms} (h:∀v∈s.vs,v.2.length≤100) (d:Dd):∀v∈(acceptS t s d).1.vs,v.2.length≤100:=by
 unfold acceptS enrolS turnS issueS returnS castS
 split
 ·split <;> exact h
 split
 ·split <;> exact h
 split
 ·split <;> exact h
 split
 ·split <;> exact h
 split
 ·split
  ·exact h
  split
  ·exact h
  ·rename_i h2
   split
   ·exact h
   ·intro v hv
    rcases List.mem_append.1 hv with hv|hv
    ·exact h v hv
    ·have:v=((readD t d).1.kind,(readD t d).1.ms):=by simpa using hv
     subst this
     exact read_len (by
      by_cases h0:(readD t d).2=0
      ·exact h0
      ·exact absurd (.inl h0) h2)
 split
 ·split <;> exact h
 ·exact h
theorem fold_short {t:Tm}:∀(l:List Dd) (p:Ms×List Bool),(∀v∈p.1.vs,v.2.length≤100)→∀v∈(l.foldl (stepS t) p).1.vs,v.2.length≤100
 | [],_,h=>h
 | d::l,p,h=>by
  rw [List.foldl_cons]
  exact fold_short l _ (accept_short h d)
theorem lsV_tl {α:Type} (f:α→List V) (n:Nat) (l:List α):∃s c,lsV f n l=tl f s l c∧(s=n∨l=[]):=by
 unfold lsV
 by_cases h:l=[]
 ·subst h;exact ⟨0,some 0,rfl,.inr rfl⟩
 ·exact ⟨n,none,if_neg h,.inl rfl⟩
variable {L:Lib} (hL:L.T=tab.get)
include hL
end Go.Proofs.YtigdhgbkgfagiaaGreat
