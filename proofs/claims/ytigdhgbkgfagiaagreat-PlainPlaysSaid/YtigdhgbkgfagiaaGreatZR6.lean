/- The model of the program and the reference's state do alike, deed for deed; plain. · The model, by the reference: Play, walked. · The program plays as the reference plays: the law, walked. -/
import Derived.Test.YtigdhgbkgfagiaaGreatZR5
import Derived.Test.YtigdhgbkgfagiaaGreatZPA
import Derived.Test.YtigdhgbkgfagiaaGreatZM2
set_option maxRecDepth 100000
set_option maxHeartbeats 4000000
set_option linter.unusedVariables false
set_option linter.unusedSimpArgs false
namespace Go.Proofs.YtigdhgbkgfagiaaGreat
section
variable {β:Type}
def KN (es:List (List UInt8×β)):Prop:=∀(i j:Nat) (p q:List UInt8×β),es[i]?=some p→es[j]?=some q→p.1=q.1→i=j
theorem kn_nil:KN ([]:List (List UInt8×β)):=fun i j p q h=>by simp at h
theorem kn_set {es:List (List UInt8×β)} {i:Nat} {p:List UInt8×β} {k:List UInt8} {x:β} (h:KN es) (hp:es[i]?=some p) (hk:p.1=k):KN (es.set i (k,x)):=by
 have key:∀(a:Nat) (r:List UInt8×β),(es.set i (k,x))[a]?=some r→∃r':List UInt8×β,es[a]?=some r'∧r'.1=r.1:=fun a r hr=>by
  rw [List.getElem?_set] at hr
  by_cases ha:i=a
  ·subst ha
   rw [if_pos rfl] at hr
   have hl:=(List.getElem?_eq_some_iff.1 hp).1
   rw [if_pos hl] at hr
   cases hr
   exact ⟨p,hp,hk⟩
  ·rw [if_neg ha] at hr
   exact ⟨r,hr,rfl⟩
 intro a b r s hr hs he
 obtain ⟨r',h1,h2⟩:=key a r hr
 obtain ⟨s',h3,h4⟩:=key b s hs
 exact h a b r' s' h1 h3 (by rw [h2,h4,he])
theorem kn_snoc {es:List (List UInt8×β)} {k:List UInt8} {x:β} (h:KN es) (hn:∀e∈es,e.1≠k):KN (es++[(k,x)]):=by
 have key:∀(a:Nat) (r:List UInt8×β),(es++[(k,x)])[a]?=some r→es[a]?=some r∨a=es.length∧r=(k,x):=fun a r hr=>by
  by_cases ha:a < es.length
  ·rw [List.getElem?_append_left ha] at hr;exact .inl hr
  ·rw [List.getElem?_append_right (by omega)] at hr
   have h0:a - es.length < [(k,x)].length:=(List.getElem?_eq_some_iff.1 hr).1
   have h1:a - es.length=0:=by simpa using h0
   rw [h1] at hr
   exact .inr ⟨by omega,by simpa using hr.symm⟩
 intro a b r s hr hs he
 rcases key a r hr with h1|⟨h1,rfl⟩ <;> rcases key b s hs with h2|⟨h2,rfl⟩
 ·exact h a b r s h1 h2 he
 ·exact absurd he (hn r (List.mem_of_getElem? h1))
 ·exact absurd he.symm (hn s (List.mem_of_getElem? h2))
 ·omega
theorem kn_erase {es:List (List UInt8×β)} {i:Nat} (h:KN es):KN (es.eraseIdx i):=by
 intro a b r s hr hs he
 rw [List.getElem?_eraseIdx] at hr hs
 split at hr <;> split at hs
 ·exact h a b r s hr hs he
 ·have:=h a (b+1) r s hr hs he;omega
 ·have:=h (a+1) b r s hr hs he;omega
 ·have:=h (a+1) (b+1) r s hr hs he;omega
theorem mem_set' {es:List (List UInt8×β)} {i:Nat} {p:List UInt8×β} {k a:List UInt8} {x b:β} (h:KN es) (hp:es[i]?=some p) (hk:p.1=k):(a,b)∈es.set i (k,x)↔(a=k∧b=x)∨(a≠k∧(a,b)∈es):=by
 have hl:=(List.getElem?_eq_some_iff.1 hp).1
 rw [List.mem_iff_getElem?,List.mem_iff_getElem?]
 constructor
 ·rintro ⟨j,hj⟩
  rw [List.getElem?_set] at hj
  by_cases he:i=j
  ·subst he
   rw [if_pos rfl,if_pos hl] at hj
   cases hj
   exact .inl ⟨rfl,rfl⟩
  ·rw [if_neg he] at hj
   exact .inr ⟨fun hak=>he (h i j p _ hp hj (by rw [hk];exact hak.symm)),j,hj⟩
 ·rintro (⟨rfl,rfl⟩|⟨hne,j,hj⟩)
  ·exact ⟨i,by rw [List.getElem?_set,if_pos rfl,if_pos hl]⟩
  ·exact ⟨j,by
     rw [List.getElem?_set,if_neg (fun he=>?_)]
     ·exact hj
     ·subst he
      rw [hp] at hj
      cases hj
      exact hne hk⟩
theorem mem_erase' {es:List (List UInt8×β)} {i:Nat} {p:List UInt8×β} {k a:List UInt8} {b:β} (h:KN es) (hp:es[i]?=some p) (hk:p.1=k):(a,b)∈es.eraseIdx i↔a≠k∧(a,b)∈es:=by
 rw [List.mem_eraseIdx_iff_getElem?,List.mem_iff_getElem?]
 constructor
 ·rintro ⟨j,hne,hj⟩
  exact ⟨fun hak=>hne (h j i _ p hj hp (by rw [hk];exact hak)),j,hj⟩
 ·rintro ⟨hne,j,hj⟩
  refine ⟨j,fun he=>?_,hj⟩
  subst he
  rw [hp] at hj
  cases hj
  exact hne hk
theorem idxS_none {k:List UInt8}:∀{es:List (List UInt8×β)} {j:Nat},idxS k es j=none↔∀e∈es,e.1≠k
 | [],j=>by simp [idxS]
 | e::r,j=>by
  unfold idxS
  by_cases h:k=e.1
  ·rw [if_pos (beq_iff_eq.2 h)]
   exact ⟨fun h'=>(by cases h'),fun h'=>absurd h.symm (h' e List.mem_cons_self)⟩
  ·rw [if_neg (fun h'=>h (beq_iff_eq.1 h')),idxS_none]
   exact ⟨fun h' x hx=>(List.mem_cons.1 hx).elim (fun e=>by rw [e];exact fun q=>h q.symm) (h' x),fun h' x hx=>h' x (List.mem_cons_of_mem _ hx)⟩
theorem idxS_find {k:List UInt8}:∀{es:List (List UInt8×β)} {j:Nat},findG (fun x=>x.1 == k) es j=match idxS k es j with|none=>-1|some i=>(i:Int)
 | [],j=>rfl
 | e::r,j=>by
  unfold idxS findG
  by_cases h:k=e.1
  ·rw [if_pos (beq_iff_eq.2 h.symm),if_pos (beq_iff_eq.2 h)]
  ·rw [if_neg (fun h'=>h (beq_iff_eq.1 h').symm),if_neg (fun h'=>h (beq_iff_eq.1 h')),idxS_find]
theorem idxS_zip {k:List UInt8}:∀{na:List (List UInt8)} {si:List β} {j:Nat},na.length=si.length→findG (fun x=>x == k) na j=match idxS k (List.zip na si) j with|none=>-1|some i=>(i:Int)
 | [],si,j,h=>rfl
 | e::r,[],j,h=>by simp at h
 | e::r,y::si,j,h=>by
  rw [List.zip_cons_cons]
  unfold idxS findG
  by_cases h':k=e
  ·rw [if_pos (beq_iff_eq.2 h'.symm),if_pos (beq_iff_eq.2 h')]
  ·rw [if_neg (fun q=>h' (beq_iff_eq.1 q).symm),if_neg (fun q=>h' (beq_iff_eq.1 q)),idxS_zip (si:=si) (Nat.succ.inj h)]
theorem get_mem {m:Mp β} {k:List UInt8} {x:β} (h:KN m.es):m.get k=some x↔(k,x)∈m.es:=by
 unfold Mp.get
 cases hi:idxS k m.es 0 with
 | none=>
  have:=idxS_none.1 hi
  exact ⟨fun h=>(by cases h),fun h'=>absurd rfl (this _ h')⟩
 | some i=>
  obtain ⟨-,p,h1,h2⟩:=idxS_lt hi
  rw [Nat.sub_zero] at h1
  rw [Option.bind_some,h1,Option.map_some]
  obtain ⟨pk,px⟩:=p
  simp only at h2
  subst h2
  constructor
  ·intro h'
   cases h'
   exact List.mem_of_getElem? h1
  ·intro h'
   obtain ⟨j,hj⟩:=List.mem_iff_getElem?.1 h'
   have:=h i j _ _ h1 hj rfl
   subst this
   rw [h1] at hj
   cases hj
   rfl
theorem set_kn {m:Mp β} {k:List UInt8} {x:β} (h:KN m.es):KN (m.set k x).es:=by
 unfold Mp.set
 cases hi:idxS k m.es 0 with
 | none=>exact kn_snoc h (idxS_none.1 hi)
 | some i=>
  obtain ⟨-,p,h1,h2⟩:=idxS_lt hi
  rw [Nat.sub_zero] at h1
  exact kn_set h h1 h2
theorem del_kn {m:Mp β} {k:List UInt8} (h:KN m.es):KN (m.del k).es:=by
 unfold Mp.del
 cases hi:idxS k m.es 0 with
 | none=>exact h
 | some i=>exact kn_erase h
theorem set_mem {m:Mp β} {k a:List UInt8} {x b:β} (h:KN m.es):(a,b)∈(m.set k x).es↔(a=k∧b=x)∨(a≠k∧(a,b)∈m.es):=by
 unfold Mp.set
 cases hi:idxS k m.es 0 with
 | none=>
  have hn:=idxS_none.1 hi
  show (a,b)∈m.es++[(k,x)]↔_
  rw [List.mem_append,List.mem_singleton,Prod.mk.injEq]
  constructor
  ·rintro (h'|h')
   ·exact .inr ⟨hn _ h',h'⟩
   ·exact .inl h'
  ·rintro (h'|h')
   ·exact .inr h'
   ·exact .inl h'.2
 | some i=>
  obtain ⟨-,p,h1,h2⟩:=idxS_lt hi
  rw [Nat.sub_zero] at h1
  exact mem_set' h h1 h2
theorem del_mem {m:Mp β} {k a:List UInt8} {b:β} (h:KN m.es):(a,b)∈(m.del k).es↔a≠k∧(a,b)∈m.es:=by
 unfold Mp.del
 cases hi:idxS k m.es 0 with
 | none=>
  have hn:=idxS_none.1 hi
  exact ⟨fun h'=>⟨hn _ h',h'⟩,fun h'=>h'.2⟩
 | some i=>
  obtain ⟨-,p,h1,h2⟩:=idxS_lt hi
  rw [Nat.sub_zero] at h1
  exact mem_erase' h h1 h2
end
structure Sim (m:Ms) (s:Rs):Prop where
 ph:m.ph=s.ph
 en:m.en.es=s.pe.map (fun p=>(p.1,true))
 nd:KN s.pe
 fr:∀k,(k,true)∈m.fr.es↔(k,1)∈s.pe
 ho:∀k,(k,true)∈m.ho.es↔(k,2)∈s.pe
 hot:∀e∈m.ho.es,e.2=true
 frk:KN m.fr.es
 hok:KN m.ho.es
 ba:m.ba.es=List.zip s.na s.si
 len:s.na.length=s.si.length
 vs:m.vs=s.bal
theorem getD_true {m:Mp Bool} {k:List UInt8} (h:KN m.es):(m.get k).getD false=true↔(k,true)∈m.es:=by
 rw [←get_mem h]
 cases hg:m.get k with
 | none=>simp
 | some b=>simp
theorem getD_false {m:Mp Bool} {k:List UInt8} (h:KN m.es):(m.get k).getD false=false↔¬(k,true)∈m.es:=by
 rw [←getD_true h,Bool.not_eq_true]
theorem who_spec (s:Rs) (d:Dd):(whoR s d=-1∧∀p∈s.pe,p.1≠d.name)∨∃(i:Nat) (v:Int),whoR s d=i∧s.pe[i]?=some (d.name,v):=by
 unfold whoR
 rcases findG_spec (p:=fun x:List UInt8×Int=>x.1 == d.name) s.pe 0 with ⟨h1,h2⟩|⟨a,x,h1,h2,h3,-⟩
 ·exact .inl ⟨h1,fun p hp=>by simpa using h2 p hp⟩
 ·obtain ⟨n,v⟩:=x
  have:n=d.name:=by simpa using h3
  subst this
  exact .inr ⟨a,v,by omega,h2⟩
theorem pe_mem {s:Rs} {k:List UInt8} {i:Nat} {u v:Int} (h:KN s.pe) (hi:s.pe[i]?=some (k,v)):(k,u)∈s.pe↔u=v:=by
 constructor
 ·intro hm
  obtain ⟨j,hj⟩:=List.mem_iff_getElem?.1 hm
  have:=h i j _ _ hi hj rfl
  subst this
  rw [hi] at hj
  cases hj
  rfl
 ·rintro rfl
  exact List.mem_of_getElem? hi
theorem pe_none {s:Rs} {k:List UInt8} {u:Int} (h:∀p∈s.pe,p.1≠k):¬(k,u)∈s.pe:=fun hm=>h _ hm rfl
theorem sim0:Sim ms0 ⟨0,[],[],[],[]⟩:=⟨rfl,rfl,kn_nil,fun k=>by simp [ms0,mp0],fun k=>by simp [ms0,mp0],fun e h=>by simp [ms0,mp0] at h,kn_nil,kn_nil,rfl,rfl,rfl⟩
theorem en_get {m:Ms} {s:Rs} (h:Sim m s) (d:Dd):(m.en.get d.name).getD false=true↔0≤whoR s d:=by
 unfold Mp.get
 rw [h.en]
 unfold whoR
 rw [idxS_find]
 have:∀(l:List (List UInt8×Int)) (j:Nat),idxS d.name (l.map fun p=>(p.1,true)) j=idxS d.name l j:=fun l=>by
  induction l with
  | nil=>intro j;rfl
  | cons e r ih=>intro j;unfold idxS;rw [List.map_cons];simp only [];rw [ih]
 rw [this]
 cases hi:idxS d.name s.pe 0 with
 | none=>simp
 | some i=>
  obtain ⟨-,p,h1,h2⟩:=idxS_lt hi
  rw [Nat.sub_zero] at h1
  rw [Option.bind_some,List.getElem?_map,h1]
  simp
theorem sim_enrol {m:Ms} {s:Rs} (h:Sim m s) (d:Dd):Sim (enrolS m d).1 (enrolR s d).1∧(enrolS m d).2=(enrolR s d).2:=by
 have hen:m.en.es.length=s.pe.length:=by rw [h.en,List.length_map]
 unfold enrolS enrolR
 by_cases hc:s.ph≠0∨namedS d.name=false∨d.prec < 0∨7 < d.prec∨0≤whoR s d∨64≤s.pe.length
 ·rw [if_pos hc,if_pos (by
    rw [h.ph,en_get h d,hen]
    rcases hc with hc|hc|hc|hc|hc|hc
    ·exact .inl hc
    ·exact .inr (.inl hc)
    ·exact .inr (.inr (.inl hc))
    ·exact .inr (.inr (.inr (.inl (by omega))))
    ·exact .inr (.inr (.inr (.inr (.inl hc))))
    ·exact .inr (.inr (.inr (.inr (.inr hc)))))]
  exact ⟨h,rfl⟩
 ·rw [if_neg hc,if_neg (by
    rw [h.ph,en_get h d,hen]
    rintro (hc'|hc'|hc'|hc'|hc'|hc')
    ·exact hc (.inl hc')
    ·exact hc (.inr (.inl hc'))
    ·exact hc (.inr (.inr (.inl hc')))
    ·exact hc (.inr (.inr (.inr (.inl (by omega)))))
    ·exact hc (.inr (.inr (.inr (.inr (.inl hc')))))
    ·exact hc (.inr (.inr (.inr (.inr (.inr hc'))))))]
  have hno:∀p∈s.pe,p.1≠d.name:=by
   rcases who_spec s d with ⟨-,h2⟩|⟨i,v,h1,-⟩
   ·exact h2
   ·exact absurd (.inr (.inr (.inr (.inr (.inl (by omega)))))) hc
  refine ⟨⟨h.ph,?_,kn_snoc h.nd hno,fun k=>?_,fun k=>?_,h.hot,set_kn h.frk,h.hok,h.ba,h.len,h.vs⟩,rfl⟩
  ·show (m.en.set d.name true).es=_
   unfold Mp.set
   rw [idxS_none.2 (by rw [h.en];intro e he;obtain ⟨p,hp,rfl⟩:=List.mem_map.1 he;exact hno p hp)]
   show m.en.es++[(d.name,true)]=_
   rw [h.en,List.map_append]
   rfl
  ·show (k,true)∈(m.fr.set d.name true).es↔(k,1)∈s.pe++[(d.name,1)]
   rw [set_mem h.frk,List.mem_append,List.mem_singleton,Prod.mk.injEq,h.fr]
   constructor
   ·rintro (h'|h')
    ·exact .inr ⟨h'.1,rfl⟩
    ·exact .inl h'.2
   ·rintro (h'|h')
    ·exact .inr ⟨fun e=>pe_none hno (e ▸ h'),h'⟩
    ·exact .inl ⟨h'.1,rfl⟩
  ·show (k,true)∈m.ho.es↔(k,2)∈s.pe++[(d.name,1)]
   rw [List.mem_append,List.mem_singleton,Prod.mk.injEq,h.ho]
   constructor
   ·exact fun h'=>.inl h'
   ·rintro (h'|⟨-,h'⟩)
    ·exact h'
    ·exact absurd h' (by decide)
theorem sim_turn {m:Ms} {s:Rs} (h:Sim m s) (u:Int) (b:Bool):Sim (turnS m u b).1 (turnR s u b).1∧(turnS m u b).2=(turnR s u b).2:=by
 unfold turnS turnR
 by_cases hc:s.ph≠u∨b=false
 ·have hc':m.ph≠u∨b=false:=by rw [h.ph];exact hc
  rw [if_pos hc,if_pos hc'];exact ⟨h,rfl⟩
 ·have hc':¬(m.ph≠u∨b=false):=by rw [h.ph];exact hc
  rw [if_neg hc,if_neg hc']
  have:s.ph=u:=Decidable.not_not.1 fun e=>hc (.inl e)
  exact ⟨⟨by show m.ph+1=u+1;rw [h.ph,this],h.en,h.nd,h.fr,h.ho,h.hot,h.frk,h.hok,h.ba,h.len,h.vs⟩,rfl⟩
theorem set_en {l:List (List UInt8×Int)} {i:Nat} {k:List UInt8} {u v:Int} (hi:l[i]?=some (k,u)):(l.set i (k,v)).map (fun p=>(p.1,true))=l.map (fun p=>(p.1,true)):=by
 refine List.ext_getElem? fun j=>?_
 rw [List.getElem?_map,List.getElem?_map,List.getElem?_set]
 by_cases h:i=j
 ·subst h
  have hl:=(List.getElem?_eq_some_iff.1 hi).1
  rw [if_pos rfl,if_pos hl,hi]
  rfl
 ·rw [if_neg h]
theorem sim_issue {m:Ms} {s:Rs} (h:Sim m s) (d:Dd):Sim (issueS m d.name).1 (moveR s d 1 2).1∧(issueS m d.name).2=(moveR s d 1 2).2:=by
 have hg:=getD_false (k:=d.name) h.frk
 rw [h.fr] at hg
 unfold issueS moveR manR
 rcases who_spec s d with ⟨h1,h2⟩|⟨i,v,h1,h2⟩
 ·rw [if_pos (.inr (hg.2 (pe_none h2))),if_pos (.inr (.inl (by omega)))]
  exact ⟨h,rfl⟩
 ·rw [pe_mem h.nd h2] at hg
  rw [h1,Int.toNat_natCast,h2,Option.getD_some]
  by_cases hc:s.ph≠1∨¬(1=v)
  ·rw [if_pos (show m.ph≠1∨_ from h.ph ▸ hc.imp id hg.2),if_pos (by
     rcases hc with hc|hc
     ·exact .inl hc
     ·exact .inr (.inr (fun e=>hc e.symm)))]
   exact ⟨h,rfl⟩
  ·rw [if_neg (show ¬(m.ph≠1∨_) from fun q=>hc (h.ph ▸ q.imp id hg.1)),if_neg (by
     rintro (hc'|hc'|hc')
     ·exact hc (.inl hc')
     ·omega
     ·exact hc (.inr fun e=>hc' e.symm))]
   have hv:v=1:=by
    by_cases hv:(1:Int)=v
    ·exact hv.symm
    ·exact absurd (.inr hv) hc
   subst hv
   refine ⟨⟨h.ph,h.en.trans (set_en h2).symm,kn_set h.nd h2 rfl,fun k=>?_,fun k=>?_,fun e he=>?_,del_kn h.frk,set_kn h.hok,h.ba,h.len,h.vs⟩,rfl⟩
   ·rw [del_mem h.frk,h.fr,mem_set' h.nd h2 rfl]
    constructor
    ·exact fun h'=>.inr h'
    ·rintro (⟨-,h'⟩|h')
     ·exact absurd h' (by decide)
     ·exact h'
   ·rw [set_mem h.hok,h.ho,mem_set' h.nd h2 rfl]
    constructor
    ·rintro (⟨h',-⟩|h')
     ·exact .inl ⟨h',rfl⟩
     ·exact .inr h'
    ·rintro (⟨h',-⟩|h')
     ·exact .inl ⟨h',rfl⟩
     ·exact .inr h'
   ·obtain ⟨a,b⟩:=e
    rcases (set_mem h.hok).1 he with ⟨-,h'⟩|⟨-,h'⟩
    ·exact h'
    ·exact h.hot _ h'
theorem sim_return {m:Ms} {s:Rs} (h:Sim m s) (d:Dd):Sim (returnS m d.name).1 (moveR s d 2 1).1∧(returnS m d.name).2=(moveR s d 2 1).2:=by
 have hg:=getD_false (k:=d.name) h.hok
 rw [h.ho] at hg
 unfold returnS moveR manR
 rcases who_spec s d with ⟨h1,h2⟩|⟨i,v,h1,h2⟩
 ·rw [if_pos (.inr (hg.2 (pe_none h2))),if_pos (.inr (.inl (by omega)))]
  exact ⟨h,rfl⟩
 ·rw [pe_mem h.nd h2] at hg
  rw [h1,Int.toNat_natCast,h2,Option.getD_some]
  by_cases hc:s.ph≠1∨¬(2=v)
  ·rw [if_pos (show m.ph≠1∨_ from h.ph ▸ hc.imp id hg.2),if_pos (by
     rcases hc with hc|hc
     ·exact .inl hc
     ·exact .inr (.inr (fun e=>hc e.symm)))]
   exact ⟨h,rfl⟩
  ·rw [if_neg (show ¬(m.ph≠1∨_) from fun q=>hc (h.ph ▸ q.imp id hg.1)),if_neg (by
     rintro (hc'|hc'|hc')
     ·exact hc (.inl hc')
     ·omega
     ·exact hc (.inr fun e=>hc' e.symm))]
   have hv:v=2:=by
    by_cases hv:(2:Int)=v
    ·exact hv.symm
    ·exact absurd (.inr hv) hc
   subst hv
   refine ⟨⟨h.ph,h.en.trans (set_en h2).symm,kn_set h.nd h2 rfl,fun k=>?_,fun k=>?_,fun e he=>?_,set_kn h.frk,del_kn h.hok,h.ba,h.len,h.vs⟩,rfl⟩
   ·rw [set_mem h.frk,h.fr,mem_set' h.nd h2 rfl]
    constructor
    ·rintro (⟨h',-⟩|h')
     ·exact .inl ⟨h',rfl⟩
     ·exact .inr h'
    ·rintro (⟨h',-⟩|h')
     ·exact .inl ⟨h',rfl⟩
     ·exact .inr h'
   ·rw [del_mem h.hok,h.ho,mem_set' h.nd h2 rfl]
    constructor
    ·exact fun h'=>.inr h'
    ·rintro (⟨-,h'⟩|h')
     ·exact absurd h' (by decide)
     ·exact h'
   ·obtain ⟨a,b⟩:=e
    exact h.hot _ ((del_mem h.hok).1 he).2
theorem zip_snoc {α β:Type} {a:List α} {b:List β} {x:α} {y:β} (h:a.length=b.length):List.zip (a++[x]) (b++[y])=List.zip a b++[(x,y)]:=by
 rw [List.zip_append h];rfl
theorem zip_set {α β:Type} {k:α} {y:β}:∀{a:List α} {b:List β} {i:Nat},a[i]?=some k→List.zip a (b.set i y)=(List.zip a b).set i (k,y)
 | [],b,i,h=>by simp at h
 | x::a,[],i,h=>by simp
 | x::a,z::b,0,h=>by
  have:x=k:=by simpa using h
  subst this
  rfl
 | x::a,z::b,i+1,h=>by
  rw [List.set_cons_succ,List.zip_cons_cons,List.zip_cons_cons,List.set_cons_succ,zip_set (by simpa using h)]
theorem zip_get {α β:Type} {a:List α} {b:List β} {i:Nat} {p:α×β} (h:(List.zip a b)[i]?=some p):a[i]?=some p.1∧b[i]?=some p.2:=by
 rw [List.getElem?_zip_eq_some] at h
 exact h
theorem sim_cast {t:Tm} {m:Ms} {s:Rs} (h:Sim m s) (d:Dd):Sim (castS t m d).1 (castR t s d).1∧(castS t m d).2=(castR t s d).2:=by
 have hg:=getD_false (k:=d.name) h.hok
 rw [h.ho] at hg
 unfold castS castR
 have hw:=who_spec s d
 unfold whoR at hw
 rcases hw with ⟨h1,h2⟩|⟨i,v,h1,h2⟩
 ·rw [if_pos (.inr (.inl (hg.2 (pe_none h2)))),if_pos (.inr (.inl (by omega)))]
  exact ⟨h,rfl⟩
 rw [pe_mem h.nd h2] at hg
 rw [h1,Int.toNat_natCast,h2,Option.getD_some]
 by_cases hc:s.ph≠1∨¬(2=v)∨namedS d.batch=false
 ·rw [if_pos (show m.ph≠1∨_ from h.ph ▸ hc.imp id (Or.imp hg.2 id)),if_pos (by
    rcases hc with hc|hc|hc
    ·exact .inl hc
    ·exact .inr (.inr (.inl (fun e=>hc e.symm)))
    ·exact .inr (.inr (.inr hc)))]
  exact ⟨h,rfl⟩
 have c1:¬(m.ph≠1∨(m.ho.get d.name).getD false=false∨namedS d.batch=false):=fun q=>hc (h.ph ▸ q.imp id (Or.imp hg.1 id))
 have c2:¬(s.ph≠1∨(i:Int) < 0∨(d.name,v).2≠2∨namedS d.batch=false):=by
  rintro (hc'|hc'|hc'|hc')
  ·exact hc (.inl hc')
  ·omega
  ·exact hc (.inr (.inl fun e=>hc' e.symm))
  ·exact hc (.inr (.inr hc'))
 rw [if_neg c1,if_neg c2]
 have hv:v=2:=by
  by_cases hv:(2:Int)=v
  ·exact hv.symm
  ·exact absurd (.inr (.inl hv)) hc
 subst hv
 by_cases hr:(readD t d).2≠0∨0 < (readD t d).1.db.length
 ·rw [if_pos hr,if_pos hr]
  exact ⟨h,rfl⟩
 rw [if_neg hr,if_neg hr]
 have hz:=idxS_zip (k:=d.batch) (j:=0) h.len
 have hzl:(List.zip s.na s.si).length=s.na.length:=by rw [List.length_zip,h.len,Nat.min_self]
 have hdone:∀(na:List (List UInt8)) (si:List Int) (x:Int) (vt:Int×List Int),(m.ba.set d.batch x).es=List.zip na si→na.length=si.length→Sim { m with ho:=m.ho.del d.name,ba:=m.ba.set d.batch x,vs:=m.vs++[vt] } { s with na:=na,si:=si,pe:=s.pe.set i (d.name,3),bal:=s.bal++[vt] }:=fun na si x vt hb hl=>by
  refine ⟨h.ph,h.en.trans (set_en h2).symm,kn_set h.nd h2 rfl,fun k=>?_,fun k=>?_,fun e he=>?_,h.frk,del_kn h.hok,hb,hl,by show m.vs++_=_;rw [h.vs]⟩
  ·show (k,true)∈m.fr.es↔(k,1)∈s.pe.set i (d.name,3)
   rw [h.fr,mem_set' h.nd h2 rfl]
   constructor
   ·intro h'
    refine .inr ⟨fun e=>?_,h'⟩
    subst e
    exact absurd ((pe_mem h.nd h2).1 h') (by decide)
   ·rintro (⟨-,h'⟩|⟨-,h'⟩)
    ·exact absurd h' (by decide)
    ·exact h'
  ·show (k,true)∈(m.ho.del d.name).es↔(k,2)∈s.pe.set i (d.name,3)
   rw [del_mem h.hok,h.ho,mem_set' h.nd h2 rfl]
   constructor
   ·exact fun h'=>.inr h'
   ·rintro (⟨-,h'⟩|h')
    ·exact absurd h' (by decide)
    ·exact h'
  ·obtain ⟨a,b⟩:=e
   exact h.hot _ ((del_mem h.hok).1 he).2
 cases hi:idxS d.batch (List.zip s.na s.si) 0 with
 | none=>
  rw [hi] at hz
  have hgn:m.ba.get d.batch=none:=by unfold Mp.get;rw [h.ba,hi];rfl
  have hhn:m.ba.has d.batch=false:=by unfold Mp.has;rw [h.ba,hi];rfl
  rw [hz,if_pos (show (-1:Int) < 0 by decide),hgn,hhn,h.ba,hzl,Option.getD_none]
  by_cases h5:16≤s.na.length
  ·rw [if_pos h5,if_pos (.inr ⟨rfl,h5⟩)]
   exact ⟨h,rfl⟩
  ·rw [if_neg h5,if_neg (by rintro (h'|⟨-,h'⟩);exact absurd h' (by decide);exact h5 h')]
   unfold castG
   have hg0:(s.si++[(0:Int)])[s.na.length]?.getD 0=0:=by rw [h.len];simp
   simp only [hg0,h2,Option.getD_some]
   rw [if_neg (by decide)]
   refine ⟨hdone _ _ _ _ ?_ (by simp [h.len]),rfl⟩
   unfold Mp.set
   rw [h.ba,hi]
   show List.zip s.na s.si++[(d.batch,(0:Int)+1)]=_
   rw [show ((s.si++[(0:Int)]).set s.na.length (0+1))=s.si++[(0:Int)+1] by rw [h.len];simp,zip_snoc h.len]
 | some k=>
  rw [hi] at hz
  obtain ⟨-,p,h3,h4⟩:=idxS_lt hi
  rw [Nat.sub_zero] at h3
  obtain ⟨z1,z2⟩:=zip_get h3
  rw [h4] at z1
  have hgn:m.ba.get d.batch=some p.2:=by unfold Mp.get;rw [h.ba,hi,Option.bind_some,h3];rfl
  have hhn:m.ba.has d.batch=true:=by unfold Mp.has;rw [h.ba,hi];rfl
  simp only at hz
  rw [hz,if_neg (show ¬(k:Int) < 0 by omega),hgn,hhn,Option.getD_some,Int.toNat_natCast]
  unfold castG
  rw [z2,h2,Option.getD_some,Option.getD_some]
  by_cases h5:64≤p.2
  ·rw [if_pos h5,if_pos (.inl h5)]
   exact ⟨h,rfl⟩
  ·rw [if_neg h5,if_neg (by rintro (h'|⟨h',-⟩);exact h5 h';cases h')]
   refine ⟨hdone _ _ _ _ ?_ (by rw [List.length_set];exact h.len),rfl⟩
   unfold Mp.set
   rw [h.ba,hi]
   show (List.zip s.na s.si).set k (d.batch,p.2+1)=_
   rw [zip_set z1]
theorem sim_none {m:Ms} {s:Rs} (h:Sim m s):decide (m.ho.es.length=0)=!(s.pe.any fun p=>decide (p.2=2)):=by
 rw [Bool.eq_iff_iff,decide_eq_true_eq,Bool.not_eq_true',List.length_eq_zero_iff]
 constructor
 ·intro h'
  rw [Bool.eq_false_iff]
  intro h''
  obtain ⟨⟨k,v⟩,hm,hv⟩:=List.any_eq_true.1 h''
  have hv:v=2:=by simpa using hv
  subst hv
  have:=(h.ho k).2 hm
  rw [h'] at this
  simp at this
 ·intro h'
  cases hes:m.ho.es with
  | nil=>rfl
  | cons e r=>
   obtain ⟨k,b⟩:=e
   have hm:(k,b)∈m.ho.es:=by rw [hes];exact List.mem_cons_self
   have hb:b=true:=h.hot _ hm
   subst hb
   have:=List.any_eq_false.1 h' _ ((h.ho k).1 hm)
   simp at this
theorem sim_step {t:Tm} {m:Ms} {s:Rs} (h:Sim m s) (d:Dd):Sim (acceptS t m d).1 (playR t s d).1∧(acceptS t m d).2=(playR t s d).2:=by
 unfold acceptS playR
 split
 ·exact sim_enrol h d
 split
 ·exact sim_turn h 0 true
 split
 ·exact sim_issue h d
 split
 ·exact sim_return h d
 split
 ·exact sim_cast h d
 split
 ·rw [sim_none h]
  exact sim_turn h 1 _
 ·exact ⟨h,rfl⟩
def rs0:Rs:=⟨0,[],[],[],[]⟩
def stepQ (t:Tm) (p:Rs×List Bool) (d:Dd):Rs×List Bool:=((playR t p.1 d).1,p.2++[(playR t p.1 d).2])
def foldR (t:Tm) (l:List Dd):Rs×List Bool:=l.foldl (stepQ t) (rs0,[])
theorem foldR_snoc {t:Tm} {l:List Dd} {d:Dd}:foldR t (l++[d])=stepQ t (foldR t l) d:=by unfold foldR;rw [List.foldl_append];rfl
theorem fold_sim' {t:Tm}:∀(l:List Dd) (p:Ms×List Bool) (q:Rs×List Bool),Sim p.1 q.1→p.2=q.2→Sim (l.foldl (stepS t) p).1 (l.foldl (stepQ t) q).1∧(l.foldl (stepS t) p).2=(l.foldl (stepQ t) q).2
 | [],p,q,h,h'=>⟨h,h'⟩
 | d::l,p,q,h,h'=>by
  rw [List.foldl_cons,List.foldl_cons]
  obtain ⟨h1,h2⟩:=sim_step (t:=t) h d
  exact fold_sim' l _ _ h1 (by show p.2++_=q.2++_;rw [h',h2])
theorem fold_sim (t:Tm) (l:List Dd):(foldS t l).1.vs=(foldR t l).1.bal∧(foldS t l).2=(foldR t l).2:=by
 obtain ⟨h1,h2⟩:=fold_sim' (t:=t) l (ms0,[]) (rs0,[]) sim0 rfl
 exact ⟨h1.vs,h2⟩
structure RsI (s:Rs) (j:Nat):Prop where
 len:s.si.length=s.na.length
 nn:∀x∈s.si,0≤x
 pe:s.pe.length≤64
 na:s.na.length≤16
 bal:s.bal.length≤j
theorem castG_keeps {s:Rs} {i k:Nat} {v:Int×List Int} {j:Nat} (h:RsI s j):RsI (castG s i k v).1 (j+1):=by
 obtain ⟨h1,h2,h3,h4,h5⟩:=h
 unfold castG
 split
 ·exact ⟨h1,h2,h3,h4,Nat.le_succ_of_le h5⟩
 ·refine ⟨by rw [List.length_set];exact h1,fun x hx=>?_,by rw [List.length_set];exact h3,h4,by simp;omega⟩
  rcases List.mem_or_eq_of_mem_set hx with hx|rfl
  ·exact h2 x hx
  ·cases hk:s.si[k]? with
   | none=>simp
   | some y=>have:=h2 y (List.mem_of_getElem? hk);simp;omega
theorem play_keeps {t:Tm} {s:Rs} {j:Nat} (h:RsI s j) (d:Dd):RsI (playR t s d).1 (j+1):=by
 have h0:RsI s (j+1):=⟨h.len,h.nn,h.pe,h.na,Nat.le_succ_of_le h.bal⟩
 unfold playR
 have hm:∀u v,RsI (moveR s d u v).1 (j+1):=fun u v=>by
  unfold moveR
  split
  ·exact h0
  ·exact ⟨h.len,h.nn,by rw [List.length_set];exact h.pe,h.na,Nat.le_succ_of_le h.bal⟩
 have ht:∀u b,RsI (turnR s u b).1 (j+1):=fun u b=>by
  unfold turnR
  split
  ·exact h0
  ·exact ⟨h.len,h.nn,h.pe,h.na,Nat.le_succ_of_le h.bal⟩
 split
 ·unfold enrolR
  split
  ·exact h0
  ·rename_i hc
   exact ⟨h.len,h.nn,by
    have:¬64≤s.pe.length:=fun e=>hc (.inr (.inr (.inr (.inr (.inr e)))))
    simp;omega,h.na,Nat.le_succ_of_le h.bal⟩
 split
 ·exact ht _ _
 split
 ·exact hm _ _
 split
 ·exact hm _ _
 split
 ·unfold castR
  split
  ·exact h0
  split
  ·exact h0
  split
  ·split
   ·exact h0
   ·rename_i hc
    refine castG_keeps (j:=j) ⟨by simp [h.len],fun x hx=>?_,h.pe,by simp;omega,h.bal⟩
    rcases List.mem_append.1 hx with hx|hx
    ·exact h.nn x hx
    ·have:x=0:=by simpa using hx
     omega
  ·exact castG_keeps h
 split
 ·exact ht _ _
 ·exact h0
theorem foldR_keeps' {t:Tm}:∀(l:List Dd) (p:Rs×List Bool) (j:Nat),RsI p.1 j→RsI (l.foldl (stepQ t) p).1 (j+l.length)
 | [],_,_,h=>h
 | d::l,p,j,h=>by
  rw [List.foldl_cons,List.length_cons,show j+(l.length+1)=(j+1)+l.length by omega]
  exact foldR_keeps' l _ _ (play_keeps h d)
theorem foldR_keeps {t:Tm} (l:List Dd):RsI (foldR t l).1 l.length:=by
 have:=foldR_keeps' (t:=t) l (rs0,[]) 0 ⟨rfl,fun x h=>by simp [rs0] at h,by decide,by decide,by decide⟩
 rw [Nat.zero_add] at this
 exact this
theorem RsI.ok {s:Rs} {j:Nat} (h:RsI s j) (hj:j≤1000):RsOk s:=⟨h.len,h.nn,h.pe,h.na,by have:=h.bal;omega⟩
end Go.Proofs.YtigdhgbkgfagiaaGreat
namespace Go.Proofs.YtigdhgbkgfagiaaGreat
def rlH (t:Tm) (p:Rs×List Bool):Heap:=[some (.arr 14 [tmC t]),some (.arr 5 [rsC p.1]),accB brow 1 p.2]
def playQ (t:Tm) (l:List Dd):V:=if okTerms t=false then .tup [nilV,nilV,.int .i64 8] else if 512 < l.length then .tup [nilV,nilV,.int .i64 4] else .tup [lsV brow 1 (foldR t l).2,lsV vrowL 2 (foldR t l).1.bal,.int .i64 0]
theorem closed_playQ (t:Tm) (l:List Dd):(playQ t l).closed=true:=by
 unfold playQ
 split
 ·rfl
 ·split
  ·rfl
  ·simp [V.closed,V.closeds,closed_lsV]
theorem foldR_acc' {t:Tm}:∀(l:List Dd) (p:Rs×List Bool),(l.foldl (stepQ t) p).2.length=p.2.length+l.length
 | [],_=>rfl
 | d::l,p=>by
  rw [List.foldl_cons,List.length_cons,foldR_acc' l]
  unfold stepQ
  simp only [List.length_append,List.length_singleton];omega
theorem foldR_acc {t:Tm} (l:List Dd):(foldR t l).2.length=l.length:=by
 unfold foldR
 rw [foldR_acc'];exact Nat.zero_add _
variable {L:Lib} (hL:L.T=tab.get)
include hL
theorem playQ_v {t:Tm} {l:List Dd} {s:Nat} {c:Option Nat} (ht:okTm t) (hnm:t.name.length < 4611686018427387904) (hcs:∀x∈t.cands.l,x.length < 4611686018427387904) (hl:∀d∈l,okDd d) (hs:s=8∨l=[]):VFn L 18 [.agg (tmC t),tl ddrow s l c] (playQ t l):=by
 have kt:=mayT_v hL ht hnm hcs
 refine VFn.start (F:=T18.1) (by rw [hL];rfl) rfl (by have h0:=kt.1;simp [V.closeds,V.closed,tl] at h0 ⊢;exact h0) (closed_playQ t l) ?_
 unfold playQ
 cases hok:okTerms t with
 | false=>
  rw [hok] at kt
  rw [if_pos rfl]
  unfold tmC at *
  refine Wn1 kt ?_
  exact FnQ.ret rfl rfl
 | true=>
  rw [hok] at kt
  rw [if_neg (by simp)]
  by_cases h5:512 < l.length
  ·rw [if_pos h5]
   unfold tmC at *
   refine Wf1 (show (512:Int) < l.length by omega) kt ?_
   exact FnQ.ret rfl rfl
  ·rw [if_neg h5]
   have htm:∀σ,Blk.ren σ (.arr 14 [tmC t])=.arr 14 [tmC t]:=fun σ=>blk_ren (by simp [V.closed,closed_nlv,tmC])
   unfold tmC at kt ⊢
   refine Wf1 (show ¬(512:Int) < l.length by omega) kt ?_
   refine wShift [some 0,some 1,none] [] (E1:=[(1,tl ddrow s l c),(2,.ptr 0 14 0 0),(7,.ptr 1 5 0 0),(8,.lst 0 [] (some 0)),(9,.int .i64 0)]) (H1:=rlH t (rs0,[])) rfl rfl (sh_c (congrArg some (htm _)) (sh_c rfl (sh_c rfl sh_n))) ?_
   refine wCntH rfl 9 l.length (fun j=>[(8,accV 2 1 (foldR t (l.take j)).2)]) (fun j=>rlH t (foldR t (l.take j))) (fun _=>True) rfl rfl trivial ?_ ?_
   ·intro j hj _
    obtain ⟨d,hx,hm⟩:=get_of hj
    obtain rfl:=size_of hs hj
    have hw:=wrap_succ (show j < 9223372036854775807 by omega)
    have hk:=foldR_keeps (t:=t) (l.take j)
    have ha:=foldR_acc (t:=t) (l.take j)
    have hlt:(l.take j).length≤j:=List.length_take_le ..
    rw [take_snoc hx,foldR_snoc]
    unfold stepQ
    generalize foldR t (l.take j)=P at *
    obtain ⟨S,A⟩:=P
    dsimp only at hk ha ⊢
    have kp:=playR_v hL (hk.ok (by omega)) ht (hl d hm) hnm hcs
    generalize playR t S d=R at *
    obtain ⟨S',b⟩:=R
    dsimp only at kp ⊢
    have hroom:(A.length+1)*1≤140737488355328:=by omega
    have hrow:(l.map ddrow)[j]?=some (ddrow d):=by rw [List.getElem?_map,hx];rfl
    unfold rlH
    rw [accV_snoc]
    have hend:∀(H:Heap) (a:Nat),H.get 0=some (.arr 14 [tmC t])→H.get 1=some (.arr 5 [rsC S'])→H.get a=accB brow 1 (A++[b])→H.sh [some 0,some 1,some a] []=[some (.arr 14 [tmC t]),some (.arr 5 [rsC S']),accB brow 1 (A++[b])]:=fun H a h0 h1 h2=>by
     refine sh_c ?_ (sh_c ?_ (sh_c ?_ sh_n))
     ·show (H.get 0).map _=_
      rw [h0,Option.map_some,htm]
     ·show (H.get 1).map _=_
      rw [h1,Option.map_some,blk_ren (by simp [V.closed,closed_lsV,rsC])]
     ·show (H.get a).map _=_
      rw [h2,accB_brn]
    unfold tmC rsC ddrow at kp
    unfold tmC rsC at hend ⊢
    by_cases hA:A=[]
    ·subst hA
     rw [accV_nil,accB_nil]
     refine Wf1 (Q5 (show (j:Int) < l.length by omega) (iT hj) hx @ddrow_eq (Q3 @cells_lsV @isVal_lsV hw)) kp ?_
     exact qR_s [some 0,some 1,some 5] [] rfl rfl (hend _ 5 rfl rfl rfl) trivial
    ·rw [accV_cons hA,accB_cons hA]
     refine Xf1 (Q5 (show (j:Int) < l.length by omega) (iT hj) hx @ddrow_eq (Q4 @cells_lsV @isVal_lsV hw hroom)) kp ?_
     exact qR_s [some 0,some 1,some 5] [] rfl rfl (hend _ 5 rfl rfl (by rw [accB_snoc,List.map_append];rfl)) trivial
   ·intro _
    rw [List.take_of_length_le (Nat.le_refl _)]
    generalize foldR t l=P at *
    obtain ⟨S,A⟩:=P
    unfold rlH
    rw [show rsC S=[.int .i64 S.ph,lsV prow 2 S.pe,lsV srow 1 S.na,lsV mrow 1 S.si,lsV vrowL 2 S.bal] from rfl]
    dsimp only
    refine Wn0 ?_
    have hcl:∀σ,V.ren σ (lsV vrowL 2 S.bal)=lsV vrowL 2 S.bal:=fun σ=>V.ren_closed σ closed_lsV
    refine FnQ.frz [2] rfl ?_
    show V.tup [V.ren _ (accV 2 1 A),V.ren _ (lsV vrowL 2 S.bal),V.int .i64 0]=_
    rw [hcl,accFrz (n:=1) (f:=brow) closed_brw (by decide) rfl rfl]
end Go.Proofs.YtigdhgbkgfagiaaGreat
namespace Go.Proofs.YtigdhgbkgfagiaaGreat
theorem vrowL_eq (v:Int×List Int):vrowL v=[.int .u8 v.1,lsV mrow 1 v.2]:=rfl
theorem great_few {t:Tm} (h:greatT t=false):t.name.length≤1000∧∀x∈t.cands.l,x.length≤1000:=by
 unfold greatT great7 at h
 simp only [Bool.or_eq_false_iff,decide_eq_false_iff_not] at h
 obtain ⟨⟨h1,h2,h3⟩,h4⟩:=h
 refine ⟨by omega,fun x hx=>?_⟩
 have:=List.any_eq_false.1 h3 x hx
 simp at this
 exact this
variable {L:Lib} (hL:L.T=tab.get)
include hL
theorem same8b_v {v:Int×List Int} (hv:v.2.length < 4611686018427387904):VFn L 59 [.agg (vrow v),.agg (vrowL v)] (.bool true):=by
 obtain ⟨s,c,e,hs⟩:=rgM_tl v.1 v.2
 obtain ⟨s',c',e',hs'⟩:=lsV_tl mrow 1 v.2
 unfold vrow vrowL
 rw [e,e']
 have ki:=intsSame_v hL (c:=c) (c':=c') hs hs' hv
 refine VFn.start (F:=T59.1) (by rw [hL];rfl) rfl rfl rfl ?_
 refine Xn1 ki ?_
 exact FnQ.ret rfl rfl
theorem balsSame2_v {s s':Nat} {l:List (Int×List Int)} {c c':Option Nat} (hs:s=2∨l=[]) (hs':s'=2∨l=[]) (hl:l.length < 4611686018427387904) (hv:∀v∈l,v.2.length < 4611686018427387904):VFn L 20 [tl vrow s l c,tl vrowL s' l c'] (.bool true):=by
 refine VFn.start (F:=T20.1) (by rw [hL];rfl) rfl rfl rfl ?_
 have hne:¬((l.length:Int)≠l.length):=fun h=>h rfl
 refine Xf0 hne ?_
 refine wCnt rfl 5 l.length (fun _=>[]) (fun _=>True) rfl trivial ?_ ?_
 ·intro j hj hI
  obtain ⟨x,hx,hm⟩:=get_of hj
  obtain rfl:=size_of hs hj
  obtain rfl:=size_of hs' hj
  have hw:=wrap_succ (show j < 9223372036854775807 by omega)
  have ks:=same8b_v hL (hv x hm)
  unfold vrow vrowL at ks
  refine Wf1 (Q5 hj (iT hj) hx @vrow_eq (Q2 @vrowL_eq hw)) ks ?_
  exact qR_n rfl rfl trivial
 ·intro _
  refine Wn0 ?_
  exact FnQ.ret rfl rfl
theorem plays_v {t:Tm} {l:List Dd} {s:Nat} {c:Option Nat} (ht:okTm t) (hd:∀d∈l,okDd d) (hs:s=8∨l=[]) (hl:l.length < 4611686018427387904):VFn L 4 [.agg (tmC t),tl ddrow s l c] (.bool true):=by
 have kb:=bounded_v hL (c:=c) (n:=600) ht hs hl
 have kp:=play_v hL (c:=c) ht hd hs
 refine VFn.start (F:=T4.1) (by rw [hL];rfl) rfl (by have h0:=kb.1;simp [V.closeds,V.closed,tl] at h0 ⊢;exact h0) rfl ?_
 cases hb:boundF t l 600 with
 | false=>
  rw [hb] at kb
  unfold tmC at *
  refine Wn1 kb ?_
  exact FnQ.ret rfl rfl
 | true=>
  rw [hb] at kb
  have hbb:=hb
  unfold boundF at hb
  simp only [Bool.not_eq_true',Bool.or_eq_false_iff,decide_eq_false_iff_not] at hb
  obtain ⟨hg,hle,-⟩:=hb
  obtain ⟨hn1,hn2⟩:=great_few hg
  have kq:=playQ_v hL (l:=l) (s:=s) (c:=c) ht (by omega) (fun x hx=>by have:=hn2 x hx;omega) hd hs
  obtain ⟨e1,e2⟩:=fold_sim t l
  unfold playQ at kq
  unfold playV playF at kp
  rw [←e1,←e2] at kq
  have hA:=fold_acc (t:=t) l
  have hV:=(fold_keeps (t:=t) l).vs
  have hsh:=fold_short (t:=t) l (ms0,[]) (fun _ h=>by cases h)
  rw [show l.foldl (stepS t) (ms0,[])=foldS t l from rfl] at hsh
  generalize (foldS t l).1.vs=P at *
  generalize (foldS t l).2=A at *
  have kB0:VFn L 19 [.lst 0 [] (some 0),.lst 0 [] (some 0)] (.bool true):=boolsSame_v hL (s:=0) (s':=0) (l:=[]) (c:=some 0) (c':=some 0) (.inr rfl) (.inr rfl) (by simp)
  have kV0:VFn L 20 [.lst 0 [] (some 0),.lst 0 [] (some 0)] (.bool true):=balsSame2_v hL (s:=0) (s':=0) (l:=[]) (c:=some 0) (c':=some 0) (.inr rfl) (.inr rfl) (by simp) (by simp)
  cases hok:okTerms t with
  | false=>
   rw [hok,if_pos rfl] at kp kq
   rw [show lsV brow 1 []=.lst 0 [] (some 0) from rfl,show lsV vrow 2 []=.lst 0 [] (some 0) from rfl] at kp
   unfold nilV at kq
   dsimp only at kp kq
   unfold tmC at *
   refine Xn5 kb kp kq kB0 kV0 ?_
   exact FnQ.ret rfl rfl
  | true=>
   rw [hok,if_neg (by simp)] at kp kq
   by_cases h5:512 < l.length
   ·rw [if_pos h5] at kp kq
    rw [show lsV brow 1 []=.lst 0 [] (some 0) from rfl,show lsV vrow 2 []=.lst 0 [] (some 0) from rfl] at kp
    unfold nilV at kq
    dsimp only at kp kq
    unfold tmC at *
    refine Xn5 kb kp kq kB0 kV0 ?_
    exact FnQ.ret rfl rfl
   ·rw [if_neg h5] at kp kq
    dsimp only at kp kq
    obtain ⟨sA,cA,eA,fA⟩:=lsV_tl brow 1 A
    obtain ⟨sP,cP,eP,fP⟩:=lsV_tl vrow 2 P
    obtain ⟨sQ,cQ,eQ,fQ⟩:=lsV_tl vrowL 2 P
    rw [eA,eP] at kp
    rw [eA,eQ] at kq
    have kB:=boolsSame_v hL (s:=sA) (s':=sA) (l:=A) (c:=cA) (c':=cA) fA fA (by omega)
    have kV:=balsSame2_v hL (s:=sP) (s':=sQ) (l:=P) (c:=cP) (c':=cQ) fP fQ (by omega) (fun v hv=>by have:=hsh v hv;omega)
    unfold tmC at *
    refine Xn5 kb kp kq kB kV ?_
    exact FnQ.ret rfl rfl
end Go.Proofs.YtigdhgbkgfagiaaGreat
