/- What the laws of the model are given: terms and deeds, as values of AL. -/
import Derived.Test.YtigdhgbkgfagiaaGreatRows
import Derived.Test.YtigdhgbkgfagiaaGreatZM2
import Derived.Test.YtigdhgbkgfagiaaGreatZR6
import Derived.ShutString
set_option maxRecDepth 100000
set_option linter.unusedVariables false
namespace Go.Proofs.YtigdhgbkgfagiaaGreat
open Go.ChangeShapes Go.WideShapes Go.ChangeAt Go.RowKit
theorem own:ownKnob Tryz.prog.godebug=none:=by kernel_rfl
theorem laidOut:laidOutB Tryz.prog=true:=by kernel_rfl
theorem reach_each {H:Type} {ts:List TypeId} {ds:List (DataW H)} (h:(DataW.weightsEach Tryz.prog ts ds).all (·≤reachBytes)=true) {j:Nat} {t:TypeId} {d:DataW H} (ht:ts[j]?=some t) (hd:ds[j]?=some d):∀n∈d.weights Tryz.prog t,n≤reachBytes:=by
 intro n hn
 have:=List.all_eq_true.1 h _ (DataW.weights_mem_each ht hd n hn)
 exact of_decide_eq_true this
theorem OpenT.map2 {P:Program} {N:Nums} {α β:Type} {t:TypeId} {f:α→List V} {good:α→Prop} {f':β→List V} {good':β→Prop} (h:OpenT P N t f good) (g:α→β) (h1:∀a,good a→f' (g a)=f a) (h2:∀a,good a→good' (g a)):OpenT P N t f' good':=fun H enc W fuel cs d ps hd hr=>by
 obtain ⟨a,g1,g2,g3⟩:=h H enc W fuel cs d ps hd hr
 exact ⟨g a,h2 a g1,by rw [h1 a g1];exact g2,fun i c y hc hy=>g3 i c y (by rw [←h1 a g1];exact hc) hy⟩
theorem reach_is:reachBytes=140737488351232:=by kernel_rfl
theorem b_int:Tryz.prog.bytesOf 3=8:=by kernel_rfl
theorem b_u32:Tryz.prog.bytesOf 148=4:=by kernel_rfl
theorem b_u8:Tryz.prog.bytesOf 5=1:=by kernel_rfl
theorem b_str:Tryz.prog.bytesOf 9=16:=by kernel_rfl
theorem b_dec:Tryz.prog.bytesOf 230=16:=by kernel_rfl
theorem b_deed:8≤Tryz.prog.bytesOf 116:=of_decide_eq_true (by kernel_rfl)
theorem o_int:OpenT Tryz.prog CC.N 3 mrow (fun n=>-9223372036854775808≤n∧n≤9223372036854775807):=(OpenT.int Tryz.underlying3).map id (fun _=>rfl) (fun n h=>h)
theorem o_ints:OpenT Tryz.prog CC.N 30 (fun o:Nl Int=>[nlv mrow 1 o]) (fun o=>o.l.length≤17592186043904):=(OpenT.slice (n:=1) Tryz.underlying30 (by kernel_rfl) (by decide) (fun _=>rfl) o_int).map id (fun _=>rfl) (fun o h=>by have:=h.1;rw [b_int,reach_is] at this;simp only [id];omega)
theorem o_u32:OpenT Tryz.prog CC.N 148 nrow (fun n=>n < W32):=(OpenT.int Tryz.underlying148).map2 Int.toNat
 (fun n h=>by have:0≤n:=h.1;show [V.int .u32 ((n.toNat:Nat):Int)]=_;rw [Int.toNat_of_nonneg this]) (fun n h=>by have h1:0≤n:=h.1;have h2:n≤4294967295:=h.2;show n.toNat < 4294967296;omega)
theorem o_u32s:OpenT Tryz.prog CC.N 27 (fun o:Nl Nat=>[nlv nrow 1 o]) (fun o=>o.l.length≤35184372087808∧limOk o.l):=(OpenT.slice (n:=1) Tryz.underlying27 (by kernel_rfl) (by decide) (fun _=>rfl) o_u32).map id (fun _=>rfl) (fun o h=>⟨by have:=h.1;rw [b_u32,reach_is] at this;simp only [id];omega,h.2⟩)
theorem o_u8n:OpenT Tryz.prog CC.N 5 (fun n:Nat=>[.int .u8 n]) (fun n=>n < 256):=(OpenT.int Tryz.underlying5).map2 Int.toNat
 (fun n h=>by have:0≤n:=h.1;show [V.int .u8 ((n.toNat:Nat):Int)]=_;rw [Int.toNat_of_nonneg this]) (fun n h=>by have h1:0≤n:=h.1;have h2:n≤255:=h.2;omega)
theorem o_u8i:OpenT Tryz.prog CC.N 5 urow (fun _=>True):=(OpenT.int Tryz.underlying5).map id (fun _=>rfl) (fun _ _=>trivial)
theorem o_u8b:OpenT Tryz.prog CC.N 5 byrow (fun _=>True):=o_u8n.map2 UInt8.ofNat
 (fun n h=>by show [V.int .u8 (((UInt8.ofNat n).toNat:Nat):Int)]=_;rw [UInt8.toNat_ofNat',Nat.mod_eq_of_lt (by exact h)]) (fun _ _=>trivial)
theorem o_u8is:OpenT Tryz.prog CC.N 53 (fun o:Nl Int=>[nlv urow 1 o]) (fun o=>o.l.length < 4611686018427387904):=(OpenT.slice (n:=1) Tryz.underlying53 (by kernel_rfl) (by decide) (fun _=>rfl) o_u8i).map id (fun _=>rfl) (fun o h=>by have:=h.1;rw [b_u8,reach_is] at this;simp only [id];omega)
theorem o_u8bs:OpenT Tryz.prog CC.N 53 sdrow (fun _=>True):=(OpenT.slice (n:=1) Tryz.underlying53 (by kernel_rfl) (by decide) (fun _=>rfl) o_u8b).map id (fun _=>rfl) (fun _ _=>trivial)
theorem o_str:OpenT Tryz.prog CC.N 9 srow (fun s=>s.length < 4611686018427387904):=(OpenT.str Tryz.underlying9).map id (fun _=>rfl) (fun s h=>by have h':s.length≤reachBytes:=h;rw [reach_is] at h';simp only [id];omega)
theorem o_strs:OpenT Tryz.prog CC.N 22 (fun o:Nl (List UInt8)=>[nlv srow 1 o]) (fun o=>o.l.length≤8796093022208):=(OpenT.slice (n:=1) Tryz.underlying22 (by kernel_rfl) (by decide) (fun _=>rfl) o_str).map id (fun _=>rfl) (fun o h=>by have:=h.1;rw [b_str,reach_is] at this;simp only [id];omega)
theorem o_bool:OpenT Tryz.prog CC.N 4 (fun b:Bool=>[.bool b]) (fun _=>True):=OpenT.bool Tryz.underlying4
def ctF (p:List UInt8×(Nl (List UInt8)×(Int×(Nat×Unit)))):List V:=[.str p.1,nlv srow 1 p.2.1,.int .i64 p.2.2.1,.int .u8 p.2.2.2.1]
theorem o_contest:OpenT Tryz.prog CC.N 24 ctF (fun p=>p.2.1.l.length≤8796093022208∧p.2.2.2.1 < 256):=
 OpenT.map (OpenT.struct Tryz.underlying24 (fun _=>by kernel_rfl) (OpenFs.cons (n:=1) rfl (by kernel_rfl) (fun _=>rfl) o_str (OpenFs.cons (n:=1) rfl (by kernel_rfl) (fun _=>rfl) o_strs (OpenFs.cons (n:=1) rfl (by kernel_rfl) (fun _=>rfl) o_int (OpenFs.cons (n:=1) rfl (by kernel_rfl) (fun _=>rfl) o_u8n OpenFs.nil)))))
  id (fun _=>rfl) (fun p h=>⟨h.2.1,h.2.2.2.1⟩)
def poF (p:Nat×(Nat×(Int×Unit))):List V:=[.int .u8 p.1,.int .u8 p.2.1,.int .i64 p.2.2.1]
theorem o_policy:OpenT Tryz.prog CC.N 26 poF (fun p=>p.1 < 256∧p.2.1 < 256):=
 OpenT.map (OpenT.struct Tryz.underlying26 (fun _=>by kernel_rfl) (OpenFs.cons (n:=1) rfl (by kernel_rfl) (fun _=>rfl) o_u8n (OpenFs.cons (n:=1) rfl (by kernel_rfl) (fun _=>rfl) o_u8n (OpenFs.cons (n:=1) rfl (by kernel_rfl) (fun _=>rfl) o_int OpenFs.nil))))
  id (fun _=>rfl) (fun p h=>⟨h.1,h.2.1⟩)
def rtF (p:Bool×(Nl Nat×(Nl Nat×Unit))):List V:=[.bool p.1,nlv nrow 1 p.2.1,nlv nrow 1 p.2.2.1]
theorem o_ratio:OpenT Tryz.prog CC.N 29 rtF (fun p=>(p.2.1.l.length≤35184372087808∧limOk p.2.1.l)∧(p.2.2.1.l.length≤35184372087808∧limOk p.2.2.1.l)):=
 OpenT.map (OpenT.struct Tryz.underlying29 (fun _=>by kernel_rfl) (OpenFs.cons (n:=1) rfl (by kernel_rfl) (fun _=>rfl) o_bool (OpenFs.cons (n:=1) rfl (by kernel_rfl) (fun _=>rfl) o_u32s (OpenFs.cons (n:=1) rfl (by kernel_rfl) (fun _=>rfl) o_u32s OpenFs.nil))))
  id (fun _=>rfl) (fun p h=>⟨h.2.1,h.2.2.1⟩)
theorem o_terms:OpenT Tryz.prog CC.N 32 tmC okTm:=
 OpenT.map (OpenT.struct Tryz.underlying32 (fun _=>by kernel_rfl) (OpenFs.cons (n:=4) rfl (by kernel_rfl) (fun _=>rfl) o_contest (OpenFs.cons (n:=3) rfl (by kernel_rfl) (fun _=>rfl) o_policy (OpenFs.cons (n:=3) rfl (by kernel_rfl) (fun _=>rfl) o_ratio (OpenFs.cons (n:=3) rfl (by kernel_rfl) (fun _=>rfl) o_ratio (OpenFs.cons (n:=1) rfl (by kernel_rfl) (fun _=>rfl) o_ints OpenFs.nil))))))
  (fun p=>⟨p.1.1,p.1.2.1,p.1.2.2.1,p.1.2.2.2.1,p.2.1.1,p.2.1.2.1,p.2.1.2.2.1,p.2.2.1.1,p.2.2.1.2.1,p.2.2.1.2.2.1,p.2.2.2.1.1,p.2.2.2.1.2.1,p.2.2.2.1.2.2.1,p.2.2.2.2.1⟩) (fun _=>rfl)
  (fun p h=>⟨h.1.2,h.2.1.1,h.2.1.2,h.1.1,Nat.le_trans h.2.2.1.1.1 (by decide),Nat.le_trans h.2.2.1.2.1 (by decide),Nat.le_trans h.2.2.2.1.1.1 (by decide),Nat.le_trans h.2.2.2.1.2.1 (by decide),Nat.le_trans h.2.2.2.2.1 (by decide),⟨h.2.2.1.1.2,h.2.2.1.2.2⟩,⟨h.2.2.2.1.1.2,h.2.2.2.1.2.2⟩⟩)
theorem o_sheet:OpenT Tryz.prog CC.N 113 (fun o:Nl Int=>[nlv urow 1 o]) (fun o=>o.l.length < 4611686018427387904):=
 OpenT.map (OpenT.struct Tryz.underlying113 (fun _=>by kernel_rfl) (OpenFs.cons (n:=1) rfl (by kernel_rfl) (fun _=>rfl) o_u8is OpenFs.nil)) (fun p=>p.1) (fun _=>rfl) (fun p h=>h.1)
theorem o_decision:OpenT Tryz.prog CC.N 230 drow (fun _=>True):=
 OpenT.map (OpenT.struct Tryz.underlying230 (fun _=>by kernel_rfl) (OpenFs.cons (n:=1) rfl (by kernel_rfl) (fun _=>rfl) o_int (OpenFs.cons (n:=1) rfl (by kernel_rfl) (fun _=>rfl) o_bool OpenFs.nil))) (fun p=>(p.1,p.2.1)) (fun _=>rfl) (fun p h=>trivial)
theorem o_decisions:OpenT Tryz.prog CC.N 114 (fun o:Nl (Int×Bool)=>[nlv drow 2 o]) (fun o=>o.l.length < 4611686018427387904):=(OpenT.slice (n:=2) Tryz.underlying114 (by kernel_rfl) (by decide) (fun _=>rfl) o_decision).map id (fun _=>rfl) (fun o h=>by have:=h.1;rw [b_dec,reach_is] at this;simp only [id];omega)
theorem o_seeds:OpenT Tryz.prog CC.N 90 (fun o:Nl (Nl UInt8)=>[nlv sdrow 1 o]) (fun _=>True):=(OpenT.slice (n:=1) Tryz.underlying90 (by kernel_rfl) (by decide) (fun _=>rfl) o_u8bs).map id (fun _=>rfl) (fun _ _=>trivial)
theorem o_ballot:OpenT Tryz.prog CC.N 130 balrow (fun _=>True):=
 OpenT.map (OpenT.struct Tryz.underlying130 (fun _=>by kernel_rfl) (OpenFs.cons (n:=1) rfl (by kernel_rfl) (fun _=>rfl) o_u8i (OpenFs.cons (n:=1) rfl (by kernel_rfl) (fun _=>rfl) o_ints OpenFs.nil))) (fun p=>(p.1,p.2.1)) (fun _=>rfl) (fun p h=>trivial)
theorem o_ballots:OpenT Tryz.prog CC.N 64 (fun o:Nl (Int×Nl Int)=>[nlv balrow 2 o]) (fun _=>True):=(OpenT.slice (n:=2) Tryz.underlying64 (by kernel_rfl) (by decide) (fun _=>rfl) o_ballot).map id (fun _=>rfl) (fun _ _=>trivial)
theorem o_batch:OpenT Tryz.prog CC.N 135 hbrow (fun _=>True):=
 OpenT.map (OpenT.struct Tryz.underlying135 (fun _=>by kernel_rfl) (OpenFs.cons (n:=1) rfl (by kernel_rfl) (fun _=>rfl) o_str (OpenFs.cons (n:=1) rfl (by kernel_rfl) (fun _=>rfl) o_ballots OpenFs.nil))) (fun p=>⟨p.1,p.2.1⟩) (fun _=>rfl) (fun p h=>trivial)
theorem o_batches:OpenT Tryz.prog CC.N 38 (fun o:Nl Hb=>[nlv hbrow 2 o]) (fun _=>True):=(OpenT.slice (n:=2) Tryz.underlying38 (by kernel_rfl) (by decide) (fun _=>rfl) o_batch).map id (fun _=>rfl) (fun _ _=>trivial)
theorem o_deed:OpenT Tryz.prog CC.N 116 ddrow okDd:=
 OpenT.map (OpenT.struct Tryz.underlying116 (fun _=>by kernel_rfl) (OpenFs.cons (n:=1) rfl (by kernel_rfl) (fun _=>rfl) o_u8n (OpenFs.cons (n:=1) rfl (by kernel_rfl) (fun _=>rfl) o_str (OpenFs.cons (n:=1) rfl (by kernel_rfl) (fun _=>rfl) o_int (OpenFs.cons (n:=1) rfl (by kernel_rfl) (fun _=>rfl) o_str (OpenFs.cons (n:=1) rfl (by kernel_rfl) (fun _=>rfl) o_sheet (OpenFs.cons (n:=1) rfl (by kernel_rfl) (fun _=>rfl) o_decisions (OpenFs.cons (n:=1) rfl (by kernel_rfl) (fun _=>rfl) o_seeds (OpenFs.cons (n:=1) rfl (by kernel_rfl) (fun _=>rfl) o_batches OpenFs.nil)))))))))
  (fun p=>⟨p.1,p.2.1,p.2.2.1,p.2.2.2.1,p.2.2.2.2.1,p.2.2.2.2.2.1,p.2.2.2.2.2.2.1,p.2.2.2.2.2.2.2.1⟩) (fun _=>rfl) (fun p h=>⟨h.2.1,h.2.2.2.1,h.2.2.2.2.1,h.2.2.2.2.2.1⟩)
def okDds (o:Nl Dd):Prop:=o.l.length < 4611686018427387904∧∀d∈o.l,okDd d
theorem o_deeds:OpenT Tryz.prog CC.N 61 (fun o:Nl Dd=>[nlv ddrow 8 o]) okDds:=(OpenT.slice (n:=8) Tryz.underlying61 (by kernel_rfl) (by decide) (fun _=>rfl) o_deed).map id (fun _=>rfl) (fun o h=>⟨by
 have h1:=h.1
 have h2:=Nat.mul_le_mul_left o.l.length b_deed
 rw [reach_is] at h1
 simp only [id]
 omega,h.2⟩)
theorem plays_all (t:Tm) (o:Nl Dd) (ht:okTm t) (ho:okDds o):VFn LL 4 [.agg (tmC t),nlv ddrow 8 o] (.bool true):=by
 obtain ⟨s,c,e,hs⟩:=nlv_tl (f:=ddrow) (n:=8) (o:=o)
 rw [e]
 exact plays_v rfl ht ho.2 hs ho.1
end Go.Proofs.YtigdhgbkgfagiaaGreat
