/- Of the proof of TopCosts: Arguments opened, whatever the types' numbers: lists of numbers, of such lists, of strings. -/
import Derived.Deep.Fields
import Derived.OpenShut
import Derived.ProofKit
import Derived.Test.YtgimnjldndkalaaGreatDoorRows
import Derived.Test.YtgimnjldndkalaaGreatDoorF4
set_option linter.all false
set_option maxRecDepth 100000
namespace Go.Proofs.YtgimnjldndkalaaGreatDoor
variable {held:Bool} {base:Nat} {spare:Nat->Bool} {H:Type} {v:Value} {w:World}
section
open Go.ChangeShapes Go.WideShapes Go.ChangeAt Go.RowKit Go.Deep jm
variable {e t:TypeId} {fuel:Nat} {z:Int}
section
variable {enc:TypeId×Value->H} {P:Program}
def xE {a:Addr} (h:w.cell? a=some v): ∃b o,a=(pA b o)/\b<w.heap.size:=by
 obtain⟨b,o,s⟩:=a;have c:s=none:=by simpa using World.cell?_spot h
 subst c;exact⟨b,o,rfl,aag w _ h⟩
def yc {k:IntKind} {x:DataW H×List MemPlace} (ht:P.underlying t=some (.slice e)) (he:P.underlying e=some (.int k)) (hc:P.cellsOf e=1)
  (h:DataW.trod enc P w base spare held fuel t [v]=some x): ∃l:List Int,gx w k v l/\ ∀z∈l,(Lit.int k z).wf=true:=by
 rcases open_ints ht he hc h with ⟨hcs,_⟩|⟨a,len,cap,zs,hcs,_,hl,hm,hz,_,hcell,hwz⟩
 ·obtain rfl:v=.slice none 0 0:=by simpa using hcs
  exact⟨[],RS.none_ _ _,fun z hz=>by simp at hz⟩
 ·obtain rfl:v=.slice (some a) len cap:=by simpa using hcs
  have hlz:len<=zs.length:=by rw[hz];split <;>omega
  have hlen:(zs.take len).length=len:=by simp;omega
  refine⟨zs.take len,⟨some a,cap,by rw[hlen],oG,hm,by simp,fun hn=>?_⟩,fun z hz=>hwz z (mh hz)⟩;obtain⟨b,o,rfl,hb⟩:=xE (by simpa[Addr.add] using hcell 0 oG);refine⟨b,o,rfl,hb,fun j u hu=>?_⟩;rw[fh] at hu;cases hj:(zs.take len)[j]? with
  |none=>simp[hj] at hu
  |some y=>
   simp only[hj,lL,lH] at hu;subst hu;rw[gq] at hj;split at hj
   ·have:=hcell j oG;rw[rV] at this;rw[this,gR,hj];rfl
   ·cases hj
def Lu {q:TypeId} {x:DataW H×List MemPlace} (ht:P.underlying t=some (.slice e)) (he:P.underlying e=some (.slice q)) (hq:P.underlying q=some (.int .i64)) (hc:P.cellsOf e=1) (hcq:P.cellsOf q=1)
  (h:DataW.trod enc P w base spare held fuel t [v]=some x): ∃L:List (List Int),rS w v L/\ ∀r∈L,∀z∈r,(Lit.int .i64 z).wf=true:=by
 rcases open_slice1 ht hc h with ⟨hcs,_⟩|⟨a,len,cap,m,n,V,D,Pl,hcs,_,hl,hm,hmm,_,hcell⟩
 ·obtain rfl:v=.slice none 0 0:=by simpa using hcs
  exact⟨[],⟨none,0,rfl,lE,by simp[maxLen],fun h=>absurd h sI⟩,fun r hr=>by simp at hr⟩
 ·obtain rfl:v=.slice (some a) len cap:=by simpa using hcs
  have hlm:len<=m:=by rw[hmm];split <;>omega
  obtain⟨L,hL1,hL2⟩:=Bo (List.range len) (P:=fun i (r:List Int)=>gx w .i64 (V i) r/\ ∀z∈r,(Lit.int .i64 z).wf=true) (fun i y hy=>by have:=fP hy;rw[mr] at this;exact yc he hq hcq (hcell i oG).2);rw[mr] at hL1;refine⟨L,⟨some a,cap,by rw[hL1],oG,hm,fun hn=>?_⟩,fun r hr=>?_⟩
  ·obtain⟨b,o,rfl,hb⟩:=xE (by simpa[Addr.add] using(hcell 0 oG).1);refine⟨b,o,rfl,hb,fun i r hr=>⟨V i,(hL2 i r hr).1,?_⟩⟩;have:=(hcell i (by have:=fP hr;omega)).1
   rwa [rV] at this
  ·obtain⟨i,hi⟩:=gz.1 hr;exact(hL2 i r hi).2
def rm (h:(Lit.int .i64 z).wf=true):tq z:=by
 have: -9223372036854775808<=z/\z<=9223372036854775807:=by simpa[Lit.wf,IntKind.min,IntKind.max,IntKind.signed,IntKind.bits] using h
 exact this
def wf_u64 (h:(Lit.int .u64 z).wf=true):0<=z/\z<18446744073709551616:=by
 have:0<=z/\z<=18446744073709551615:=by simpa[Lit.wf,IntKind.min,IntKind.max,IntKind.signed,IntKind.bits] using h
 omega
def Lt {a:Nat} {x:DataW H×List MemPlace} (j:P.underlying t=some (.slice e)) (i:P.underlying e=some (.int .u64)) (g:P.cellsOf e=1)
  (h:DataW.trod enc P w base spare held a t [v]=some x): ∃l:List Nat,lu w v l/\ ∀s∈l,s<18446744073709551616:=by
 obtain⟨l,f,d⟩:=yc j i g h;refine⟨l.map Int.toNat,?_,fun s c=>?_⟩
 ·unfold lu;have e:(l.map Int.toNat).map Int.ofNat=l:=by
   rw[kK]
   conv=>rhs;rw[<-Nl l]
   refine oI fun z b=>?_;have:=wf_u64 (d z b);exact Int.toNat_of_nonneg this.1
  rw[e];exact f
 ·obtain⟨z,b,rfl⟩:=fq.1 c;have:=wf_u64 (d z b);omega
end
end
section
open Go.Proofs.Tryz
open Go.ChangeShapes Go.WideShapes Go.ChangeAt Go.RowKit Go.Deep jm
variable {f:Nat} {p:List MemPlace} {r:Reach}
section
variable {enc:TypeId×Value->H}
def Qf:prog.cellsOf 47=8:=kR
def Wl:prog.cellsOf 25=6:=kR
def WG:prog.cellsOf 26=1:=kR
def qZ:prog.cellsOf 3=1:=kR
def WX:prog.cellsOf 80=1:=kR
def Wz:prog.cellsOf 45=1:=kR
def Wn:prog.cellsOf 22=1:=kR
def V9:prog.cellsOf 23=1:=kR
def Oh {b:Nat} {cs:List Value} {x:DataW H×List MemPlace} (h:DataW.trod enc prog w base spare held b 47 cs=some x):
  ∃(y:kc) (d:Value),cs=[.int .i64 y.kind,.int .i64 y.iL,d,.int .i64 y.jU,.int .i64 y.size,.int .i64 y.start,.int .i64 y.lR,.int .i64 y.hold]/\lu w d y.jC/\y.wf:=by
 obtain⟨xs,n,_,_,B,c,a⟩:=DataW.trod_struct underlying47 h;rw[Qf] at B
 match cs,B,xs,c with
 | [c0,c1,c2,c3,c4,c5,c6,c7],_,[x0,x1,x2,x3,x4,x5,x6,x7],_=>
  have k:DataW.trod enc prog w base spare held n 3 [c0]=some x0:=by simpa[qZ] using a 0 _ rfl
  have m:DataW.trod enc prog w base spare held n 3 [c1]=some x1:=by simpa[qZ] using a 1 _ rfl
  have o:DataW.trod enc prog w base spare held n 45 [c2]=some x2:=by simpa[Wz] using a 2 _ rfl
  have q:DataW.trod enc prog w base spare held n 3 [c3]=some x3:=by simpa[qZ] using a 3 _ rfl
  have s:DataW.trod enc prog w base spare held n 3 [c4]=some x4:=by simpa[qZ] using a 4 _ rfl
  have t:DataW.trod enc prog w base spare held n 3 [c5]=some x5:=by simpa[qZ] using a 5 _ rfl
  have u:DataW.trod enc prog w base spare held n 3 [c6]=some x6:=by simpa[qZ] using a 6 _ rfl
  have v:DataW.trod enc prog w base spare held n 3 [c7]=some x7:=by simpa[qZ] using a 7 _ rfl
  obtain⟨G,g,-,w0⟩:=lK underlying3 k;obtain⟨I,i,-,w1⟩:=lK underlying3 m;obtain⟨J,j,-,F⟩:=lK underlying3 q;obtain⟨L,e,-,C⟩:=lK underlying3 s;obtain⟨M,f,-,D⟩:=lK underlying3 t;obtain⟨N,p,-,E⟩:=lK underlying3 u;obtain⟨O,r,-,K⟩:=lK underlying3 v;obtain⟨l,z,A⟩:=Lt underlying45 underlying80 WX o;obtain rfl:c0=_:=by simpa using g
  obtain rfl:c1=_:=by simpa using i
  obtain rfl:c3=_:=by simpa using j
  obtain rfl:c4=_:=by simpa using e
  obtain rfl:c5=_:=by simpa using f
  obtain rfl:c6=_:=by simpa using p
  obtain rfl:c7=_:=by simpa using r
  exact⟨⟨G,I,l,J,L,M,N,O⟩,c2,rfl,z,rm w0,rm w1,A,rm F,rm C,rm D,rm E,rm K⟩
def IY {fuel:Nat} {x:DataW H×List MemPlace} (h:DataW.trod enc prog w base spare held fuel 22 [v]=some x): ∃L:List kc,qp w v L/\ ∀c∈L,c.wf:=by
 rcases open_slice underlying22 h with ⟨hcs,_⟩|⟨a,len,cap,m,n,D,Pl,hcs,_,hl,hm,hmm,_,hcell⟩
 ·obtain rfl:v=.slice none 0 0:=by simpa using hcs
  exact⟨[],⟨none,0,rfl,lE,by simp[maxLen],fun h=>absurd h sI⟩,fun r hr=>by simp at hr⟩
 ·obtain rfl:v=.slice (some a) len cap:=by simpa using hcs
  have hlm:len<=m:=by rw[hmm];split <;>omega
  rw[Qf] at hcell;obtain⟨L,hL1,hL2⟩:=Bo (List.range len) (P:=fun i (y:kc)=>(∃pv:Value,lu w pv y.jC/\
    ∀j u,(kH y pv)[j]? =some u->w.cell? ((a.add (i*8)).add j)=some u)/\y.wf) (fun i y hy=>by
   have hlt:=fP hy;rw[mr] at hlt;obtain⟨cs',h1,h2⟩:=hcell i oG;obtain⟨y,pv,rfl,hp,hw⟩:=Oh h2;obtain⟨_,_,h3⟩:=World.cells?_some h1;exact⟨y,⟨pv,hp,fun j u hu=>(h3 j (by have:=fP hu;simpa[kH] using this)).trans hu⟩,hw⟩)
  rw[mr] at hL1;refine⟨L,⟨some a,cap,by rw[hL1],oG,hm,fun hn=>?_⟩,fun r hr=>?_⟩
  ·obtain⟨y0,hy0⟩:=ec hn;obtain⟨⟨pv0,_,hc0⟩,_⟩:=hL2 0 y0 hy0;obtain⟨b,o,rfl,hb⟩:=xE (by simpa[Addr.add] using hc0 0 _ rfl);refine⟨b,o,rfl,hb,fun i y hy=>?_⟩;obtain⟨⟨pv,hp,hc⟩,_⟩:=hL2 i y hy;have hk: ∀j u,(kH y pv)[j]? =some u->w.cell? (pA b (o+i*8+j))=some u:=fun j u hu=>by
    have:=hc j u hu
    rwa [rV,rV] at this
   exact⟨pv,hp,hk 0 _ rfl,hk 1 _ rfl,hk 2 _ rfl,hk 3 _ rfl,hk 4 _ rfl,hk 5 _ rfl,hk 6 _ rfl,hk 7 _ rfl⟩
  ·obtain⟨i,hi⟩:=gz.1 hr;exact(hL2 i r hi).2
def Ef {d:DataW H} (C:Value.okWide prog w r f 26 v) (h:DataW.Trod enc prog w base spare held 26 v d p):
  ∃l:List Int,gx w .i64 v l/\ ∀z∈l,tq z:=by
 obtain⟨c,a,cap,rfl⟩:=okWide_slice underlying26 C;obtain⟨b,A⟩:=h;obtain⟨l,e,g⟩:=yc (v:=.slice c a cap) underlying26 underlying3 qZ (by simpa[Value.cells] using A);exact⟨l,e,fun z E=>rm (g z E)⟩
def Oi {d:DataW H} (C:Value.okWide prog w r f 25 v) (h:DataW.Trod enc prog w base spare held 25 v d p):
  ∃x:fS,iz w v x/\x.wf:=by
 obtain⟨cs,rfl,e⟩:=okWide_struct underlying25 C;obtain⟨l⟩:=cs;rw[Wl] at e
 match l,e with
 | [c0,c1,c2,c3,c4,c5],_=>
  obtain⟨b,A⟩:=h;obtain⟨xs,n,_,_,B,c,a⟩:=DataW.trod_struct underlying25 A
  match xs,c with
  | [x0,x1,x2,x3,x4,x5],_=>
   have k:DataW.trod enc prog w base spare held n 3 [c0]=some x0:=by simpa[qZ,Value.cells] using a 0 _ rfl
   have m:DataW.trod enc prog w base spare held n 3 [c1]=some x1:=by simpa[qZ,Value.cells] using a 1 _ rfl
   have o:DataW.trod enc prog w base spare held n 3 [c2]=some x2:=by simpa[qZ,Value.cells] using a 2 _ rfl
   have q:DataW.trod enc prog w base spare held n 3 [c3]=some x3:=by simpa[qZ,Value.cells] using a 3 _ rfl
   have s:DataW.trod enc prog w base spare held n 22 [c4]=some x4:=by simpa[Wn,Value.cells] using a 4 _ rfl
   have t:DataW.trod enc prog w base spare held n 23 [c5]=some x5:=by simpa[V9,Value.cells] using a 5 _ rfl
   obtain⟨G,g,-,w0⟩:=lK underlying3 k;obtain⟨I,i,-,w1⟩:=lK underlying3 m;obtain⟨Q,K,-,P⟩:=lK underlying3 o;obtain⟨J,j,-,F⟩:=lK underlying3 q;obtain rfl:c0=_:=by simpa using g
   obtain rfl:c1=_:=by simpa using i
   obtain rfl:c2=_:=by simpa using K
   obtain rfl:c3=_:=by simpa using j
   obtain⟨L,N,y⟩:=IY (v:=c4) s;obtain⟨D,M,u⟩:=Lu (v:=c5) underlying23 underlying26 underlying3 WG qZ t;exact⟨⟨G,I,Q,J,L,D⟩,⟨c4,c5,rfl,N,M⟩,rm w0,rm w1,rm P,rm F,y,fun r O z E=>rm (u r O z E)⟩
end
end
end Go.Proofs.YtgimnjldndkalaaGreatDoor
