/- Of the proof of TopCosts: Memory words that all proofs of this family share: a slice that reads as a list of cells, kept over whatever l. -/
import Derived.Deep.AppendLies
import Derived.Deep.Draws
import Derived.WalkSpells
import Derived.Test.YtgimnjldndkalaaGreatDoorF47
import Derived.Test.YtgimnjldndkalaaGreatDoorF3
set_option linter.all false
set_option maxRecDepth 100000
namespace Go.Proofs.YtgimnjldndkalaaGreatDoor
variable {ops:Array Oper} {Q:Exit->Act->World->Prop} {f:Int->Option Int} {late:List Nat} {cs xs:List Value} {B base g i lb n size:Nat} {P:Program} {α:Type} {a e t:TypeId} {b d v:Value} {w w' w0:World} {S:World->Prop}
section
open Go.RowKit
variable {cap:Nat} {k:IntKind} {l:List Int} {z:α}
def xi {W w1:World} (a:Below B W w1):(∀b o,b<B->w1.cell? (pA b o)=W.cell? (pA b o))/\(∀b o,b<B->w1.frozen? (pA b o)=W.frozen? (pA b o)):=
 ⟨fun b o h=>a.cell (p:=pA b o) h,fun b o h=>a.frozen (p:=pA b o) h⟩
def oC {a b:Int} (h:a=b):Ending.returned (.int k a)=.returned (.int k b):=by rw[h]
def ji {a b:Bool} (h:a=b):Ending.returned a=.returned b:=by rw[h]
def RS (w:World) (size:Nat) (v:Value) (n:Nat) (xs:List Value):Prop:=
 ∃A c,v=.slice A n c/\n<=c/\c<=maxLen/\xs.length=n*size/\
  (0<n-> ∃b o,A=some ⟨b,o,none⟩/\b<w.heap.size/\ ∀j u,xs[j]? =some u->w.cell? (pA b (o+j))=some u)
def RS.below (h:RS w size v n xs) (a:Below B w w') (r:w.heap.size<=B):RS w' size v n xs:=by obtain⟨A,c,rfl,m,e,k,g⟩:=h;refine⟨A,c,rfl,m,e,k,fun q=>?_⟩;obtain⟨b,o,rfl,i,d⟩:=g q;exact⟨b,o,rfl,bP i a.size,fun j u f=>(a.cell (p:=pA b (o+j)) (by show b<B;omega)).trans (d j u f)⟩
def RS.jh {base:Nat} (h:w.ownsRow base e size v n xs):RS w size v n xs:=by
 have p:=h.1
 rcases h.2 with ⟨rfl,rfl⟩|⟨g,cap,b,rfl,a,l,q,c,J,C⟩
 ·exact⟨none,0,rfl,lE,by simp[maxLen],p,fun h=>absurd h oG⟩
 ·refine⟨_,cap,rfl,q,c,p,fun _=>⟨g,0,rfl,(aah.1 l).1,fun j u f=>?_⟩⟩;rw[gW,cell_of_row w g j b e (0,0) l];rw[<-C,gq] at f;split at f
  ·simpa using f
  ·cases f
def RS.none_ (w:World) (size:Nat):RS w size () 0 []:=⟨none,0,rfl,lE,by simp[maxLen],by simp,fun h=>absurd h oG⟩
def gx (w:World) (k:IntKind) (v:Value) (l:List Int):Prop:=RS w 1 v l (l.map (.int k))
def gx.below (h:gx w k v l) (a:Below B w w') (r:w.heap.size<=B):gx w' k v l:=RS.below h a r
def gx.open_ (h:gx w k v l): ∃A c,v=.slice A l c/\l.length<=c/\c<=9223372036854775807/\
  ∀i z,l[i]? =some z-> ∃b o,A=some ⟨b,o,none⟩/\b<w.heap.size/\w.cell? (pA b (o+i))=some (.int k z):=by
 obtain⟨A,c,f,m,e,_,g⟩:=h;refine⟨A,c,f,m,by simpa[maxLen] using e,fun i z r=>?_⟩;obtain⟨b,o,j,a,d⟩:=g (by have:=(bX.1 r).1;omega);exact⟨b,o,j,a,d i _ (by simp[r])⟩
def EX (h:(P.info? e).map (fun i=>(i.zero,i.size,i.bytes))=some (some (.int .i64 0),1,8)): ∃i,P.info? e=some i/\i.zero=some (.int .i64 0)/\i.size=1/\i.bytes=8:=by obtain⟨i0,g,a,b,c⟩:=info_parts h;exact⟨i0,g,a,b,c⟩
def fP {l:List α} (h:l[i]? =some z):i<l.length:=(bX.1 h).1
def oh {l:List α} (h:l[i]? =some z):l.drop i=z::l.drop (i+1):=by obtain⟨g,rfl⟩:=bX.1 h;exact qW g
def ec {l:List α} (h:i<l): ∃z,l[i]? =some z:=⟨l[i],fp h⟩
def fc (w:World) (g:Nat) (t:TypeId) (cs:List Value):Prop:=w.heap[g]? =some (.cells cs.toArray t (0,0))
def fc.lt (h:fc w g t cs):g<w.heap.size:=(aah.1 h).1
def fc.cell (h:fc w g t cs) (i:Nat):w.cell? (pA g i)=cs[i]? :=by rw[cell_of_row w g i cs.toArray t (0,0) h];simp
def fc.c (h:fc w g t cs) (i:Nat) (f:cs[i]? =some v:=by rfl):w.cell? (pA g i)=some v:=(h.cell i).trans f
def fc.frozen (h:fc w g t cs) (i:Nat):w.frozen? (pA g i)=false:=by unfold fc at h;simp[World.frozen?,h]
def fc.new (w:World) (t:TypeId) (cs:List Value):fc (w.alloc (cB t cs)) w t cs:=heap_alloc_new w _
def fc.drew (h:fc w g t cs):fc w.drew g t cs:=h
def fc.drewN (h:fc w g t cs) (n:Nat):fc (w.drewN n) g t cs:=h
def fc.gH (h:fc w g t cs) (i:Nat) (u:Value):fc (w.setCell (pA g i) u) g t (cs.set i u):=by
 unfold fc at h|-
 simp[World.setCell,jc,h]
def fc.kj (h:fc w g t cs) {p:Addr} (a:g≠p.block) (u:Value):fc (w.setCell p u) g t cs:=(Below.heap_setCell w p u g a).trans h
def fc.below (h:fc w g t cs) (a:Below B w w') (l:g<B):fc w' g t cs:=(a.block g l).trans h
def fc.alloc (h:fc w g t cs) (o:Obj):fc (w.alloc o) g t cs:=(sV w o g h.lt).trans h
def fc.RS (h:fc w g t cs) (q:n<=cap) (d:cap<=maxLen) (J:n*size<=cs):RS w size (.slice g n cap) n (cs.take (n*size)):=by
 refine⟨_,cap,rfl,q,d,by simp;omega,fun _=>⟨g,0,rfl,h.lt,fun j u f=>?_⟩⟩;rw[gW,h.cell];rw[gq] at f;split at f
 ·exact f
 ·cases f
def fc.gx (h:fc w g t (l.map (.int k))) (p:l.length=n) (q:n<=cap) (d:cap<=maxLen):gx w k (.slice g n cap) l:=by
 subst p;have:=h.RS (size:=1) q d sI
 rwa [jR,fj sI] at this
def fc.grown {row:Option Nat} (h:fc w g t cs) (a:w.grownBy w' row) (l:some g≠row):fc w' g t cs:=(a.block g h.lt l).trans h
def kD {D:Array Oper} {rest:List Oper} {o:Oper} {a:Act} {Q:Exit->Act->World->Prop} (w:World) (H:o.guard=none) (s x:Operand) (t:TypeId)
  (N:o.op=.call {callee:=.builtin .append,args:= #[s,x],argTypes:= #[t,t]})
  (base:Nat) (e:TypeId) (z:Value) (size d:Nat) (C:P.underlying t=some (.slice e)) (g:(P.info? e).map (fun i=>(i.zero,i.size,i.bytes))=some (some z,size,d))
  (M:z.cells.size=size) (L:0<size) (G:d<=100)
  (v:Value) (n:Nat) (xs:List Value) (y:w.ownsRow base e size v n xs) (J:a.eval s=v)
  (b:List Value) (c:Nat) (O:a.eval x=.slice w 1 c) (p:b.length=size) (m:b.all (fun u=>u.oneCell')=true)
  (q:n<=1000000000) (A:base<=w)
  (h: ∀E w',w'.ownsRow base e size E (n+1) (xs++b)->Below base w w'->w.heap.size<w'->wpList P D Q rest (a.put o.dst E) w'):wpList P D Q (o::rest) a (w.alloc (cB e b)):=by
 obtain⟨i,g,r,K,F⟩:=info_parts g;refine wpList_append_own (P:=P) (w.alloc (cB e b)) H s x t N base e i z size d C g r K F M L v n xs J (y.alloc _) w 1 c b O oG
  (fun j u f=>?_) (fun u f=>dT.1 m u f) mO ?_ sO (fun E w' m l _=>h E w' m ?_ ?_)
 ·have B:(w:Addr).add j=(pA w j):=by unfold Addr.add;split <;>simp_all
  rw[B,(fc.new w e b).cell];exact f
 ·have:=kg (show n+1<=1000000001 by omega) G;omega
 ·exact(bF.alloc A _).grown l sO (fun k I=>(y.lt k I).1)
 ·have:=l.size;simp at this;omega
def kE (n:Nat):List Value:=List.replicate n Zo
def Da (n:Nat):madeCells (Value.int .i64 0).cells n=(kE n).toArray:=by
 apply Array.ext';simp[madeCells,kE,Value.cells,acg];apply adb
 ·simp
 ·intro i _ _;simp[pC]
def CF {k:Nat} (p:l.length=n) (I:k<n):((l.take k).map (Value.int .i64)++kE (n-k))[k]? =some (.int .i64 0):=by rw[fo sO,fm,fB,p,kM oG,pG,kE,rW,if_pos oG]
def CG {k:Nat} {z:Int} (p:l.length=n) (r:l[k]? =some z):
  ((l.take k).map (Value.int .i64)++kE (n-k)).set k z=(l.take (k+1)).map (Value.int .i64)++kE (n-(k+1)):=by
 have I:=fP r;have e:n-k=(n-(k+1))+1:=oG;rw[BZ _ _ sO,fm,fB,p,kM oG,pG,e];rw[gk,r];simp[kE,aav]
def pM (C:P.underlying t=some (.slice e)) (g:(P.info? e).map (fun i=>(i.zero,i.size,i.bytes))=some (some (.int .i64 0),1,8))
  (n:Nat) (z:Int) (r:z=n) (q:n<=1000000) (w:World):
  (Instr.makeSlice t z z).run P w=.ok (.slice w n n) (w.alloc (cB e (kE n))):=by
 obtain⟨i,g,a,m,b⟩:=EX g;subst r;have h:=run_make (P:=P) w t e i _ C g a .i64 .i64 (n:Int) (n:Int) oG oG (by rw[b];omega) oG;rw[h,gu,m,jR,Da]
end
section
open Go.RowKit jm
variable {l:List Nat}
def lu (w:World) (v:Value) (l:List Nat):Prop:=gx w .u64 v (l.map Int.ofNat)
def qp (w:World) (v:Value) (L:List kc):Prop:=
 ∃A c,v=.slice A L c/\L.length<=c/\c<=maxLen/\
  (0<L.length-> ∃b o,A=some ⟨b,o,none⟩/\b<w.heap.size/\ ∀i x,L[i]? =some x-> ∃g,lu w g x.jC/\
   w.cell? (pA b (o+i*8))=some x.kind/\w.cell? (pA b (o+i*8+1))=some x.iL/\w.cell? (pA b (o+i*8+2))=some g/\
   w.cell? (pA b (o+i*8+3))=some x.jU/\w.cell? (pA b (o+i*8+4))=some x.size/\w.cell? (pA b (o+i*8+5))=some x.start/\
   w.cell? (pA b (o+i*8+6))=some x.lR/\w.cell? (pA b (o+i*8+7))=some x.hold)
def rS (w:World) (v:Value) (L:List (List Int)):Prop:=
 ∃A c,v=.slice A L c/\L.length<=c/\c<=maxLen/\
  (0<L.length-> ∃b o,A=some ⟨b,o,none⟩/\b<w.heap.size/\ ∀i r,L[i]? =some r-> ∃l,gx w .i64 l r/\w.cell? (pA b (o+i))=some l)
def iz (w:World) (v:Value) (x:fS):Prop:=
 ∃b c,v=.agg #[x.days,x.mm,x.cap,x.len,b,c]/\qp w b x.eB/\rS w c x.gn
def lu.open_ (h:lu w v l): ∃A c,v=.slice A l c/\l.length<=c/\c<=9223372036854775807/\
  ∀(i s:Nat),l[i]? =some s-> ∃b o,A=some ⟨b,o,none⟩/\b<w.heap.size/\w.cell? (pA b (o+i))=some (.int .u64 (s:Int)):=by
 obtain⟨A,c,g,e,f,k⟩:=gx.open_ h;rw[fm] at g e;exact⟨A,c,g,e,f,fun i s a=>k i _ (by rw[fh,a];rfl)⟩
def a7 {b o:Nat} (a:Below B w w') (d:w.heap.size<=B) (h:w.cell? (pA b o)=some v):w'.cell? (pA b o)=some v:=
 (a.cell (p:=pA b o) (bP (aag w _ h) d)).trans h
def lu.below (h:lu w v l) (a:Below B w w') (d:w.heap.size<=B):lu w' v l:=gx.below h a d
def qp.below {L:List kc} (h:qp w v L) (a:Below B w w') (d:w.heap.size<=B):qp w' v L:=by obtain⟨A,c,rfl,e,f,k⟩:=h;refine⟨A,c,rfl,e,f,fun n=>?_⟩;obtain⟨b,o,rfl,j,m⟩:=k n;refine⟨b,o,rfl,bP j a.size,fun i x p=>?_⟩;obtain⟨g,l,c0,c1,c2,c3,c4,c5,c6,c7⟩:=m i x p;exact⟨g,l.below a d,a7 a d c0,a7 a d c1,a7 a d c2,a7 a d c3,a7 a d c4,a7 a d c5,a7 a d c6,a7 a d c7⟩
def rS.below {L:List (List Int)} (h:rS w v L) (a:Below B w w') (d:w.heap.size<=B):rS w' v L:=by obtain⟨A,c,rfl,e,f,k⟩:=h;refine⟨A,c,rfl,e,f,fun n=>?_⟩;obtain⟨b,o,rfl,j,m⟩:=k n;refine⟨b,o,rfl,bP j a.size,fun i r q=>?_⟩;obtain⟨l,p,g⟩:=m i r q;exact⟨l,p.below a d,a7 a d g⟩
def iz.below {x:fS} (h:iz w v x) (a:Below B w w') (d:w.heap.size<=B):iz w' v x:=by obtain⟨b,c,g,e,f⟩:=h;exact⟨b,c,g,e.below a d,f.below a d⟩
end
section
open Go.RowKit jm
theorem QU{p:Prop}(h:p:=by obtain⟨A,c,e,m,f,j⟩:=h;refine⟨A,c,e,m,f,fun E=>?_⟩;obtain⟨b,o,k,_,d,l⟩:=j E;refine⟨b,o,k,d,fun i x C=>?_⟩;obtain⟨g,a,_,n⟩:=l i x C;exact⟨g,a,n⟩):p:=h
variable {a c f i j k l m o p:Value}
def below_drewN {a:World} (h:Below B a w) (n:Nat):Below B a (w.drewN n):=⟨h.os,h.tape,h.output,h.size,h.block⟩
def jq (h:w.ownsRow base e size v n xs) (d:Below B w w') (a:w.heap.size<=B):w'.ownsRow base e size v n xs:=by
 refine⟨h.1,?_⟩
 rcases h.2 with h0|⟨g,cap,cur,rfl,hbg,hg,r⟩
 ·exact .inl h0
 ·refine .inr ⟨g,cap,cur,rfl,hbg,?_,r⟩;rw[d.block g (bP (aah.1 hg).1 a)];exact hg
def kZ {base':Nat} (h:w.ownsRow base e size v n xs) (d:base'<=base):w.ownsRow base' e size v n xs:=by
 refine⟨h.1,?_⟩
 rcases h.2 with h0|⟨g,cap,cur,rfl,hbg,r⟩
 ·exact .inl h0
 ·exact .inr ⟨g,cap,cur,rfl,oG,r⟩
structure kQ (e:TypeId) (base:Nat) (w w':World):Prop where
 os:w'.os=w.os
 tape:w'.tape=w.tape
 output:w'.output=w.output
 size:w.heap.size<=w'
 block: ∀k,k<w.heap.size->(k<base\/ ∀cs fr,w.heap[k]? ≠some (.cells cs e fr))->w'.heap[k]? =w.heap[k]?
def kQ.below (h:kQ e base w w') (d:base<=w):Below base w w':=
 ⟨h.os,h.tape,h.output,h.size,fun k b=>h.block k oG (.inl b)⟩
def kQ.ig (h:kQ e base w w') (d:fc w g t cs) (b:t≠e):fc w' g t cs:=by
 refine(h.block g d.lt (.inr fun c f a=>?_)).trans d;unfold fc at d;rw[d] at a;injection a with a
 injection a with _ a _
 exact b a
def kQ.own (h:kQ e base w w') (p:w.ownsRow lb t size v n xs) (b:t≠e):w'.ownsRow lb t size v n xs:=by
 refine⟨p.1,?_⟩
 rcases p.2 with h0|⟨g,cap,cur,rfl,hbg,hg,r⟩
 ·exact .inl h0
 ·refine .inr ⟨g,cap,cur,rfl,hbg,?_,r⟩;rw[h.block g (aah.1 hg).1 (.inr fun c f a=>?_)]
  ·exact hg
  ·rw[hg] at a;injection a with a
   injection a with _ a _
   exact b a
def kQ.IX {o:Obj} (p:w.ownsRow base e size v n xs) (f:(w.alloc o).grownBy w' v.ownBlock):kQ e base w w':=by
 refine⟨f.os,f.tape,f.output,by have:=f.size;simp at this;omega,fun k b c=>?_⟩;rw[f.block k sO (fun a=>?_),sV w o k b]
 rcases p.2 with ⟨rfl,_⟩|⟨g,cap,J,rfl,G,y,_⟩
 ·simp[Value.ownBlock] at a
 ·simp[Value.ownBlock] at a;subst a
  rcases c with h|h
  ·omega
  ·exact h _ _ y
def nJ (h:w.ownsRow base e size v n xs) {p:Addr} (a: ∀g,v.ownBlock=some g->g≠p.block) (u:Value):(w.setCell p u).ownsRow base e size v n xs:=by
 refine⟨h.1,?_⟩
 rcases h.2 with h0|⟨g,cap,cur,rfl,hbg,hg,r⟩
 ·exact .inl h0
 ·refine .inr ⟨g,cap,cur,rfl,hbg,?_,r⟩;rw[Below.heap_setCell _ _ _ _ (a g rfl)];exact hg
def RQ {k cap:Nat} {p:Addr} {u:Value} (a:g≠p.block) (h:w.ownsRow base e size (.slice g k cap) n xs):(w.setCell p u).ownsRow base e size (.slice g k cap) n xs:=
 nJ h (fun o b=>by simp[Value.ownBlock] at b;subst b;exact a) u
def ia {b:Func} {p:Tmp} {ty:TypeId} (h:b.results= #[.cell p ty]) (tmps:Array Value) (w:World) (g:Nat) (t:TypeId) (cs:List Value) (d:TypeDesc)
  (a:tmps.getD p undef=.pointer g) (f:fc w g t cs)
  (I:P.underlying ty=some d) (c:(match d with| .struct _| .array _ _=>true|_=>false)=true) (A:(P.info? ty).map (·.size)=some cs):
  (results b tmps).run P w=.ok (.agg cs.toArray) w:=
 results_cell_row h tmps w g t cs.toArray (0,0) d a f I c (by simpa using A)
def fc.Sa {e n:Value} (h:fc w g t [e,f,k,n,o,p]):fc ((((((w.setCell g a).setCell (pA g 1) b).setCell (pA g 2) c).setCell (pA g 3) d).setCell (pA g 4) i).setCell (pA g 5) j) g t [a,b,c,d,i,j]:=
 ((((((h.gH 0 a).gH 1 b).gH 2 c).gH 3 d).gH 4 i).gH 5 j)
def so (h:Below B w0 w) (f:B<=g):Below B w0 ((((((w.setCell g a).setCell (pA g 1) b).setCell (pA g 2) c).setCell (pA g 3) d).setCell (pA g 4) i).setCell (pA g 5) j):=
 ((((((h.setCell (p:=g) f a).setCell (p:=pA g 1) f b).setCell (p:=pA g 2) f c).setCell (p:=pA g 3) f d).setCell (p:=pA g 4) f i).setCell (p:=pA g 5) f j)
def fc.YD {e n q r:Value} (h:fc w g t [e,f,k,n,o,p,q,r]):fc ((((((((w.setCell g a).setCell (pA g 1) b).setCell (pA g 2) c).setCell (pA g 3) d).setCell (pA g 4) i).setCell (pA g 5) j).setCell (pA g 6) l).setCell (pA g 7) m) g t [a,b,c,d,i,j,l,m]:=
 ((((((((h.gH 0 a).gH 1 b).gH 2 c).gH 3 d).gH 4 i).gH 5 j).gH 6 l).gH 7 m)
def Cp (h:Below B w0 w) (f:B<=g):Below B w0 ((((((((w.setCell g a).setCell (pA g 1) b).setCell (pA g 2) c).setCell (pA g 3) d).setCell (pA g 4) i).setCell (pA g 5) j).setCell (pA g 6) l).setCell (pA g 7) m):=
 ((((((((h.setCell (p:=g) f a).setCell (p:=pA g 1) f b).setCell (p:=pA g 2) f c).setCell (p:=pA g 3) f d).setCell (p:=pA g 4) f i).setCell (p:=pA g 5) f j).setCell (p:=pA g 6) f l).setCell (p:=pA g 7) f m)
def IZ {k:Nat} (h:w.ownsRow base e size v k xs) (f: ∀o,v.ownBlock=some o->o≠g):((((((((w.setCell g a).setCell (pA g 1) b).setCell (pA g 2) c).setCell (pA g 3) d).setCell (pA g 4) i).setCell (pA g 5) j).setCell (pA g 6) l).setCell (pA g 7) m).ownsRow base e size v k xs:=
 (nJ (nJ (nJ (nJ (nJ (nJ (nJ (nJ h (p:=g) f a) (p:=pA g 1) f b) (p:=pA g 2) f c) (p:=pA g 3) f d) (p:=pA g 4) f i) (p:=pA g 5) f j) (p:=pA g 6) f l) (p:=pA g 7) f m)
def ma {o:Oper} {a:Act} {K:Act->World->Prop} (w:World) (s x:Operand) (t:TypeId)
  (p:o.op=.call {callee:=.builtin .append,args:= #[s,x],argTypes:= #[t,t]})
  (base:Nat) (e:TypeId) (z:Value) (size d:Nat) (O:P.underlying t=some (.slice e)) (A:(P.info? e).map (fun i=>(i.zero,i.size,i.bytes))=some (some z,size,d))
  (D:z.cells.size=size) (B:0<size) (q:d<=100)
  (v:Value) (n:Nat) (xs:List Value) (k:w.ownsRow base e size v n xs) (M:a.eval s=v)
  (b:List Value) (c:Nat) (C:a.eval x=.slice w 1 c) (R:b.length=size) (m:b.all (fun u=>u.oneCell')=true)
  (E:n<=1000000000) (l:base<=w)
  (h: ∀g cap w',w'.ownsRow base e size (.slice (pB g) (n+1) cap) (n+1) (xs++b)->base<=g->g<w'.heap.size->kQ e base w w'->w.heap.size<w'->
   K (a.put o.dst (.slice g (n+1) cap)) w'):
  Oper.wp P o a (w.alloc (cB e b)) K Q:=by
 obtain⟨i,A,S,N,L⟩:=info_parts A;refine wp_append_own (P:=P) (w.alloc (cB e b)) s x t p base e i z size d O A S N L D B v n xs M (k.alloc _) w 1 c b C oG
  (fun j u I=>?_) (fun u I=>dT.1 m u I) mO ?_ sO (fun U w' H f _=>?_)
 ·have F:(w:Addr).add j=(pA w j):=by unfold Addr.add;split <;>simp_all
  rw[F,(fc.new w e b).cell];exact I
 ·have:=kg (show n+1<=1000000001 by omega) q;omega
 ·rcases H.2 with ⟨_,T⟩|⟨g,cap,J,rfl,G,y,r⟩
  ·omega
  ·exact h g cap w' H G (aah.1 y).1 (kQ.IX k f) (by have:=f.size;simp at this;omega)
def iD {r:Array Oper} {rest:List Oper} {o:Oper} {a:Act} (w:World) (y:o.guard=none) (s x:Operand) (t:TypeId)
  (p:o.op=.call {callee:=.builtin .append,args:= #[s,x],argTypes:= #[t,t]})
  (base:Nat) (e:TypeId) (z:Value) (size d:Nat) (O:P.underlying t=some (.slice e)) (A:(P.info? e).map (fun i=>(i.zero,i.size,i.bytes))=some (some z,size,d))
  (D:z.cells.size=size) (B:0<size) (q:d<=100)
  (v:Value) (n:Nat) (xs:List Value) (k:w.ownsRow base e size v n xs) (M:a.eval s=v)
  (b:List Value) (c:Nat) (C:a.eval x=.slice w 1 c) (R:b.length=size) (m:b.all (fun u=>u.oneCell')=true)
  (E:n<=1000000000) (l:base<=w)
  (h: ∀g cap w',w'.ownsRow base e size (.slice (pB g) (n+1) cap) (n+1) (xs++b)->base<=g->g<w'.heap.size->kQ e base w w'->w.heap.size<w'->
   wpList P r Q rest (a.put o.dst (.slice g (n+1) cap)) w'):wpList P r Q (o::rest) a (w.alloc (cB e b)):=by
 exact wpList_plain y fun _ I=>ma w s x t p base e z size d O A D B q v n xs k M b c C R m E l fun g cap w' f j F G H=>I _ _ (h g cap w' f j F G H)
def fc.xG (h:fc w g t [a,b,c,d,i,j,l,m]):
  w.cell? g=some a/\w.cell? (pA g 1)=some b/\w.cell? (pA g 2)=some c/\w.cell? (pA g 3)=some d/\w.cell? (pA g 4)=some i/\w.cell? (pA g 5)=some j/\w.cell? (pA g 6)=some l/\w.cell? (pA g 7)=some m:=
 ⟨h.cell 0,h.cell 1,h.cell 2,h.cell 3,h.cell 4,h.cell 5,h.cell 6,h.cell 7⟩
def fc.Vs (h:fc w g t cs):
  w.frozen? g=false/\w.frozen? (pA g 1)=false/\w.frozen? (pA g 2)=false/\w.frozen? (pA g 3)=false/\w.frozen? (pA g 4)=false/\w.frozen? (pA g 5)=false/\w.frozen? (pA g 6)=false/\w.frozen? (pA g 7)=false:=
 ⟨h.frozen 0,h.frozen 1,h.frozen 2,h.frozen 3,h.frozen 4,h.frozen 5,h.frozen 6,h.frozen 7⟩
def fc.jI (h:fc w g t [a,b,c,d,i,j]):
  w.cell? g=some a/\w.cell? (pA g 1)=some b/\w.cell? (pA g 2)=some c/\w.cell? (pA g 3)=some d/\w.cell? (pA g 4)=some i/\w.cell? (pA g 5)=some j:=
 ⟨h.cell 0,h.cell 1,h.cell 2,h.cell 3,h.cell 4,h.cell 5⟩
def fc.Im (h:fc w g t cs):
  w.frozen? g=false/\w.frozen? (pA g 1)=false/\w.frozen? (pA g 2)=false/\w.frozen? (pA g 3)=false/\w.frozen? (pA g 4)=false/\w.frozen? (pA g 5)=false:=
 ⟨h.frozen 0,h.frozen 1,h.frozen 2,h.frozen 3,h.frozen 4,h.frozen 5⟩
def wk (lb:Nat) (v:Value):Prop:= ∀a n c,v=.slice (some a) n c->0<n->lb<=a.block
def B5 (lb:Nat) (w:World) (v:Value) (L:List kc):Prop:=
 ∃A c,v=.slice A L c/\L.length<=c/\c<=maxLen/\
  (0<L.length-> ∃b o,A=some ⟨b,o,none⟩/\lb<=b/\b<w.heap.size/\ ∀i x,L[i]? =some x-> ∃g,lu w g x.jC/\wk lb g/\
   w.cell? (pA b (o+i*8))=some x.kind/\w.cell? (pA b (o+i*8+1))=some x.iL/\w.cell? (pA b (o+i*8+2))=some g/\
   w.cell? (pA b (o+i*8+3))=some x.jU/\w.cell? (pA b (o+i*8+4))=some x.size/\w.cell? (pA b (o+i*8+5))=some x.start/\
   w.cell? (pA b (o+i*8+6))=some x.lR/\w.cell? (pA b (o+i*8+7))=some x.hold)
def FP (lb:Nat) (w:World) (v:Value) (L:List (List Int)):Prop:=
 ∃A c,v=.slice A L c/\L.length<=c/\c<=maxLen/\
  (0<L.length-> ∃b o,A=some ⟨b,o,none⟩/\lb<=b/\b<w.heap.size/\ ∀i r,L[i]? =some r-> ∃g,gx w .i64 g r/\wk lb g/\w.cell? (pA b (o+i))=some g)
def tU (lb:Nat) (w:World) (v:Value) (x:fS):Prop:=
 ∃a b,v=.agg #[x.days,x.mm,x.cap,x.len,a,b]/\B5 lb w a x.eB/\FP lb w b x.gn
def B5.plain {L:List kc} (h:B5 lb w v L):qp w v L:=by exact QU
def FP.plain {L:List (List Int)} (h:FP lb w v L):rS w v L:=by exact QU
def tU.plain {x:fS} (h:tU lb w v x):iz w v x:=by obtain⟨a,b,e,m,f⟩:=h;exact⟨a,b,e,m.plain,f.plain⟩
end
section
open Go Go.RowKit
def sM (h:w.ownsRow lb e size v n xs) (a: ∀g,v.ownBlock=some g->w'.heap[g]? =w.heap[g]?):w'.ownsRow lb e size v n xs:=by
 refine⟨h.1,?_⟩
 rcases h.2 with h2|⟨g,cap,cur,rfl,hb,hg,h3⟩
 ·exact .inl h2
 ·exact .inr ⟨g,cap,cur,rfl,hb,(a g rfl).trans hg,h3⟩
def RR {q:Addr} (h:w.ownsRow lb e size v n xs) (a:fc w g t cs) (j:t≠e) (f:q.block=g) (u:Value):(w.setCell q u).ownsRow lb e size v n xs:=by
 refine nJ h (fun k c e=>?_) u
 rcases h.2 with ⟨rfl,_⟩|⟨l,cap,d,rfl,i,b,_⟩
 ·simp[Value.ownBlock] at c
 ·simp[Value.ownBlock] at c;subst c;rw[f] at e;subst e;unfold fc at a;rw[b] at a;injection a with a
  injection a with _ a _
  exact j a.symm
def oT (h:w.ownsRow lb e size v n xs) (a:fc w g t cs) (j:t≠e) (c:w.grownBy w' (some g)):w'.ownsRow lb e size v n xs:=by
 refine sM h fun k f=>?_
 rcases h.2 with ⟨rfl,_⟩|⟨l,cap,d,rfl,i,b,_⟩
 ·simp[Value.ownBlock] at f
 ·simp[Value.ownBlock] at f;subst f;refine c.block _ (aah.1 b).1 fun e=>?_;cases e;unfold fc at a;rw[b] at a;injection a with a
  injection a with _ a _
  exact j a.symm
def RT {c:Nat} (h:w.ownsRow lb e size (.slice g n c) n xs) {k:Nat} (f:k<=n):w.ownsRow lb e size (.slice g k c) k (xs.take (k*size)):=by
 have p:k*size<=n*size:=nZ _ f;refine⟨by rw[fB,h.1];omega,?_⟩
 rcases h.2 with ⟨a,-⟩|⟨l,c2,d,a,b,i,q,j,m,o⟩
 ·cases a
 ·cases a;exact .inr ⟨g,c,d,rfl,b,i,oG,j,m,by rw[<-o,S7,kM p]⟩
end
section
open Go.RowKit jm
theorem QV{p:Prop}(h:p:=by
 by_cases h:i<L
 ·rw[fu h] at d;rw[fu oG] at b;exact t i x c d b
 ·have e:i=L.length:=by have:=fP d;simp at this;omega
  subst e;rw[fo lE,pG] at d;rw[fo oG,C,pG] at b;simp only[fK,lH] at d b;subst d;subst b;exact k):p:=h
variable {L:List (List Int)} {a:List Value} {c f i:Value} {j m q:TypeId} {p:Addr}
def kH (x:kc) (f:Value):List Value:=[x.kind,x.iL,f,x.jU,x.size,x.start,x.lR,x.hold]
def iJ (lb:Nat) (q m:TypeId) (w:World) (v:Value) (L:List kc):Prop:=
 ∃a:List Value,a.length=L/\w.ownsRow lb q 8 v L ((L.zip a).flatMap fun p=>kH p.1 p.2)/\
  ∀(i:Nat) (x:kc) (f:Value),L[i]? =some x->a[i]? =some f->w.ownsRow lb m 1 f x.jC (x.jC.map fun(s:Nat)=>Value.int .u64 (s:Int))
def iJ.none_ (lb:Nat) (q m:TypeId) (w:World):iJ lb q m w () []:=⟨[],rfl,gL _ _ _ _,fun i x f h=>by simp at h⟩
def iJ.below {L:List kc} (h:iJ lb q m w v L) (p:Below B w w') (b:w.heap.size<=B):iJ lb q m w' v L:=by obtain⟨a,C,g,t⟩:=h;exact⟨a,C,jq g p b,fun i x f d k=>jq (t i x f d k) p b⟩
def iJ.keep {L:List kc} (h:iJ lb q m w v L) (b:kQ e base w w') (C:q≠e) (g:m≠e):iJ lb q m w' v L:=by obtain⟨a,y,n,l⟩:=h;exact⟨a,y,b.own n C,fun i x f d k=>b.own (l i x f d k) g⟩
def jo (h:w.ownsRow base e size v n xs) (k:p.block<base) (u:Value):(w.setCell p u).ownsRow base e size v n xs:=
 nJ h (fun g a=>by have:=(h.lt g a).1;omega) u
def iJ.fG {L:List kc} (h:iJ lb q m w v L) (k:p.block<lb) (u:Value):iJ lb q m (w.setCell p u) v L:=by obtain⟨a,y,n,l⟩:=h;exact⟨a,y,jo n k u,fun i x f d b=>jo (l i x f d b) k u⟩
def iJ.push {L:List kc} {y:kc} (z:L.length=n) (C:a.length=n) (g:w.ownsRow lb q 8 v (n+1) (((L.zip a).flatMap fun p=>kH p.1 p.2)++kH y f))
  (t: ∀(i:Nat) (x:kc) (c:Value),L[i]? =some x->a[i]? =some c->w.ownsRow lb m 1 c x.jC (x.jC.map fun(s:Nat)=>Value.int .u64 (s:Int)))
  (k:w.ownsRow lb m 1 f y.jC (y.jC.map fun(s:Nat)=>Value.int .u64 (s:Int))):iJ lb q m w v (L++[y]):=by
 subst z;refine⟨a++[f],by simp[C],?_,fun i x c d b=>?_⟩
 ·rw[List.zip_append C.symm,fU,fa];simpa using g
 ·exact QV
def yW (h:w.ownsRow lb e size v n xs):wk lb v:=by
 intro a k c s _;subst s
 rcases h.2 with ⟨f,_⟩|⟨g,cap,d,s,b,_⟩
 ·cases f
 ·injection s with e1 _ _
  injection e1 with e1
  subst e1;exact b
def RP {l:List Nat} (h:w.ownsRow lb e 1 v l (l.map fun(s:Nat)=>Value.int .u64 (s:Int))):lu w v l:=by unfold lu gx;rw[fm,kK];exact RS.jh h
def NR (L:List kc): ∀(a:List Value) (i j:Nat) (x:kc) (f:Value),L[i]? =some x->a[i]? =some f->j<8->
  ((L.zip a).flatMap fun p=>kH p.1 p.2)[i*8+j]? =(kH x f)[j]? :=by
 induction L with
 |nil=>intro a i j x f h;simp at h
 |cons y L ih=>
  intro a i j x f d k r;cases a with
  |nil=>simp at k
  |cons q a=>
   rw[acn,gG];cases i with
   |zero=>
    simp only[fK,lH] at d k;subst d;subst k;rw[fu (by simp[kH];omega),vq,gW]
   |succ i=>
    simp only[fD] at d k;rw[fo (by simp[kH];omega)];rw[show(i+1)*8+j-(kH y q).length=i*8+j by simp[kH];omega];exact ih a i j x f d k r
def iJ.reads {L:List kc} (h:iJ lb q m w v L):B5 lb w v L:=by obtain⟨a,C,g,t⟩:=h;obtain⟨A,c,s,y,n,_,E⟩:=RS.jh g;refine⟨A,c,s,y,n,fun z=>?_⟩;obtain⟨b,o,D,p,F⟩:=E z;have B:lb<=b:=yW g (pA b o) L.length c (by rw[s,D]) z;refine⟨b,o,D,B,p,fun i x d=>?_⟩;obtain⟨f,k⟩:=ec (l:=a) (i:=i) (by have:=fP d;omega);have e:=fun j r u G=>F (i*8+j) u ((NR L a i j x f d k r).trans G);exact⟨f,RP (t i x f d k),yW (t i x f d k),e 0 oG _ rfl,e 1 oG _ rfl,e 2 oG _ rfl,e 3 oG _ rfl,e 4 oG _ rfl,e 5 oG _ rfl,e 6 oG _ rfl,e 7 oG _ rfl⟩
def OwnRows (lb:Nat) (m j:TypeId) (w:World) (v:Value) (L:List (List Int)):Prop:=
 ∃a:List Value,w.ownsRow lb m 1 v L a/\ ∀(i:Nat) (r:List Int) (f:Value),L[i]? =some r->a[i]? =some f->w.ownsRow lb j 1 f r (r.map (Value.int .i64))
def OwnRows.none_ (lb:Nat) (m j:TypeId) (w:World):OwnRows lb m j w () []:=⟨[],gL _ _ _ _,fun i x f h=>by simp at h⟩
def OwnRows.below (h:OwnRows lb m j w v L) (p:Below B w w') (b:w.heap.size<=B):OwnRows lb m j w' v L:=by obtain⟨a,g,t⟩:=h;exact⟨a,jq g p b,fun i x f d k=>jq (t i x f d k) p b⟩
def OwnRows.fG (h:OwnRows lb m j w v L) (k:p.block<lb) (u:Value):OwnRows lb m j (w.setCell p u) v L:=by obtain⟨a,n,l⟩:=h;exact⟨a,jo n k u,fun i x c d b=>jo (l i x c d b) k u⟩
def OwnRows.push {y:List Int} (z:L.length=n) (C:a.length=n) (g:w.ownsRow lb m 1 v (n+1) (a++[f]))
  (t: ∀(i:Nat) (r:List Int) (c:Value),L[i]? =some r->a[i]? =some c->w.ownsRow lb j 1 c r (r.map (Value.int .i64)))
  (k:w.ownsRow lb j 1 f y (y.map (Value.int .i64))):OwnRows lb m j w v (L++[y]):=by
 subst z;refine⟨a++[f],by simpa using g,fun i x c d b=>?_⟩;exact QV
def OwnRows.reads (h:OwnRows lb m j w v L):FP lb w v L:=by obtain⟨a,g,t⟩:=h;obtain⟨A,c,s,y,n,_,E⟩:=RS.jh g;refine⟨A,c,s,y,n,fun z=>?_⟩;obtain⟨b,o,D,p,F⟩:=E z;have B:lb<=b:=yW g (pA b o) L.length c (by rw[s,D]) z;refine⟨b,o,D,B,p,fun i r d=>?_⟩;have e:=g.1;obtain⟨f,k⟩:=ec (l:=a) (i:=i) (by have:=fP d;omega);exact⟨f,RS.jh (t i r f d k),yW (t i r f d k),F i f k⟩
def iJ.QT {L:List kc} {e:Value} (h:iJ lb q m w v L) (a:g<lb):iJ lb q m ((((((w.setCell g b).setCell (pA g 1) c).setCell (pA g 2) d).setCell (pA g 3) e).setCell (pA g 4) f).setCell (pA g 5) i) v L:=
 ((((((h.fG (p:=g) a b).fG (p:=pA g 1) a c).fG (p:=pA g 2) a d).fG (p:=pA g 3) a e).fG (p:=pA g 4) a f).fG (p:=pA g 5) a i)
def OwnRows.QT {e:Value} (h:OwnRows lb m j w v L) (a:g<lb):OwnRows lb m j ((((((w.setCell g b).setCell (pA g 1) c).setCell (pA g 2) d).setCell (pA g 3) e).setCell (pA g 4) f).setCell (pA g 5) i) v L:=
 ((((((h.fG (p:=g) a b).fG (p:=pA g 1) a c).fG (p:=pA g 2) a d).fG (p:=pA g 3) a e).fG (p:=pA g 4) a f).fG (p:=pA g 5) a i)
def fc.own {cs:List Value} (h:fc w g e cs) (p:lb<=g) (z:cs.length=n) (a:n<=maxLen):w.ownsRow lb e 1 (.slice g n n) n cs:=
 ⟨oG,.inr ⟨g,n,cs.toArray,rfl,p,h,lE,a,by simp[z],by simp[<-z]⟩⟩
end
section
open Go.RowKit jm
variable {b c d:TypeId} {lb':Nat} {x:fS}
def iJ.mono {L:List kc} (h:iJ lb a c w v L) (e:lb'<=lb):iJ lb' a c w v L:=by obtain⟨b,d,f,g⟩:=h;exact⟨b,d,kZ f e,fun i x l k j=>kZ (g i x l k j) e⟩
def OwnRows.mono {L:List (List Int)} (h:OwnRows lb d b w v L) (e:lb'<=lb):OwnRows lb' d b w v L:=by obtain⟨a,f,g⟩:=h;exact⟨a,kZ f e,fun i x l k j=>kZ (g i x l k j) e⟩
def ph (lb:Nat) (a c d b:TypeId) (w:World) (v:Value) (x:fS):Prop:=
 ∃e f,v=.agg #[x.days,x.mm,x.cap,x.len,e,f]/\iJ lb a c w e x.eB/\OwnRows lb d b w f x.gn
def ph.WB (h:ph lb a c d b w v x):tU lb w v x:=by obtain⟨e,f,j,g,i⟩:=h;exact⟨e,f,j,g.reads,i.reads⟩
def ph.reads (h:ph lb a c d b w v x):iz w v x:=by obtain⟨e,f,j,g,i⟩:=h;exact⟨e,f,j,g.reads.plain,i.reads.plain⟩
def Bo {α β:Type} {P:Nat->β->Prop} (L:List α) (h: ∀(i:Nat) (x:α),L[i]? =some x-> ∃y,P i y): ∃L':List β,L'.length=L/\ ∀(i:Nat) (y:β),L'[i]? =some y->P i y:=by
 have b: ∀i:Fin L,∃y,P i y:=fun i=>h i L[i] (fp i.2);refine⟨List.ofFn fun i=>(b i).choose,by simp,fun i y d=>?_⟩;obtain⟨c,rfl⟩:=bX.1 d;have a:i<L.length:=by simpa using c
 simpa using(b ⟨i,a⟩).choose_spec
end
section
open Go.RowKit
def AM (w:World) (t ty e:TypeId) (i:TypeInfo) (z:Value) (y:P.underlying t=some (.slice e)) (v:P.info? e=some i) (H:i.zero=some z)
  (q:z.cells.size=i.size) (p:0<i.size) (A:Option Addr) (m c:Nat) (d:List Value) (G:RS w i.size (.slice A m c) m d) (C: ∀u∈d,u.oneCell'=true)
  (J:m<=1000000000) (n:i.bytes<=100):
  ∃g w',(Builtin.append_ #[t,t] ty #[(),.slice A m c]).run P w=.ok g w'/\w'.ownsRow w e i.size g m d/\Below w w w':=by
 obtain⟨N,c',M,O,Q,s,I⟩:=G;injection M with e1 _ e3
 subst e1;subst e3;have l:=gL w w e i.size
 rcases A with _|ad
 ·have F:m=0:=by
   rcases kV m with h0|h0
   ·exact h0
   ·obtain⟨b,o,h,_⟩:=I h0;cases h
  subst F;obtain rfl:d=[]:=gj (by simpa using s);refine⟨.slice none 0 0,w,?_,l,bS _ _⟩;simp[Builtin.append_,run_underlying y,sizeOf,typeInfo,v,Builtin.lenOf,Builtin.firstCells]
 ·have a: ∀j u,d[j]? =some u->w.cell? (ad.add j)=some u:=by
   intro j u B
   rcases kV m with h0|h0
   ·subst h0;obtain rfl:d=[]:=gj (by simpa using s);simp at B
   ·obtain⟨b,o,h,_,K⟩:=I h0;injection h with h
    subst h;have r:((pA b o):Addr).add j=(pA b (o+j)):=by unfold Addr.add;split <;>simp_all
    rw[r];exact K j u B
  have x:(0+m)*i.bytes<=140737488355328:=by have:=kg (show 0+m<=1000000000 by omega) n;omega
  obtain⟨g,w',f,D,E,_,R⟩:=run_append_own_at (P:=P) w w t ty e i z i.size i.bytes y v H rfl rfl q p () 0 [] l ad m c d s a C mO x lE;refine⟨g,w',f,by simpa using D,bF.grown E lE (fun k L=>by simp[Value.ownBlock] at L)⟩
def BU {o:Oper} {a:Act} {K:Act->World->Prop} {Q:Exit->Act->World->Prop} (w:World) (s x:Operand) (t:TypeId)
  (r:o.op=.call {callee:=.builtin .append,args:= #[s,x],argTypes:= #[t,t]})
  (e:TypeId) (z:Value) (size b:Nat) (y:P.underlying t=some (.slice e)) (v:(P.info? e).map (fun i=>(i.zero,i.size,i.bytes))=some (some z,size,b))
  (q:z.cells.size=size) (p:0<size) (n:b<=100)
  (A:Option Addr) (m c:Nat) (d:List Value) (F:a.eval s=.slice none 0 0) (I:a.eval x=.slice A m c) (G:RS w size (.slice A m c) m d) (C:d.all (fun u=>u.oneCell')=true)
  (J:m<=1000000000)
  (h: ∀g w',w'.ownsRow w e size g m d->Below w w w'->K (a.put o.dst g) w'):o.wp P a w K Q:=by
 obtain⟨i,k,H,l,j⟩:=info_parts v;subst l;subst j;obtain⟨g,w',f,D,E⟩:=AM (P:=P) w t o.type e i z y k H q p A m c d G (fun u B=>dT.1 C u B) J n;unfold Oper.wp execOp;simp only[r,resolve,invoke,builtin,ks,pR,lO,mT,gN,lG,F,I,f];exact h g w' D E
def fc.fW (w:World) (t:TypeId) (cs:List Value) {g:Nat} (a:g=w):fc (w.alloc (cB t cs)) g t cs:=by subst a;exact fc.new w t cs
def yB {P:Program} (w:World) (base:Nat) (t ty e:TypeId) (i:TypeInfo) (z:Value) (D:P.underlying t=some (.slice e)) (B:P.info? e=some i) (F:i.zero=some z)
  (v:Value) (n:Nat) (xs:List Value) (h:w.ownsRow base e i.size v n xs)
  (a:Addr) (m c:Nat) (b:List Value) (s:b.length=m*i.size) (d: ∀j u,b[j]? =some u->w.cell? (a.add j)=some u) (H: ∀u∈b,u.oneCell'=true) (C:0<m)
  (y:n+m<=maxLen) (f:(n+m)*i.bytes<=140737488355328) {G:Value} {w':World} (o:(Builtin.append_ #[t,t] ty #[v,.slice (some a) m c]).run P w=.ok G w'):
  ∃g cap,G=.slice (pB g) (n+m) cap/\(v.ownBlock=some g\/w.heap.size<=g):=by
 have x:n+m<=9223372036854775807:=by simp only[maxLen] at y;omega
 rcases h.2 with ⟨rfl,rfl⟩|⟨g,cap,p,rfl,J,L,M,K,A,E⟩
 ·have r:=run_append_nil (P:=P) w t ty e i z D B F a m c b s d C oG (by have I:=f;simp only[gW] at I;omega);rw[r] at o;injection o with e1 _
  exact⟨w,_,by rw[<-e1,gW],.inr lE⟩
 ·by_cases k:n+m<=cap
  ·have q:n*i.size+b.length<=p.size:=by rw[s,A,<-pz];exact nZ _ k
   have r:=run_append_room (P:=P) w t ty e i D B g n cap p L a m c b s d H k q;rw[r] at o;injection o with e1 _
   exact⟨g,cap,e1.symm,.inl rfl⟩
  ·have l: ∀j u,xs[j]? =some u->w.cell? ((g:Addr).add j)=some u:=h.cells (g:=g) rfl;have r:=run_append_grow (P:=P) w t ty e i z D B F g n cap xs h.1 l a m c b s d oG oG (growslice_fits oG f);rw[r] at o;injection o with e1 _
   exact⟨w,_,e1.symm,.inr lE⟩
end
section
open Go.RowKit
variable {c:Nat} {L:List α} {O R:World->List Value->α->Prop}
def RL {α:Type} (size:Nat) (R:World->List Value->α->Prop) (w:World) (v:Value) (L:List α):Prop:=
 ∃A c,v=.slice A L c/\L.length<=c/\c<=maxLen/\
  (0<L.length-> ∃b o,A=some ⟨b,o,none⟩/\b<w.heap.size/\ ∀i x,L[i]? =some x-> ∃cs:List Value,cs.length=size/\R w cs x/\ ∀j u,cs[j]? =some u->w.cell? (pA b (o+i*size+j))=some u)
def RL.below (h:RL size R w v L) (r:Below B w w') (l:w.heap.size<=B) (n: ∀cs x,R w cs x->R w' cs x):RL size R w' v L:=by obtain⟨A,c,rfl,m,g,q⟩:=h;refine⟨A,c,rfl,m,g,fun s=>?_⟩;obtain⟨b,o,rfl,a,f⟩:=q s;refine⟨b,o,rfl,bP a r.size,fun i x d=>?_⟩;obtain⟨cs,k,e,t⟩:=f i x d;exact⟨cs,k,n _ _ e,fun j u z=>(r.cell (p:=pA b (o+i*size+j)) (by show b<B;omega)).trans (t j u z)⟩
def RL.open_ (h:RL size R w v L): ∃A c,v=.slice A L c/\L.length<=c/\c<=9223372036854775807/\
  ∀i x,L[i]? =some x-> ∃b o,A=some ⟨b,o,none⟩/\b<w.heap.size/\ ∃cs:List Value,cs.length=size/\R w cs x/\ ∀j u,cs[j]? =some u->w.cell? (pA b (o+i*size+j))=some u:=by
 obtain⟨A,c,t,m,g,k⟩:=h;refine⟨A,c,t,m,by simpa[maxLen] using g,fun i x d=>?_⟩;obtain⟨b,o,p,r,f⟩:=k (by have:=fP d;omega);exact⟨b,o,p,r,f i x d⟩
def RL.take {A:Option Addr} (h:RL size R w (.slice A L c) L) (s:n<=L):RL size R w (.slice A n c) (L.take n):=by
 obtain⟨e,c',t,m,g,k⟩:=h;injection t with e1 _ e3
 subst e1;subst e3;have j:(L.take n).length=n:=by rw[fB];omega
 refine⟨A,c,by rw[j],oG,g,fun y=>?_⟩;obtain⟨b,o,p,r,f⟩:=k oG;refine⟨b,o,p,r,fun i x d=>f i x ?_⟩;rw[gq] at d;split at d
 ·exact d
 ·cases d
def RL.drop {b o c':Nat} (h:RL size R w (.slice (pA b o) L c) L) (s:n<=L) (v:L.length-n<=c') (a:c'<=maxLen):RL size R w (.slice (pA b (o+n*size)) (L.length-n) c') (L.drop n):=by
 obtain⟨e,c1,t,m,g,k⟩:=h;injection t with e1 _ e3
 subst e1;subst e3;refine⟨_,_,by rw[km],by rw[km];omega,a,fun y=>?_⟩;rw[km] at y;obtain⟨l,A,p,r,f⟩:=k oG;obtain⟨rfl,rfl⟩:b=l/\o=A:=by simpa using p
 refine⟨b,_,rfl,r,fun i x d=>?_⟩;rw[gS] at d;obtain⟨cs,B,C,q⟩:=f (n+i) x d;refine⟨cs,B,C,fun j u z=>?_⟩;have:=q j u z;rw[pz,<-mf o] at this;exact this
def OL {α:Type} (lb:Nat) (e:TypeId) (size:Nat) (O:World->List Value->α->Prop) (w:World) (v:Value) (L:List α):Prop:=
 ∃a:List (List Value),a.length=L/\(∀cs∈a,cs.length=size)/\w.ownsRow lb e size v L a.flatten/\ ∀(i:Nat) (x:α) (cs:List Value),L[i]? =some x->a[i]? =some cs->O w cs x
def OL.jL (lb:Nat) (e:TypeId) (size:Nat) (O:World->List Value->α->Prop) (w:World):OL lb e size O w () []:=⟨[],rfl,by simp,gL _ _ _ _,fun i x cs h=>by simp at h⟩
def OL.below (h:OL lb e size O w v L) (r:Below B w w') (l:w.heap.size<=B) (b: ∀cs x,O w cs x->O w' cs x):OL lb e size O w' v L:=by obtain⟨a,m,g,q,k⟩:=h;exact⟨a,m,g,jq q r l,fun i x cs d f=>b _ _ (k i x cs d f)⟩
def OL.keep {base:Nat} {j:TypeId} (h:OL lb e size O w v L) (l:kQ j base w w') (c:e≠j) (b: ∀cs x,O w cs x->O w' cs x):OL lb e size O w' v L:=by obtain⟨a,m,g,q,k⟩:=h;exact⟨a,m,g,l.own q c,fun i x cs d f=>b _ _ (k i x cs d f)⟩
def OL.mono {lb':Nat} (h:OL lb e size O w v L) (j:lb'<=lb):OL lb' e size O w v L:=by obtain⟨a,m,g,q,k⟩:=h;exact⟨a,m,g,kZ q j,k⟩
def OL.imp {c:World->List Value->α->Prop} (h:OL lb e size O w v L) (b: ∀cs x,O w cs x->c w cs x):OL lb e size c w v L:=by obtain⟨a,m,g,q,k⟩:=h;exact⟨a,m,g,q,fun i x cs d f=>b _ _ (k i x cs d f)⟩
def OL.push {y:α} {a:List (List Value)} {cs:List Value} (s:L.length=n) (m:a.length=n) (g: ∀cs∈a,cs.length=size) (o:cs.length=size)
  (q:w.ownsRow lb e size v (n+1) (a.flatten++cs)) (k: ∀(i:Nat) (x:α) (cs:List Value),L[i]? =some x->a[i]? =some cs->O w cs x) (p:O w cs y):OL lb e size O w v (L++[y]):=by
 subst s;refine⟨a++[cs],by simp[m],fun c f=>?_,by simpa using q,fun i x c d b=>?_⟩
 ·rcases fO.1 f with h|h
  ·exact g c h
  ·obtain rfl:c=cs:=by simpa using h
   exact o
 ·by_cases l:i<L
  ·rw[fu l] at d;rw[fu oG] at b;exact k i x c d b
  ·have j:i=L.length:=by have:=fP d;simp at this;omega
   subst j;rw[fo lE,pG] at d;rw[fo oG,m,pG] at b;simp only[fK,lH] at d b;subst d;subst b;exact p
def Bb (size:Nat): ∀(a:List (List Value)) (i j:Nat) (cs:List Value) (u:Value),(∀cs∈a,cs.length=size)->a[i]? =some cs->cs[j]? =some u->a.flatten[i*size+j]? =some u
 | [],i,j,cs,u,_,h,_=>by simp at h
 |c::a,0,j,cs,u,hl,h,hu=>by simp only[fK,lH] at h;subst h;rw[qm,vq,gW,fu (fP hu),hu]
 |c::a,i+1,j,cs,u,hl,h,hu=>by simp only[fD] at h;have f:=hl c sI;rw[qm,fo (by rw[f,pz];omega),f];rw[show(i+1)*size+j-size=i*size+j by rw[pz];omega];exact Bb size a i j cs u (fun x d=>hl x (by simp[d])) h hu
def OL.reads (h:OL lb e size O w v L) (n: ∀cs x,O w cs x->R w cs x):RL size R w v L:=by obtain⟨a,m,g,q,k⟩:=h;obtain⟨A,c,t,B,C,_,D⟩:=RS.jh q;refine⟨A,c,t,B,C,fun s=>?_⟩;obtain⟨b,o,p,r,f⟩:=D s;refine⟨b,o,p,r,fun i x d=>?_⟩;obtain⟨cs,y⟩:=ec (l:=a) (i:=i) (by have:=fP d;omega);refine⟨cs,g cs (a8 y),n _ _ (k i x cs d y),fun j u z=>?_⟩;rw[mf];exact f _ u (Bb size a i j cs u g y z)
end
section
open Go.RowKit
def BP (w:World) (base:Nat) (t ty e:TypeId) (i:TypeInfo) (y:P.underlying t=some (.slice e)) (q:P.info? e=some i)
  (v:Value) (n:Nat) (xs:List Value) (f:w.ownsRow base e i.size v n xs) (c:Nat):(Builtin.append_ #[t,t] ty #[v,.slice none 0 c]).run P w=.ok v w:=by
 rcases f.2 with ⟨rfl,rfl⟩|⟨g,cap,b,rfl,_,_,a,_⟩
 ·simp[Builtin.append_,run_underlying y,sizeOf,typeInfo,q,Builtin.lenOf,Builtin.firstCells]
 ·simp[Builtin.append_,run_underlying y,sizeOf,typeInfo,q,Builtin.lenOf,Builtin.firstCells,a,storeCells]
def rP (w:World) (base:Nat) (t ty e:TypeId) (i:TypeInfo) (z:Value) (y:P.underlying t=some (.slice e)) (q:P.info? e=some i) (O:i.zero=some z)
  (B:z.cells.size=i.size) (r:0<i.size) (v:Value) (n:Nat) (xs:List Value) (f:w.ownsRow base e i.size v n xs)
  (A:Option Addr) (m c:Nat) (d:List Value) (M:RS w i.size (.slice A m c) m d) (D: ∀u∈d,u.oneCell'=true)
  (J:n+m<=1000000000) (p:i.bytes<=100) (g:base<=w):
  ∃l w',(Builtin.append_ #[t,t] ty #[v,.slice A m c]).run P w=.ok l w'/\w'.ownsRow base e i.size l (n+m) (xs++d)/\w.grownBy w' v.ownBlock:=by
 obtain⟨N,c',L,Q,R,x,I⟩:=M;injection L with e1 _ e3
 subst e1;subst e3
 rcases A with _|ad
 ·have H:m=0:=by
   rcases kV m with h0|h0
   ·exact h0
   ·obtain⟨b,o,h,_⟩:=I h0;cases h
  subst H;obtain rfl:d=[]:=gj (by simpa using x);exact⟨v,w,BP w base t ty e i y q v n xs f c,by simpa using f,nG w _⟩
 ·have a: ∀j u,d[j]? =some u->w.cell? (ad.add j)=some u:=by
   intro j u C
   rcases kV m with h0|h0
   ·subst h0;obtain rfl:d=[]:=gj (by simpa using x);simp at C
   ·obtain⟨b,o,h,_,K⟩:=I h0;injection h with h
    subst h;have s:((pA b o):Addr).add j=(pA b (o+j)):=by unfold Addr.add;split <;>simp_all
    rw[s];exact K j u C
  have G:(n+m)*i.bytes<=140737488355328:=by have:=kg J p;omega
  obtain⟨l,w',k,E,F,_,_⟩:=run_append_own_at (P:=P) w base t ty e i z i.size i.bytes y q O rfl rfl B r v n xs f ad m c d x a D mO G g;exact⟨l,w',k,E,F⟩
def kQ.ux {e:TypeId} {base size n:Nat} {w w':World} {v:Value} {xs:List Value} (L:w.ownsRow base e size v n xs) (a:w.grownBy w' v.ownBlock):kQ e base w w':=by
 refine⟨a.os,a.tape,a.output,a.size,fun k j f=>?_⟩;rw[a.block k j (fun c=>?_)]
 rcases L.2 with ⟨rfl,_⟩|⟨g,cap,b,rfl,i,d,_⟩
 ·simp[Value.ownBlock] at c
 ·simp[Value.ownBlock] at c;subst c
  rcases f with h|h
  ·omega
  ·exact h _ _ d
def nL {j:Array Oper} {rest:List Oper} {o:Oper} {a:Act} {Q:Exit->Act->World->Prop} (w:World) (H:o.guard=none) (s x:Operand) (t:TypeId)
  (L:o.op=.call {callee:=.builtin .append,args:= #[s,x],argTypes:= #[t,t]})
  (base:Nat) (e:TypeId) (z:Value) (size b:Nat) (y:P.underlying t=some (.slice e)) (q:(P.info? e).map (fun i=>(i.zero,i.size,i.bytes))=some (some z,size,b))
  (B:z.cells.size=size) (r:0<size) (p:b<=100)
  (v:Value) (n:Nat) (xs:List Value) (f:w.ownsRow base e size v n xs) (S:a.eval s=v)
  (A:Option Addr) (m c:Nat) (d:List Value) (T:a.eval x=.slice A m c) (M:RS w size (.slice A m c) m d) (D:d.all (fun u=>u.oneCell')=true)
  (J:n+m<=1000000000) (g:base<=w)
  (h: ∀l w',w'.ownsRow base e size l (n+m) (xs++d)->kQ e base w w'->wpList P j Q rest (a.put o.dst l) w'):wpList P j Q (o::rest) a w:=by
 refine wpList_plain H fun K R=>?_;obtain⟨i,I,O,N,G⟩:=info_parts q;subst N;subst G;obtain⟨l,w',k,E,F⟩:=rP (P:=P) w base t o.type e i z y I O B r v n xs f A m c d M (fun u C=>dT.1 D u C) J p g;unfold Oper.wp execOp;simp only[L,resolve,invoke,builtin,ks,pR,lO,mT,gN,lG,S,T,k];exact R _ _ (h l w' E (kQ.ux f F))
end
section
open Go.RowKit
section
def J0 {o:Oper} {a:Act} {w:World} {K:Act->World->Prop} {f:FuncId} {args:Array Value} {v:Value} {R:World->Prop} (d:(execOp a.eval o).run P w=.ok (.enter f args) w)
  (c:Calls P f args w fun e w'=>e=.returned v/\R w') (h: ∀w',R w'->K (a.put o.dst v) w'):o.wp P a w K Q:=by
 unfold Oper.wp;rw[d];refine Kc c ?_;rintro e w' ⟨rfl,b⟩;exact h w' b
end
end
section
open Go.RowKit
section
def u9 {n:Nat} {b:Array Bool} {a:Act} {w:World} (i j k:Nat) {y B E:Oper} {ri rj rk:List Oper} (hi:ops.toList.drop i=y::ri) (hj:ops.toList.drop j=B::rj) (hk:ops.toList.drop k=E::rk)
  (V:y.guard=none) (X:B.guard=none) (Y:E.guard=none) (M:i≠j) (aa:i≠k) (N:j≠k)
  (O:Region.ready .any ops b=[i,j]) (R:Region.ready .any ops (b.setIfInBounds j true)=[i])
  (T:sT ops late (b.setIfInBounds i true) k=true) (F:Region.ready .any ops ((b.setIfInBounds i true).setIfInBounds k true)=[j]) (G:sT ops late ((b.setIfInBounds j true).setIfInBounds i true) k=true)
  {f:FuncId} {args:Array Value} {v u:Value} (t:TypeId) (z:List Value) (hS:S w) (hd: ∀d,y.dst=some d->B.dst≠some d) (L: ∀d,E.dst=some d->B.dst≠some d)
  (Z: ∀c a w,Q (.panic c) (a.put E.dst u) w->Q (.panic c) a w)
  (C: ∀u W,(execOp (a.put B.dst u).eval y).run P W=.ok (.enter f args) W) (s: ∀W,(execOp a.eval y).run P W=.ok (.enter f args) W)
  (D: ∀W,S W->(execOp (a.put y.dst v).eval E).run P W=.ok (.value u) W) (x: ∀p W,S W->(execOp ((a.put B.dst p).put y.dst v).eval E).run P W=.ok (.value u) W)
  (hc: ∀W,S W->Calls P f args W fun e w'=>e=.returned v/\Below W W w') (o: ∀W w',S W->Below W W w'->S w')
  (A: ∀(I:Act) W,(execOp I.eval B).run P W=.ok (.value (.pointer W)) (W.alloc (cB t z)))
  (h: ∀g W,S W->W.heap[g]? =some (.cells z.toArray t (0,0))->w.heap.size<=g->Below w w W->
   il P ops Q S late n (((b.setIfInBounds i true).setIfInBounds k true).setIfInBounds j true) (((a.put y.dst v).put E.dst u).put B.dst (.pointer g)) W):
  il P ops Q S late (n+3) b a w:=by
 have q: ∀W:World,Below W W (W.alloc (cB t z)):=fun W=>bF.alloc lE _;have U: ∀m,m=i\/m=j->wpOp P ops Q m (fun I w'=>(late.contains m=false->S w')/\il P ops Q S late (n+2) (b.setIfInBounds m true) I w') a w:=by
  intro m H
  rcases H with rfl|rfl
  ·unfold wpOp;simp only[pO hi,oZ V,if_true];refine .inl (J0 (s w) (hc w hS) fun w' r=>?_);have l:=o w w' hS r;refine⟨fun _=>l,ki k hk Y T Z (fun W hW=>D W hW) l (vU j hj X F fun K J=>?_)⟩;unfold Oper.wp;rw[A];refine J _ _ (o _ _ l (q w')) (h w' _ (o _ _ l (q w')) (heap_alloc_new w' _) r.size (r.trans ((q w').mono r.size)))
  ·unfold wpOp;simp only[pO hj,oZ X,if_true];refine .inl ?_;unfold Oper.wp;rw[A];have l:=o _ _ hS (q w);refine⟨fun _=>l,vU i hi V R fun K J=>?_⟩;refine J0 (C _ _) (hc _ l) fun w' r=>?_;refine J _ _ (o _ _ l r) ?_;refine ki k hk Y G Z (fun W hW=>x _ W hW) (o _ _ l r) ?_;have e1:=rA a v (.pointer w) hd;have e2:=rA (a.put y.dst v) u (.pointer w) L;rw[<-e1,<-e2,yo _ _ (jN M),yo _ _ N];refine h w w' (o _ _ l r) ?_ lE ((q w).trans (r.mono (q w).size));exact(r.block w sI).trans (heap_alloc_new w _)
 refine⟨(fun h0=>by rw[h0] at O;cases O),fun m H=>U m ?_⟩;rw[O] at H;simpa using H
end
end
section
open Go Go.RowKit
theorem VB{p:Prop}(h:p:=by
 obtain⟨d,c,l,K⟩:=h.find k;have G:(Instr.checkKey d.isEmpty 10000 kt (vI k)).run P w=.ok () w:=mu z (CQ k) _ 9999
 rcases K with ⟨p,s⟩|⟨j,v,p,s,_⟩
 ·simp[Instr.lookup,run_underlying J,iI l,G,jY z s,a,Result.andThen,p]
 ·simp[Instr.lookup,run_underlying J,iI l,G,jY z s,Result.andThen,p]):p:=h
variable {b:Nat}
abbrev vI (z:Int):Value:=.int .i64 z
def qQ (f:Int->Option Int) (k:Int) (v:Option Int):Int->Option Int:=fun x=>if x=k then v else f x
structure nO (w:World) (b:Nat) (f:Int->Option Int):Prop where
 ex: ∃es clock,w.heap[b]? =some (.map es clock)/\(∀e∈es.toList,∃k v,e.key=vI k/\e.val=vI v/\f k=some v)/\(∀k v,f k=some v-> ∃e∈es.toList,e.key=vI k/\e.val=vI v)/\(es.toList.map (·.key)).Nodup
def nO.lt (h:nO w b f):b<w.heap.size:=by obtain⟨d,c,l,_⟩:=h.ex;exact(aah.1 l).1
def nO.at {w':World} (h:nO w b f) (a:w'.heap[b]? =w.heap[b]?):nO w' b f:=by obtain⟨d,c,l,r⟩:=h.ex;exact⟨d,c,a.trans l,r⟩
def nO.new (w:World):nO (w.alloc (.map #[] 0)) w (fun _=>none):=⟨#[],0,heap_alloc_new w _,by simp,by simp,by simp⟩
def AF {α:Type}: ∀{l:List α} {i j:Nat} {a:α},l.Nodup->l[i]? =some a->l[j]? =some a->i=j
 |x::l,0,0,_,_,_,_=>rfl
 |x::l,0,j+1,a,h,h1,h2=>by simp at h1 h2;subst h1;exact absurd (a8 h2) (nM.1 h).1
 |x::l,i+1,0,a,h,h1,h2=>by simp at h1 h2;subst h2;exact absurd (a8 h1) (nM.1 h).1
 |x::l,i+1,j+1,a,h,h1,h2=>by simp at h1 h2;rw[AF (nM.1 h).2 h1 h2]
 | [],_,_,_,_,h1,_=>by simp at h1
section
variable {kt et:TypeId} {b:Nat}
def CQ (k:Int):MapKept.IsKey (.int .i64) (vI k):=rfl
def nO.find (h:nO w b f) (k:Int): ∃d c,w.heap[b]? =some (.map d c)/\
  ((f k=none/\Instr.findNow (.int .i64) (vI k) d.toList 0=some none)\/ ∃j v,f k=some v/\Instr.findNow (.int .i64) (vI k) d.toList 0=some (some (j,vI v))/\ ∃e,d[j]? =some e/\e.key=vI k):=by
 obtain⟨d,c,l,K,g,m⟩:=h.ex;refine⟨d,c,l,?_⟩;have a: ∀x∈d.toList,MapKept.IsKey (.int .i64) x.key:=fun x q=>by obtain⟨k,v,p,_⟩:=K x q;rw[p];rfl
 rcases MapKept.findNow_spec (CQ k) d.toList 0 a with ⟨r,B⟩|⟨j,e,r,B,C⟩
 ·refine .inl ⟨?_,r⟩;cases T:f k with
  |none=>rfl
  |some v=>
   obtain⟨e,i,p,_⟩:=g k v T;exact absurd p (B e i)
 ·obtain⟨A,v,p,s,E⟩:=K e (a8 B);rw[C] at p;have z:k=A:=by cases p;rfl
  subst z;exact .inr ⟨j,v,E,by rw[r,s,gW],e,by rw[<-B];simp,C⟩
def nO.Vz (h:nO w b f) (J:P.underlying t=some (.map kt et)) (z:P.underlying kt=some (.int .i64)) (a:(zeroValue et).run P w=.ok (vI 0) w) (k:Int):
  (Instr.lookup t (.map (some b)) (vI k) true).run P w=.ok (.tuple #[vI ((f k).getD 0),.bool (f k).isSome]) w:=by
 exact VB
def nO.MM (h:nO w b f) (J:P.underlying t=some (.map kt et)) (z:P.underlying kt=some (.int .i64)) (a:(zeroValue et).run P w=.ok (vI 0) w) (k:Int):
  (Instr.lookup t (.map (some b)) (vI k) false).run P w=.ok (vI ((f k).getD 0)) w:=by
 exact VB
def wO (w:World) (b:Nat) (o:Obj):w.grownBy {w with heap:=w.heap.setIfInBounds b o} (some b):=
 ⟨rfl,rfl,rfl,by simp,fun k _ n=>by show(w.heap.setIfInBounds b o)[k]? =_;rw[iQ (fun e=>n (by rw[e]))]⟩
def nO.put (h:nO w b f) (J:P.underlying t=some (.map kt et)) (z:P.underlying kt=some (.int .i64)) (k v:Int):
  ∃w',(Instr.mapUpdate t (.map (some b)) (vI k) (vI v)).run P w=.ok () w'/\nO w' b (qQ f k (some v))/\w'.heap.size=w/\w.grownBy w' (some b):=by
 obtain⟨d,c,l,K⟩:=h.find k;obtain⟨U,L,y,R,S,Q⟩:=h.ex;rw[l] at y;cases y;have I:=(aah.1 l).1;have G:(Instr.checkKey false 10000 kt (vI k)).run P w=.ok () w:=mu z (CQ k) _ 9999
 rcases K with ⟨p,s⟩|⟨j,Y,p,s,e,E,M⟩
 ·refine⟨_,by simp[Instr.mapUpdate,run_underlying J,iI l,G,jY z s,mV _ l,Result.andThen];rfl,⟨d.push {key:=vI k,val:=vI v,born:=c},c+1,by simp[I],fun x q=>?_,fun A F D=>?_,?_⟩,by simp,wO w b _⟩
  ·simp only[acO,fO,nw] at q
   rcases q with q|rfl
   ·obtain⟨A,F,r,B,C⟩:=R x q;have n:A≠k:=fun e=>by rw[e,p] at C;cases C
    exact⟨A,F,r,B,by unfold qQ;rw[if_neg n];exact C⟩
   ·exact⟨k,v,rfl,rfl,by unfold qQ;rw[if_pos rfl]⟩
  ·unfold qQ at D;split at D
   ·rename_i e;cases D;exact⟨{key:=vI k,val:=vI v,born:=c},by simp,by rw[e],rfl⟩
   ·obtain⟨x,q,g⟩:=S A F D;exact⟨x,by simp[q],g⟩
  ·simp only[acO,gJ,gN,lG];refine acQ.2 ⟨Q,by simp,fun a X b y=>?_⟩;simp at y;subst y;obtain⟨x,q,rfl⟩:=fq.1 X;obtain⟨A,F,r,B,C⟩:=R x q;rw[r];intro e;cases e;rw[p] at C;cases C
 ·have u: ∀x,x∈(d.modify j fun e=>{e with key:=vI k,val:=vI v}).toList->(x.key=vI k/\x.val=vI v)\/(x∈d.toList/\x.key≠vI k):=fun x q=>by
   obtain⟨i,o⟩:=gz.1 q;rw[fA,jc] at o;by_cases m:j=i
   ·subst m;rw[if_pos rfl,E] at o;simp at o;exact .inl ⟨by rw[<-o],by rw[<-o]⟩
   ·rw[if_neg m] at o;refine .inr ⟨a8 (i:=i) (by rw[fA];exact o),fun H=>m ?_⟩;have O:(d.toList.map (·.key))[j]? =some (vI k):=by rw[fh,fA,E];simp[M]
    have N:(d.toList.map (·.key))[i]? =some (vI k):=by rw[fh,fA,o];simp[H]
    exact AF Q O N
  have T: ∃x∈(d.modify j fun e=>{e with key:=vI k,val:=vI v}).toList,x.key=vI k/\x.val=vI v:=
   ⟨{e with key:=vI k,val:=vI v},a8 (i:=j) (by rw[fA,jc,if_pos rfl,E];rfl),rfl,rfl⟩
  refine⟨_,by simp[Instr.mapUpdate,run_underlying J,iI l,G,jY z s,E,M,MapKept.run_keyThatStays (CQ k),mV _ l,Result.andThen];rfl,⟨d.modify j fun e=>{e with key:=vI k,val:=vI v},c,by simp[I],fun x q=>?_,fun A F D=>?_,?_⟩,by simp,wO w b _⟩
  ·rcases u x q with ⟨r,B⟩|⟨r,B⟩
   ·exact⟨k,v,r,B,by unfold qQ;rw[if_pos rfl]⟩
   ·obtain⟨A,F,C,V,W⟩:=R x r;have n:A≠k:=fun e=>B (by rw[C,e]);exact⟨A,F,C,V,by unfold qQ;rw[if_neg n];exact W⟩
  ·unfold qQ at D;split at D
   ·rename_i e;cases D;rw[e];exact T
   ·rename_i n;obtain⟨x,q,r,B⟩:=S A F D;obtain⟨i,o⟩:=gz.1 q;refine⟨x,a8 (i:=i) ?_,r,B⟩;have m:j≠i:=fun e=>by subst e;rw[fA,E] at o;cases o;rw[M] at r;cases r;exact n rfl
    rw[fA,jc,if_neg m,<-fA];exact o
  ·have:(d.modify j fun e=>{e with key:=vI k,val:=vI v}).toList.map (·.key)=d.toList.map (·.key):=by
    refine mq fun i=>?_;rw[fh,fh,fA,fA,jc];by_cases m:j=i
    ·subst m;rw[if_pos rfl,E];simp[M]
    ·rw[if_neg m]
   rw[this];exact Q
def nO.del (h:nO w b f) (J:P.underlying t=some (.map kt et)) (z:P.underlying kt=some (.int .i64)) (k:Int) (ty:TypeId):
  ∃w' u,(Builtin.delete_ #[t,kt] ty #[.map (some b),vI k]).run P w=.ok u w'/\nO w' b (qQ f k none)/\w'.heap.size=w/\w.grownBy w' (some b):=by
 obtain⟨d,c,l,K⟩:=h.find k;obtain⟨U,L,y,R,S,Q⟩:=h.ex;rw[l] at y;cases y;have I:=(aah.1 l).1;have G: ∀e,(Instr.checkKey e 10000 kt (vI k)).run P w=.ok () w:=fun e=>mu z (CQ k) e 9999
 rcases K with ⟨p,s⟩|⟨j,Y,p,s,e,E,M⟩
 ·have T:qQ f k none=f:=funext fun x=>by
   unfold qQ;split
   ·rename_i e;rw[e,p]
   ·rfl
  refine⟨_,_,by simp[Builtin.delete_,run_underlying J,iI l,G,jY z s,mV _ l,Result.andThen];exact⟨rfl,rfl⟩,⟨d,c,by simp[I],?_,?_,Q⟩,by simp,wO w b _⟩
  ·rw[T];exact R
  ·rw[T];exact S
 ·have X:j<d.size:=(aah.1 E).1;have v: ∀i x,i≠j->d[i]? =some x->x.key≠vI k:=fun i x m o H=>by
   have O:(d.toList.map (·.key))[j]? =some (vI k):=by rw[fh,fA,E];simp[M]
   have N:(d.toList.map (·.key))[i]? =some (vI k):=by rw[fh,fA,o];simp[H]
   exact m (AF Q N O)
  have g: ∀x,x∈d.toList.eraseIdx j↔ ∃i,i≠j/\d[i]? =some x:=fun x=>by rw[List.mem_eraseIdx_iff_getElem?];simp only[fA]
  have a:(d.eraseIdxIfInBounds j).toList=d.toList.eraseIdx j:=by unfold Array.eraseIdxIfInBounds;rw[dif_pos X];simp
  refine⟨_,_,by simp[Builtin.delete_,run_underlying J,iI l,G,jY z s,mV _ l,Result.andThen];exact⟨rfl,rfl⟩,⟨d.eraseIdxIfInBounds j,c,by simp[I],fun x q=>?_,fun A F D=>?_,?_⟩,by simp,wO w b _⟩
  ·rw[a,g] at q;obtain⟨i,m,o⟩:=q;obtain⟨A,F,C,V,W⟩:=R x (a8 (i:=i) (by rw[fA];exact o));have n:A≠k:=fun e=>v i x m o (by rw[C,e]);exact⟨A,F,C,V,by unfold qQ;rw[if_neg n];exact W⟩
  ·unfold qQ at D;split at D
   ·cases D
   ·rename_i n;obtain⟨x,q,r,B⟩:=S A F D;obtain⟨i,o⟩:=gz.1 q;rw[fA] at o;refine⟨x,?_,r,B⟩;rw[a,g];refine⟨i,fun e=>?_,o⟩;rw[e,E] at o;cases o;rw[M] at r;cases r;exact n rfl
  ·rw[a];exact List.Nodup.sublist ((List.eraseIdx_sublist _ _).map _) Q
end
end
namespace PF
open Go.Proofs.YtgimnjldndkalaaGreatDoor
variable {a b:Int×Int} {j:Nat} {id u:Int}
abbrev Hp:=List (Int×Int)
variable {L:Hp}
def vn (L:Hp) (f:Int->Option Int):Prop:= ∀(id k:Int),f id=some k↔ ∃i:Nat,k=i/\ ∃u,L[i]? =some (id,u)
def qI (L:Hp) (i j:Nat):Hp:=match L[i]?,L[j]? with
 |some a,some b=>(L.set i b).set j a
 |_,_=>L
def vn.jL:vn [] (fun _=>none):=fun id k=>by simp
def vn.inj (h:vn L f) {v:Int} (d:L[i]? =some (id,u)) (g:L[j]? =some (id,v)):i=j:=by have l:=(h id i).2 ⟨i,rfl,u,d⟩;have m:=(h id j).2 ⟨j,rfl,v,g⟩;rw[l] at m;cases m;rfl
def vn.mem (h:vn L f) :(∃k,f id=some k)↔id∈L.map Prod.fst:=by
 constructor
 ·rintro⟨k,c⟩;obtain⟨i,-,u,l⟩:=(h id k).1 c;exact fq.2 ⟨(id,u),a8 l,rfl⟩
 ·intro b;obtain⟨⟨a,u⟩,e,rfl⟩:=fq.1 b;obtain⟨i,d⟩:=gz.1 e;exact⟨i,(h a i).2 ⟨i,rfl,u,d⟩⟩
def DH (d:L[i]? =some a) (g:L[j]? =some b):qI L i j=(L.set i b).set j a:=by unfold qI;rw[d,g]
def wR (L:Hp) (i j:Nat):(qI L i j).length=L.length:=by unfold qI;split <;>simp
def mH (d:L[i]? =some a) (g:L[j]? =some b) (k:Nat):(qI L i j)[k]? =if k=j then some a else if k=i then some b else L[k]? :=by
 have l:=(bX.1 d).1;have m:=(bX.1 g).1;rw[DH d g];by_cases c:k=j
 ·subst c;rw[if_pos rfl,iT (by simpa using m)]
 ·rw[if_neg c,iu (fun e=>c e.symm)];by_cases f:k=i
  ·subst f;rw[if_pos rfl,iT l]
  ·rw[if_neg f,iu (fun e=>f e.symm)]
def vn.swap (h:vn L f) (d:L[i]? =some a) (g:L[j]? =some b):
  vn (qI L i j) (qQ (qQ f b.1 (some i)) a.1 (some j)):=by
 intro id k;unfold qQ;constructor
 ·intro c;by_cases n:id=a.1
  ·rw[if_pos n] at c;cases c;exact⟨j,rfl,a.2,by rw[mH d g,if_pos rfl,n]⟩
  ·rw[if_neg n] at c;by_cases m:id=b.1
   ·rw[if_pos m] at c;cases c;have o:i≠j:=fun e=>by subst e;rw[d] at g;cases g;exact n m
    exact⟨i,rfl,b.2,by rw[mH d g,if_neg o,if_pos rfl,m]⟩
   ·rw[if_neg m] at c;obtain⟨q,rfl,u,l⟩:=(h id k).1 c;refine⟨q,rfl,u,?_⟩;rw[mH d g,if_neg,if_neg,l]
    ·intro e;subst e;rw[d] at l;cases l;exact n rfl
    ·intro e;subst e;rw[g] at l;cases l;exact m rfl
 ·rintro⟨q,rfl,u,l⟩;rw[mH d g] at l;by_cases n:q=j
  ·rw[if_pos n] at l;cases l;rw[if_pos rfl,n]
  ·rw[if_neg n] at l;by_cases m:q=i
   ·rw[if_pos m] at l;cases l;have o:id≠a.1:=fun e=>by have p:i=j:=h.inj (id:=a.1) (u:=a.2) (v:=u) d (by rw[g,e]);exact n (m.trans p)
    rw[if_neg o,if_pos rfl,m]
   ·rw[if_neg m] at l;have r:id≠a.1:=fun e=>m (h.inj (id:=a.1) (u:=u) (v:=a.2) (by rw[l,e]) d);have s:id≠b.1:=fun e=>n (h.inj (id:=b.1) (u:=u) (v:=b.2) (by rw[l,e]) g);rw[if_neg r,if_neg s];exact(h id q).2 ⟨q,rfl,u,l⟩
def L6 (d:L[i]? =some a) (g:L[j]? =some b): ∀x,x∈qI L i j↔x∈L:=by
 intro x;simp only[gz];constructor
 ·rintro⟨k,c⟩;rw[mH d g] at c;split at c
  ·cases c;exact⟨i,d⟩
  ·split at c
   ·cases c;exact⟨j,g⟩
   ·exact⟨k,c⟩
 ·rintro⟨k,c⟩;by_cases n:k=i
  ·subst n;rw[d] at c;cases c;exact⟨j,by rw[mH d g,if_pos rfl]⟩
  ·by_cases m:k=j
   ·subst m;rw[g] at c;cases c;exact⟨i,by rw[mH d g,if_neg (fun e=>n e.symm),if_pos rfl]⟩
   ·exact⟨k,by rw[mH d g,if_neg m,if_neg n];exact c⟩
def vn.push (h:vn L f) (u:Int) (g:f id=none):vn (L++[(id,u)]) (qQ f id (some L)):=by
 intro a k;unfold qQ;constructor
 ·intro c;by_cases e:a=id
  ·rw[if_pos e] at c;cases c;exact⟨L.length,rfl,u,by rw[fo lE];simp[e]⟩
  ·rw[if_neg e] at c;obtain⟨i,rfl,v,b⟩:=(h a k).1 c;exact⟨i,rfl,v,by rw[fu (bX.1 b).1];exact b⟩
 ·rintro⟨i,rfl,v,b⟩
  rcases iU i L with hlt|hge
  ·rw[fu hlt] at b;have l:=(h a i).2 ⟨i,rfl,v,b⟩;have o:a≠id:=fun e=>by rw[e,g] at l;cases l
   rw[if_neg o];exact l
  ·have d:=(bX.1 b).1;have e:i=L.length:=by simp at d;omega
   subst e;rw[fo lE] at b;simp at b;rw[if_pos b.1.symm]
def vn.pop (h:vn (L++[(id,u)]) f):vn L (qQ f id none):=by
 have g:(L++[(id,u)])[L.length]? =some (id,u):=by rw[fo lE];simp
 intro a k;unfold qQ;constructor
 ·intro c;by_cases e:a=id
  ·rw[if_pos e] at c;cases c
  ·rw[if_neg e] at c;obtain⟨i,rfl,v,b⟩:=(h a k).1 c;refine⟨i,rfl,v,?_⟩
   rcases iU i L with hlt|hge
   ·rwa [fu hlt] at b
   ·have d:=(bX.1 b).1;have m:i=L.length:=by simp at d;omega
    subst m;rw[g] at b;cases b;exact absurd rfl e
 ·rintro⟨i,rfl,v,b⟩;have j:(L++[(id,u)])[i]? =some (a,v):=by rw[fu (bX.1 b).1];exact b
  have o:a≠id:=fun e=>by have:=h.inj (id:=id) (u:=v) (v:=u) (by rw[j,e]) g;have:=(bX.1 b).1;omega
  rw[if_neg o];exact(h a i).2 ⟨i,rfl,v,j⟩
structure D5 (n:Nat) (L L':Hp):Prop where
 len:L'.length=L
 mem: ∀x,x∈L'↔x∈L
 tl: ∀k,n<=k->L'[k]? =L[k]?
def D5.refl (n:Nat) (L:Hp):D5 n L L:=⟨rfl,fun _=>oF,fun _ _=>rfl⟩
def D5.trans {A B C:Hp} (h:D5 n A B) (k:D5 n B C):D5 n A C:=⟨k.len.trans h.len,fun x=>(k.mem x).trans (h.mem x),fun q a=>(k.tl q a).trans (h.tl q a)⟩
def D5.swap (d:i<n) (g:j<n):D5 n L (qI L i j):=by
 unfold qI;cases l:L[i]? with
 |none=>exact D5.refl _ _
 |some a=>
  cases m:L[j]? with
  |none=>exact D5.refl _ _
  |some b=>
   dsimp only;rw[<-DH l m];exact⟨wR _ _ _,L6 l m,fun k c=>by rw[mH l m,if_neg oG,if_neg oG]⟩
end PF
section
variable {a:Act} {b:Array Bool} {d:Oper} {g:List Oper}
section
def zA (i:Nat) (e:ops.toList.drop i=d::g) (k:sT ops late b i=true)
  (j: ∀c a w,Q (.panic c) (a.put d.dst undef) w->Q (.panic c) a w) (f:Region.wanted d (yielded ops a.tmps)=false) (hS:S w)
  (h:il P ops Q S late n (b.setIfInBounds i true) (a.put d.dst undef) w):il P ops Q S late (n+1) b a w:=
 have⟨l,m,o,p,q,r⟩:=DI k
 zy (pO e) (acT l) j p q n b a w r (Region.free_spec (pO e) m) (by simpa using o) (.inr ⟨f,rfl⟩) hS h
def jE (i:Nat) {v:Value} (e:ops.toList.drop i=d::g) (f:Region.wanted d (yielded ops a.tmps)=true) (k:sT ops late b i=true)
  (j: ∀c a w,Q (.panic c) (a.put d.dst v) w->Q (.panic c) a w)
  (l: ∀w,S w->(execOp a.eval d).run P w=.ok (.value v) w) (hS:S w)
  (h:il P ops Q S late n (b.setIfInBounds i true) (a.put d.dst v) w):il P ops Q S late (n+1) b a w:=
 lZ i (pO e) k j f l hS h
def BD (i:Nat) (e:ops.toList.drop i=d::g) (f:Region.wanted d (yielded ops a.tmps)=true) (j:Region.ready .any ops b=[i])
  (h: ∀K:Act->World->Prop,RowKit.Hid (∀c w',S w'->il P ops Q S late n (b.setIfInBounds i true) c w'->K c w')->d.wp P a w K Q):il P ops Q S late (n+1) b a w:=
 DO i (pO e) j f h
end
end
section
section
def mL {n:Nat} {b:Array Bool} {a:Act} {w:World} (i j:Nat) {e f:Oper} {u v:List Oper} (s:ops.toList.drop i=e::u) (t:ops.toList.drop j=f::v) (m:e.guard=none) (o:f.guard=none)
  (d:Region.ready .any ops b=[i,j])
  (q: ∀K:Act->World->Prop,RowKit.Hid (∀c w',S w'->il P ops Q S late n (b.setIfInBounds i true) c w'->K c w')->e.wp P a w K Q)
  (r: ∀K:Act->World->Prop,RowKit.Hid (∀c w',S w'->il P ops Q S late n (b.setIfInBounds j true) c w'->K c w')->f.wp P a w K Q):il P ops Q S late (n+1) b a w:=by
 refine⟨(fun p=>by rw[p] at d;cases d),fun k l=>?_⟩;rw[d] at l
 rcases (by simpa using l:k=i\/k=j) with rfl|rfl
 ·unfold wpOp;simp only[pO s,oZ m,if_true];exact .inl (q _ fun _ _ g h=>⟨fun _=>g,h⟩)
 ·unfold wpOp;simp only[pO t,oZ o,if_true];exact .inl (r _ fun _ _ g h=>⟨fun _=>g,h⟩)
end
end
section
open jm ko kN
variable {T:List Tr} {a b:Tr} {k:Nat}
def BH (L:Tr) (T:List Tr) (f:Int->Option Int):Prop:= ∀s∈L,∃(i:Nat) (t:Tr),f s.1=some (i:Int)/\T[i]? =some t/\s.1∈t.map Prod.fst
def yO (f:Int->Option Int) (b:Tr) (i:Int):Int->Option Int:=b.foldl (fun f s=>qQ f s.1 (some i)) f
def xn (T:List Tr) (i k:Nat) (l:Tr):List Tr:=(T.set i l).set k []
def QM (b:Tr) (i c:Int): ∀f,yO f b i c=if c∈b.map Prod.fst then some i else f c:=by
 induction b with
 |nil=>intro f;simp[yO]
 |cons s b ih=>
  intro f;show yO (qQ f s.1 (some i)) b i c=_;rw[ih];unfold qQ;by_cases h:c∈b.map Prod.fst
  ·rw[if_pos h,if_pos (by simp only[gN,fC];exact .inr h)]
  ·rw[if_neg h];by_cases d:c=s.1
   ·rw[if_pos d,if_pos (by rw[d];simp)]
   ·rw[if_neg d,if_neg (by simp only[gN,fC];rintro(e|e);exact d e;exact h e)]
def BH.join {L:Tr} {f:Int->Option Int} (h:BH L T f) (l:T[i]? =some a) (p:T[k]? =some b) (c:i≠k):BH L (xn T i k (a++b)) (yO f b i):=by
 intro s g;have u:=(bX.1 l).1;have m:(xn T i k (a++b))[i]? =some (a++b):=by unfold xn;rw[iu (jN c),iT u]
 rw[QM];by_cases r:s.1∈b.map Prod.fst
 ·rw[if_pos r];exact⟨i,_,rfl,m,by rw[gJ];exact tR _ r⟩
 ·rw[if_neg r];obtain⟨j,t,q,d,e⟩:=h s g;by_cases n:j=i
  ·subst n;rw[l] at d;cases d;exact⟨j,_,q,m,by rw[gJ];exact List.mem_append_left _ e⟩
  ·by_cases o:j=k
   ·subst o;rw[p] at d;cases d;exact absurd e r
   ·exact⟨j,t,q,by unfold xn;rw[iu (jN o),iu (jN n)];exact d,e⟩
def xS (T:List Tr):Nat:=(T.map List.length).sum
def CY (T:List Tr): ∀{i:Nat} {a:Tr},T[i]? =some a-> ∀l:Tr,xS (T.set i l)+a.length=xS T+l.length:=by
 unfold xS
 induction T with
 |nil=>intro i a h;simp at h
 |cons t T ih=>
  intro i a h l;cases i with
  |zero=>simp at h;subst h;simp;omega
  |succ i=>have:=ih (by simpa using h) l;simp only[fI,gN,yu];omega
def Oa (l:T[i]? =some a) (p:T[k]? =some b) (c:i≠k):xS (xn T i k (a++b))=xS T:=by have q:=CY T l (a++b);have d:=CY (T.set i (a++b)) (i:=k) (a:=b) (by rw[iu c];exact p) [];unfold xn;rw[fa] at q;simp at d;omega
def um {t:Tr} (h:T[i]? =some t):t.length<=xS T:=by have:=CY T h [];simp at this;omega
def QN {n:Nat} (h: ∀t∈T,jK n t) (l:T[i]? =some a) (p:T[k]? =some b): ∀t∈xn T i k (a++b),jK n t:=by
 intro t c
 rcases lU c with c|rfl
 ·rcases lU c with c|rfl
  ·exact h t c
  ·intro s g
   rcases fO.1 g with g|g
   ·exact h a (a8 l) s g
   ·exact h b (a8 p) s g
 ·exact jK.jL n
def Pt (T:List Tr):yw (T.filter fun t=>0<t.length)<=2*xS T:=by
 unfold yw xS
 induction T with
 |nil=>simp
 |cons t T ih=>rw[Mo];split <;>simp_all <;>omega
def N9 (T:List Tr) (i k:Nat) (l:Tr):(xn T i k l).length=T.length:=by unfold xn;simp
end
section
open Go.RowKit
variable {L:List (List (List UInt8))} {l:List (List UInt8)}
def kI (l:List UInt8):Value:=.string ⟨l.toArray⟩
def kX (w:World) (v:Value) (l:List (List UInt8)):Prop:=RS w 1 v l (l.map kI)
def Vj (w:World) (cs:List Value) (x:List (List UInt8)):Prop:= ∃v,cs=[v]/\kX w v x
def tV (w:World) (v:Value) (L:List (List (List UInt8))):Prop:=RL 1 Vj w v L
def kX.below {w':World} {B:Nat} (h:kX w v l) (a:Below B w w') (b:w.heap.size<=B):kX w' v l:=RS.below h a b
def kX.open_ (h:kX w v l): ∃A c,v=.slice A l c/\l.length<=c/\c<=9223372036854775807/\
  ∀i s,l[i]? =some s-> ∃b o,A=some ⟨b,o,none⟩/\b<w.heap.size/\w.cell? (pA b (o+i))=some (.string ⟨s.toArray⟩):=by
 obtain⟨A,c,n,f,g,_,j⟩:=h;refine⟨A,c,n,f,by simpa[maxLen] using g,fun i z d=>?_⟩;obtain⟨b,o,k,a,m⟩:=j (by have:=fP d;omega);exact⟨b,o,k,a,m i _ (by rw[fh,d];rfl)⟩
def tV.open_ (h:tV w v L): ∃A c,v=.slice A L c/\L.length<=c/\c<=9223372036854775807/\
  ∀i x,L[i]? =some x-> ∃b o,A=some ⟨b,o,none⟩/\b<w.heap.size/\ ∃d,kX w d x/\w.cell? (pA b (o+i))=some d:=by
 obtain⟨A,c,n,f,g,j⟩:=RL.open_ h;refine⟨A,c,n,f,g,fun i x p=>?_⟩;obtain⟨b,o,k,a,cs,_,⟨d,e,l⟩,m⟩:=j i x p;have:=m 0 d (by rw[e];rfl);rw[jR] at this;exact⟨b,o,k,a,d,l,this⟩
def Mv (lb:Nat) (a:TypeId) (w:World) (cs:List Value) (x:List (List UInt8)):Prop:= ∃v,cs=[v]/\w.ownsRow lb a 1 v x (x.map kI)
def sj (lb:Nat) (b a:TypeId) (w:World) (v:Value) (L:List (List (List UInt8))):Prop:=OL lb b 1 (Mv lb a) w v L
def Mv.reads {cs:List Value} {x:List (List UInt8)} (h:Mv lb a w cs x):Vj w cs x:=by obtain⟨v,e,l⟩:=h;exact⟨v,e,RS.jh l⟩
def sj.reads {b:TypeId} (h:sj lb b a w v L):tV w v L:=OL.reads h fun _ _=>Mv.reads
def sj.jL (lb:Nat) (b a:TypeId) (w:World):sj lb b a w () []:=OL.jL _ _ _ _ _
end
section
open Go.RowKit jm
def fc.newAt (w:World) (t:TypeId) (cs:List Value) {g:Nat} (a:g=w):fc (w.alloc (cB t cs)) g t cs:=by subst a;exact fc.new w t cs
def jX (h:Below w0 w0 w) (o:Obj):Below w0 w0 (w.alloc o):=h.alloc h.size o
def kB {w':World} (h:Below w0 w0 w) (a:Below w w w'):Below w0 w0 w':=h.trans (a.mono h.size)
end
end Go.Proofs.YtgimnjldndkalaaGreatDoor
