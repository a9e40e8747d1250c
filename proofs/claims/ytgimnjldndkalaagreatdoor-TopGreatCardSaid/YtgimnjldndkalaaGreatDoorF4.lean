/- Of the proof of TopGreat: Memory words that all proofs of this family share: a slice that reads as a list of cells, kept over whatever l. -/
import Derived.Deep.AppendLies
import Derived.Deep.Draws
import Derived.WalkSpells
import Derived.Test.YtgimnjldndkalaaGreatDoorF3
set_option linter.all false
set_option maxRecDepth 100000
namespace Go.Proofs.YtgimnjldndkalaaGreatDoor
variable {ops:Array Oper} {Q:Exit->Act->World->Prop} {f:Int->Option Int} {late:List Nat} {a b:List Value} {B base g i lb n size:Nat} {P:Program} {α:Type} {e t:TypeId} {d v:Value} {w w':World} {S:World->Prop}
section
open Go.RowKit
variable {cap:Nat} {k:IntKind} {l:List Int} {z:α}
def xi {W w1:World} (d:Below B W w1):(∀b o,b<B->w1.cell? (pA b o)=W.cell? (pA b o))/\(∀b o,b<B->w1.frozen? (pA b o)=W.frozen? (pA b o)):=
 ⟨fun b o h=>d.cell (p:=pA b o) h,fun b o h=>d.frozen (p:=pA b o) h⟩
def oC {a b:Int} (h:a=b):Ending.returned (.int k a)=.returned (.int k b):=by rw[h]
def ji {a b:Bool} (h:a=b):Ending.returned a=.returned b:=by rw[h]
def RS (w:World) (size:Nat) (v:Value) (n:Nat) (l:List Value):Prop:=
 ∃A c,v=.slice A n c/\n<=c/\c<=maxLen/\l.length=n*size/\
  (0<n-> ∃b o,A=some ⟨b,o,none⟩/\b<w.heap.size/\ ∀j u,l[j]? =some u->w.cell? (pA b (o+j))=some u)
def RS.below {l:List Value} (h:RS w size v n l) (d:Below B w w') (q:w.heap.size<=B):RS w' size v n l:=by obtain⟨A,c,rfl,m,a,k,g⟩:=h;refine⟨A,c,rfl,m,a,k,fun r=>?_⟩;obtain⟨b,o,rfl,i,e⟩:=g r;exact⟨b,o,rfl,bP i d.size,fun j u f=>(d.cell (p:=pA b (o+j)) (by show b<B;omega)).trans (e j u f)⟩
def RS.jh {base:Nat} {l:List Value} (h:w.ownsRow base e size v n l):RS w size v n l:=by
 have q:=h.1
 rcases h.2 with ⟨rfl,rfl⟩|⟨g,cap,a,rfl,d,p,r,b,K,D⟩
 ·exact⟨none,0,rfl,lE,by simp[maxLen],q,fun h=>absurd h oG⟩
 ·refine⟨_,cap,rfl,r,b,q,fun _=>⟨g,0,rfl,(aah.1 p).1,fun j u f=>?_⟩⟩;rw[gW,cell_of_row w g j a e (0,0) p];rw[<-D,eU] at f;split at f
  ·simpa using f
  ·cases f
def RS.none_ (w:World) (size:Nat):RS w size () 0 []:=⟨none,0,rfl,lE,by simp[maxLen],by simp,fun h=>absurd h oG⟩
def gx (w:World) (k:IntKind) (v:Value) (l:List Int):Prop:=RS w 1 v l (l.map (.int k))
def gx.below (h:gx w k v l) (d:Below B w w') (q:w.heap.size<=B):gx w' k v l:=RS.below h d q
def gx.open_ (h:gx w k v l): ∃A c,v=.slice A l c/\l.length<=c/\c<=9223372036854775807/\
  ∀i z,l[i]? =some z-> ∃b o,A=some ⟨b,o,none⟩/\b<w.heap.size/\w.cell? (pA b (o+i))=some (.int k z):=by
 obtain⟨A,c,f,m,a,_,g⟩:=h;refine⟨A,c,f,m,by simpa[maxLen] using a,fun i z y=>?_⟩;obtain⟨b,o,j,d,e⟩:=g (by have:=(bX.1 y).1;omega);exact⟨b,o,j,d,e i _ (by simp[y])⟩
def EX (h:(P.info? e).map (fun i=>(i.zero,i.size,i.bytes))=some (some (.int .i64 0),1,8)): ∃i,P.info? e=some i/\i.zero=some (.int .i64 0)/\i.size=1/\i.bytes=8:=by obtain⟨d,g,a,b,c⟩:=info_parts h;exact⟨d,g,a,b,c⟩
def fP {l:List α} (h:l[i]? =some z):i<l.length:=(bX.1 h).1
def oh {l:List α} (h:l[i]? =some z):l.drop i=z::l.drop (i+1):=by obtain⟨g,rfl⟩:=bX.1 h;exact qW g
def ec {l:List α} (h:i<l): ∃z,l[i]? =some z:=⟨l[i],fp h⟩
def fc (w:World) (g:Nat) (t:TypeId) (a:List Value):Prop:=w.heap[g]? =some (.cells a.toArray t (0,0))
def fc.lt (h:fc w g t a):g<w.heap.size:=(aah.1 h).1
def fc.cell (h:fc w g t a) (i:Nat):w.cell? (pA g i)=a[i]? :=by rw[cell_of_row w g i a.toArray t (0,0) h];simp
def fc.c (h:fc w g t a) (i:Nat) (f:a[i]? =some v:=by rfl):w.cell? (pA g i)=some v:=(h.cell i).trans f
def fc.frozen (h:fc w g t a) (i:Nat):w.frozen? (pA g i)=false:=by unfold fc at h;simp[World.frozen?,h]
def fc.new (w:World) (t:TypeId) (a:List Value):fc (w.alloc (cB t a)) w t a:=heap_alloc_new w _
def fc.drew (h:fc w g t a):fc w.drew g t a:=h
def fc.drewN (h:fc w g t a) (n:Nat):fc (w.drewN n) g t a:=h
def fc.gH (h:fc w g t a) (i:Nat) (u:Value):fc (w.setCell (pA g i) u) g t (a.set i u):=by
 unfold fc at h|-
 simp[World.setCell,jc,h]
def fc.kj (h:fc w g t a) {p:Addr} (b:g≠p.block) (u:Value):fc (w.setCell p u) g t a:=(Below.heap_setCell w p u g b).trans h
def fc.below (h:fc w g t a) (d:Below B w w') (p:g<B):fc w' g t a:=(d.block g p).trans h
def fc.alloc (h:fc w g t a) (o:Obj):fc (w.alloc o) g t a:=(sV w o g h.lt).trans h
def fc.RS (h:fc w g t a) (r:n<=cap) (e:cap<=maxLen) (K:n*size<=a):RS w size (.slice g n cap) n (a.take (n*size)):=by
 refine⟨_,cap,rfl,r,e,by simp;omega,fun _=>⟨g,0,rfl,h.lt,fun j u f=>?_⟩⟩;rw[gW,h.cell];rw[eU] at f;split at f
 ·exact f
 ·cases f
def fc.gx (h:fc w g t (l.map (.int k))) (q:l.length=n) (r:n<=cap) (e:cap<=maxLen):gx w k (.slice g n cap) l:=by
 subst q;have:=h.RS (size:=1) r e sI
 rwa [jR,fj sI] at this
def fc.grown {row:Option Nat} (h:fc w g t a) (d:w.grownBy w' row) (p:some g≠row):fc w' g t a:=(d.block g h.lt p).trans h
def kD {E:Array Oper} {rest:List Oper} {o:Oper} {a:Act} {Q:Exit->Act->World->Prop} (w:World) (I:o.guard=none) (s x:Operand) (t:TypeId)
  (O:o.op=.call {callee:=.builtin .append,args:= #[s,x],argTypes:= #[t,t]})
  (base:Nat) (e:TypeId) (z:Value) (size d:Nat) (D:P.underlying t=some (.slice e)) (g:(P.info? e).map (fun i=>(i.zero,i.size,i.bytes))=some (some z,size,d))
  (N:z.cells.size=size) (M:0<size) (H:d<=100)
  (v:Value) (n:Nat) (l:List Value) (A:w.ownsRow base e size v n l) (K:a.eval s=v)
  (b:List Value) (c:Nat) (R:a.eval x=.slice w 1 c) (q:b.length=size) (m:b.all (fun u=>u.oneCell')=true)
  (r:n<=1000000000) (B:base<=w)
  (h: ∀F w',w'.ownsRow base e size F (n+1) (l++b)->Below base w w'->w.heap.size<w'->wpList P E Q rest (a.put o.dst F) w'):wpList P E Q (o::rest) a (w.alloc (cB e b)):=by
 obtain⟨i,g,y,L,G⟩:=info_parts g;refine wpList_append_own (P:=P) (w.alloc (cB e b)) I s x t O base e i z size d D g y L G N M v n l K (A.alloc _) w 1 c b R oG
  (fun j u f=>?_) (fun u f=>dT.1 m u f) mO ?_ sO (fun F w' m p _=>h F w' m ?_ ?_)
 ·have C:(w:Addr).add j=(pA w j):=by unfold Addr.add;split <;>simp_all
  rw[C,(fc.new w e b).cell];exact f
 ·have:=kg (show n+1<=1000000001 by omega) H;omega
 ·exact(bF.alloc B _).grown p sO (fun k J=>(A.lt k J).1)
 ·have:=p.size;simp at this;omega
def kE (n:Nat):List Value:=List.replicate n Zo
def Da (n:Nat):madeCells (Value.int .i64 0).cells n=(kE n).toArray:=by
 apply Array.ext';simp[madeCells,kE,Value.cells,acg];apply adb
 ·simp
 ·intro i _ _;simp[pC]
def CF {k:Nat} (q:l.length=n) (J:k<n):((l.take k).map (Value.int .i64)++kE (n-k))[k]? =some (.int .i64 0):=by rw[fo sO,fm,fB,q,kM oG,pG,kE,rW,if_pos oG]
def CG {k:Nat} {z:Int} (q:l.length=n) (y:l[k]? =some z):
  ((l.take k).map (Value.int .i64)++kE (n-k)).set k z=(l.take (k+1)).map (Value.int .i64)++kE (n-(k+1)):=by
 have J:=fP y;have e:n-k=(n-(k+1))+1:=oG;rw[BZ _ _ sO,fm,fB,q,kM oG,pG,e];rw[gk,y];simp[kE,List.replicate_succ]
def pM (D:P.underlying t=some (.slice e)) (g:(P.info? e).map (fun i=>(i.zero,i.size,i.bytes))=some (some (.int .i64 0),1,8))
  (n:Nat) (z:Int) (y:z=n) (r:n<=1000000) (w:World):
  (Instr.makeSlice t z z).run P w=.ok (.slice w n n) (w.alloc (cB e (kE n))):=by
 obtain⟨i,g,a,m,b⟩:=EX g;subst y;have h:=run_make (P:=P) w t e i _ D g a .i64 .i64 (n:Int) (n:Int) oG oG (by rw[b];omega) oG;rw[h,gu,m,jR,Da]
end
section
open Go.RowKit jm
variable {l:List Nat}
def lu (w:World) (v:Value) (l:List Nat):Prop:=gx w .u64 v (l.map Int.ofNat)
def qp (w:World) (v:Value) (L:List kc):Prop:=
 ∃A c,v=.slice A L c/\L.length<=c/\c<=maxLen/\
  (0<L.length-> ∃b o,A=some ⟨b,o,none⟩/\b<w.heap.size/\ ∀i x,L[i]? =some x-> ∃g,lu w g x.jC/\
   w.cell? (pA b (o+i*8))=some x.kind/\w.cell? (pA b (o+i*8+1))=some x.iL/\w.cell? (pA b (o+i*8+2))=some g/\
   w.cell? (pA b (o+i*8+3))=some x.jU/\w.cell? (pA b (o+i*8+4))=some x.size/\w.cell? (pA b (o+i*8+5))=some x.start/\
   w.cell? (pA b (o+i*8+6))=some x.lR/\w.cell? (pA b (o+i*8+7))=some x.hold)
def rS (w:World) (v:Value) (L:List (List Int)):Prop:=
 ∃A c,v=.slice A L c/\L.length<=c/\c<=maxLen/\
  (0<L.length-> ∃b o,A=some ⟨b,o,none⟩/\b<w.heap.size/\ ∀i r,L[i]? =some r-> ∃l,gx w .i64 l r/\w.cell? (pA b (o+i))=some l)
def iz (w:World) (v:Value) (x:fS):Prop:=
 ∃b dv,v=.agg #[x.days,x.mm,x.cap,x.len,b,dv]/\qp w b x.eB/\rS w dv x.gn
def lu.open_ (h:lu w v l): ∃A c,v=.slice A l c/\l.length<=c/\c<=9223372036854775807/\
  ∀(i s:Nat),l[i]? =some s-> ∃b o,A=some ⟨b,o,none⟩/\b<w.heap.size/\w.cell? (pA b (o+i))=some (.int .u64 (s:Int)):=by
 obtain⟨A,c,g,e,f,k⟩:=gx.open_ h;rw[fm] at g e;exact⟨A,c,g,e,f,fun i s a=>k i _ (by rw[fh,a];rfl)⟩
def a7 {b o:Nat} (a:Below B w w') (d:w.heap.size<=B) (h:w.cell? (pA b o)=some v):w'.cell? (pA b o)=some v:=
 (a.cell (p:=pA b o) (bP (aag w _ h) d)).trans h
def lu.below (h:lu w v l) (a:Below B w w') (d:w.heap.size<=B):lu w' v l:=gx.below h a d
def qp.below {L:List kc} (h:qp w v L) (a:Below B w w') (d:w.heap.size<=B):qp w' v L:=by obtain⟨A,c,rfl,e,f,k⟩:=h;refine⟨A,c,rfl,e,f,fun n=>?_⟩;obtain⟨b,o,rfl,j,m⟩:=k n;refine⟨b,o,rfl,bP j a.size,fun i x p=>?_⟩;obtain⟨g,l,c0,c1,c2,c3,c4,c5,c6,c7⟩:=m i x p;exact⟨g,l.below a d,a7 a d c0,a7 a d c1,a7 a d c2,a7 a d c3,a7 a d c4,a7 a d c5,a7 a d c6,a7 a d c7⟩
def rS.below {L:List (List Int)} (h:rS w v L) (a:Below B w w') (d:w.heap.size<=B):rS w' v L:=by obtain⟨A,c,rfl,e,f,k⟩:=h;refine⟨A,c,rfl,e,f,fun n=>?_⟩;obtain⟨b,o,rfl,j,m⟩:=k n;refine⟨b,o,rfl,bP j a.size,fun i r q=>?_⟩;obtain⟨l,p,g⟩:=m i r q;exact⟨l,p.below a d,a7 a d g⟩
def iz.below {x:fS} (h:iz w v x) (a:Below B w w') (d:w.heap.size<=B):iz w' v x:=by obtain⟨b,dv,g,e,f⟩:=h;exact⟨b,dv,g,e.below a d,f.below a d⟩
end
section
open Go.RowKit jm
theorem QU{p:Prop}(h:p:=by obtain⟨A,c,e,p,f,j⟩:=h;refine⟨A,c,e,p,f,fun F=>?_⟩;obtain⟨b,o,k,_,d,l⟩:=j F;refine⟨b,o,k,d,fun i x D=>?_⟩;obtain⟨g,a,_,m⟩:=l i x D;exact⟨g,a,m⟩):p:=h
variable {a b c f i:Value} {j l:List Value} {o:Oper}
def below_drewN {a:World} (h:Below B a w) (n:Nat):Below B a (w.drewN n):=⟨h.os,h.tape,h.output,h.size,h.block⟩
def jq (h:w.ownsRow base e size v n l) (d:Below B w w') (a:w.heap.size<=B):w'.ownsRow base e size v n l:=by
 refine⟨h.1,?_⟩
 rcases h.2 with h0|⟨g,cap,cur,rfl,hbg,hg,r⟩
 ·exact .inl h0
 ·refine .inr ⟨g,cap,cur,rfl,hbg,?_,r⟩;rw[d.block g (bP (aah.1 hg).1 a)];exact hg
def kZ {base':Nat} (h:w.ownsRow base e size v n l) (d:base'<=base):w.ownsRow base' e size v n l:=by
 refine⟨h.1,?_⟩
 rcases h.2 with h0|⟨g,cap,cur,rfl,hbg,r⟩
 ·exact .inl h0
 ·exact .inr ⟨g,cap,cur,rfl,oG,r⟩
structure kQ (e:TypeId) (base:Nat) (w w':World):Prop where
 os:w'.os=w.os
 tape:w'.tape=w.tape
 output:w'.output=w.output
 size:w.heap.size<=w'
 block: ∀k,k<w.heap.size->(k<base\/ ∀cs fr,w.heap[k]? ≠some (.cells cs e fr))->w'.heap[k]? =w.heap[k]?
def kQ.below (h:kQ e base w w') (d:base<=w):Below base w w':=
 ⟨h.os,h.tape,h.output,h.size,fun k b=>h.block k oG (.inl b)⟩
def kQ.ig (h:kQ e base w w') (d:fc w g t j) (b:t≠e):fc w' g t j:=by
 refine(h.block g d.lt (.inr fun c f a=>?_)).trans d;unfold fc at d;rw[d] at a;injection a with a
 injection a with _ a _
 exact b a
def kQ.own (h:kQ e base w w') (q:w.ownsRow lb t size v n l) (b:t≠e):w'.ownsRow lb t size v n l:=by
 refine⟨q.1,?_⟩
 rcases q.2 with h0|⟨g,cap,cur,rfl,hbg,hg,r⟩
 ·exact .inl h0
 ·refine .inr ⟨g,cap,cur,rfl,hbg,?_,r⟩;rw[h.block g (aah.1 hg).1 (.inr fun c f a=>?_)]
  ·exact hg
  ·rw[hg] at a;injection a with a
   injection a with _ a _
   exact b a
def kQ.IX {o:Obj} (q:w.ownsRow base e size v n l) (f:(w.alloc o).grownBy w' v.ownBlock):kQ e base w w':=by
 refine⟨f.os,f.tape,f.output,by have:=f.size;simp at this;omega,fun k b c=>?_⟩;rw[f.block k sO (fun a=>?_),sV w o k b]
 rcases q.2 with ⟨rfl,_⟩|⟨g,cap,L,rfl,H,A,_⟩
 ·simp[Value.ownBlock] at a
 ·simp[Value.ownBlock] at a;subst a
  rcases c with h|h
  ·omega
  ·exact h _ _ A
def nJ (h:w.ownsRow base e size v n l) {p:Addr} (a: ∀g,v.ownBlock=some g->g≠p.block) (u:Value):(w.setCell p u).ownsRow base e size v n l:=by
 refine⟨h.1,?_⟩
 rcases h.2 with h0|⟨g,cap,cur,rfl,hbg,hg,r⟩
 ·exact .inl h0
 ·refine .inr ⟨g,cap,cur,rfl,hbg,?_,r⟩;rw[Below.heap_setCell _ _ _ _ (a g rfl)];exact hg
def ia {c:Func} {p:Tmp} {b:TypeId} (h:c.results= #[.cell p b]) (tmps:Array Value) (w:World) (g:Nat) (t:TypeId) (j:List Value) (d:TypeDesc)
  (a:tmps.getD p undef=.pointer g) (f:fc w g t j)
  (J:P.underlying b=some d) (e:(match d with| .struct _| .array _ _=>true|_=>false)=true) (B:(P.info? b).map (·.size)=some j):
  (results c tmps).run P w=.ok (.agg j.toArray) w:=
 results_cell_row h tmps w g t j.toArray (0,0) d a f J e (by simpa using B)
def fc.Sa {z0 z1 j k l e:Value} (h:fc w g t [z0,z1,f,j,k,l]):fc ((((((w.setCell g a).setCell (pA g 1) b).setCell (pA g 2) c).setCell (pA g 3) d).setCell (pA g 4) e).setCell (pA g 5) i) g t [a,b,c,d,e,i]:=
 ((((((h.gH 0 a).gH 1 b).gH 2 c).gH 3 d).gH 4 e).gH 5 i)
def fc.agd {k:Nat} {e:Value} (h:fc w k t j) (f:k≠g):fc ((((((w.setCell g a).setCell (pA g 1) b).setCell (pA g 2) c).setCell (pA g 3) d).setCell (pA g 4) e).setCell (pA g 5) i) k t j:=
 ((((((h.kj (p:=g) f a).kj (p:=pA g 1) f b).kj (p:=pA g 2) f c).kj (p:=pA g 3) f d).kj (p:=pA g 4) f e).kj (p:=pA g 5) f i)
def so {j:World} {e:Value} (h:Below B j w) (f:B<=g):Below B j ((((((w.setCell g a).setCell (pA g 1) b).setCell (pA g 2) c).setCell (pA g 3) d).setCell (pA g 4) e).setCell (pA g 5) i):=
 ((((((h.setCell (p:=g) f a).setCell (p:=pA g 1) f b).setCell (p:=pA g 2) f c).setCell (p:=pA g 3) f d).setCell (p:=pA g 4) f e).setCell (p:=pA g 5) f i)
def ma {a:Act} {K:Act->World->Prop} (w:World) (s x:Operand) (t:TypeId)
  (q:o.op=.call {callee:=.builtin .append,args:= #[s,x],argTypes:= #[t,t]})
  (base:Nat) (e:TypeId) (z:Value) (size d:Nat) (R:P.underlying t=some (.slice e)) (B:(P.info? e).map (fun i=>(i.zero,i.size,i.bytes))=some (some z,size,d))
  (E:z.cells.size=size) (C:0<size) (y:d<=100)
  (v:Value) (n:Nat) (l:List Value) (k:w.ownsRow base e size v n l) (N:a.eval s=v)
  (b:List Value) (c:Nat) (D:a.eval x=.slice w 1 c) (S:b.length=size) (p:b.all (fun u=>u.oneCell')=true)
  (F:n<=1000000000) (m:base<=w)
  (h: ∀g cap w',w'.ownsRow base e size (.slice (pB g) (n+1) cap) (n+1) (l++b)->base<=g->g<w'.heap.size->kQ e base w w'->w.heap.size<w'->
   K (a.put o.dst (.slice g (n+1) cap)) w'):
  Oper.wp P o a (w.alloc (cB e b)) K Q:=by
 obtain⟨i,B,T,O,M⟩:=info_parts B;refine wp_append_own (P:=P) (w.alloc (cB e b)) s x t q base e i z size d R B T O M E C v n l N (k.alloc _) w 1 c b D oG
  (fun j u J=>?_) (fun u J=>dT.1 p u J) mO ?_ sO (fun V w' I f _=>?_)
 ·have G:(w:Addr).add j=(pA w j):=by unfold Addr.add;split <;>simp_all
  rw[G,(fc.new w e b).cell];exact J
 ·have:=kg (show n+1<=1000000001 by omega) y;omega
 ·rcases I.2 with ⟨_,U⟩|⟨g,cap,L,rfl,H,A,r⟩
  ·omega
  ·exact h g cap w' I H (aah.1 A).1 (kQ.IX k f) (by have:=f.size;simp at this;omega)
def iD {r:Array Oper} {rest:List Oper} {a:Act} (w:World) (A:o.guard=none) (s x:Operand) (t:TypeId)
  (q:o.op=.call {callee:=.builtin .append,args:= #[s,x],argTypes:= #[t,t]})
  (base:Nat) (e:TypeId) (z:Value) (size d:Nat) (R:P.underlying t=some (.slice e)) (B:(P.info? e).map (fun i=>(i.zero,i.size,i.bytes))=some (some z,size,d))
  (E:z.cells.size=size) (C:0<size) (y:d<=100)
  (v:Value) (n:Nat) (l:List Value) (k:w.ownsRow base e size v n l) (N:a.eval s=v)
  (b:List Value) (c:Nat) (D:a.eval x=.slice w 1 c) (S:b.length=size) (p:b.all (fun u=>u.oneCell')=true)
  (F:n<=1000000000) (m:base<=w)
  (h: ∀g cap w',w'.ownsRow base e size (.slice (pB g) (n+1) cap) (n+1) (l++b)->base<=g->g<w'.heap.size->kQ e base w w'->w.heap.size<w'->
   wpList P r Q rest (a.put o.dst (.slice g (n+1) cap)) w'):wpList P r Q (o::rest) a (w.alloc (cB e b)):=by
 exact wpList_plain A fun _ J=>ma w s x t q base e z size d R B E C y v n l k N b c D S p F m fun g cap w' f j G H I=>J _ _ (h g cap w' f j G H I)
def fc.xG {e j:Value} (h:fc w g t [a,b,c,d,e,i,f,j]):
  w.cell? g=some a/\w.cell? (pA g 1)=some b/\w.cell? (pA g 2)=some c/\w.cell? (pA g 3)=some d/\w.cell? (pA g 4)=some e/\w.cell? (pA g 5)=some i/\w.cell? (pA g 6)=some f/\w.cell? (pA g 7)=some j:=
 ⟨h.cell 0,h.cell 1,h.cell 2,h.cell 3,h.cell 4,h.cell 5,h.cell 6,h.cell 7⟩
def fc.jI {e:Value} (h:fc w g t [a,b,c,d,e,i]):
  w.cell? g=some a/\w.cell? (pA g 1)=some b/\w.cell? (pA g 2)=some c/\w.cell? (pA g 3)=some d/\w.cell? (pA g 4)=some e/\w.cell? (pA g 5)=some i:=
 ⟨h.cell 0,h.cell 1,h.cell 2,h.cell 3,h.cell 4,h.cell 5⟩
def fc.Im (h:fc w g t j):
  w.frozen? g=false/\w.frozen? (pA g 1)=false/\w.frozen? (pA g 2)=false/\w.frozen? (pA g 3)=false/\w.frozen? (pA g 4)=false/\w.frozen? (pA g 5)=false:=
 ⟨h.frozen 0,h.frozen 1,h.frozen 2,h.frozen 3,h.frozen 4,h.frozen 5⟩
def wk (lb:Nat) (v:Value):Prop:= ∀a n c,v=.slice (some a) n c->0<n->lb<=a.block
def B5 (lb:Nat) (w:World) (v:Value) (L:List kc):Prop:=
 ∃A c,v=.slice A L c/\L.length<=c/\c<=maxLen/\
  (0<L.length-> ∃b o,A=some ⟨b,o,none⟩/\lb<=b/\b<w.heap.size/\ ∀i x,L[i]? =some x-> ∃g,lu w g x.jC/\wk lb g/\
   w.cell? (pA b (o+i*8))=some x.kind/\w.cell? (pA b (o+i*8+1))=some x.iL/\w.cell? (pA b (o+i*8+2))=some g/\
   w.cell? (pA b (o+i*8+3))=some x.jU/\w.cell? (pA b (o+i*8+4))=some x.size/\w.cell? (pA b (o+i*8+5))=some x.start/\
   w.cell? (pA b (o+i*8+6))=some x.lR/\w.cell? (pA b (o+i*8+7))=some x.hold)
def FP (lb:Nat) (w:World) (v:Value) (L:List (List Int)):Prop:=
 ∃A c,v=.slice A L c/\L.length<=c/\c<=maxLen/\
  (0<L.length-> ∃b o,A=some ⟨b,o,none⟩/\lb<=b/\b<w.heap.size/\ ∀i r,L[i]? =some r-> ∃g,gx w .i64 g r/\wk lb g/\w.cell? (pA b (o+i))=some g)
def tU (lb:Nat) (w:World) (v:Value) (x:fS):Prop:=
 ∃a dv,v=.agg #[x.days,x.mm,x.cap,x.len,a,dv]/\B5 lb w a x.eB/\FP lb w dv x.gn
def B5.plain {L:List kc} (h:B5 lb w v L):qp w v L:=by exact QU
def FP.plain {L:List (List Int)} (h:FP lb w v L):rS w v L:=by exact QU
def tU.plain {x:fS} (h:tU lb w v x):iz w v x:=by obtain⟨a,dv,e,p,f⟩:=h;exact⟨a,dv,e,p.plain,f.plain⟩
end
section
open Go Go.RowKit
variable {i:List Value}
def sM (h:w.ownsRow lb e size v n b) (a: ∀g,v.ownBlock=some g->w'.heap[g]? =w.heap[g]?):w'.ownsRow lb e size v n b:=by
 refine⟨h.1,?_⟩
 rcases h.2 with h2|⟨g,cap,cur,rfl,hb,hg,h3⟩
 ·exact .inl h2
 ·exact .inr ⟨g,cap,cur,rfl,hb,(a g rfl).trans hg,h3⟩
def RR {q:Addr} (h:w.ownsRow lb e size v n b) (a:fc w g t i) (l:t≠e) (k:q.block=g) (u:Value):(w.setCell q u).ownsRow lb e size v n b:=by
 refine nJ h (fun o f e=>?_) u
 rcases h.2 with ⟨rfl,_⟩|⟨m,cap,d,rfl,j,c,_⟩
 ·simp[Value.ownBlock] at f
 ·simp[Value.ownBlock] at f;subst f;rw[k] at e;subst e;unfold fc at a;rw[c] at a;injection a with a
  injection a with _ a _
  exact l a.symm
def oT (h:w.ownsRow lb e size v n b) (a:fc w g t i) (l:t≠e) (o:w.grownBy w' (some g)):w'.ownsRow lb e size v n b:=by
 refine sM h fun k f=>?_
 rcases h.2 with ⟨rfl,_⟩|⟨m,cap,d,rfl,j,c,_⟩
 ·simp[Value.ownBlock] at f
 ·simp[Value.ownBlock] at f;subst f;refine o.block _ (aah.1 c).1 fun e=>?_;cases e;unfold fc at a;rw[c] at a;injection a with a
  injection a with _ a _
  exact l a.symm
def RT {c:Nat} (h:w.ownsRow lb e size (.slice g n c) n b) {k:Nat} (f:k<=n):w.ownsRow lb e size (.slice g k c) k (b.take (k*size)):=by
 have q:k*size<=n*size:=nZ _ f;refine⟨by rw[fB,h.1];omega,?_⟩
 rcases h.2 with ⟨a,-⟩|⟨m,c2,d,a,i,j,r,l,o,p⟩
 ·cases a
 ·cases a;exact .inr ⟨g,c,d,rfl,i,j,oG,l,o,by rw[<-p,S7,kM q]⟩
end
section
open Go.RowKit
section
def J0 {o:Oper} {a:Act} {w:World} {K:Act->World->Prop} {f:FuncId} {args:Array Value} {v:Value} {R:World->Prop} (d:(execOp a.eval o).run P w=.ok (.enter f args) w)
  (c:Calls P f args w fun e w'=>e=.returned v/\R w') (h: ∀w',R w'->K (a.put o.dst v) w'):o.wp P a w K Q:=by
 unfold Oper.wp;rw[d];refine Kc c ?_;rintro e w' ⟨rfl,b⟩;exact h w' b
end
end
section
variable {a:Act} {b:Oper} {f:List Oper} {listed:Array Bool}
section
def zA (i:Nat) (d:ops.toList.drop i=b::f) (j:sT ops late listed i=true)
  (g: ∀c a w,Q (.panic c) (a.put b.dst undef) w->Q (.panic c) a w) (e:Region.wanted b (yielded ops a.tmps)=false) (hS:S w)
  (h:il P ops Q S late n (listed.setIfInBounds i true) (a.put b.dst undef) w):il P ops Q S late (n+1) listed a w:=
 have⟨k,l,m,o,p,q⟩:=DI j
 zy (pO d) (acT k) g o p n listed a w q (aaq (pO d) l) (by simpa using m) (.inr ⟨e,rfl⟩) hS h
def jE (i:Nat) {v:Value} (d:ops.toList.drop i=b::f) (e:Region.wanted b (yielded ops a.tmps)=true) (j:sT ops late listed i=true)
  (g: ∀c a w,Q (.panic c) (a.put b.dst v) w->Q (.panic c) a w)
  (k: ∀w,S w->(execOp a.eval b).run P w=.ok (.value v) w) (hS:S w)
  (h:il P ops Q S late n (listed.setIfInBounds i true) (a.put b.dst v) w):il P ops Q S late (n+1) listed a w:=
 lZ i (pO d) j g e k hS h
def BD (i:Nat) (d:ops.toList.drop i=b::f) (e:Region.wanted b (yielded ops a.tmps)=true) (g:Region.ready .any ops listed=[i])
  (h: ∀K:Act->World->Prop,RowKit.Hid (∀c w',S w'->il P ops Q S late n (listed.setIfInBounds i true) c w'->K c w')->b.wp P a w K Q):il P ops Q S late (n+1) listed a w:=
 DO i (pO d) g e h
end
end
section
open Go.RowKit jm
theorem QV{p:Prop}(h:p:=by
 by_cases h:i<L
 ·rw[fu h] at d;rw[fu oG] at b;exact t i x c d b
 ·have e:i=L.length:=by have:=fP d;simp at this;omega
  subst e;rw[fo lE,pG] at d;rw[fo oG,C,pG] at b;simp only[fK,lH] at d b;subst d;subst b;exact k):p:=h
variable {L:List (List Int)} {c f i:Value} {j m q:TypeId} {p:Addr}
def kH (x:kc) (f:Value):List Value:=[x.kind,x.iL,f,x.jU,x.size,x.start,x.lR,x.hold]
def iJ (lb:Nat) (q m:TypeId) (w:World) (v:Value) (L:List kc):Prop:=
 ∃a:List Value,a.length=L/\w.ownsRow lb q 8 v L ((L.zip a).flatMap fun p=>kH p.1 p.2)/\
  ∀(i:Nat) (x:kc) (f:Value),L[i]? =some x->a[i]? =some f->w.ownsRow lb m 1 f x.jC (x.jC.map fun(s:Nat)=>Value.int .u64 (s:Int))
def iJ.none_ (lb:Nat) (q m:TypeId) (w:World):iJ lb q m w () []:=⟨[],rfl,gL _ _ _ _,fun i x f h=>by simp at h⟩
def iJ.below {L:List kc} (h:iJ lb q m w v L) (p:Below B w w') (b:w.heap.size<=B):iJ lb q m w' v L:=by obtain⟨a,C,g,t⟩:=h;exact⟨a,C,jq g p b,fun i x f d k=>jq (t i x f d k) p b⟩
def iJ.keep {L:List kc} (h:iJ lb q m w v L) (b:kQ e base w w') (C:q≠e) (g:m≠e):iJ lb q m w' v L:=by obtain⟨a,y,n,l⟩:=h;exact⟨a,y,b.own n C,fun i x f d k=>b.own (l i x f d k) g⟩
def jo (h:w.ownsRow base e size v n b) (k:p.block<base) (u:Value):(w.setCell p u).ownsRow base e size v n b:=
 nJ h (fun g a=>by have:=(h.lt g a).1;omega) u
def iJ.fG {L:List kc} (h:iJ lb q m w v L) (k:p.block<lb) (u:Value):iJ lb q m (w.setCell p u) v L:=by obtain⟨a,y,n,l⟩:=h;exact⟨a,y,jo n k u,fun i x f d b=>jo (l i x f d b) k u⟩
def iJ.push {L:List kc} {y:kc} (z:L.length=n) (C:a.length=n) (g:w.ownsRow lb q 8 v (n+1) (((L.zip a).flatMap fun p=>kH p.1 p.2)++kH y f))
  (t: ∀(i:Nat) (x:kc) (c:Value),L[i]? =some x->a[i]? =some c->w.ownsRow lb m 1 c x.jC (x.jC.map fun(s:Nat)=>Value.int .u64 (s:Int)))
  (k:w.ownsRow lb m 1 f y.jC (y.jC.map fun(s:Nat)=>Value.int .u64 (s:Int))):iJ lb q m w v (L++[y]):=by
 subst z;refine⟨a++[f],by simp[C],?_,fun i x c d b=>?_⟩
 ·rw[List.zip_append C.symm,fU,fa];simpa using g
 ·exact QV
def yW (h:w.ownsRow lb e size v n b):wk lb v:=by
 intro a k c s _;subst s
 rcases h.2 with ⟨i,_⟩|⟨g,cap,f,s,d,_⟩
 ·cases i
 ·injection s with e1 _ _
  injection e1 with e1
  subst e1;exact d
def RP {l:List Nat} (h:w.ownsRow lb e 1 v l (l.map fun(s:Nat)=>Value.int .u64 (s:Int))):lu w v l:=by unfold lu gx;rw[fm,kK];exact RS.jh h
def NR (L:List kc): ∀(a:List Value) (i j:Nat) (x:kc) (f:Value),L[i]? =some x->a[i]? =some f->j<8->
  ((L.zip a).flatMap fun p=>kH p.1 p.2)[i*8+j]? =(kH x f)[j]? :=by
 induction L with
 |nil=>intro a i j x f h;simp at h
 |cons y L ih=>
  intro a i j x f d k r;cases a with
  |nil=>simp at k
  |cons q a=>
   rw[acn,gG];cases i with
   |zero=>
    simp only[fK,lH] at d k;subst d;subst k;rw[fu (by simp[kH];omega),vq,gW]
   |succ i=>
    simp only[df] at d k;rw[fo (by simp[kH];omega)];rw[show(i+1)*8+j-(kH y q).length=i*8+j by simp[kH];omega];exact ih a i j x f d k r
def iJ.reads {L:List kc} (h:iJ lb q m w v L):B5 lb w v L:=by obtain⟨a,C,g,t⟩:=h;obtain⟨A,c,s,y,n,_,E⟩:=RS.jh g;refine⟨A,c,s,y,n,fun z=>?_⟩;obtain⟨b,o,D,p,F⟩:=E z;have B:lb<=b:=yW g (pA b o) L.length c (by rw[s,D]) z;refine⟨b,o,D,B,p,fun i x d=>?_⟩;obtain⟨f,k⟩:=ec (l:=a) (i:=i) (by have:=fP d;omega);have e:=fun j r u G=>F (i*8+j) u ((NR L a i j x f d k r).trans G);exact⟨f,RP (t i x f d k),yW (t i x f d k),e 0 oG _ rfl,e 1 oG _ rfl,e 2 oG _ rfl,e 3 oG _ rfl,e 4 oG _ rfl,e 5 oG _ rfl,e 6 oG _ rfl,e 7 oG _ rfl⟩
def OwnRows (lb:Nat) (m j:TypeId) (w:World) (v:Value) (L:List (List Int)):Prop:=
 ∃a:List Value,w.ownsRow lb m 1 v L a/\ ∀(i:Nat) (r:List Int) (f:Value),L[i]? =some r->a[i]? =some f->w.ownsRow lb j 1 f r (r.map (Value.int .i64))
def OwnRows.none_ (lb:Nat) (m j:TypeId) (w:World):OwnRows lb m j w () []:=⟨[],gL _ _ _ _,fun i x f h=>by simp at h⟩
def OwnRows.below (h:OwnRows lb m j w v L) (p:Below B w w') (b:w.heap.size<=B):OwnRows lb m j w' v L:=by obtain⟨a,g,t⟩:=h;exact⟨a,jq g p b,fun i x f d k=>jq (t i x f d k) p b⟩
def OwnRows.fG (h:OwnRows lb m j w v L) (k:p.block<lb) (u:Value):OwnRows lb m j (w.setCell p u) v L:=by obtain⟨a,n,l⟩:=h;exact⟨a,jo n k u,fun i x c d b=>jo (l i x c d b) k u⟩
def OwnRows.push {y:List Int} (z:L.length=n) (C:a.length=n) (g:w.ownsRow lb m 1 v (n+1) (a++[f]))
  (t: ∀(i:Nat) (r:List Int) (c:Value),L[i]? =some r->a[i]? =some c->w.ownsRow lb j 1 c r (r.map (Value.int .i64)))
  (k:w.ownsRow lb j 1 f y (y.map (Value.int .i64))):OwnRows lb m j w v (L++[y]):=by
 subst z;refine⟨a++[f],by simpa using g,fun i x c d b=>?_⟩;exact QV
def OwnRows.reads (h:OwnRows lb m j w v L):FP lb w v L:=by obtain⟨a,g,t⟩:=h;obtain⟨A,c,s,y,n,_,E⟩:=RS.jh g;refine⟨A,c,s,y,n,fun z=>?_⟩;obtain⟨b,o,D,p,F⟩:=E z;have B:lb<=b:=yW g (pA b o) L.length c (by rw[s,D]) z;refine⟨b,o,D,B,p,fun i r d=>?_⟩;have e:=g.1;obtain⟨f,k⟩:=ec (l:=a) (i:=i) (by have:=fP d;omega);exact⟨f,RS.jh (t i r f d k),yW (t i r f d k),F i f k⟩
def iJ.QT {L:List kc} {b e:Value} (h:iJ lb q m w v L) (a:g<lb):iJ lb q m ((((((w.setCell g b).setCell (pA g 1) c).setCell (pA g 2) d).setCell (pA g 3) e).setCell (pA g 4) f).setCell (pA g 5) i) v L:=
 ((((((h.fG (p:=g) a b).fG (p:=pA g 1) a c).fG (p:=pA g 2) a d).fG (p:=pA g 3) a e).fG (p:=pA g 4) a f).fG (p:=pA g 5) a i)
def OwnRows.QT {b e:Value} (h:OwnRows lb m j w v L) (a:g<lb):OwnRows lb m j ((((((w.setCell g b).setCell (pA g 1) c).setCell (pA g 2) d).setCell (pA g 3) e).setCell (pA g 4) f).setCell (pA g 5) i) v L:=
 ((((((h.fG (p:=g) a b).fG (p:=pA g 1) a c).fG (p:=pA g 2) a d).fG (p:=pA g 3) a e).fG (p:=pA g 4) a f).fG (p:=pA g 5) a i)
def fc.own (h:fc w g e a) (p:lb<=g) (z:a.length=n) (b:n<=maxLen):w.ownsRow lb e 1 (.slice g n n) n a:=
 ⟨oG,.inr ⟨g,n,a.toArray,rfl,p,h,lE,b,by simp[z],by simp[<-z]⟩⟩
end
section
open Go.RowKit jm
variable {a b c d:TypeId} {lb':Nat} {x:fS}
def iJ.mono {L:List kc} (h:iJ lb a c w v L) (e:lb'<=lb):iJ lb' a c w v L:=by obtain⟨b,d,f,g⟩:=h;exact⟨b,d,kZ f e,fun i x l k j=>kZ (g i x l k j) e⟩
def OwnRows.mono {L:List (List Int)} (h:OwnRows lb d b w v L) (e:lb'<=lb):OwnRows lb' d b w v L:=by obtain⟨a,f,g⟩:=h;exact⟨a,kZ f e,fun i x l k j=>kZ (g i x l k j) e⟩
def ph (lb:Nat) (a c d b:TypeId) (w:World) (v:Value) (x:fS):Prop:=
 ∃e dv,v=.agg #[x.days,x.mm,x.cap,x.len,e,dv]/\iJ lb a c w e x.eB/\OwnRows lb d b w dv x.gn
def ph.WB (h:ph lb a c d b w v x):tU lb w v x:=by obtain⟨e,dv,i,f,g⟩:=h;exact⟨e,dv,i,f.reads,g.reads⟩
def ph.reads (h:ph lb a c d b w v x):iz w v x:=by obtain⟨e,dv,i,f,g⟩:=h;exact⟨e,dv,i,f.reads.plain,g.reads.plain⟩
end
section
open Go.RowKit
def AM (w:World) (t K e:TypeId) (i:TypeInfo) (z:Value) (y:P.underlying t=some (.slice e)) (v:P.info? e=some i) (H:i.zero=some z)
  (q:z.cells.size=i.size) (p:0<i.size) (A:Option Addr) (m c:Nat) (d:List Value) (G:RS w i.size (.slice A m c) m d) (C: ∀u∈d,u.oneCell'=true)
  (J:m<=1000000000) (n:i.bytes<=100):
  ∃g w',(Builtin.append_ #[t,t] K #[(),.slice A m c]).run P w=.ok g w'/\w'.ownsRow w e i.size g m d/\Below w w w':=by
 obtain⟨O,c',N,Q,R,s,I⟩:=G;injection N with e1 _ e3
 subst e1;subst e3;have l:=gL w w e i.size
 rcases A with _|ad
 ·have F:m=0:=by
   rcases kV m with h0|h0
   ·exact h0
   ·obtain⟨b,o,h,_⟩:=I h0;cases h
  subst F;obtain rfl:d=[]:=gj (by simpa using s);refine⟨.slice none 0 0,w,?_,l,bS _ _⟩;simp[Builtin.append_,run_underlying y,sizeOf,typeInfo,v,Builtin.lenOf,Builtin.firstCells]
 ·have a: ∀j u,d[j]? =some u->w.cell? (ad.add j)=some u:=by
   intro j u B
   rcases kV m with h0|h0
   ·subst h0;obtain rfl:d=[]:=gj (by simpa using s);simp at B
   ·obtain⟨b,o,h,_,L⟩:=I h0;injection h with h
    subst h;have r:((pA b o):Addr).add j=(pA b (o+j)):=by unfold Addr.add;split <;>simp_all
    rw[r];exact L j u B
  have x:(0+m)*i.bytes<=140737488355328:=by have:=kg (show 0+m<=1000000000 by omega) n;omega
  obtain⟨g,w',f,D,E,_,S⟩:=run_append_own_at (P:=P) w w t K e i z i.size i.bytes y v H rfl rfl q p () 0 [] l ad m c d s a C mO x lE;refine⟨g,w',f,by simpa using D,bF.grown E lE (fun k M=>by simp[Value.ownBlock] at M)⟩
def BU {o:Oper} {a:Act} {K:Act->World->Prop} {Q:Exit->Act->World->Prop} (w:World) (s x:Operand) (t:TypeId)
  (r:o.op=.call {callee:=.builtin .append,args:= #[s,x],argTypes:= #[t,t]})
  (e:TypeId) (z:Value) (size b:Nat) (y:P.underlying t=some (.slice e)) (v:(P.info? e).map (fun i=>(i.zero,i.size,i.bytes))=some (some z,size,b))
  (q:z.cells.size=size) (p:0<size) (n:b<=100)
  (A:Option Addr) (m c:Nat) (d:List Value) (F:a.eval s=.slice none 0 0) (I:a.eval x=.slice A m c) (G:RS w size (.slice A m c) m d) (C:d.all (fun u=>u.oneCell')=true)
  (J:m<=1000000000)
  (h: ∀g w',w'.ownsRow w e size g m d->Below w w w'->K (a.put o.dst g) w'):o.wp P a w K Q:=by
 obtain⟨i,k,H,l,j⟩:=info_parts v;subst l;subst j;obtain⟨g,w',f,D,E⟩:=AM (P:=P) w t o.type e i z y k H q p A m c d G (fun u B=>dT.1 C u B) J n;unfold Oper.wp execOp;simp only[r,resolve,invoke,builtin,ks,pR,lO,mT,gN,lG,F,I,f];exact h g w' D E
def fc.fW (w:World) (t:TypeId) (a:List Value) {g:Nat} (b:g=w):fc (w.alloc (cB t a)) g t a:=by subst b;exact fc.new w t a
def yB (w:World) (base:Nat) (t B e:TypeId) (i:TypeInfo) (z:Value) (A:P.underlying t=some (.slice e)) (y:P.info? e=some i) (L:i.zero=some z)
  (v:Value) (n:Nat) (q:List Value) (d:w.ownsRow base e i.size v n q)
  (a:Addr) (m c:Nat) (b:List Value) (F:b.length=m*i.size) (f: ∀j u,b[j]? =some u->w.cell? (a.add j)=some u) (N: ∀u∈b,u.oneCell'=true) (G:0<m)
  (C:n+m<=maxLen) (h:(n+m)*i.bytes<=140737488355328) {X:Value} (p:(Builtin.append_ #[t,t] B #[v,.slice (some a) m c]).run P w=.ok X w'):
  ∃g cap,X=.slice (pB g) (n+m) cap/\(v.ownBlock=some g\/w.heap.size<=g):=by
 have x:n+m<=9223372036854775807:=by simp only[maxLen] at C;omega
 rcases d.2 with ⟨rfl,rfl⟩|⟨g,cap,o,rfl,J,E,M,K,D,H⟩
 ·have s:=run_append_nil (P:=P) w t B e i z A y L a m c b F f G oG (by have I:=h;simp only[gW] at I;omega);rw[s] at p;injection p with e1 _
  exact⟨w,_,by rw[<-e1,gW],.inr lE⟩
 ·by_cases k:n+m<=cap
  ·have r:n*i.size+b.length<=o.size:=by rw[F,D,<-pz];exact nZ _ k
   have s:=run_append_room (P:=P) w t B e i A y g n cap o E a m c b F f N k r;rw[s] at p;injection p with e1 _
   exact⟨g,cap,e1.symm,.inl rfl⟩
  ·have l: ∀j u,q[j]? =some u->w.cell? ((g:Addr).add j)=some u:=d.cells (g:=g) rfl;have s:=run_append_grow (P:=P) w t B e i z A y L g n cap q d.1 l a m c b F f oG oG (growslice_fits oG h);rw[s] at p;injection p with e1 _
   exact⟨w,_,e1.symm,.inr lE⟩
def sC {M:Array Oper} {rest:List Oper} {o:Oper} {a:Act} {Q:Exit->Act->World->Prop} (w:World) (T:o.guard=none) (s x:Operand) (t:TypeId)
  (ho:o.op=.call {callee:=.builtin .append,args:= #[s,x],argTypes:= #[t,t]})
  (base:Nat) (e:TypeId) (z:Value) (size f:Nat) (A:P.underlying t=some (.slice e)) (y:(P.info? e).map (fun i=>(i.zero,i.size,i.bytes))=some (some z,size,f))
  (W:z.cells.size=size) (V:0<size) (S:f<=100)
  (v:Value) (n:Nat) (q:List Value) (d:w.ownsRow base e size v n q) (hs:a.eval s=v)
  (b:List Value) (c:Nat) (hx:a.eval x=.slice w 1 c) (F:b.length=size) (N:b.all (fun u=>u.oneCell')=true)
  (hn:n<=1000000000) (r:base<=w)
  (h: ∀g cap w',w'.ownsRow base e size (.slice (pB g) (n+1) cap) (n+1) (q++b)->(v.ownBlock=some g\/w.heap.size<g)->base<=g->g<w'.heap.size->(w.alloc (cB e b)).grownBy w' v.ownBlock->Below base w w'->w.heap.size<w'->
   wpList P M Q rest (a.put o.dst (.slice g (n+1) cap)) w'):wpList P M Q (o::rest) a (w.alloc (cB e b)):=by
 refine wpList_plain T fun K Z=>?_;obtain⟨i,E,L,U,R⟩:=info_parts y;clear y;subst U;have l: ∀j u,b[j]? =some u->(w.alloc (cB e b)).cell? ((w:Addr).add j)=some u:=fun j u J=>by
  have C:(w:Addr).add j=(pA w j):=by unfold Addr.add;split <;>simp_all
  rw[C,(fc.new w e b).cell];exact J
 have B: ∀u∈b,u.oneCell'=true:=fun u J=>dT.1 N u J;have D:(n+1)*i.bytes<=140737488355328:=by have:=kg (show n+1<=1000000001 by omega) (R▸S);omega
 have G:b.length=1*i.size:=oG;obtain⟨X,w',p,Y,O,h4⟩:=run_append_own (P:=P) (w.alloc (cB e b)) base t o.type e i z i.size i.bytes A E L rfl rfl W V v n q (d.alloc _) w 1 c b G l B mO D sO;obtain⟨g,cap,rfl,m⟩:=yB (P:=P) (w.alloc (cB e b)) base t o.type e i z A E L v n q (d.alloc _) w 1 c b G l B oG mO D p;have I:w.heap.size<w'.heap.size:=by have:=O.size;simp at this;omega
 have H:=Y.lt g rfl;unfold Oper.wp execOp;simp only[ho,resolve,invoke,builtin,ks,pR,lO,mT,gN,lG,hs,hx,p];refine Z _ _ (h g cap w' Y ?_ H.1 H.2 O ((bF.alloc r _).grown O sO (fun k hk=>(d.lt k hk).1)) I)
 rcases m with h|h
 ·exact .inl h
 ·simp at h;exact .inr oG
def acW {w:World} {lb:Nat} {c:TypeId} {a d:Nat} {v u:Value} {f:List Value} {o:Obj} (J:w.ownsRow lb c a u d f) (E:(w.alloc o).grownBy w' v.ownBlock) (b: ∀k,u.ownBlock=some k->v.ownBlock≠some k):w'.ownsRow lb c a u d f:=by
 refine(J.alloc o).kept E ?_;cases h:u.ownBlock with
 |none=>exact .inl rfl
 |some k=>exact .inr fun e=>b k h e.symm
end
section
open Go.RowKit
variable {c:Nat} {L:List α} {O R:World->List Value->α->Prop}
def RL {α:Type} (size:Nat) (R:World->List Value->α->Prop) (w:World) (v:Value) (L:List α):Prop:=
 ∃A c,v=.slice A L c/\L.length<=c/\c<=maxLen/\
  (0<L.length-> ∃b o,A=some ⟨b,o,none⟩/\b<w.heap.size/\ ∀i x,L[i]? =some x-> ∃a:List Value,a.length=size/\R w a x/\ ∀j u,a[j]? =some u->w.cell? (pA b (o+i*size+j))=some u)
def RL.below (h:RL size R w v L) (s:Below B w w') (l:w.heap.size<=B) (n: ∀a x,R w a x->R w' a x):RL size R w' v L:=by obtain⟨A,c,rfl,q,k,r⟩:=h;refine⟨A,c,rfl,q,k,fun t=>?_⟩;obtain⟨b,o,rfl,d,g⟩:=r t;refine⟨b,o,rfl,bP d s.size,fun i x f=>?_⟩;obtain⟨a,m,e,y⟩:=g i x f;exact⟨a,m,n _ _ e,fun j u C=>(s.cell (p:=pA b (o+i*size+j)) (by show b<B;omega)).trans (y j u C)⟩
def RL.open_ (h:RL size R w v L): ∃A c,v=.slice A L c/\L.length<=c/\c<=9223372036854775807/\
  ∀i x,L[i]? =some x-> ∃b o,A=some ⟨b,o,none⟩/\b<w.heap.size/\ ∃a:List Value,a.length=size/\R w a x/\ ∀j u,a[j]? =some u->w.cell? (pA b (o+i*size+j))=some u:=by
 obtain⟨A,c,y,q,k,m⟩:=h;refine⟨A,c,y,q,by simpa[maxLen] using k,fun i x f=>?_⟩;obtain⟨b,o,p,s,g⟩:=m (by have:=fP f;omega);exact⟨b,o,p,s,g i x f⟩
def RL.take {A:Option Addr} (h:RL size R w (.slice A L c) L) (t:n<=L):RL size R w (.slice A n c) (L.take n):=by
 obtain⟨e,c',y,q,k,m⟩:=h;injection y with e1 _ e3
 subst e1;subst e3;have a:(L.take n).length=n:=by rw[fB];omega
 refine⟨A,c,by rw[a],oG,k,fun z=>?_⟩;obtain⟨b,o,p,s,g⟩:=m oG;refine⟨b,o,p,s,fun i x f=>g i x ?_⟩;rw[eU] at f;split at f
 ·exact f
 ·cases f
def RL.drop {b o c':Nat} (h:RL size R w (.slice (pA b o) L c) L) (t:n<=L) (v:L.length-n<=c') (d:c'<=maxLen):RL size R w (.slice (pA b (o+n*size)) (L.length-n) c') (L.drop n):=by
 obtain⟨e,c1,y,q,k,m⟩:=h;injection y with e1 _ e3
 subst e1;subst e3;refine⟨_,_,by rw[km],by rw[km];omega,d,fun z=>?_⟩;rw[km] at z;obtain⟨l,A,p,s,g⟩:=m oG;obtain⟨rfl,rfl⟩:b=l/\o=A:=by simpa using p
 refine⟨b,_,rfl,s,fun i x f=>?_⟩;rw[gS] at f;obtain⟨a,B,D,r⟩:=g (n+i) x f;refine⟨a,B,D,fun j u C=>?_⟩;have:=r j u C;rw[pz,<-nm o] at this;exact this
def OL {α:Type} (lb:Nat) (e:TypeId) (size:Nat) (O:World->List Value->α->Prop) (w:World) (v:Value) (L:List α):Prop:=
 ∃d:List (List Value),d.length=L/\(∀a∈d,a.length=size)/\w.ownsRow lb e size v L d.flatten/\ ∀(i:Nat) (x:α) (a:List Value),L[i]? =some x->d[i]? =some a->O w a x
def OL.jL (lb:Nat) (e:TypeId) (size:Nat) (O:World->List Value->α->Prop) (w:World):OL lb e size O w () []:=⟨[],rfl,by simp,gL _ _ _ _,fun i x a h=>by simp at h⟩
def OL.below (h:OL lb e size O w v L) (s:Below B w w') (l:w.heap.size<=B) (b: ∀a x,O w a x->O w' a x):OL lb e size O w' v L:=by obtain⟨d,q,k,r,m⟩:=h;exact⟨d,q,k,jq r s l,fun i x a f g=>b _ _ (m i x a f g)⟩
def OL.keep {base:Nat} {j:TypeId} (h:OL lb e size O w v L) (l:kQ j base w w') (c:e≠j) (b: ∀a x,O w a x->O w' a x):OL lb e size O w' v L:=by obtain⟨d,q,k,r,m⟩:=h;exact⟨d,q,k,l.own r c,fun i x a f g=>b _ _ (m i x a f g)⟩
def OL.mono {lb':Nat} (h:OL lb e size O w v L) (a:lb'<=lb):OL lb' e size O w v L:=by obtain⟨d,q,k,r,m⟩:=h;exact⟨d,q,k,kZ r a,m⟩
def OL.imp {c:World->List Value->α->Prop} (h:OL lb e size O w v L) (b: ∀a x,O w a x->c w a x):OL lb e size c w v L:=by obtain⟨d,q,k,r,m⟩:=h;exact⟨d,q,k,r,fun i x a f g=>b _ _ (m i x a f g)⟩
def OL.push {y:α} {d:List (List Value)} {a:List Value} (t:L.length=n) (q:d.length=n) (k: ∀a∈d,a.length=size) (o:a.length=size)
  (r:w.ownsRow lb e size v (n+1) (d.flatten++a)) (m: ∀(i:Nat) (x:α) (a:List Value),L[i]? =some x->d[i]? =some a->O w a x) (p:O w a y):OL lb e size O w v (L++[y]):=by
 subst t;refine⟨d++[a],by simp[q],fun c g=>?_,by simpa using r,fun i x c f b=>?_⟩
 ·rcases fO.1 g with h|h
  ·exact k c h
  ·obtain rfl:c=a:=by simpa using h
   exact o
 ·by_cases l:i<L
  ·rw[fu l] at f;rw[fu oG] at b;exact m i x c f b
  ·have j:i=L.length:=by have:=fP f;simp at this;omega
   subst j;rw[fo lE,pG] at f;rw[fo oG,q,pG] at b;simp only[fK,lH] at f b;subst f;subst b;exact p
def Bb (size:Nat): ∀(d:List (List Value)) (i j:Nat) (a:List Value) (u:Value),(∀a∈d,a.length=size)->d[i]? =some a->a[j]? =some u->d.flatten[i*size+j]? =some u
 | [],i,j,a,u,_,h,_=>by simp at h
 |c::d,0,j,a,u,hl,h,hu=>by simp only[fK,lH] at h;subst h;rw[qm,vq,gW,fu (fP hu),hu]
 |c::d,i+1,j,a,u,hl,h,hu=>by simp only[df] at h;have g:=hl c sI;rw[qm,fo (by rw[g,pz];omega),g];rw[show(i+1)*size+j-size=i*size+j by rw[pz];omega];exact Bb size d i j a u (fun x f=>hl x (by simp[f])) h hu
def OL.reads (h:OL lb e size O w v L) (n: ∀a x,O w a x->R w a x):RL size R w v L:=by obtain⟨d,q,k,r,m⟩:=h;obtain⟨A,c,y,B,D,_,E⟩:=RS.jh r;refine⟨A,c,y,B,D,fun t=>?_⟩;obtain⟨b,o,p,s,g⟩:=E t;refine⟨b,o,p,s,fun i x f=>?_⟩;obtain⟨a,z⟩:=ec (l:=d) (i:=i) (by have:=fP f;omega);refine⟨a,k a (a8 z),n _ _ (m i x a f z),fun j u C=>?_⟩;rw[nm];exact g _ u (Bb size d i j a u k z C)
end
section
open Go.RowKit
def BP (w:World) (base:Nat) (t x e:TypeId) (i:TypeInfo) (B:P.underlying t=some (.slice e)) (r:P.info? e=some i)
  (v:Value) (n:Nat) (l:List Value) (f:w.ownsRow base e i.size v n l) (c:Nat):(Builtin.append_ #[t,t] x #[v,.slice none 0 c]).run P w=.ok v w:=by
 rcases f.2 with ⟨rfl,rfl⟩|⟨g,cap,b,rfl,_,_,a,_⟩
 ·simp[Builtin.append_,run_underlying B,sizeOf,typeInfo,r,Builtin.lenOf,Builtin.firstCells]
 ·simp[Builtin.append_,run_underlying B,sizeOf,typeInfo,r,Builtin.lenOf,Builtin.firstCells,a,storeCells]
def rP (w:World) (base:Nat) (t x e:TypeId) (i:TypeInfo) (z:Value) (B:P.underlying t=some (.slice e)) (r:P.info? e=some i) (R:i.zero=some z)
  (C:z.cells.size=i.size) (y:0<i.size) (v:Value) (n:Nat) (l:List Value) (f:w.ownsRow base e i.size v n l)
  (A:Option Addr) (m c:Nat) (d:List Value) (N:RS w i.size (.slice A m c) m d) (F: ∀u∈d,u.oneCell'=true)
  (L:n+m<=1000000000) (q:i.bytes<=100) (g:base<=w):
  ∃p w',(Builtin.append_ #[t,t] x #[v,.slice A m c]).run P w=.ok p w'/\w'.ownsRow base e i.size p (n+m) (l++d)/\w.grownBy w' v.ownBlock:=by
 obtain⟨Q,c',O,S,T,E,K⟩:=N;injection O with e1 _ e3
 subst e1;subst e3
 rcases A with _|ad
 ·have J:m=0:=by
   rcases kV m with h0|h0
   ·exact h0
   ·obtain⟨b,o,h,_⟩:=K h0;cases h
  subst J;obtain rfl:d=[]:=gj (by simpa using E);exact⟨v,w,BP w base t x e i B r v n l f c,by simpa using f,nG w _⟩
 ·have a: ∀j u,d[j]? =some u->w.cell? (ad.add j)=some u:=by
   intro j u D
   rcases kV m with h0|h0
   ·subst h0;obtain rfl:d=[]:=gj (by simpa using E);simp at D
   ·obtain⟨b,o,h,_,M⟩:=K h0;injection h with h
    subst h;have s:((pA b o):Addr).add j=(pA b (o+j)):=by unfold Addr.add;split <;>simp_all
    rw[s];exact M j u D
  have I:(n+m)*i.bytes<=140737488355328:=by have:=kg L q;omega
  obtain⟨p,w',k,G,H,_,_⟩:=run_append_own_at (P:=P) w base t x e i z i.size i.bytes B r R rfl rfl C y v n l f ad m c d E a F mO I g;exact⟨p,w',k,G,H⟩
def kQ.ux {e:TypeId} {base size n:Nat} {w w':World} {v:Value} {l:List Value} (M:w.ownsRow base e size v n l) (a:w.grownBy w' v.ownBlock):kQ e base w w':=by
 refine⟨a.os,a.tape,a.output,a.size,fun k j f=>?_⟩;rw[a.block k j (fun c=>?_)]
 rcases M.2 with ⟨rfl,_⟩|⟨g,cap,b,rfl,i,d,_⟩
 ·simp[Value.ownBlock] at c
 ·simp[Value.ownBlock] at c;subst c
  rcases f with h|h
  ·omega
  ·exact h _ _ d
def nL {j:Array Oper} {rest:List Oper} {o:Oper} {a:Act} {Q:Exit->Act->World->Prop} (w:World) (I:o.guard=none) (s x:Operand) (t:TypeId)
  (M:o.op=.call {callee:=.builtin .append,args:= #[s,x],argTypes:= #[t,t]})
  (base:Nat) (e:TypeId) (z:Value) (size b:Nat) (B:P.underlying t=some (.slice e)) (r:(P.info? e).map (fun i=>(i.zero,i.size,i.bytes))=some (some z,size,b))
  (C:z.cells.size=size) (y:0<size) (q:b<=100)
  (v:Value) (n:Nat) (l:List Value) (f:w.ownsRow base e size v n l) (T:a.eval s=v)
  (A:Option Addr) (m c:Nat) (d:List Value) (U:a.eval x=.slice A m c) (N:RS w size (.slice A m c) m d) (F:d.all (fun u=>u.oneCell')=true)
  (L:n+m<=1000000000) (g:base<=w)
  (h: ∀p w',w'.ownsRow base e size p (n+m) (l++d)->kQ e base w w'->wpList P j Q rest (a.put o.dst p) w'):wpList P j Q (o::rest) a w:=by
 refine wpList_plain I fun K S=>?_;obtain⟨i,J,R,O,E⟩:=info_parts r;subst O;subst E;obtain⟨p,w',k,G,H⟩:=rP (P:=P) w base t o.type e i z B J R C y v n l f A m c d N (fun u D=>dT.1 F u D) L q g;unfold Oper.wp execOp;simp only[M,resolve,invoke,builtin,ks,pR,lO,mT,gN,lG,T,U,k];exact S _ _ (h p w' G (kQ.ux f H))
end
section
open Go.RowKit
section
def u9 {n:Nat} {listed:Array Bool} {a:Act} {w:World} (i j k:Nat) {x A D:Oper} {ri rj rk:List Oper} (hi:ops.toList.drop i=x::ri) (hj:ops.toList.drop j=A::rj) (hk:ops.toList.drop k=D::rk)
  (U:x.guard=none) (V:A.guard=none) (X:D.guard=none) (L:i≠j) (aa:i≠k) (M:j≠k)
  (N:Region.ready .any ops listed=[i,j]) (O:Region.ready .any ops (listed.setIfInBounds j true)=[i])
  (R:sT ops late (listed.setIfInBounds i true) k=true) (E:Region.ready .any ops ((listed.setIfInBounds i true).setIfInBounds k true)=[j]) (F:sT ops late ((listed.setIfInBounds j true).setIfInBounds i true) k=true)
  {f:FuncId} {args:Array Value} {v u:Value} (t:TypeId) (z:List Value) (hS:S w) (hd: ∀d,x.dst=some d->A.dst≠some d) (J: ∀d,D.dst=some d->A.dst≠some d)
  (Y: ∀c a w,Q (.panic c) (a.put D.dst u) w->Q (.panic c) a w)
  (B: ∀u W,(execOp (a.put A.dst u).eval x).run P W=.ok (.enter f args) W) (r: ∀W,(execOp a.eval x).run P W=.ok (.enter f args) W)
  (C: ∀W,S W->(execOp (a.put x.dst v).eval D).run P W=.ok (.value u) W) (s: ∀p W,S W->(execOp ((a.put A.dst p).put x.dst v).eval D).run P W=.ok (.value u) W)
  (Z: ∀W,S W->Calls P f args W fun e w'=>e=.returned v/\Below W W w') (l: ∀W w',S W->Below W W w'->S w')
  (y: ∀(H:Act) W,(execOp H.eval A).run P W=.ok (.value (.pointer W)) (W.alloc (cB t z)))
  (h: ∀g W,S W->W.heap[g]? =some (.cells z.toArray t (0,0))->w.heap.size<=g->Below w w W->
   il P ops Q S late n (((listed.setIfInBounds i true).setIfInBounds k true).setIfInBounds j true) (((a.put x.dst v).put D.dst u).put A.dst (.pointer g)) W):
  il P ops Q S late (n+3) listed a w:=by
 have o: ∀W:World,Below W W (W.alloc (cB t z)):=fun W=>bF.alloc lE _;have T: ∀m,m=i\/m=j->wpOp P ops Q m (fun H w'=>(late.contains m=false->S w')/\il P ops Q S late (n+2) (listed.setIfInBounds m true) H w') a w:=by
  intro m G
  rcases G with rfl|rfl
  ·unfold wpOp;simp only[pO hi,oZ U,if_true];refine .inl (J0 (r w) (Z w hS) fun w' q=>?_);have b:=l w w' hS q;refine⟨fun _=>b,ki k hk X R Y (fun W hW=>C W hW) b (vU j hj V E fun K I=>?_)⟩;unfold Oper.wp;rw[y];refine I _ _ (l _ _ b (o w')) (h w' _ (l _ _ b (o w')) (heap_alloc_new w' _) q.size (q.trans ((o w').mono q.size)))
  ·unfold wpOp;simp only[pO hj,oZ V,if_true];refine .inl ?_;unfold Oper.wp;rw[y];have b:=l _ _ hS (o w);refine⟨fun _=>b,vU i hi U O fun K I=>?_⟩;refine J0 (B _ _) (Z _ b) fun w' q=>?_;refine I _ _ (l _ _ b q) ?_;refine ki k hk X F Y (fun W hW=>s _ W hW) (l _ _ b q) ?_;have e1:=rA a v (.pointer w) hd;have e2:=rA (a.put x.dst v) u (.pointer w) J;rw[<-e1,<-e2,yo _ _ (jN L),yo _ _ M];refine h w w' (l _ _ b q) ?_ lE ((o w).trans (q.mono (o w).size));exact(q.block w sI).trans (heap_alloc_new w _)
 refine⟨(fun h0=>by rw[h0] at N;cases N),fun m G=>T m ?_⟩;rw[N] at G;simpa using G
end
end
section
section
def mL {n:Nat} {listed:Array Bool} {a:Act} {w:World} (i j:Nat) {d e:Oper} {t u:List Oper} (r:ops.toList.drop i=d::t) (s:ops.toList.drop j=e::u) (l:d.guard=none) (m:e.guard=none)
  (c:Region.ready .any ops listed=[i,j])
  (p: ∀K:Act->World->Prop,RowKit.Hid (∀b w',S w'->il P ops Q S late n (listed.setIfInBounds i true) b w'->K b w')->d.wp P a w K Q)
  (q: ∀K:Act->World->Prop,RowKit.Hid (∀b w',S w'->il P ops Q S late n (listed.setIfInBounds j true) b w'->K b w')->e.wp P a w K Q):il P ops Q S late (n+1) listed a w:=by
 refine⟨(fun o=>by rw[o] at c;cases c),fun k h=>?_⟩;rw[c] at h
 rcases (by simpa using h:k=i\/k=j) with rfl|rfl
 ·unfold wpOp;simp only[pO r,oZ l,if_true];exact .inl (p _ fun _ _ f g=>⟨fun _=>f,g⟩)
 ·unfold wpOp;simp only[pO s,oZ m,if_true];exact .inl (q _ fun _ _ f g=>⟨fun _=>f,g⟩)
end
end
section
open Go.RowKit
variable {L:List (List (List UInt8))} {a:TypeId} {l:List (List UInt8)}
def kI (l:List UInt8):Value:=.string ⟨l.toArray⟩
def kX (w:World) (v:Value) (l:List (List UInt8)):Prop:=RS w 1 v l (l.map kI)
def Vj (w:World) (d:List Value) (x:List (List UInt8)):Prop:= ∃v,d=[v]/\kX w v x
def tV (w:World) (v:Value) (L:List (List (List UInt8))):Prop:=RL 1 Vj w v L
def kX.below {w':World} {B:Nat} (h:kX w v l) (a:Below B w w') (b:w.heap.size<=B):kX w' v l:=RS.below h a b
def kX.open_ (h:kX w v l): ∃A c,v=.slice A l c/\l.length<=c/\c<=9223372036854775807/\
  ∀i s,l[i]? =some s-> ∃b o,A=some ⟨b,o,none⟩/\b<w.heap.size/\w.cell? (pA b (o+i))=some (.string ⟨s.toArray⟩):=by
 obtain⟨A,c,p,g,j,_,k⟩:=h;refine⟨A,c,p,g,by simpa[maxLen] using j,fun i z d=>?_⟩;obtain⟨b,o,m,a,n⟩:=k (by have:=fP d;omega);exact⟨b,o,m,a,n i _ (by rw[fh,d];rfl)⟩
def tV.open_ (h:tV w v L): ∃A c,v=.slice A L c/\L.length<=c/\c<=9223372036854775807/\
  ∀i x,L[i]? =some x-> ∃b o,A=some ⟨b,o,none⟩/\b<w.heap.size/\ ∃f,kX w f x/\w.cell? (pA b (o+i))=some f:=by
 obtain⟨A,c,p,g,j,k⟩:=RL.open_ h;refine⟨A,c,p,g,j,fun i x q=>?_⟩;obtain⟨b,o,m,a,d,_,⟨f,e,l⟩,n⟩:=k i x q;have:=n 0 f (by rw[e];rfl);rw[jR] at this;exact⟨b,o,m,a,f,l,this⟩
def Mv (lb:Nat) (a:TypeId) (w:World) (d:List Value) (x:List (List UInt8)):Prop:= ∃v,d=[v]/\w.ownsRow lb a 1 v x (x.map kI)
def sj (lb:Nat) (b a:TypeId) (w:World) (v:Value) (L:List (List (List UInt8))):Prop:=OL lb b 1 (Mv lb a) w v L
def Mv.reads {d:List Value} {x:List (List UInt8)} (h:Mv lb a w d x):Vj w d x:=by obtain⟨v,e,l⟩:=h;exact⟨v,e,RS.jh l⟩
def sj.reads {b:TypeId} (h:sj lb b a w v L):tV w v L:=OL.reads h fun _ _=>Mv.reads
def sj.jL (lb:Nat) (b a:TypeId) (w:World):sj lb b a w () []:=OL.jL _ _ _ _ _
end
section
open Go.RowKit jm
variable {a:World}
def fc.newAt (w:World) (t:TypeId) (a:List Value) {g:Nat} (b:g=w):fc (w.alloc (cB t a)) g t a:=by subst b;exact fc.new w t a
def jX (h:Below a a w) (o:Obj):Below a a (w.alloc o):=h.alloc h.size o
def kB {w':World} (h:Below a a w) (b:Below w w w'):Below a a w':=h.trans (b.mono h.size)
end
section
open Go Go.RowKit
theorem VB{p:Prop}(h:p:=by
 obtain⟨d,c,l,K⟩:=h.find k;have G:(Instr.checkKey d.isEmpty 10000 kt (vI k)).run P w=.ok () w:=mu z (CQ k) _ 9999
 rcases K with ⟨p,s⟩|⟨j,v,p,s,_⟩
 ·simp[Instr.lookup,run_underlying J,iI l,G,jY z s,a,Result.andThen,p]
 ·simp[Instr.lookup,run_underlying J,iI l,G,jY z s,Result.andThen,p]):p:=h
variable {b:Nat}
abbrev vI (z:Int):Value:=.int .i64 z
def qQ (f:Int->Option Int) (k:Int) (v:Option Int):Int->Option Int:=fun x=>if x=k then v else f x
structure nO (w:World) (b:Nat) (f:Int->Option Int):Prop where
 ex: ∃es clock,w.heap[b]? =some (.map es clock)/\(∀e∈es.toList,∃k v,e.key=vI k/\e.val=vI v/\f k=some v)/\(∀k v,f k=some v-> ∃e∈es.toList,e.key=vI k/\e.val=vI v)/\(es.toList.map (·.key)).Nodup
def nO.lt (h:nO w b f):b<w.heap.size:=by obtain⟨d,c,l,_⟩:=h.ex;exact(aah.1 l).1
def nO.at {w':World} (h:nO w b f) (a:w'.heap[b]? =w.heap[b]?):nO w' b f:=by obtain⟨d,c,l,r⟩:=h.ex;exact⟨d,c,a.trans l,r⟩
def nO.new (w:World):nO (w.alloc (.map #[] 0)) w (fun _=>none):=⟨#[],0,heap_alloc_new w _,by simp,by simp,by simp⟩
def AF {α:Type}: ∀{l:List α} {i j:Nat} {a:α},l.Nodup->l[i]? =some a->l[j]? =some a->i=j
 |x::l,0,0,_,_,_,_=>rfl
 |x::l,0,j+1,a,h,h1,h2=>by simp at h1 h2;subst h1;exact absurd (a8 h2) (nM.1 h).1
 |x::l,i+1,0,a,h,h1,h2=>by simp at h1 h2;subst h2;exact absurd (a8 h1) (nM.1 h).1
 |x::l,i+1,j+1,a,h,h1,h2=>by simp at h1 h2;rw[AF (nM.1 h).2 h1 h2]
 | [],_,_,_,_,h1,_=>by simp at h1
section
variable {kt et:TypeId} {b:Nat}
def CQ (k:Int):MapKept.IsKey (.int .i64) (vI k):=rfl
def nO.find (h:nO w b f) (k:Int): ∃d c,w.heap[b]? =some (.map d c)/\
  ((f k=none/\Instr.findNow (.int .i64) (vI k) d.toList 0=some none)\/ ∃j v,f k=some v/\Instr.findNow (.int .i64) (vI k) d.toList 0=some (some (j,vI v))/\ ∃e,d[j]? =some e/\e.key=vI k):=by
 obtain⟨d,c,l,K,g,m⟩:=h.ex;refine⟨d,c,l,?_⟩;have a: ∀x∈d.toList,MapKept.IsKey (.int .i64) x.key:=fun x q=>by obtain⟨k,v,p,_⟩:=K x q;rw[p];rfl
 rcases MapKept.findNow_spec (CQ k) d.toList 0 a with ⟨r,B⟩|⟨j,e,r,B,C⟩
 ·refine .inl ⟨?_,r⟩;cases T:f k with
  |none=>rfl
  |some v=>
   obtain⟨e,i,p,_⟩:=g k v T;exact absurd p (B e i)
 ·obtain⟨A,v,p,s,E⟩:=K e (a8 B);rw[C] at p;have z:k=A:=by cases p;rfl
  subst z;exact .inr ⟨j,v,E,by rw[r,s,gW],e,by rw[<-B];simp,C⟩
def nO.Vz (h:nO w b f) (J:P.underlying t=some (.map kt et)) (z:P.underlying kt=some (.int .i64)) (a:(zeroValue et).run P w=.ok (vI 0) w) (k:Int):
  (Instr.lookup t (.map (some b)) (vI k) true).run P w=.ok (.tuple #[vI ((f k).getD 0),.bool (f k).isSome]) w:=by
 exact VB
def nO.MM (h:nO w b f) (J:P.underlying t=some (.map kt et)) (z:P.underlying kt=some (.int .i64)) (a:(zeroValue et).run P w=.ok (vI 0) w) (k:Int):
  (Instr.lookup t (.map (some b)) (vI k) false).run P w=.ok (vI ((f k).getD 0)) w:=by
 exact VB
def wO (w:World) (b:Nat) (o:Obj):w.grownBy {w with heap:=w.heap.setIfInBounds b o} (some b):=
 ⟨rfl,rfl,rfl,by simp,fun k _ n=>by show(w.heap.setIfInBounds b o)[k]? =_;rw[iQ (fun e=>n (by rw[e]))]⟩
def nO.put (h:nO w b f) (J:P.underlying t=some (.map kt et)) (z:P.underlying kt=some (.int .i64)) (k v:Int):
  ∃w',(Instr.mapUpdate t (.map (some b)) (vI k) (vI v)).run P w=.ok () w'/\nO w' b (qQ f k (some v))/\w'.heap.size=w/\w.grownBy w' (some b):=by
 obtain⟨d,c,l,K⟩:=h.find k;obtain⟨U,L,y,R,S,Q⟩:=h.ex;rw[l] at y;cases y;have I:=(aah.1 l).1;have G:(Instr.checkKey false 10000 kt (vI k)).run P w=.ok () w:=mu z (CQ k) _ 9999
 rcases K with ⟨p,s⟩|⟨j,Z,p,s,e,E,M⟩
 ·refine⟨_,by simp[Instr.mapUpdate,run_underlying J,iI l,G,jY z s,mV _ l,Result.andThen];rfl,⟨d.push {key:=vI k,val:=vI v,born:=c},c+1,by simp[I],fun x q=>?_,fun A F D=>?_,?_⟩,by simp,wO w b _⟩
  ·simp only[acO,fO,nw] at q
   rcases q with q|rfl
   ·obtain⟨A,F,r,B,C⟩:=R x q;have n:A≠k:=fun e=>by rw[e,p] at C;cases C
    exact⟨A,F,r,B,by unfold qQ;rw[if_neg n];exact C⟩
   ·exact⟨k,v,rfl,rfl,by unfold qQ;rw[if_pos rfl]⟩
  ·unfold qQ at D;split at D
   ·rename_i e;cases D;exact⟨{key:=vI k,val:=vI v,born:=c},by simp,by rw[e],rfl⟩
   ·obtain⟨x,q,g⟩:=S A F D;exact⟨x,by simp[q],g⟩
  ·simp only[acO,gJ,gN,lG];refine List.nodup_append.2 ⟨Q,by simp,fun a X b y=>?_⟩;simp at y;subst y;obtain⟨x,q,rfl⟩:=cy.1 X;obtain⟨A,F,r,B,C⟩:=R x q;rw[r];intro e;cases e;rw[p] at C;cases C
 ·have u: ∀x,x∈(d.modify j fun e=>{e with key:=vI k,val:=vI v}).toList->(x.key=vI k/\x.val=vI v)\/(x∈d.toList/\x.key≠vI k):=fun x q=>by
   obtain⟨i,o⟩:=gz.1 q;rw[fA,jc] at o;by_cases m:j=i
   ·subst m;rw[if_pos rfl,E] at o;simp at o;exact .inl ⟨by rw[<-o],by rw[<-o]⟩
   ·rw[if_neg m] at o;refine .inr ⟨a8 (i:=i) (by rw[fA];exact o),fun H=>m ?_⟩;have O:(d.toList.map (·.key))[j]? =some (vI k):=by rw[fh,fA,E];simp[M]
    have N:(d.toList.map (·.key))[i]? =some (vI k):=by rw[fh,fA,o];simp[H]
    exact AF Q O N
  have T: ∃x∈(d.modify j fun e=>{e with key:=vI k,val:=vI v}).toList,x.key=vI k/\x.val=vI v:=
   ⟨{e with key:=vI k,val:=vI v},a8 (i:=j) (by rw[fA,jc,if_pos rfl,E];rfl),rfl,rfl⟩
  refine⟨_,by simp[Instr.mapUpdate,run_underlying J,iI l,G,jY z s,E,M,MapKept.run_keyThatStays (CQ k),mV _ l,Result.andThen];rfl,⟨d.modify j fun e=>{e with key:=vI k,val:=vI v},c,by simp[I],fun x q=>?_,fun A F D=>?_,?_⟩,by simp,wO w b _⟩
  ·rcases u x q with ⟨r,B⟩|⟨r,B⟩
   ·exact⟨k,v,r,B,by unfold qQ;rw[if_pos rfl]⟩
   ·obtain⟨A,F,C,V,W⟩:=R x r;have n:A≠k:=fun e=>B (by rw[C,e]);exact⟨A,F,C,V,by unfold qQ;rw[if_neg n];exact W⟩
  ·unfold qQ at D;split at D
   ·rename_i e;cases D;rw[e];exact T
   ·rename_i n;obtain⟨x,q,r,B⟩:=S A F D;obtain⟨i,o⟩:=gz.1 q;refine⟨x,a8 (i:=i) ?_,r,B⟩;have m:j≠i:=fun e=>by subst e;rw[fA,E] at o;cases o;rw[M] at r;cases r;exact n rfl
    rw[fA,jc,if_neg m,<-fA];exact o
  ·have:(d.modify j fun e=>{e with key:=vI k,val:=vI v}).toList.map (·.key)=d.toList.map (·.key):=by
    refine gy fun i=>?_;rw[fh,fh,fA,fA,jc];by_cases m:j=i
    ·subst m;rw[if_pos rfl,E];simp[M]
    ·rw[if_neg m]
   rw[this];exact Q
def nO.del (h:nO w b f) (J:P.underlying t=some (.map kt et)) (z:P.underlying kt=some (.int .i64)) (k:Int) (Y:TypeId):
  ∃w' u,(Builtin.delete_ #[t,kt] Y #[.map (some b),vI k]).run P w=.ok u w'/\nO w' b (qQ f k none)/\w'.heap.size=w/\w.grownBy w' (some b):=by
 obtain⟨d,c,l,K⟩:=h.find k;obtain⟨U,L,y,R,S,Q⟩:=h.ex;rw[l] at y;cases y;have I:=(aah.1 l).1;have G: ∀e,(Instr.checkKey e 10000 kt (vI k)).run P w=.ok () w:=fun e=>mu z (CQ k) e 9999
 rcases K with ⟨p,s⟩|⟨j,Z,p,s,e,E,M⟩
 ·have T:qQ f k none=f:=funext fun x=>by
   unfold qQ;split
   ·rename_i e;rw[e,p]
   ·rfl
  refine⟨_,_,by simp[Builtin.delete_,run_underlying J,iI l,G,jY z s,mV _ l,Result.andThen];exact⟨rfl,rfl⟩,⟨d,c,by simp[I],?_,?_,Q⟩,by simp,wO w b _⟩
  ·rw[T];exact R
  ·rw[T];exact S
 ·have X:j<d.size:=(aah.1 E).1;have v: ∀i x,i≠j->d[i]? =some x->x.key≠vI k:=fun i x m o H=>by
   have O:(d.toList.map (·.key))[j]? =some (vI k):=by rw[fh,fA,E];simp[M]
   have N:(d.toList.map (·.key))[i]? =some (vI k):=by rw[fh,fA,o];simp[H]
   exact m (AF Q N O)
  have g: ∀x,x∈d.toList.eraseIdx j↔ ∃i,i≠j/\d[i]? =some x:=fun x=>by rw[List.mem_eraseIdx_iff_getElem?];simp only[fA]
  have a:(d.eraseIdxIfInBounds j).toList=d.toList.eraseIdx j:=by unfold Array.eraseIdxIfInBounds;rw[dif_pos X];simp
  refine⟨_,_,by simp[Builtin.delete_,run_underlying J,iI l,G,jY z s,mV _ l,Result.andThen];exact⟨rfl,rfl⟩,⟨d.eraseIdxIfInBounds j,c,by simp[I],fun x q=>?_,fun A F D=>?_,?_⟩,by simp,wO w b _⟩
  ·rw[a,g] at q;obtain⟨i,m,o⟩:=q;obtain⟨A,F,C,V,W⟩:=R x (a8 (i:=i) (by rw[fA];exact o));have n:A≠k:=fun e=>v i x m o (by rw[C,e]);exact⟨A,F,C,V,by unfold qQ;rw[if_neg n];exact W⟩
  ·unfold qQ at D;split at D
   ·cases D
   ·rename_i n;obtain⟨x,q,r,B⟩:=S A F D;obtain⟨i,o⟩:=gz.1 q;rw[fA] at o;refine⟨x,?_,r,B⟩;rw[a,g];refine⟨i,fun e=>?_,o⟩;rw[e,E] at o;cases o;rw[M] at r;cases r;exact n rfl
  ·rw[a];exact List.Nodup.sublist ((List.eraseIdx_sublist _ _).map _) Q
end
end
namespace PF
open Go.Proofs.YtgimnjldndkalaaGreatDoor
variable {a b:Int×Int} {j:Nat} {id u:Int}
abbrev Hp:=List (Int×Int)
variable {L:Hp}
def vn (L:Hp) (f:Int->Option Int):Prop:= ∀(id k:Int),f id=some k↔ ∃i:Nat,k=i/\ ∃u,L[i]? =some (id,u)
def qI (L:Hp) (i j:Nat):Hp:=match L[i]?,L[j]? with
 |some a,some b=>(L.set i b).set j a
 |_,_=>L
def vn.jL:vn [] (fun _=>none):=fun id k=>by simp
def vn.inj (h:vn L f) {v:Int} (d:L[i]? =some (id,u)) (g:L[j]? =some (id,v)):i=j:=by have l:=(h id i).2 ⟨i,rfl,u,d⟩;have m:=(h id j).2 ⟨j,rfl,v,g⟩;rw[l] at m;cases m;rfl
def DH (d:L[i]? =some a) (g:L[j]? =some b):qI L i j=(L.set i b).set j a:=by unfold qI;rw[d,g]
def E1 (L:Hp) (i j:Nat):(qI L i j).length=L.length:=by unfold qI;split <;>simp
def mH (d:L[i]? =some a) (g:L[j]? =some b) (k:Nat):(qI L i j)[k]? =if k=j then some a else if k=i then some b else L[k]? :=by
 have l:=(bX.1 d).1;have m:=(bX.1 g).1;rw[DH d g];by_cases c:k=j
 ·subst c;rw[if_pos rfl,iT (by simpa using m)]
 ·rw[if_neg c,iu (fun e=>c e.symm)];by_cases f:k=i
  ·subst f;rw[if_pos rfl,iT l]
  ·rw[if_neg f,iu (fun e=>f e.symm)]
def vn.swap (h:vn L f) (d:L[i]? =some a) (g:L[j]? =some b):
  vn (qI L i j) (qQ (qQ f b.1 (some i)) a.1 (some j)):=by
 intro id k;unfold qQ;constructor
 ·intro c;by_cases n:id=a.1
  ·rw[if_pos n] at c;cases c;exact⟨j,rfl,a.2,by rw[mH d g,if_pos rfl,n]⟩
  ·rw[if_neg n] at c;by_cases l:id=b.1
   ·rw[if_pos l] at c;cases c;have o:i≠j:=fun e=>by subst e;rw[d] at g;cases g;exact n l
    exact⟨i,rfl,b.2,by rw[mH d g,if_neg o,if_pos rfl,l]⟩
   ·rw[if_neg l] at c;obtain⟨q,rfl,u,m⟩:=(h id k).1 c;refine⟨q,rfl,u,?_⟩;rw[mH d g,if_neg,if_neg,m]
    ·intro e;subst e;rw[d] at m;cases m;exact n rfl
    ·intro e;subst e;rw[g] at m;cases m;exact l rfl
 ·rintro⟨q,rfl,u,m⟩;rw[mH d g] at m;by_cases n:q=j
  ·rw[if_pos n] at m;cases m;rw[if_pos rfl,n]
  ·rw[if_neg n] at m;by_cases l:q=i
   ·rw[if_pos l] at m;cases m;have o:id≠a.1:=fun e=>by have p:i=j:=h.inj (id:=a.1) (u:=a.2) (v:=u) d (by rw[g,e]);exact n (l.trans p)
    rw[if_neg o,if_pos rfl,l]
   ·rw[if_neg l] at m;have r:id≠a.1:=fun e=>l (h.inj (id:=a.1) (u:=u) (v:=a.2) (by rw[m,e]) d);have s:id≠b.1:=fun e=>n (h.inj (id:=b.1) (u:=u) (v:=b.2) (by rw[m,e]) g);rw[if_neg r,if_neg s];exact(h id q).2 ⟨q,rfl,u,m⟩
def L6 (d:L[i]? =some a) (g:L[j]? =some b): ∀x,x∈qI L i j↔x∈L:=by
 intro x;simp only[gz];constructor
 ·rintro⟨k,c⟩;rw[mH d g] at c;split at c
  ·cases c;exact⟨i,d⟩
  ·split at c
   ·cases c;exact⟨j,g⟩
   ·exact⟨k,c⟩
 ·rintro⟨k,c⟩;by_cases n:k=i
  ·subst n;rw[d] at c;cases c;exact⟨j,by rw[mH d g,if_pos rfl]⟩
  ·by_cases l:k=j
   ·subst l;rw[g] at c;cases c;exact⟨i,by rw[mH d g,if_neg (fun e=>n e.symm),if_pos rfl]⟩
   ·exact⟨k,by rw[mH d g,if_neg l,if_neg n];exact c⟩
def vn.push (h:vn L f) (u:Int) (g:f id=none):vn (L++[(id,u)]) (qQ f id (some L)):=by
 intro a k;unfold qQ;constructor
 ·intro c;by_cases e:a=id
  ·rw[if_pos e] at c;cases c;exact⟨L.length,rfl,u,by rw[fo lE];simp[e]⟩
  ·rw[if_neg e] at c;obtain⟨i,rfl,v,b⟩:=(h a k).1 c;exact⟨i,rfl,v,by rw[fu (bX.1 b).1];exact b⟩
 ·rintro⟨i,rfl,v,b⟩
  rcases iU i L with hlt|hge
  ·rw[fu hlt] at b;have l:=(h a i).2 ⟨i,rfl,v,b⟩;have o:a≠id:=fun e=>by rw[e,g] at l;cases l
   rw[if_neg o];exact l
  ·have d:=(bX.1 b).1;have e:i=L.length:=by simp at d;omega
   subst e;rw[fo lE] at b;simp at b;rw[if_pos b.1.symm]
def vn.pop (h:vn (L++[(id,u)]) f):vn L (qQ f id none):=by
 have g:(L++[(id,u)])[L.length]? =some (id,u):=by rw[fo lE];simp
 intro a k;unfold qQ;constructor
 ·intro c;by_cases e:a=id
  ·rw[if_pos e] at c;cases c
  ·rw[if_neg e] at c;obtain⟨i,rfl,v,b⟩:=(h a k).1 c;refine⟨i,rfl,v,?_⟩
   rcases iU i L with hlt|hge
   ·rwa [fu hlt] at b
   ·have d:=(bX.1 b).1;have l:i=L.length:=by simp at d;omega
    subst l;rw[g] at b;cases b;exact absurd rfl e
 ·rintro⟨i,rfl,v,b⟩;have j:(L++[(id,u)])[i]? =some (a,v):=by rw[fu (bX.1 b).1];exact b
  have o:a≠id:=fun e=>by have:=h.inj (id:=id) (u:=v) (v:=u) (by rw[j,e]) g;have:=(bX.1 b).1;omega
  rw[if_neg o];exact(h a i).2 ⟨i,rfl,v,j⟩
structure D5 (n:Nat) (L L':Hp):Prop where
 len:L'.length=L
 mem: ∀x,x∈L'↔x∈L
 tl: ∀k,n<=k->L'[k]? =L[k]?
def D5.refl (n:Nat) (L:Hp):D5 n L L:=⟨rfl,fun _=>Iff.rfl,fun _ _=>rfl⟩
def D5.trans {A B C:Hp} (h:D5 n A B) (k:D5 n B C):D5 n A C:=⟨k.len.trans h.len,fun x=>(k.mem x).trans (h.mem x),fun q a=>(k.tl q a).trans (h.tl q a)⟩
def D5.swap (d:i<n) (g:j<n):D5 n L (qI L i j):=by
 unfold qI;cases l:L[i]? with
 |none=>exact D5.refl _ _
 |some a=>
  cases m:L[j]? with
  |none=>exact D5.refl _ _
  |some b=>
   dsimp only;rw[<-DH l m];exact⟨E1 _ _ _,L6 l m,fun k c=>by rw[mH l m,if_neg oG,if_neg oG]⟩
end PF
section
open jm ko kN
variable {T:List Tr} {a b:Tr} {k:Nat}
def BH (L:Tr) (T:List Tr) (f:Int->Option Int):Prop:= ∀s∈L,∃(i:Nat) (t:Tr),f s.1=some (i:Int)/\T[i]? =some t/\s.1∈t.map Prod.fst
def yO (f:Int->Option Int) (b:Tr) (i:Int):Int->Option Int:=b.foldl (fun f s=>qQ f s.1 (some i)) f
def xn (T:List Tr) (i k:Nat) (l:Tr):List Tr:=(T.set i l).set k []
def QM (b:Tr) (i c:Int): ∀f,yO f b i c=if c∈b.map Prod.fst then some i else f c:=by
 induction b with
 |nil=>intro f;simp[yO]
 |cons s b ih=>
  intro f;show yO (qQ f s.1 (some i)) b i c=_;rw[ih];unfold qQ;by_cases h:c∈b.map Prod.fst
  ·rw[if_pos h,if_pos (by simp only[gN,fC];exact .inr h)]
  ·rw[if_neg h];by_cases d:c=s.1
   ·rw[if_pos d,if_pos (by rw[d];simp)]
   ·rw[if_neg d,if_neg (by simp only[gN,fC];rintro(e|e);exact d e;exact h e)]
def BH.join {L:Tr} {f:Int->Option Int} (h:BH L T f) (l:T[i]? =some a) (p:T[k]? =some b) (c:i≠k):BH L (xn T i k (a++b)) (yO f b i):=by
 intro s g;have u:=(bX.1 l).1;have m:(xn T i k (a++b))[i]? =some (a++b):=by unfold xn;rw[iu (jN c),iT u]
 rw[QM];by_cases r:s.1∈b.map Prod.fst
 ·rw[if_pos r];exact⟨i,_,rfl,m,by rw[gJ];exact List.mem_append_right _ r⟩
 ·rw[if_neg r];obtain⟨j,t,q,d,e⟩:=h s g;by_cases n:j=i
  ·subst n;rw[l] at d;cases d;exact⟨j,_,q,m,by rw[gJ];exact List.mem_append_left _ e⟩
  ·by_cases o:j=k
   ·subst o;rw[p] at d;cases d;exact absurd e r
   ·exact⟨j,t,q,by unfold xn;rw[iu (jN o),iu (jN n)];exact d,e⟩
def xS (T:List Tr):Nat:=(T.map List.length).sum
def CY (T:List Tr): ∀{i:Nat} {a:Tr},T[i]? =some a-> ∀l:Tr,xS (T.set i l)+a.length=xS T+l.length:=by
 unfold xS
 induction T with
 |nil=>intro i a h;simp at h
 |cons t T ih=>
  intro i a h l;cases i with
  |zero=>simp at h;subst h;simp;omega
  |succ i=>have:=ih (by simpa using h) l;simp only[fI,gN,yu];omega
def Oa (l:T[i]? =some a) (p:T[k]? =some b) (c:i≠k):xS (xn T i k (a++b))=xS T:=by have q:=CY T l (a++b);have d:=CY (T.set i (a++b)) (i:=k) (a:=b) (by rw[iu c];exact p) [];unfold xn;rw[fa] at q;simp at d;omega
def um {t:Tr} (h:T[i]? =some t):t.length<=xS T:=by have:=CY T h [];simp at this;omega
def QN {n:Nat} (h: ∀t∈T,jK n t) (l:T[i]? =some a) (p:T[k]? =some b): ∀t∈xn T i k (a++b),jK n t:=by
 intro t c
 rcases lU c with c|rfl
 ·rcases lU c with c|rfl
  ·exact h t c
  ·intro s g
   rcases fO.1 g with g|g
   ·exact h a (a8 l) s g
   ·exact h b (a8 p) s g
 ·exact jK.jL n
def Pt (T:List Tr):yw (T.filter fun t=>0<t.length)<=2*xS T:=by
 unfold yw xS
 induction T with
 |nil=>simp
 |cons t T ih=>rw[Mo];split <;>simp_all <;>omega
def N9 (T:List Tr) (i k:Nat) (l:Tr):(xn T i k l).length=T.length:=by unfold xn;simp
end
end Go.Proofs.YtgimnjldndkalaaGreatDoor
