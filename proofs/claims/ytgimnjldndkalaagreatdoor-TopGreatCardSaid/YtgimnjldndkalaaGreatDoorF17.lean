/- Of the proof of TopGreat: What is known of a day ahead of a stop that is put in, in memory. -/
import Derived.Test.YtgimnjldndkalaaGreatDoorF41
import Derived.Test.YtgimnjldndkalaaGreatDoorF13
import Derived.Test.YtgimnjldndkalaaGreatDoorF9
import Derived.Test.YtgimnjldndkalaaGreatDoorF43
import Derived.Test.YtgimnjldndkalaaGreatDoorF26
set_option linter.all false
set_option maxHeartbeats 8000000
set_option maxRecDepth 100000
namespace Go.Proofs.YtgimnjldndkalaaGreatDoor
variable {tw:Bool} {z:Int} {q:List Int} {b i lb n:Nat} {D D' O:Nat->Prop} {ev fv lv onv v:Value} {W W' w w':World}
section
open Go.Proofs.Tryz
open Go.RowKit jm ko kN P15
variable {d:Dy} {l:List Int}
def RS.at {size n:Nat} {i:List Value} (h:RS w size v n i) (d: ∀g,v.ownBlock=some g->w'.heap[g]? =w.heap[g]?) (e:w.heap.size<=w'):RS w' size v n i:=by obtain⟨A,c,rfl,l,m,p,q⟩:=h;refine⟨A,c,rfl,l,m,p,fun f=>?_⟩;obtain⟨b,o,rfl,a,k⟩:=q f;exact⟨b,o,rfl,bP a e,fun j u r=>(oD (d b rfl)).trans (k j u r)⟩
def OE.vo {g:Nat} {t:TypeId} {a:List Value} {q:Addr} (h:OE lb w v l) (e:fc w g t a) (c:t≠48) (b:q.block=g) (u:Value):OE lb (w.setCell q u) v l:=RR h e c b u
def OE.reads (h:OE lb w v l):gx w .i64 v l:=RS.jh h
def xA.keep {base:Nat} {e:TypeId} {d:Value} {f b:List Int} (h:xA lb w fv d lv f b l) (a:kQ e base w w') (c:3≠e):xA lb w' fv d lv f b l:=⟨h.hf.keep a c,h.hb.keep a c,h.hl.keep a c,h.d1,h.d2,h.d3⟩
abbrev nD (x:fS) (A1:Option Addr) (c1:Nat) (A2:Option Addr) (c2:Nat) (Ad:Option Addr) (n cd:Nat) (onv:Value) (tw:Bool) (fv:Value) (bad:Int) (lv ev:Value):List Value:=
 (yX x A1 c1 A2 c2 [.slice Ad n cd,onv,tw,fv,bad,lv,ev])
def uq:(prog.info? 375).map (·.size)=some 13:=kR
structure vt (W:World) (d:Dy) (onv:Value) (tw:Bool) (fv lv ev:Value):Prop where
 tw:tw=false->(oN d).Nodup
 on:gx W .i64 onv (qU (oN d))
 f: ∃F,gx W .i64 fv F/\F.length=d
 l: ∃L,gx W .i64 lv L/\L.length=d
 e: ∃E,gx W .i64 ev E/\E.length=d
def InO (O:Nat->Prop) (v:Value):Prop:= ∀g,v.ownBlock=some g->O g
def gx.kept (h:gx W .i64 v l) (d:InO O v) (c: ∀k,O k->W'.heap[k]? =W.heap[k]?) (e:W.heap.size<=W'):gx W' .i64 v l:=RS.at h (fun g a=>c g (d g a)) e
def vt.kept (h:vt W d onv tw fv lv ev) (l:InO O onv) (m:InO O fv) (p:InO O lv) (q:InO O ev) (c: ∀k,O k->W'.heap[k]? =W.heap[k]?) (e:W.heap.size<=W'):
  vt W' d onv tw fv lv ev:=by
 obtain⟨a,b,⟨F,c1,c2⟩,⟨L,f,g⟩,E,i,j⟩:=h;exact⟨a,b.kept l c e,⟨F,c1.kept m c e,c2⟩,⟨L,f.kept p c e,g⟩,E,i.kept q c e,j⟩
def vt.below {B:Nat} (h:vt W d onv tw fv lv ev) (e:Below B W W') (c:W.heap.size<=B):vt W' d onv tw fv lv ev:=by obtain⟨a,b,⟨F,c1,c2⟩,⟨L,f,g⟩,E,i,j⟩:=h;exact⟨a,b.below e c,⟨F,c1.below e c,c2⟩,⟨L,f.below e c,g⟩,E,i.below e c,j⟩
structure PW (n:Nat) (d:Dy) (s:vg) (t p:Int):Prop where
 sok:xd n s
 nd:(oN d).Nodup
 nin:s.1∉oN d
 at_:(∃(k:Nat) (u:Tr) (j:Nat),t=k/\d[k]? =some u/\p=j/\j<=u)\/(t=d/\p=0)
def Sd (n:Nat) (d:Dy) (s:vg):Vi:=fun k _ _ x=> ∃t p m:Int,x= #[.agg #[t,p,m]]/\PW n d s t p/\k<=yw d
structure mi (n0 kb sb:Nat) (w0:World) (x:fS) (A1:Option Addr) (c1:Nat) (A2:Option Addr) (c2:Nat) (Ad:Option Addr) (cd:Nat) (d:Dy) (onv:Value) (tw:Bool) (fv:Value) (bad:Int) (lv ev:Value) (z q:Int) (O:Nat->Prop) (W:World):Prop where
 bl:Below n0 w0 W
 k:fc W kb 375 (nD x A1 c1 A2 c2 Ad d cd onv tw fv bad lv ev)
 s:fc W sb 84 [z,q]
 r:vt W d onv tw fv lv ev
 ok:O kb
 os:O sb
 o1:InO (fun b=>O b\/b<n0) onv
 o2:InO (fun b=>O b\/b<n0) fv
 o3:InO (fun b=>O b\/b<n0) lv
 o4:InO (fun b=>O b\/b<n0) ev
 lt: ∀k,O k->k<W.heap.size
section
variable {n0 kb sb:Nat} {w0:World} {x:fS} {A1:Option Addr} {c1:Nat} {A2:Option Addr} {c2:Nat} {Ad:Option Addr} {cd:Nat} {d:Dy} {bad:Int} {q:Int}
def mi.step (h:mi n0 kb sb w0 x A1 c1 A2 c2 Ad cd d onv tw fv bad lv ev z q O W) (e:Below n0 W W') (c: ∀k,O k->W'.heap[k]? =W.heap[k]?):mi n0 kb sb w0 x A1 c1 A2 c2 Ad cd d onv tw fv bad lv ev z q O W':=
 ⟨h.bl.trans e,(c kb h.ok).trans h.k,(c sb h.os).trans h.s,h.r.kept h.o1 h.o2 h.o3 h.o4 (fun k a=>a.elim (c k) (e.block k)) e.size,h.ok,h.os,h.o1,h.o2,h.o3,h.o4,fun k a=>bP (h.lt k a) e.size⟩
def mi.more {b:Nat->Prop} (h:mi n0 kb sb w0 x A1 c1 A2 c2 Ad cd d onv tw fv bad lv ev z q O W) (c: ∀k,O k->b k) (e: ∀k,b k->k<W.heap.size):mi n0 kb sb w0 x A1 c1 A2 c2 Ad cd d onv tw fv bad lv ev z q b W:=
 ⟨h.bl,h.k,h.s,h.r,c _ h.ok,c _ h.os,fun g a=>(h.o1 g a).imp (c _) id,fun g a=>(h.o2 g a).imp (c _) id,fun g a=>(h.o3 g a).imp (c _) id,fun g a=>(h.o4 g a).imp (c _) id,e⟩
def mi.below (h:mi n0 kb sb w0 x A1 c1 A2 c2 Ad cd d onv tw fv bad lv ev z q O W) (e:Below W W W') (f:n0<=W):mi n0 kb sb w0 x A1 c1 A2 c2 Ad cd d onv tw fv bad lv ev z q O W':=
 h.step (e.mono f) fun k a=>e.block k (h.lt k a)
end
end
section
open Go Go.RowKit jm ko kN P15
variable {m:Value} {t:Tr}
def OT.jh {lb:Nat} {w:World} {v:Value} {d:Dy} {tvs:List Value} (h:w.ownsRow lb 44 1 v d tvs) (b: ∀(i:Nat) (t:Tr),d[i]? =some t-> ∃m,tvs[i]? =some m/\OS lb w m t):OT lb w v d:=by
 have c:tvs.length=d.length:=by have:=h.1;omega
 have I:(tvs.map fun u=>[u]).flatten=tvs:=by
  clear h b c
  induction tvs with
  |nil=>rfl
  |cons a l ih=>simp[ih]
 refine⟨tvs.map fun u=>[u],by simpa using c,fun g e=>?_,by rw[I];exact h,fun i x g k f=>?_⟩
 ·obtain⟨u,-,rfl⟩:=cy.1 e;rfl
 ·obtain⟨m,j,p⟩:=b i x k;rw[fh,j] at f;cases f;exact⟨m,rfl,OS.ol p⟩
def PJ (a b:Value):Prop:= ∀g,a.ownBlock=some g->b.ownBlock≠some g
structure CT (lb:Nat) (w:World) (v:Value) (tvs:List Value) (d:Dy):Prop where
 own:w.ownsRow lb 44 1 v d tvs
 os: ∀(i:Nat) (t:Tr),d[i]? =some t-> ∃tv,tvs[i]? =some tv/\OS lb w tv t
 lt: ∀u∈tvs,∀g,u.ownBlock=some g->g<w.heap.size
 ap:tvs.Pairwise PJ
section
variable {tvs:List Value} {d:Dy}
def CT.jL (lb:Nat) (w:World):CT lb w () [] []:=⟨gL _ _ _ _,fun i t h=>by simp at h,fun u h=>by simp at h,List.Pairwise.nil⟩
def CT.below (h:CT lb w v tvs d) (o:Below w w w'):CT lb w' v tvs d:=
 ⟨jq h.own o lE,fun i t f=>by obtain⟨m,j,p⟩:=h.os i t f;exact⟨m,j,p.below o lE⟩,fun u l g r=>bP (h.lt u l g r) o.size,h.ap⟩
def CT.fG (h:CT lb w v tvs d) {q:Addr} (a:q.block<lb) (u:Value):CT lb (w.setCell q u) v tvs d:=
 ⟨jo h.own a u,fun i t f=>by obtain⟨m,j,p⟩:=h.os i t f;exact⟨m,j,p.fG a u⟩,fun u l g r=>by simpa using h.lt u l g r,h.ap⟩
def CT.mono {lb':Nat} (h:CT lb w v tvs d) (c:lb'<=lb):CT lb' w v tvs d:=⟨kZ h.own c,fun i t f=>by obtain⟨m,j,p⟩:=h.os i t f;exact⟨m,j,p.mono c⟩,h.lt,h.ap⟩
def CT.slice (h:CT lb w v tvs d): ∃A c,v=.slice A d c/\d.length<=c/\c<=maxLen:=by obtain⟨A,c,j,p,q,-⟩:=RS.jh h.own;exact⟨A,c,j,p,q⟩
def CT.cell (h:CT lb w v tvs d) (U:0<d.length): ∃g c,v=.slice (pB g) d c/\lb<=g/\g<w.heap.size/\(∃a,w.heap[g]? =some (.cells a 44 (0,0)))/\ ∀i m,tvs[i]? =some m->w.cell? (pA g i)=some m/\w.frozen? (pA g i)=false:=by
 rcases h.own.2 with ⟨-,k⟩|⟨g,c,a,e,o,r,l,Z,n,f⟩
 ·omega
 ·refine⟨g,c,e,o,(aah.1 r).1,⟨a,r⟩,fun i m b=>⟨?_,by simp[World.frozen?,r]⟩⟩;have j:i<d.length*1:=by have:=(bX.1 b).1;have:=h.own.1;omega
  rw[cell_of_row w g _ _ _ _ r,<-fA,<-iG j,f];exact b
def CT.ot (h:CT lb w v tvs d):OT lb w v d:=OT.jh h.own h.os
def CT.more {n:Value} (h:CT lb w v tvs d) (L:w'.ownsRow lb 44 1 n (d+1) (tvs++[m])) (D:kQ 44 lb w w') (f:OS lb w m t) (c: ∀g,m.ownBlock=some g->g<w.heap.size) (I: ∀u∈tvs,PJ u m):CT lb w' n (tvs++[m]) (d++[t]):=by
 have E:tvs.length=d.length:=by have:=h.own.1;omega
 refine⟨by rw[fa];exact L,fun i u l=>?_,fun u l g r=>?_,?_⟩
 ·rcases iU i d with hi|hi
  ·rw[fu hi] at l;obtain⟨x,j,p⟩:=h.os i u l;exact⟨x,by rw[fu oG];exact j,p.keep D dE⟩
  ·rw[fo hi] at l;have k:=(bX.1 l).1;have e:i-d.length=0:=by simp at k;omega
   rw[e] at l;cases l;exact⟨m,by rw[fo oG,E,e];rfl,f.keep D dE⟩
 ·refine bP ?_ D.size
  rcases fO.1 l with j|j
  ·exact h.lt u j g r
  ·simp at j;subst j;exact c g r
 ·refine afW.2 ⟨h.ap,List.pairwise_singleton _ _,fun a q b o=>?_⟩;simp at o;subst o;exact I a q
def CT.put {g n c k:Nat} {y:Value} {Y:Tr} (h:CT lb w (.slice g n c) tvs d) (D:d[k]? =some t) (F:tvs[k]? =some m) (r:w.grownBy w' m.ownBlock) (L:OS lb w' y Y) (f:Tr->Tr) (I:f t=Y):
  OT lb (w'.setCell (pA g k) y) (.slice g n c) (d.modify k f):=by
 have E:tvs.length=d.length:=by have:=h.own.1;omega
 have aa:=(bX.1 D).1;obtain⟨ae,e,T⟩:=h.os k t D;rw[F] at e;cases e
 rcases h.own.2 with ⟨H,-⟩|⟨v,A,a,H,M,z,Q,Z,V,X⟩
 ·cases H
 have S:n=d.length:=by cases H;rfl
 have e3:A=c:=by cases H;rfl
 have e1:v=g:=by cases H;rfl
 subst e1 e3 S;have P:=(aah.1 z).1;have R:some v≠m.ownBlock:=fun e=>by
  rcases T.2 with ⟨j,-⟩|⟨g2,c2,G,j,p,q,-⟩
  ·rw[j] at e;cases e
  ·rw[j] at e;cases e;rw[z] at q;injection q with q
   injection q with _ q
   exact absurd q dE
 have s:w'.heap[v]? =some (.cells a 44 (0,0)):=(r.block v P R).trans z;have J:(w'.setCell (pA v k) y).heap[v]? =some (.cells (a.setIfInBounds k y) 44 (0,0)):=by rw[setCell_eq_setRow w' v k a 44 (0,0) y s];exact setRow_heap _ _ _ _ _ _ s
 have B: ∀b,b≠v->(w'.setCell (pA v k) y).heap[b]? =w'.heap[b]? :=fun b o=>by rw[setCell_eq_setRow w' v k a 44 (0,0) y s];exact setRow_other _ _ _ _ o
 have K: ∀(u:Value) (x:Tr) (W:World),OS lb W u x->W.heap[v]? =some (.cells a 44 (0,0))->u.ownBlock≠some v:=fun u x W l hW e=>by
  rcases l.2 with ⟨j,-⟩|⟨g2,c2,G,j,p,q,-⟩
  ·rw[j] at e;cases e
  ·rw[j] at e;cases e;rw[hW] at q;injection q with q
   injection q with _ q
   exact absurd q dE
 refine OT.jh (lb:=lb) (tvs:=tvs.set k y) ⟨by simp[E],.inr ⟨v,A,a.setIfInBounds k y,by simp,M,J,by simpa using Q,Z,by simpa using V,?_⟩⟩ fun i u l=>?_
 ·rw[List.length_modify,vY,Vg,X]
 ·rw[aaf] at l;by_cases C:k=i
  ·subst C;rw[D] at l;simp[I] at l;subst l;refine⟨y,by rw[iT oG],?_⟩;exact sM L fun b o=>B b fun e=>K y Y w' L s (by rw[o,e])
  ·simp[C] at l;obtain⟨x,j,p⟩:=h.os i u l;refine⟨x,by rw[iu oG];exact j,?_⟩;refine sM p fun b o=>?_;have N:=h.lt x (a8 j) b o;have O:some b≠m.ownBlock:=fun e=>by
    have U:=h.ap
    rcases Nat.lt_or_gt_of_ne C with hlt|hlt
    ·exact(wW.1 U k i oG (by have:=(bX.1 j).1;omega) hlt) b (by rw[(bX.1 F).2];exact e.symm) (by rw[(bX.1 j).2];exact o)
    ·exact(wW.1 U i k (by have:=(bX.1 j).1;omega) oG hlt) b (by rw[(bX.1 j).2];exact o) (by rw[(bX.1 F).2];exact e.symm)
   rw[B b (fun e=>K x u w p z (by rw[o,e])),r.block b N O]
end
end
section
open Go.Proofs.Tryz
open Go.RowKit jm ko kN P15
attribute [local go_sem] iO
def H4 (R:Option Addr) (V:Nat) (d:Dy) (w:World) (hd:RL 1 jf w (.slice R d V) d) (hl: ∀t∈d,t.length<=1000000) (al:d.length<=1000000):
  Calls prog 322 #[.agg #[.slice R d V]] w fun e w'=> ∃A c tvs,e=.returned (.agg #[.slice A d c])/\CT w w' (.slice A d c) tvs d/\Below w w w':=by
 obtain⟨ah,ai,hv,-,-,N⟩:=iK.open_ hd;cases hv;obtain⟨HC,HL⟩:=Zb N hl;clear hd N hl;go_enter func322,ntmps322;go_wp2_with fail;go_loopw [9] (fun iv wr=> ∃(i:Nat) (ov:Value) (tvs:List Value),i<=d/\iv=.int .i64 i/\fc wr w 39 [.slice R d V]/\fc wr (w+1) 39 [()]/\fc wr (w+1+1) 39 [ov]/\Hid (CT (w+1+1+1) wr ov tvs (d.take i))/\Below w w wr) (fun iv _=>d.length-(intOf iv).toNat)
 case atStart=>exact⟨0,_,[],eC _,rfl,((fc.new w _ _).alloc _).alloc _,(fc.fW _ _ _ sI).alloc _,fc.fW _ _ _ sI,(CT.jL _ _),bL (bL (bL bF _) _) _⟩
 case round=>
  obtain⟨i,ov,tvs,hi,rfl,G,h,n,E,a⟩:=hrel;have z0:=G.lt;have z1:=h.lt;have z2:=n.lt;by_cases af:i<d
  ·obtain⟨t,Q⟩:=ec af;obtain⟨b,o,rfl,hb,tv,B,y⟩:=HC i _ Q;have ag:=HL t (a8 Q);obtain⟨D,F,rfl,-⟩:=fQ.open_ B;replace y:=a7 a lE y;have ak:=bP hb a.size;have HT:=zH B;have HS:Hid (d.take (i+1)=d.take i++[t]):=zH (iC Q);obtain⟨L,Y⟩:=nR (d.take i);rw[Y] at E HS;have ae:L.length<=1000000000:=by rw[<-Y,fB];omega
   clear Q Y B;obtain⟨S,W,rfl,-⟩:=E.slice;have c2:=n.c 0;go_upto_region 5 with fail
   have P:=fc.new wr 44 [.slice D t F];have C:=bL (bS wr wr) (cB 44 [.slice D t F]);have z5:wr.heap.size<(wr.alloc (cB 44 [.slice D t F])).heap.size:=sI;revert P C z5;show∀(P:fc (wr.alloc (cB 44 [.slice D t F])) _ _ _),_;generalize wr.alloc (cB 44 [.slice D t F])=w5;intro P C z5;have f:=a.trans (C.mono a.size);replace c2:=a7 C lE c2;have ar:=Nat.lt_trans z2 z5;have c5:=P.c 0;refine rB [7,8,9] fun hS=>?_;refine kL [0,1,2,3] ?_;refine tO 4 fun K m=>?_;go_simp;refine(uH _ t _ (fQ.below HT (f.trans (hS.mono f.size)) lE) ag).mono ?_;rintro e w6 ⟨lv,rfl,z,aa⟩;obtain⟨T,X,rfl,-⟩:=z.slice;have hS:=hS.trans (aa.mono hS.size);have r:=zH z;have l:=C.trans (hS.mono C.size);have au:=hS.size;have s:=E.below l;refine m _ _ (hS) ?_;refine kL [5] ?_;refine tO 6 fun K m=>?_;go_simp;refine m _ _ ((hS.alloc hS.size _)) ?_;have q:OS (w.heap.size+1+1+1) w6 (.slice T t X) t:=r.mono (by show _<=w5.heap.size;omega);refine tL 7 fun K m=>?_;refine ma w6 _ _ 37 rfl (w+1+1+1) 44 _ 1 24 underlying37 uz rfl dE dE _ L tvs s.own rfl [.slice T t X] _ rfl rfl rfl ae oG ?_;intro g cap w7 O an ao k aq;refine m _ _ ?_;refine tL 8 fun K m=>?_;go_simp;refine m _ _ ?_;have J:=k.below oG;have M:CT (w+1+1+1) w7 (.slice (pB g) (L+1) cap) (tvs++[.slice T t X]) (L++[t]):=s.more O k q (fun g hg=>(r.lt g hg).2) (fun u hu b hb e=>by have h1:=E.lt u hu b hb;have h2:w5.heap.size<=b:=(r.lt b e).1;omega);have j:=k.ig (n.below l z2) dE;have I:=k.ig (h.below l z1) dE;have H:=k.ig (G.below l z0) dE;have c27:=j.c 0;have aj:=j.frozen 0;have x:=(f.trans (hS.mono f.size)).trans (J.mono oG);have U:=zH M;clear M O q s z;refine tL 9 fun K m=>?_;go_simp;refine m _ _ ?_;refine tD ?_;go_wp2_with fail;go_roundw
   case rel=>exact⟨i+1,_,_,oG,by go_num,H.kj (p:=pB (w+1+1)) dO _,I.kj (p:=pB (w+1+1)) dO _,j.gH 0 _,zH (by rw[HS.out];exact U.fG dO _),x.setCell (p:=pB (w+1+1)) dO _⟩
   case measure=>exact mI
  ·obtain rfl:i=d.length:=oG;have Z:=E.out;rw[fj sI] at Z;obtain⟨S,W,rfl,-⟩:=Z.slice;have c2:=n.c 0;have c1:=h.c 0;have f1:=h.frozen 0;go_wp2;refine bodyPost_ret (v:=.agg #[.slice S d W]) (ia rfl _ _ (w+1) 39 [.slice S d W] _ rfl (h.gH 0 _) underlying39 rfl kR) rfl ⟨_,_,tvs,rfl,CT.mono (Z.fG dO _) oG,?_⟩;exact a.setCell (p:=pB (w+1)) (iW _) _
end
section
open Go.Proofs.Tryz
open Go.RowKit jm ko Et kN
variable {dv:Value} {p:Pl}
abbrev vC (x:fS) (A1:Option Addr) (c1:Nat) (A2:Option Addr) (c2:Nat) (dv:Value) (cu:Int):List Value:=(yX x A1 c1 A2 c2 [dv,cu])
structure tj (n:Nat) (w:World) (dv:Value) (p:Pl):Prop where
 rd:jP w dv p
 len:p.length<=64
 dy: ∀d∈p,jS n 4000 d
def Fx: ∀(p:Pl) (k:Nat),(∀d∈p,jS n 4000 d)->(iZ k p).length<=4000*p.length
 | [],k,_=>by simp[iZ]
 |d::p,k,h=>by
  have f:=Fx p (k+1) fun d i=>h d (.tail _ i);have b:=(h d (.head _)).wt;have c: ∀d:Dy,(iP k d).length<=yw d:=fun d=>by
   induction d with
   |nil=>simp[iP]
   |cons t d ih=>
    have a:iP k (t::d)=ku k t++iP k d:=by simp[iP]
    have e:(ku k t).length=t.length:=by simp[ku]
    rw[qM,a,fa];omega
  have:=c d;simp only[iZ,fa,ff];omega
def tj.Ik (h:tj n w dv p):(nn p).length<=1000000:=by have:=Fx p 0 h.dy;have:=h.len;unfold nn;omega
def yj {x:Nat×vg}: ∀{p:Pl} {k:Nat},x∈iZ k p-> ∃d∈p,∃t∈d,x.2∈t
 | [],k,h=>by simp[iZ] at h
 |d::p,k,h=>by
  simp only[iZ,fO] at h
  rcases h with h|h
  ·unfold iP at h;obtain⟨t,c,h⟩:=qR.1 h;unfold ku at h;obtain⟨s,b,rfl⟩:=cy.1 h;exact⟨d,.head _,t,c,b⟩
  ·obtain⟨d',a,r⟩:=yj h;exact⟨d',.tail _ a,r⟩
def WY (h:tj n w dv p) (cu:Int): ∀x∈pY (sU cu p),0<=x.2/\x.2<=2147483648:=by intro x a;unfold pY sU mn at a;obtain⟨y,u,rfl⟩:=cy.1 a;obtain⟨z,e,rfl⟩:=cy.1 u;obtain⟨d,i,t,c,b⟩:=yj (mC.1 e).1;exact((h.dy d i).st t c _ b).2
def AU {a:Value} {base:Nat} {l:List (Nat×Int)} (h:w.ownsRow base 86 2 a l (l.flatMap UO)):RL 2 iH w a (pY l):=by
 have b:OV base w a (pY l):=by unfold OV pY;rw[fm,List.flatMap_map];exact h
 exact b.reads
def Bx (x:fS) (A1:Option Addr) (c1:Nat) (A2:Option Addr) (c2:Nat) (dv:Value) (p:Pl) (cu:Int) (w:World) (h:tj x.eB w dv p) (i:1<=x.days/\x.days<=64):
  Calls prog 90 #[.agg (vC x A1 c1 A2 c2 dv cu).toArray] w fun e w'=> ∃a,e=.returned a/\gx w' .i64 a (lW (pY (sU cu p)) x.days.toNat)/\Below w w w':=by
 obtain⟨n,C⟩: ∃n:Nat,x.days=n:=⟨x.days.toNat,oG⟩;have l:=zH h;obtain⟨A,c,rfl,-⟩:=jP.open_ h.rd;have F:=zH C;have j:1<=n/\n<=64:=oG;rw[show x.days.toNat=n by omega];clear h i;go_enter func90,ntmps90;go_wp2_with fail;have v:=(fc.new w 144 (vC x A1 c1 A2 c2 (.slice A p c) cu)).drew;have f:=(bL (bS w w) (cB 144 (vC x A1 c1 A2 c2 (.slice A p c) cu))).drew;refine rG (fun wS=>fc wS w 144 (vC x A1 c1 A2 c2 (.slice A p c) cu)) [] (v) fun hS=>?_;refine kL [0,1,2,3,5,6,7] ?_;refine tO 4 fun K m=>?_;go_simp;refine(vT _ p cu _ ⟨_,rfl,jP.below l.rd f lE⟩ l.Ik).mono ?_;rintro e I ⟨a,rfl,z,b⟩;have t:=zH (AU z);have g:=f.trans (b.mono sI);have hS:=v.below b sI;obtain⟨D,G,rfl,-⟩:=fQ.open_ t;clear z b;refine m _ _ (hS) ?_;refine tO 8 fun K m=>?_;go_simp;have s:=Ce cu (nn p);have q:=l.Ik;have k:(pY (sU cu p)).length<=1000000:=eZ s q;refine(Km _ (pY (sU cu p)) n _ t (fun y u=>by have:=WY l cu y u;omega) j k).mono ?_;rintro e J ⟨a,rfl,r,d⟩;obtain⟨E,H,rfl,-⟩:=r.open_;have B:=zH r;have o:=g.trans (d.mono g.size);have hS:=hS.below d hS.lt;clear r d;refine m _ _ (hS) ?_;refine kL [9] ?_;refine tD ?_;go_wp2_with fail;go_ret;exact⟨_,rfl,B,o⟩
end
section
open Go.RowKit jm ko Et kN
def zX {x:fS} (d:eV x) {c:kc} (a:c∈x.eB) (b:c.kind=2):(0<=c.start/\c.start<=c.size)/\c.size<=2147483648/\(0<=c.jU/\c.jU<=2147483648):=by have h:=d.Kp a;unfold jT at h;rw[if_neg oG,if_pos b] at h;simp only[xW,eR,lF,id,gP,a6,decide_eq_true_eq] at h;omega
abbrev Qd (x:fS) (p:Pl) (k:Nat):List Int:=lW (pY (sU (k:Int) p)) x.days.toNat
end
section
open Go.Proofs.Tryz
open Go.RowKit jm ko Et kN
def ow (x:fS) (p:Pl):List Int:=p.map fun d=>me (d.map (uA x))
def acr {x:fS} (hx:eV x) (v dv:Value) (p:Pl) (w:World) (h:tj x.eB w dv p) (M:iz w v x):
  Calls prog 55 #[v,.agg #[dv]] w fun e w'=> ∃A,e=.returned A/\OI w w' A (ow x p)/\Below w w w':=by
 obtain⟨A1,c1,A2,c2,rfl⟩:=M.agg;obtain⟨Y,Z⟩:=Zb h M;obtain⟨Q,R,rfl,g1,g2,S⟩:=jP.open_ h.rd;have W:=zH S;have T:=h.len;have n:=bL (bL (bS w w) (cB 25 (xC x A1 c1 A2 c2))) (cB 30 [.slice Q p R]);have k:=(fc.new w 25 (xC x A1 c1 A2 c2)).alloc (cB 30 [.slice Q p R]);clear h M S;go_enter func55,ntmps55;go_wp2_with fail;go_loopw [5,11] (fun A O wr=> ∃i:Nat,i<=p/\O=.int .i64 i/\Hid (OI (w+1) wr A ((ow x p).take i))/\fc wr w 25 (xC x A1 c1 A2 c2)/\Below w w wr) (fun _ O _=>p.length-(intOf O).toNat)
 case atStart=>exact⟨0,eC _,rfl,(OI.jL _ _),k,n⟩
 case round=>
  clear k n;obtain⟨i,hi,rfl,l,k,z⟩:=hrel;obtain⟨d0,d1,d2,d3,d4,d5⟩:=k.jI;have l1:=k.lt;by_cases u:i<p
  ·obtain⟨f,d⟩:=ec u;obtain⟨b,o,rfl,aa,tv,j,P⟩:=W i f d;obtain⟨B,G,rfl,-⟩:=iK.open_ j;replace P:=a7 z lE P;obtain⟨HT,X⟩:=Zb j (Y.dy f (a8 d));have E:Hid ((ow x p).take (i+1)=(ow x p).take i++[me (f.map (uA x))]):=zH (iC (by unfold ow;rw[fh,d];rfl));obtain⟨L,H⟩:=nR ((ow x p).take i);obtain⟨s,N⟩:=nR (me (f.map (uA x)));rw[H] at l E;rw[N] at E;have F:=zH N;have J:L.length<=1000000000:=by rw[<-H,fB];omega
   have a:=bL z (cB 39 [.slice B f G]);have ag:=z.size;clear d j H N;obtain⟨V,cl,rfl,-⟩:=l.slice;go_wp2_with fail;refine(xI _ _ x f 4000 _ (iz.below Z a lE) hx (iK.below HT a lE) X oG).mono ?_;rintro e w3 ⟨rfl,c⟩;rw[F.out];have q:=a.trans (c.mono a.size);have m:=(k.alloc (cB 39 [.slice B f G])).below c sO;have D:=zH ((l.alloc (cB 39 [.slice B f G])).below c lE);have U:=q.size;have r:w.heap.size+1<=w3.heap.size:=m.lt;clear c a d0 d1 d2 d3 d4 d5 P;go_wp2_with (at_builtin;refine qu _ rfl (.tmp 15) (.tmp 19) rfl (w+1) _ L D rfl s rfl rfl J r ?_;intro g cap w5 K ae af t ah);have I:=t.below r;go_roundw
   case rel=>exact⟨i+1,u,by go_num,zH (by rw[E.out];exact K),t.ig m dE,q.trans (I.mono oG)⟩
   case measure=>exact mI
  ·obtain rfl:i=p.length:=oG;have y:=l.out;rw[fj (by simp[ow])] at y;have C:=zH y;obtain⟨V,cl,rfl,-⟩:=y.slice;clear y l;go_wp2_with fail;go_ret;exact⟨_,rfl,C.mono oG,z⟩
end
section
open Go.Proofs.Tryz
open Go.RowKit jm ko Et kN
variable {cu:kc} {p:Pl} {x:fS}
def Wk (x:fS) (p:Pl) (k:Nat) (cu:kc):Int:=wrap64 (cu.hold*me (sL cu.jU cu.size cu.start (Qd x p k)))
def pJ (x:fS) (p:Pl):Nat->List Int
 |0=>[]
 |i+1=>pJ x p i++(match x.eB[i]? with
  |some cu=>if cu.kind=2 then [Wk x p i cu] else []
  |none=>[])
def EU (h:x.eB[i]? =some cu) (a:cu.kind=2):me (pJ x p (i+1))=wrap64 (me (pJ x p i)+Wk x p i cu):=by rw[pJ,h];dsimp only;rw[if_pos a,AQ]
def Iv (h:x.eB[i]? =some cu) (a:cu.kind≠2):me (pJ x p (i+1))=me (pJ x p i):=by rw[pJ,h];dsimp only;rw[if_neg a,mz]
theorem Bg {x:fS} (hx:eV x) (v dv:Value) (p:Pl) (w:World) (h:tj x.eB.length w dv p) (hr:iz w v x):
  Calls prog 54 #[v,.agg #[dv]] w fun e w'=>e=.returned (me (pJ x p x.eB.length))/\Below w.heap.size w w':=by
 have hh:=hx.head;obtain⟨A1,c1,A2,c2,rfl⟩:=hr.agg;obtain⟨cv,dv2,e,hcs,-⟩:=id hr;obtain rfl:Value.slice A1 x.eB.length c1=cv:=by cases e;rfl
 obtain⟨A,c,e2,-,-,hc⟩:=hcs.open_;cases e2;have HC:=zH hc;have HL:=zH h;have HR:=zH hr;obtain⟨Ad,cd,rfl,-⟩:=jP.open_ h.rd;have hb0:=bL (bL (bS w.heap.size w) (cB 25 (xC x A1 c1 A2 c2))) (cB 30 [.slice Ad p.length cd]);have bx:=(fc.new w 25 (xC x A1 c1 A2 c2)).alloc (cB 30 [.slice Ad p.length cd]);have bp:=fc.fW (w.alloc (cB 25 (xC x A1 c1 A2 c2))) 30 [.slice Ad p.length cd] (g:=w.heap.size+1) sI;clear h hr hc e;go_enter func54,ntmps54;go_wp2_with fail;go_loopw [5,13] (fun sv iv wr=> ∃i:Nat,i<=x.eB.length/\iv=.int .i64 i/\sv=.int .i64 (me (pJ x p i))/\fc wr w.heap.size 25 (xC x A1 c1 A2 c2)/\fc wr (w.heap.size+1) 30 [.slice Ad p.length cd]/\Below w.heap.size w wr) (fun _ iv _=>x.eB.length-(intOf iv).toNat)
 case atStart=>exact⟨0,eC _,rfl,rfl,bx,bp,hb0⟩
 case round=>
  clear bx bp hb0;obtain⟨i,hi,rfl,rfl,bx,bp,hb⟩:=hrel;obtain⟨s,hs⟩:=nR (me (pJ x p i));have HS:=zH hs;rw[hs];clear hs;have l1:=bx.lt;have l2:=bp.lt;by_cases hlt:i<x.eB.length
  ·obtain⟨cu,hcu⟩:=ec hlt;obtain⟨b,o,rfl,hbl,pv,hp,y0,y1,y2,y3,y4,y5,y6,y7⟩:=HC.out i cu hcu;obtain⟨Ap,cp,rfl,-⟩:=lu.open_ hp;replace y0:=a7 hb lE y0;replace y1:=a7 hb lE y1;replace y2:=a7 hb lE y2;replace y3:=a7 hb lE y3;replace y4:=a7 hb lE y4;replace y5:=a7 hb lE y5;replace y6:=a7 hb lE y6;replace y7:=a7 hb lE y7;have HCU:=zH hcu;clear hp;by_cases hk2:cu.kind=2
   ·have hct:=zX hx (a8 hcu) hk2;have hkn:(cu.kind==2)=true:=by simp[hk2]
    have HK:=zH hk2;have HCT:=zH hct;clear hk2 hct hcu;go_wp2_with fail;have bC:=(fc.new wr 47 (NG cu.kind cu.iL Ap cu.jC.length cp cu.jU cu.size cu.start cu.lR cu.hold)).drew;have hb1:=(bL hb (cB 47 (NG cu.kind cu.iL Ap cu.jC.length cp cu.jU cu.size cu.start cu.lR cu.hold))).drew;have bx1:=(bx.alloc (cB 47 (NG cu.kind cu.iL Ap cu.jC.length cp cu.jU cu.size cu.start cu.lR cu.hold))).drew;have bp1:=(bp.alloc (cB 47 (NG cu.kind cu.iL Ap cu.jC.length cp cu.jU cu.size cu.start cu.lR cu.hold))).drew;have l3:=bC.lt;obtain⟨gc,hgc⟩:=nE wr.heap.size;have HGC:=zH hgc;rw[<-hgc] at bC;rw[<-hgc];clear hgc y0 y1 y2 y3 y4 y5 y6 y7;refine rG (fun wS=>fc wS w.heap.size 25 (xC x (some ⟨b,o,none⟩) c1 A2 c2)/\fc wS gc 47 (NG cu.kind cu.iL Ap cu.jC.length cp cu.jU cu.size cu.start cu.lR cu.hold)/\wS.cell? ⟨w.heap.size+1,0,none⟩=some (.slice Ad p.length cd)) [] (⟨bx1,bC,bp1.cell 0⟩) fun hS=> ?_;refine tk 0 hS ?_;refine tk 1 hS ?_;refine tk 2 hS ?_;refine tk 3 hS ?_;refine tk 4 hS ?_;refine tO 5 fun K hK=>?_;go_simp;refine(Bx x _ c1 A2 c2 _ p (i:Int) _ ⟨jP.below HL.out.rd hb1 (ij _),HL.out.len,HL.out.dy⟩ hh.1).mono ?_;rintro e w2 ⟨lv,rfl,hr2,hb2⟩;obtain⟨Al,cl,rfl,-⟩:=hr2.open_;have HQ:=zH hr2;have hbb:=hb1.trans (hb2.mono hb1.size);have bx2:=bx1.below hb2 bx1.lt;have bp2:=bp1.below hb2 bp1.lt;have bC2:=bC.below hb2 bC.lt;clear hr2 hb2 hb1;have hS:=And.intro bx2 (And.intro bC2 (bp2.cell 0));refine hK _ _ (hS) ?_;clear hK K;refine tO 6 fun K hK=>?_;go_simp;refine(Bs cu.kind cu.iL Ap cu.jC.length cp cu.jU cu.size cu.start cu.lR cu.hold _ _ _ HQ.out (by rw[lB];omega) HCT.out.1 HCT.out.2.1 HCT.out.2.2).mono ?_;rintro e w3 ⟨u,rfl,hu,hb3⟩;obtain⟨Au,cu',rfl,-⟩:=hu.open_;obtain⟨E,hE⟩:=nR (pX cu.jU cu.size cu.start (Qd x p i));obtain⟨N,hN⟩:=nR (sL cu.jU cu.size cu.start (Qd x p i));rw[hN] at hu;rw[hE,hN];have HN:=zH hN;have HU:=zH hu;have hb4:=hbb.trans (hb3.mono hbb.size);have bx3:=bx2.below hb3 bx2.lt;have bp3:=bp2.below hb3 bp2.lt;have bC3:=bC2.below hb3 bC2.lt;clear hu hb3 hbb bx1 bx2 bp1 bp2 bC bC2 hE hN;have hS:=And.intro bx3 (And.intro bC3 (bp3.cell 0));refine hK _ _ (hS) ?_;clear hK K;refine tk 7 hS ?_;refine tk 8 hS ?_;refine tk 9 hS ?_;refine tk 10 hS ?_;refine tk 11 hS ?_;refine tD ?_;have hd:=bC3.iY;simp only[im,Nat.reduceAdd] at hd;obtain⟨z0,z1,z2,z3,z4,z5,z6,z7,-⟩:=hd;go_wp2_with fail;refine(QD cu.kind cu.iL (.slice Ap cu.jC.length cp) cu.jU cu.size cu.start cu.lR cu.hold _ N w3 ⟨_,_,_,rfl⟩ HU.out).mono ?_;rintro e w4 ⟨rfl,hb5⟩;have HH:Hid (wrap64 (s+wrap64 (cu.hold*me N))=me (pJ x p (i+1))):=zH (by rw[EU HCU.out HK.out,HS.out,<-HN.out];rfl);obtain⟨q,hq⟩:=nR (wrap64 (cu.hold*me N));rw[hq] at HH|-
    have hb6:=hb4.trans (hb5.mono hb4.size);have bx4:=bx3.below hb5 bx3.lt;have bp4:=bp3.below hb5 bp3.lt;clear hb5 z0 z1 z2 z3 z4 z5 z6 z7 hq;go_wp2_with fail;go_roundw
    case rel=>exact⟨i+1,hlt,by go_num,by rw[<-HH.out],bx4,bp4,hb6⟩
    case measure=>exact mI
   ·have hkn:(cu.kind==2)=false:=by simp[hk2]
    have HK:=zH hk2;clear hk2 hcu;go_wp2_with fail;go_roundw
    case rel=>exact⟨i+1,hlt,by go_num,by rw[Iv HCU.out HK.out,HS.out],bx.alloc _,bp.alloc _,bL hb _⟩
    case measure=>exact mI
  ·obtain rfl:i=x.eB.length:=oG;go_wp2_with fail;go_ret;exact⟨by rw[HS.out];rfl,hb⟩
end
section
open Go.Proofs.Tryz
open Go.RowKit jm ko Et kN
def Cj (s:Int) (l:List Int):Int:=l.foldl (fun s z=>wrap64 (s+z)) s
def Ev {l:List Int} {i:Nat} {z:Int} (s:Int) (h:l[i]? =some z):Cj s (l.take (i+1))=wrap64 (Cj s (l.take i)+z):=by unfold Cj;rw[gk,h,lY,nW];rfl
def xj (x:fS) (p:Pl):Int:=Cj (me (pJ x p x.eB)) (ow x p)
def Cz {x:fS} (M:eV x) (v dv:Value) (p:Pl) (w:World) (h:tj x.eB w dv p) (F:iz w v x):
  Calls prog 53 #[v,.agg #[dv]] w fun e w'=>e=.returned (xj x p)/\Below w w w':=by
 obtain⟨A1,c1,A2,c2,rfl⟩:=F.agg;obtain⟨f,J⟩:=Zb h F;obtain⟨q,C,rfl,-⟩:=jP.open_ h.rd;have a:=bL (bL (bS w w) (cB 25 (xC x A1 c1 A2 c2))) (cB 30 [.slice q p C]);have B:=(fc.new w 25 (xC x A1 c1 A2 c2)).alloc (cB 30 [.slice q p C]);have u:=fc.fW (w.alloc (cB 25 (xC x A1 c1 A2 c2))) 30 [.slice q p C] (g:=w.heap.size+1) sI;clear h F;go_enter func53,ntmps53;go_wp2_with fail;refine(Bg M _ _ p _ ⟨jP.below f.rd a lE,f.len,f.dy⟩ (iz.below J a lE)).mono ?_;rintro e w1 ⟨rfl,d⟩;obtain⟨s,G⟩:=nR (me (pJ x p x.eB));rw[G];have O:=zH G;have n:=a.trans (d.mono sO);replace B:=B.below d sO;replace u:=u.below d sI;clear a d G;obtain⟨P,Q,R,S,T,U⟩:=B.jI;have X:=u.c 0;go_wp2_with fail;refine(acr M _ _ p w1 ⟨jP.below f.rd n lE,f.len,f.dy⟩ (iz.below J n lE)).mono ?_;rintro e Z ⟨lv,rfl,E,j⟩;obtain⟨L,m⟩:=nR (ow x p);rw[m] at E;have l:=E.reads;obtain⟨A,c,rfl,-,-,K⟩:=l.open_;obtain⟨N,r⟩:=Zb K m;have W:L.length<=64:=by rw[<-m];simp only[ow,fm];exact f.len
 have D:=n.trans (j.mono n.size);clear E l K m j P Q R S T U X;go_wp2_with fail;go_loopw [5,15] (fun Y I wr=> ∃i:Nat,i<=L/\I=.int .i64 i/\Y=.int .i64 (Cj s (L.take i))/\wr=Z) (fun _ I _=>L.length-(intOf I).toNat)
 case atStart=>exact⟨0,eC _,rfl,rfl,rfl⟩
 case round=>
  obtain⟨i,hi,rfl,rfl,rfl⟩:=hrel;by_cases k:i<L
  ·obtain⟨z,H⟩: ∃z,L[i]? =some z:=⟨_,fp k⟩;obtain⟨b,o,rfl,V,y⟩:=N i z H;have t:=zH (Ev s H);clear H;go_wp2_with fail;go_roundw
   case rel=>exact⟨i+1,k,by go_num,by rw[t.out],by first|rfl|trivial⟩
   case measure=>exact mI
  ·obtain rfl:i=L.length:=oG;have t:Hid (Cj s (L.take L.length)=xj x p):=zH (by rw[gh,xj,O.out,r.out]);go_wp2_with fail;go_ret;exact⟨by rw[t.out];rfl,D⟩
end
section
open jm ko Et kN
structure qn (n size start:Int) (q:List Int):Prop where
 len:(q.length:Int)=n
 ok:pX 1 size start q=0
def qn.bd {n size a:Int} (h:qn n size a q): ∀z∈q,0<=z/\z<=2147483648:=(RD h.ok).1
def acd (c: ∀z∈q,0<=z/\z<=2147483648) {n:Nat} (g:q.length=n):lW (gg q) n=q:=by
 apply gy;intro d;by_cases e:d<n
 ·obtain⟨z,a⟩: ∃z,q[d]? =some z:=⟨_,fp oG⟩;have b:=adl q 0 d;have f:=c z (a8 a);rw[gW,a] at b;rw[oL e,a];unfold kT gg;rw[b];dsimp only;split
  ·simp only[rM,List.foldl_nil,GD];rw[if_neg oG,if_neg oG,xT]
  ·simp only[List.foldl_nil];congr 1;omega
 ·rw[hX (by rw[lB];omega),hX oG]
def ac0: ∀(q:List Int) (k:Nat),pY (mn 0 (iZ k (ep q)))=mx k q
 | [],k=>rfl
 |z::q,k=>by
  have a:=ac0 q (k+1);show pY (mn 0 (iP k (ic z)++iZ (k+1) (ep q)))=_;rw[we];unfold pY at a|-
  rw[gJ,a,mx];congr 1;unfold ic;split <;>rfl
def adG (q:List Int):pY (sU 0 (ep q))=gg q:=ac0 q 0
def aeh {x:fS} (c: ∀z∈q,0<=z/\z<=2147483648) (g:(q.length:Int)=x.days):Qd x (ep q) 0=q:=by show lW (pY (sU ((0:Nat):Int) (ep q))) x.days.toNat=q;rw[show((0:Nat):Int)=0 from rfl,adG];exact acd c oG
def ac4 (z:Int):(acq z).map (fun s=>[s])=ic z:=by unfold acq ic;split <;>rfl
def ac7 (h:0<=z/\z<=2147483648):jS 1 2 (ic z)/\ ∀t∈ic z,t≠[]:=by
 unfold ic;split
 ·refine⟨⟨fun t a=>?_,by simp[yw]⟩,fun t a=>?_⟩
  ·cases nw.1 a;exact jK.one ⟨⟨ui _,Int.zero_lt_one⟩,h⟩
  ·cases nw.1 a;simp
 ·exact⟨jS.jL _ _,by simp⟩
def o5 (q:List Int):(ep q).length=q.length:=by simp[ep]
def acX {d:Nat} (h:q[d]? =some z):(ep q)[d]? =some (ic z):=by simp[ep,h]
def ady (c: ∀z∈q,0<=z/\z<=2147483648): ∀d∈ep q,jS 1 2 d/\ ∀t∈d,t≠[]:=fun d e=>by obtain⟨z,a,rfl⟩:=cy.1 e;exact ac7 (c z a)
def PC (p:Pl) (V:List (Int×Int)):Pl:=V.foldl (fun p v=>p.set v.1.toNat [[(0,v.2)]]) p
def aeF (p:Pl) (V:List (Int×Int)) (v:Int×Int):PC p (V++[v])=(PC p V).set v.1.toNat [[(0,v.2)]]:=by unfold PC;rw[nW];rfl
def ae9 (V:List (Int×Int)): ∀p:Pl,(PC p V).length=p.length:=by
 induction V with
 |nil=>intro p;rfl
 |cons v V ih=>intro p;show(PC (p.set v.1.toNat [[(0,v.2)]]) V).length=_;rw[ih,jt]
def ae8 (V:List (Int×Int)) (d:Nat) (h: ∀v∈V,v.1≠(d:Int)/\0<=v.1): ∀p:Pl,(PC p V)[d]? =p[d]? :=by
 induction V with
 |nil=>intro p;rfl
 |cons v V ih=>
  intro p;have b:=h v (.head _);show(PC (p.set v.1.toNat [[(0,v.2)]]) V)[d]? =_;rw[ih (fun u a=>h u (.tail _ a)),iu oG]
def TD: ∀(q:List Int) (k:Nat) (p:Pl),p.length=k+q.length->(∀d,k<=d->d<p.length->p[d]? =some [])->PC p (mx k q)=p.take k++ep q
 | [],k,p,hl,_=>by
  have e:k=p.length:=by simpa using hl.symm
  simp[mx,PC,ep,e]
 |z::q,k,p,hl,hp=>by
  rw[ff] at hl;have c:=hp k lE oG;rw[mx];by_cases a:0<z
  ·rw[if_pos a];show PC (p.set (k:Int).toNat [[(0,z)]]) (mx (k+1) q)=_;rw[gu,TD q (k+1) _ (by rw[jt];omega) (fun d b f=>by rw[iu oG];exact hp d oG (by rwa [jt] at f))];have e:(p.set k [[(0,z)]]).take (k+1)=p.take k++[[[(0,z)]]]:=by rw[gk,iT oG,List.take_set_of_le lE];rfl
   rw[e,eT];congr 1;simp[ep,ic,a]
  ·rw[if_neg a,gQ,TD q (k+1) p oG (fun d b f=>hp d oG f),gk,c,lY,eT];congr 1;simp[ep,ic,a]
def aeE (q:List Int):PC (List.replicate q []) (gg q)=ep q:=by have:=TD q 0 (List.replicate q.length []) sI (fun d _ h=>by simp at h;simp[h]);simpa[gg] using this
end
section
open Go.RowKit jm ko kN
variable {size:Nat} {α:Type} {L:List α} {R:World->List Value->α->Prop}
inductive Mu (n K c:Nat) (w:World) (e:Ending) (w':World):Prop
 |mk (dv:Value) (d:Dy) (z:Int) (he:e=.returned (.tuple #[.agg #[dv],z])) (ho:OT w w' dv d) (hd:jS n K d) (hne: ∀t∈d,t≠[]) (hc:d.flatten.length=c) (hb:Below w w w')
inductive aay (n K c:Nat) (w:World) (e:Ending) (w':World):Prop
 |mk (dv:Value) (d:Dy) (he:e=.returned (.agg #[dv])) (ho:OT w w' dv d) (hd:jS n K d) (hne: ∀t∈d,t≠[]) (hc:d.flatten.length=c) (hb:Below w w w')
inductive To (n K:Nat) (l:Tr) (q:Bool) (w:World) (e:Ending) (w':World):Prop
 |mk (dv:Value) (d:Dy) (b:Bool) (he:e=.returned (.tuple #[.agg #[dv],b])) (ho:OT w w' dv d) (hd:jS n K d) (hne: ∀t∈d,t≠[]) (hc:(b=true->l≠[]->d≠[])/\(q=true->b=true/\d=l.map fun s=>[s])) (hb:Below w w w')
def RL.atG {w w':World} {v:Value} (e: ∀f x,R w f x->R w' f x) (h:RL size R w v L) (z: ∀g,v.ownBlock=some g->w'.heap[g]? =w.heap[g]?) (n:w.heap.size<=w'):RL size R w' v L:=by obtain⟨A,c,rfl,d,k,m⟩:=h;refine⟨A,c,rfl,d,k,fun q=>?_⟩;obtain⟨b,o,rfl,a,p⟩:=m q;refine⟨b,o,rfl,bP a n,fun i x l=>?_⟩;obtain⟨f,r,s,t⟩:=p i x l;exact⟨f,r,e _ _ s,fun j u y=>(oD (z b rfl)).trans (t j u y)⟩
def PZ (D:Nat->Prop) (w:World) (f:List Value) (t:Tr):Prop:= ∃b,f=[b]/\RL 2 iH w b t/\InO D b
def nN (D:Nat->Prop) (w:World) (v:Value) (d:Dy):Prop:=RL 1 (PZ D) w v d/\InO D v
section
variable {d:Dy}
def nN.at (h:nN D w v d) (i: ∀k,D k->w'.heap[k]? =w.heap[k]?) (n:w.heap.size<=w'):nN D w' v d:=
 ⟨RL.atG (w:=w) (R:=PZ D) (fun _ _ ⟨b,e,c,f⟩=>⟨b,e,RL.atG (w:=w) (R:=iH) (fun _ _ h=>h) c (fun g a=>i g (f g a)) n,f⟩) h.1 (fun g a=>i g (h.2 g a)) n,h.2⟩
def RL.imp {g:World->List Value->α->Prop} (e: ∀f x,R w f x->g w f x) (h:RL size R w v L):RL size g w v L:=by obtain⟨A,c,rfl,d,k,m⟩:=h;refine⟨A,c,rfl,d,k,fun q=>?_⟩;obtain⟨b,o,rfl,a,p⟩:=m q;refine⟨b,o,rfl,a,fun i x l=>?_⟩;obtain⟨f,r,s,t⟩:=p i x l;exact⟨f,r,e _ _ s,t⟩
def nN.mono (h:nN D w v d) (i: ∀k,D k->D' k):nN D' w v d:=
 ⟨RL.imp (fun _ _ ⟨b,e,c,f⟩=>⟨b,e,c,fun g a=>i g (f g a)⟩) h.1,fun g a=>i g (h.2 g a)⟩
def nN.reads (h:nN D w v d):RL 1 jf w v d:=RL.imp (fun _ _ ⟨b,e,c,_⟩=>⟨b,e,c⟩) h.1
def nN.jL (D:Nat->Prop) (w:World):nN D w () []:=⟨⟨none,0,rfl,lE,by simp[maxLen],fun h=>by simp at h⟩,fun g h=>by cases h⟩
def nB (w:World) (k:Nat):Prop:= ∃o:Obj,w.heap[k]? =some o/\o.isCells=true
def nB.lt {w:World} {k:Nat} (h:nB w k):k<w.heap.size:=by obtain⟨o,h,-⟩:=h;exact(aah.1 h).1
def Fh {n:Nat} {e:TypeId} {w:World} {v:Value} {i:List Value} (h:w.ownsRow lb e size v n i): ∀g,v.ownBlock=some g->lb<=g/\nB w g:=fun g a=>by
 rcases h.2 with ⟨d,-⟩|⟨c,c2,b,d,k,m,-⟩
 ·rw[d] at a;cases a
 ·rw[d] at a;cases a;exact⟨k,_,m,rfl⟩
def nN.of (h:OT lb w v d):nN (fun k=>lb<=k/\nB w k) w v d:=by
 refine⟨RL.imp (R:=lI lb 84) (fun f t c=>?_) (OL.reads h fun _ _ h=>h),?_⟩
 ·obtain⟨b,e,j⟩:=c;refine⟨b,e,OL.reads j fun _ _ h=>h,fun g a=>?_⟩;obtain⟨i,l⟩:=OL.own j;exact Fh l g a
 ·intro g a;obtain⟨i,l⟩:=OL.own h;exact Fh l g a
def nN.slice (h:nN D w v d): ∃A c,v=.slice A d c:=by obtain⟨A,c,e,-⟩:=h.1;exact⟨A,c,e⟩
end
end
section
open Go.Proofs.Tryz
open Go.RowKit jm ko kN J8
theorem Rl{p:Prop}(h:p:=by
 clear S R az;have o:=ah.below c aV;have Q:=bm.below c l2;have P:=bd.below c l1;have O:=V.below c aW;have M:=b3.below c aB;have N:=b4.below c aC;have r:Below w w W:=f.trans (c.mono f.size);have s:l.heap.size+1<=W.heap.size:=eZ ao c.size;obtain⟨Av,cv,rfl,-⟩:=HO.slice;have c11:=o.c 0;have I:=zH (HO.below c lE);have ai:D.length<=1000000000:=by have q1:=zC D;have q2:=HW.out;have q3:=aG.out;omega
 by_cases C:L.length=0
 ·have aD: ¬0<L.length:=oG;have aX:=zH C;clear C;go_wp2_with fail;go_roundw
  case rel=>exact⟨i+1,_,D,oG,by go_num,o,I,HT,zH (by rw[J.out];have:=HW.out;omega),P,Q,O,M,N,r,s⟩
  case measure=>exact mI
 ·have aj:0<L.length:=oG;clear C;go_wp2_with (at_builtin;refine yA _ rfl (.tmp 55) (.tmp 58) rfl (l+1) _ D I rfl _ L ae rfl sI ai s ?_;intro g cap w5 aq ax bU an aU;have j:=an.below s;have F:=o.below j oG;have f1:=F.frozen 0;have c12:w5.cell? l=some (.slice Av D cv):=F.cell 0);have bY: ∀B,B<l.heap.size->B≠l.heap.size:=fun B h=>by omega
  go_roundw
  case rel=>
   refine⟨i+1,_,D++[L],oG,by go_num,F.gH 0 _,(aq.fG dO _),(fun t' ar=>(fO.1 ar).elim (HT.out t') (fun h=>by simp at h;subst h;exact⟨af.out,jQ.1 aj⟩)),zH (by rw[J.out,zD,acL];have:=HW.out;omega),
    (P.below j oG).kj (p:=l) dO _,(Q.below j oG).kj (p:=l) dO _,
    (O.below j oG).kj (p:=l) dO _,(M.below j oG).kj (p:=l) dO _,(N.below j oG).kj (p:=l) dO _,?_,?_⟩
   ·exact(r.trans (j.mono oG)).setCell (p:=l) dO _
   ·show _<=(w5.setCell _ _).heap.size;simp;omega
  case measure=>exact mI):p:=h
def xU (dv:Value) (d:Dy) (k a b i j:Int) (w:World) (hd:RL 1 jf w dv d) (c: ∀t∈d,t.length<=1000000):
  Calls prog 311 #[.agg #[dv],.agg #[k,a,b,i,j]] w (Cg d k a b i j w):=by
 by_cases h:(0<=k/\k<=3)/\(0<=a/\a<d)/\(0<=b/\b<d)
 ·obtain⟨⟨h1,h2⟩,⟨h3,f⟩,e,g⟩:=h;obtain⟨z,rfl⟩:=fw h3;obtain⟨A,rfl⟩:=fw e;obtain⟨ta,T⟩:=ec (l:=d) (i:=z) oG;obtain⟨tb,U⟩:=ec (l:=d) (i:=A) oG;exact KV dv d k z A i j ta tb w hd oG T U (c ta (a8 T)) (c tb (a8 U))
 ·exact Oc dv d k a b i j w hd oG
def Ux {d:Dy} {a b x y:Nat}: ∀{i j:Nat},i<=j->sW d a b x y i<=sW d a b x y j:=by
 intro i j h
 induction h with
 |refl=>exact ij _
 |step _ ih=>exact eZ ih (by rw[sW];omega)
def F3:(prog.info? 39).map (·.size)=some 1:=kR
inductive PN (n K:Nat) (R:Prop) (c:Nat) (w:World) (e:Ending) (w':World):Prop
 |mk (dv:Value) (d:Dy) (E:Int) (he:e=.returned (.tuple #[.agg #[dv],E])) (ho:OT w w' dv d) (hd:jS n K d) (hne: ∀t∈d,t≠[]) (hc:R->d.flatten.length=c) (hb:Below w w w')
def Lb (xv dv:Value) (x:fS) (d:Dy) (n K:Nat) (k a b i0 j0:Int) (w:World) (hx:iz w xv x) (hd:RL 1 jf w dv d) (hk:jS n K d) (hK:K<=1000000):
  Calls prog 282 #[xv,.agg #[dv],.agg #[k,a,b,i0,j0]] w (PN n K (LK d k a b i0 j0) d.flatten w):=by
 obtain⟨A1,c1,A2,c2,rfl⟩:=hx.agg;obtain⟨Ad,cd,rfl,h1,h2,bO⟩:=iK.open_ hd;obtain⟨HD,HC,HK,HL⟩:=Zd hd bO hk (fun t (ht:t∈d)=>eZ (agc (hk.Su ht)) hK);clear hx hd bO hk;go_enter func282,ntmps282;go_wp2_with fail;have bd:=((fc.fW (w.alloc (cB 25 [x.days,x.mm,x.cap,x.len,.slice A1 x.eB c1,.slice A2 x.gn c2])) 39 [.slice Ad d cd] (g:=w.heap.size+1) sI).alloc (cB 320 [k,a,b,i0,j0])).alloc (cB 39 [()]);have bm:=(fc.fW ((w.alloc (cB 25 [x.days,x.mm,x.cap,x.len,.slice A1 x.eB c1,.slice A2 x.gn c2])).alloc (cB 39 [.slice Ad d cd])) 320 [k,a,b,i0,j0] (g:=w.heap.size+1+1) sI).alloc (cB 39 [()]);have V:=fc.fW (((w.alloc (cB 25 [x.days,x.mm,x.cap,x.len,.slice A1 x.eB c1,.slice A2 x.gn c2])).alloc (cB 39 [.slice Ad d cd])).alloc (cB 320 [k,a,b,i0,j0])) 39 [()] (g:=w.heap.size+1+1+1) sI;have f:=bL (bL (bL (bL (bS w w) (cB 25 [x.days,x.mm,x.cap,x.len,.slice A1 x.eB c1,.slice A2 x.gn c2])) (cB 39 [.slice Ad d cd])) (cB 320 [k,a,b,i0,j0])) (cB 39 [()]);refine(xU _ d k a b i0 j0 _ (iK.below HD f lE) HL).mono ?_;rintro e w2 ⟨r1,r2,ok,rfl,ay,aE,ak⟩;have aY:=zH aE;clear aE;replace bd:=bd.below ak bd.lt;replace bm:=bm.below ak bm.lt;replace V:=V.below ak V.lt;have u:=f.trans (ak.mono f.size);have n1:=lC r1;have n2:=lC r2;rw[ay.o1.1] at n1;rw[ay.o2.1] at n2;have I1:=zH (show(prog.info? 355).map (·.size)=some (kJ r1).length by rw[n1];exact gZ);have I2:=zH (show(prog.info? 355).map (·.size)=some (kJ r2).length by rw[n2];exact gZ);obtain⟨N1,N2,aF⟩:=Zc n1 n2 ay;obtain⟨R1,aK⟩:=nR (kJ r1);obtain⟨R2,aL⟩:=nR (kJ r2);have a1:=oU r1;have a2:=oU r2;rw[aK] at I1 N1 a1|-
 rw[aL] at I2 N2 a2|-
 obtain⟨cC,cD,cg,cj⟩:=Zd aK aL a1 a2;have ld:=bd.lt;have lm:=bm.lt;have l6:=V.lt;clear ay ak f n1 n2 aK aL a1 a2;go_upto_region 2 with (first
  |(refine fH _ rfl 355 (.tmp 8) (.tmp 19) rfl w2 355 gO R1 ((fc.fW w2 355 gO (g:=w2.heap.size) rfl).alloc _) rfl rfl I1 N1.symm cg ?_;intro w3 b3 X aT)
  |(refine fH _ rfl 355 (.tmp 9) (.tmp 20) rfl (w2+1) 355 gO R2 ((fc.fW (w2.alloc (cB 355 gO)) 355 gO (g:=w2.heap.size+1) sI).grown X sI) rfl rfl I2 N2.symm cj ?_;intro l b4 Y bZ))
 have aw:=(((bd.alloc _).alloc _).grown X oS).grown Y oS;have aI:=(((bm.alloc _).alloc _).grown X oS).grown Y oS;have au:=(((V.alloc _).alloc _).grown X oS).grown Y oS;have aH:=b3.grown Y oS;have v:Below w w l:=(((u.alloc u.size _).alloc (by have:=u.size;simp;omega) _).grown X (by have:=u.size;simp;omega) (fun q hq=>by cases hq;exact u.size)).grown Y (by have:=u.size;rw[aT];simp;omega) (fun q hq=>by cases hq;have:=u.size;omega);have cV:w2.heap.size+2<=l.heap.size:=by rw[bZ,aT];simp
 clear X Y aT bZ bd bm V b3;have l3:=aH.lt;have l4:=b4.lt;cases ok
 ·go_wp2_with (refine fH _ rfl 39 (.tmp 6) (.tmp 24) rfl (w+1+1+1) 39 _ _ au rfl rfl F3 rfl rfl ?_;intro w5 b5 ax aU);refine bodyPost_ret (iw rfl _ _ (w+1+1+1) 39 [()] _ (.int .i64 17) rfl rfl b5 underlying39 rfl F3) rfl ⟨.slice none 0 0,[],17,rfl,OT.jL _ _,jS.jL _ _,(fun t h=>by simp at h),(fun h=>by cases aY.2 h),?_⟩;exact v.grown ax v.size (fun q hq=>by cases hq;omega)
 ·obtain⟨bG,bH,ta,tb,T,U,aQ,aR⟩:=aF.ab rfl;obtain⟨z,rfl⟩:=fw bG;obtain⟨A,rfl⟩:=fw bH;rw[gu] at T U;have q1:=wL r1;have q2:=wL r2;obtain⟨G,Z⟩:=fw q1;obtain⟨H,aA⟩:=fw q2;have aM:sW d z A G H d.length<=K:=eZ (YC T U (fun h=>by have:=aQ oG;rw[Z,aA] at this;omega) (fun h=>by have:=aR oG;rw[Z] at this;omega)) HK.wt;have cE:=zH (afE (x:=G) (y:=H) T U (fun h=>by have:=aQ oG;rw[Z,aA] at this;omega) (fun h=>by have:=aR oG;rw[Z] at this;omega));have cF:=zH aM;have ag:Hid (∀i,i<=d.length->sW d z A G H i<=K):=zH (fun i hi=>eZ (Ux hi) aM);obtain⟨aZ,bh⟩:=Zb Z aA;clear bG bH T U aQ aR q1 q2 Z aA aM;have e1:=aw.c 0;have cZ:=aw.lt;have dg:=aI.lt;have cY:=au.lt;have cU:=v.size;go_wp2_with fail;clear e1;go_loopw [28] (fun iv wr=> ∃(i:Nat) (ov:Value) (D:Dy),i<=d/\iv=.int .i64 i/\fc wr l 39 [ov]/\Hid (OT (l+1) wr ov D)/\Hid (∀t∈D,jK n t/\t≠[])/\Hid (yw D<=sW d z A G H i/\D.flatten.length+i=sW d z A G H i)/\
   fc wr (w+1) 39 [.slice Ad d cd]/\fc wr (w+1+1) 320 [k,(z:Int),(A:Int),i0,j0]/\fc wr (w+1+1+1) 39 [()]/\
   fc wr w2 355 R1/\fc wr (w2+1) 355 R2/\Below w w wr/\l.heap.size+1<=wr) (fun iv _=>d.length-(intOf iv).toNat)
  case atStart=>exact⟨0,_,[],eC _,rfl,fc.new l _ _,(OT.jL _ _),(fun t h=>by simp at h),zH ⟨eC _,rfl⟩,aw.alloc _,aI.alloc _,au.alloc _,aH.alloc _,b4.alloc _,v.alloc v.size _,by simp⟩
  case round=>
   clear aw aI au aH b4 v;obtain⟨i,ov,D,hi,rfl,ah,HO,HT,HW,bd,bm,V,b3,b4,f,ao⟩:=hrel;have l1:=bd.lt;have l2:=bm.lt;have aB:=b3.lt;have aC:=b4.lt;have aW:=V.lt;have aV:=ah.lt;by_cases aO:i<d
   ·obtain⟨t,hz⟩:=ec aO;obtain⟨bt,ot,rfl,cO,tv,aS,y⟩:=HC i _ hz;have cQ:=HL t (a8 hz);have cP:Hid (i≠z->i≠A->sW d z A G H (i+1)=sW d z A G H i+(t.length+1)):=zH (fun h1 h2=>by rw[sW,cW,if_neg h1,if_neg h2,hz];rfl);have bI:Hid (i=z->sW d z A G H (i+1)=sW d z A G H i+(G+1)):=zH (fun h1=>by rw[sW,cW,if_pos h1]);have bJ:Hid (i≠z->i=A->sW d z A G H (i+1)=sW d z A G H i+(H+1)):=zH (fun h1 h2=>by rw[sW,cW,if_neg h1,if_pos h2]);have bB:=HK.st t (a8 hz);have cG:=zH bB;obtain⟨A3,c3,rfl,-⟩:=fQ.open_ aS;have cH:=zH (fQ.below aS (f.alloc f.size (cB 44 [.slice A3 t c3])) lE);replace y:=a7 f lE y;have cT:=bP cO f.size;clear hz aS bB;go_wp2_with fail;refine(uH _ t _ cH cQ).mono ?_;rintro e wc ⟨lv,rfl,aP,cN⟩;have m:=(bL (bS wr wr) (cB 44 [.slice A3 t c3])).trans (cN.mono sI);have aG:Hid (sW d z A G H i<=1000000000):=zH (by have:=ag.out i hi;omega);have aJ:=bm.below m l2;have bA:=bd.below m l1;have cI:=b3.below m aB;have cJ:=b4.below m aC;have mA:=aJ.c 1;have mB:=aJ.c 2;have mD:=bA.c 0;have t1:=aJ.lt;have t2:=bA.lt;have al:Below w w wc:=f.trans (m.mono f.size);have bW:=aP.slice;obtain⟨Al,cl,rfl,-⟩:=bW;have cA:=zH aP;clear aP;by_cases hA:i=z
    ·have cL:((i:Int)==(z:Int))=true:=by rw[beq_iff_eq];omega
     have E:=yK (.slice (pA bt ot) d cd) d n r1 wc (iK.below HD.out al lE) HK.out.st aF.out.o1 (by have:=aZ.out;have:=ag.out (i+1) aO;have:=bI.out hA;omega) HL.out;rw[cC.out] at E;have aa:=zH E;clear E;go_wp2_with (refine mJ _ rfl 355 (.tmp 8) rfl w2 355 R1 _ rfl cI underlying355 rfl I1 ?_);refine aa.mono ?_;rintro e W ⟨cR,L,rfl,S,R,az,aN⟩;obtain⟨cw,cK,rfl,-⟩:=S.slice;have c:=m.trans (aN.mono m.size);obtain⟨ae,af⟩:=Zb (S.mono (show l.heap.size+1<=wc from eZ ao m.size)) R;have J:Hid (sW d z A G H (i+1)=sW d z A G H i+(L.length+1)):=zH (by rw[bI.out hA];have:=aZ.out;omega);have cX:=zH az;exact Rl
    ·have cL:((i:Int)==(z:Int))=false:=by rw[beq_eq_false_iff_ne];omega
     by_cases hB:i=A
     ·have cM:((i:Int)==(A:Int))=true:=by rw[beq_iff_eq];omega
      have E:=yK (.slice (pA bt ot) d cd) d n r2 wc (iK.below HD.out al lE) HK.out.st aF.out.o2 (by have:=bh.out;have:=ag.out (i+1) aO;have:=bJ.out hA hB;omega) HL.out;rw[cD.out] at E;have aa:=zH E;clear E;go_wp2_with (refine mJ _ rfl 355 (.tmp 9) rfl (w2+1) 355 R2 _ rfl cJ underlying355 rfl I2 ?_);refine aa.mono ?_;rintro e W ⟨cR,L,rfl,S,R,az,aN⟩;obtain⟨cw,cK,rfl,-⟩:=S.slice;have c:=m.trans (aN.mono m.size);obtain⟨ae,af⟩:=Zb (S.mono (show l.heap.size+1<=wc from eZ ao m.size)) R;have J:Hid (sW d z A G H (i+1)=sW d z A G H i+(L.length+1)):=zH (by rw[bJ.out hA hB];have:=bh.out;omega);exact Rl
     ·have cM:((i:Int)==(A:Int))=false:=by rw[beq_eq_false_iff_ne];omega
      have J:Hid (sW d z A G H (i+1)=sW d z A G H i+(t.length+1)):=zH (cP hA hB);have c:=m;have ae:=zH (cA.mono (show l.heap.size+1<=(wr.alloc (cB 44 [.slice A3 t.length c3])).heap.size by simp;omega));have af:=cG;have o:=ah.below c aV;have Q:=bm.below c l2;have P:=bd.below c l1;have O:=V.below c aW;have M:=b3.below c aB;have N:=b4.below c aC;have r:Below w w wc:=f.trans (c.mono f.size);have s:l.heap.size+1<=wc.heap.size:=eZ ao c.size;obtain⟨Av,cv,rfl,-⟩:=HO.slice;have c11:=o.c 0;have I:=zH (HO.below c lE);have ai:D.length<=1000000000:=by have q1:=zC D;have q2:=HW.out;have q3:=aG.out;omega
      by_cases C:t.length=0
      ·have aD: ¬0<t.length:=oG;have aX:=zH C;clear C;go_wp2_with fail;go_roundw
       case rel=>exact⟨i+1,_,D,oG,by go_num,o,I,HT,zH (by rw[J.out];have:=HW.out;omega),P,Q,O,M,N,r,s⟩
       case measure=>exact mI
      ·have aj:0<t.length:=oG;clear C;go_wp2_with (at_builtin;refine yA _ rfl (.tmp 55) (.tmp 58) rfl (l+1) _ D I rfl _ t ae rfl sI ai s ?_;intro g cap w5 aq ax bU an aU;have j:=an.below s;have F:=o.below j oG;have f1:=F.frozen 0;have c12:w5.cell? l=some (.slice Av D cv):=F.cell 0);have bY: ∀B,B<l.heap.size->B≠l.heap.size:=fun B h=>by omega
       go_roundw
       case rel=>
        refine⟨i+1,_,D++[t],oG,by go_num,F.gH 0 _,(aq.fG dO _),(fun t' ar=>(fO.1 ar).elim (HT.out t') (fun h=>by simp at h;subst h;exact⟨af.out,jQ.1 aj⟩)),zH (by rw[J.out,zD,acL];have:=HW.out;omega),
         (P.below j oG).kj (p:=l) dO _,(Q.below j oG).kj (p:=l) dO _,
         (O.below j oG).kj (p:=l) dO _,(M.below j oG).kj (p:=l) dO _,(N.below j oG).kj (p:=l) dO _,?_,?_⟩
        ·exact(r.trans (j.mono oG)).setCell (p:=l) dO _
        ·show _<=(w5.setCell _ _).heap.size;simp;omega
       case measure=>exact mI
   ·obtain rfl:i=d.length:=oG;obtain⟨Al,cl,rfl,-⟩:=HO.slice;have c11:=ah.c 0;have c6:=V.c 0;have f6:=V.frozen 0;go_wp2_with fail;refine bodyPost_ret (iw rfl _ _ (w+1+1+1) 39 [.slice Al D cl] _ Zo rfl rfl (V.gH 0 _) underlying39 rfl F3) rfl ⟨.slice Al D cl,D,0,rfl,(HO.fG dO _).mono oG,⟨fun t ht=>(HT t ht).1,eZ HW.1 cF⟩,(fun t ht=>(HT t ht).2),(fun _=>by have h1:=HW.2;have h2:=cE.out;have h3:=ael d;omega),?_⟩;exact f.setCell (p:=pB (w+1+1+1)) dO _
theorem K8{p:Prop}(h:p:=by refine tO 9 fun K a=>?_;refine T.aaG _ _ _ rfl A rfl Y (eZ n c) rfl E ?_;intro g2 c9 W9 T aV C;have hS:=C.ig hS dE;have m:=m.trans (C.below (eZ n c));replace o:=C.ig o dE;refine a _ _ (hS) ?_;refine tL 11 fun K a=>?_;have q0:=hS.c 0;have q1:=hS.frozen 0;have q2:=hS.c 1;have q3:=hS.frozen 1;go_simp;have T:=T.vo (q:=s) hS dE rfl (.slice R (f+1) c4);have m:=m.setCell (p:=s) dO (.slice R (f+1) c4);replace o:=o.kj (p:=s) dO (.slice R (f+1) c4);have hS:=hS.gH 0 (.slice R (f+1) c4);refine a _ _ ?_;refine tL 12 fun K a=>?_;go_simp;refine a _ _ ?_;refine tL 13 fun K a=>?_;go_simp;refine a _ _ ?_;refine tD ?_;go_wp2_with fail;go_meet;exact⟨_,_,hS.gH 1 _,(T.vo (q:=(pA s 1)) hS dE rfl _),m.setCell (p:=pA s 1) dO _,o.kj (p:=pA s 1) dO _⟩):p:=h
inductive PT (x:fS) (d:Dy) (w:World) (e:Ending) (w':World):Prop
 |mk (g:Nat) (he:e=.returned (.pointer g)) (hg:w.heap.size<=g) (hr:pI w' g x d) (hb:Below w w w')
def Sm:(prog.info? 390).map (fun i=>(i.zero,i.size,i.bytes))=some (some (.agg #[(),(),(),Zo]),4,80):=kR
def LG (xv dv:Value) (x:fS) (d:Dy) (K:Nat) (w:World) (hx:iz w xv x) (ho:eV x) (hd:RL 1 jf w dv d) (hk:jS x.eB K d) (a:K<=1000000):
  Calls prog 309 #[xv,.agg #[dv]] w (PT x d w):=by
 obtain⟨A1,c1,A2,c2,rfl⟩:=hx.agg;obtain⟨Ad,cd,rfl,h1,h2,aT⟩:=iK.open_ hd;obtain⟨HX,HO,HD,HC,HK⟩:=Ze hx ho hd aT hk;clear hx ho hd aT hk;go_enter func309,ntmps309;go_wp2_with fail;go_loopw [22] (fun iv wr=> ∃(i:Nat) (ov:Value),i<=d/\iv=.int .i64 i/\fc wr w 25 [x.days,x.mm,x.cap,x.len,.slice A1 x.eB c1,.slice A2 x.gn c2]/\
  fc wr (w+1+1) 388 (yX x A1 c1 A2 c2 [.slice Ad d cd,ov])/\
  Hid (wZ (w+1+1+1) wr ov (d.take i))/\Below w w wr/\w.heap.size+1+1+1<=wr) (fun iv _=>d.length-(intOf iv).toNat)
 case atStart=>exact⟨0,_,eC _,rfl,((fc.new w _ _).alloc _).alloc _,fc.fW _ _ _ sI,(OL.jL _ _ _ _ _),bL (bL (bL bF _) _) _,by simp⟩
 case round=>
  obtain⟨i,ov,hi,rfl,bx,br,ao,j,dt⟩:=hrel;have lx:=bx.lt;have lr:=br.lt;by_cases cF:i<d
  ·obtain⟨t,hz⟩:=ec cF;obtain⟨bt,ot,rfl,cA,tv,az,y⟩:=HC i _ hz;obtain⟨aY,dA⟩:=HK.get hz;obtain⟨At,ct,rfl,cV,cX,aS⟩:=fQ.open_ az;obtain⟨aD,HT,HR,bG⟩:=Zd aS az aY (iC hz);replace y:=a7 j lE y;have cP:=bP cA j.size;obtain⟨d0,d1,d2,d3,d4,d5⟩:=bx.jI;clear hz az aY aS;go_wp2_with fail;have ae:=(bL (bL (bS wr wr) (cB 44 [.slice At t ct])) (cB 3 [Zo]));refine(qE _ _ x t _ (HX.below (j.trans (ae.mono j.size)) lE) HO (fQ.below HT (j.trans (ae.mono j.size)) lE) oG HR).mono ?_;rintro e wl ⟨rfl,E⟩;generalize Mc x.gn (t.map Prod.fst)=L;have P:=ae.trans (E.mono ae.size);have bW:=bx.below P lx;have bI:=br.below P lr;have U:=((fc.new wr 44 [.slice At t ct]).alloc (cB 3 [Zo])).below E sO;have aK:=(fc.fW (wr.alloc (cB 44 [.slice At t ct])) 3 [Zo] (g:=wr.heap.size+1) sI).below E sI;go_upto_region 6 with fail
   have b5:=fc.new wl 390 [(),(),.slice (pB (wr+1)) 1 1,L];have S:=bL P (cB 390 [(),(),.slice (pB (wr+1)) 1 1,L]);have T5:xA (wr+1) (wl.alloc (cB 390 [(),(),.slice (pB (wr+1)) 1 1,L])) () () (.slice (pB (wr+1)) 1 1) [] [] [0]:=
    ⟨OI.jL _ _,OI.jL _ _,(OI.Wu aK lE).alloc _,FK.nil _,FK.nil _,FK.nil _⟩
   replace U:=U.alloc (cB 390 [(),(),.slice (pB (wr+1)) 1 1,L]);have aU:wr.heap.size+1+1<=wl.heap.size:=by have:=E.size;simpa using this
   have aW:=S.size;revert b5 S T5 U aW aU;generalize wl.heap.size=s;generalize wl.alloc (cB 390 [(),(),.slice (pB (wr+1)) 1 1,L])=w5;intro b5 S T5 U aW aU;have dF:=b5.lt;clear bW bI aK E P ae wl;obtain⟨M,J⟩:=nE (wr:World);subst J;have t0:=U.c 0;go_wp2_with fail;go_loopw [34,9,10] (fun iv D A wr=> ∃(k:Nat) (f b l:List Int) (W V Q:Value) (yf yb:Int),k<=t/\iv=.int .i64 k/\D=.int .i64 yf/\A=.int .i64 yb/\fc wr s 390 [W,V,Q,L]/\fc wr M 44 [.slice At t ct]/\
    Hid (xA (M+1) wr W V Q f b l)/\f.length=k/\b.length=k/\l.length=k+1/\Below M M wr) (fun iv _ _ _=>t.length-(intOf iv).toNat)
   case atStart=>exact⟨0,_,_,_,_,_,_,0,0,eC _,rfl,rfl,rfl,b5,U,T5,rfl,rfl,rfl,S⟩
   case round=>
    obtain⟨k,f,b,l,W,V,Q,yf,yb,hk,rfl,rfl,rfl,bs,af,N,lf,lb,ll,G⟩:=hrel;have ls:=bs.lt;have bA:=af.lt;have t6:=af.c 0;have cJ:=G.size;by_cases an:k<t
    ·obtain⟨⟨z,q⟩,aA⟩:=ec an;obtain⟨aa,ak,rfl,aQ,y0,y1⟩:=aD k _ aA;have J:=j.trans (G.mono j.size);replace y0:=a7 J lE y0;replace y1:=a7 J lE y1;have aR:=bP aQ J.size;have au:=bx.below G lx;have YP:Hid (0<k-> ∃p r,(t[k-1]? =some (p,r))/\wr.cell? (pA aa (ak+(k-1)*2))=some p):=zH (fun h0=>by
      obtain⟨⟨p,r⟩,hp⟩:=ec (l:=t) (i:=k-1) oG;obtain⟨b4,o4,e4,h4,y4,-⟩:=aD (k-1) _ hp;obtain⟨rfl,rfl⟩:aa=b4/\ak=o4:=by simpa using e4
      exact⟨p,r,hp,a7 J lE y4⟩)
     have bH:=zH (HR.get aA);clear aA
     go_upto_if 40 with fail
     have O:=fc.new wr 84 [z,q];have v:=bL (bS wr wr) (cB 84 [z,q]);revert O v;generalize wr.alloc (cB 84 [z,q])=Z;intro O v;have cO:=O.lt;have s0:=O.c 0;have s1:=O.c 1;have t7:Z.cell? M=some (.slice (pA aa ak) t ct):=a7 v lE t6;obtain⟨d0,d1,d2,d3,d4,d5⟩:=(au.below v oG).jI;have dG:M.heap.size<Z.heap.size:=bP bA v.size;have dD:aa<Z.heap.size:=bP aR v.size;have bh:=J.trans (v.mono J.size);have dC:=bH.1
     go_cut [9,10] from 39 to 63 (fun D A wc=> ∃yf yb:Int,D=.int .i64 yf/\A=.int .i64 yb/\Below Z Z wc)
     case first=>
      by_cases h0:0<k
      ·obtain⟨p,r,hp,yp⟩:=YP h0;have du:=(HR.get hp).1;replace yp:=a7 v lE yp;have dg:IntKind.i64.wrap ((k:Int)-1)=((k-1:Nat):Int):=by rw[jB];omega
       have dh:k-1<t.length:=oG;go_upto_region 11 with fail
       refine rB [] fun hS=>?_;refine kL [0,1,2,3,4,5,6,7,8,9,10,11,12] ?_;refine tD ?_;go_wp2_with fail;refine(pk _ x _ _ _ ((HX.below bh lE).below bF.drew lE)).mono ?_;rintro e wa ⟨rfl,aM⟩;generalize sm x.gn _ _=za;have I:Below Z Z wa:=(bS _ Z).drew.trans aM;obtain⟨d0,d1,d2,d3,d4,d5⟩:=((au.below v oG).below I oG).jI;go_wp2_with fail;refine(pk _ x _ _ _ ((HX.below bh lE).below I lE)).mono ?_;rintro e wb ⟨rfl,aN⟩;generalize sm x.gn _ _=A;have aO:=I.trans (aN.mono I.size);clear aM I aN d0 d1 d2 d3 d4 d5;go_wp2_with fail;go_meet;exact⟨_,_,rfl,rfl,aO⟩
      ·go_wp2_with fail;go_meet
       exact⟨yf,yb,rfl,rfl,bS _ _⟩
     case rest=>
      obtain⟨D,A,rfl,rfl,aw⟩:=hcut;obtain⟨w8,cL⟩:=nE (wc:World);subst cL;have H:=v.trans (aw.mono v.size);have aI:=bs.below H ls;have al:=O.below aw cO;have bU:=af.below H bA;have T8:=N.below H lE;have aP:=G.trans (H.mono cJ);have dx:=H.size;clear d0 d1 d2 d3 d4 d5 s0 s1 t7 t6 y0 y1 aw v O bs au;have n:M.heap.size+1<=w8.heap.size:=oG;go_upto_region 14 with fail
      go_cut [] from 64 to 75 (fun wd=> ∃ah ag,fc wd s 390 [ah,ag,Q,L]/\Hid (xA (M+1) wd ah ag Q (f++[D]) (b++[A]) l)/\Below (M+1) w8 wd/\fc wd wr 84 [z,q])
      case first=>
       refine rG (fun wS=>fc wS s 390 [W,V,Q,L]) [11,12,13] (aI.drew) fun hS=>?_;refine kL [0,1,2,5,6,7] ?_;have T:xA (M+1) w8.drew W V Q f b l:=T8.drew;have m:Below (M+1) w8 w8.drew:=bF.drew;have o:=al.drew;have c:w8.heap.size<=w8.drew.heap.size:=ij _;have l0:=T.lt.1;obtain⟨LF,LB⟩:=Zb lf lb;have ay:f.length<=1000000000:=oG;have E:b.length<=1000000000:=oG;clear lf lb ll;refine pU ?_;refine mL 3 8 rfl rfl rfl rfl kR (fun K a=>?_) (fun K a=>?_)
       ·go_simp;have e3:=fc.new w8.drew 3 [D];have l3:=(T.lt).1;replace T:=T.alloc (cB 3 [Value.int .i64 D]);have m:=m.alloc (eZ n c) (cB 3 [Value.int .i64 D]);replace o:=o.alloc (cB 3 [Value.int .i64 D]);have hS:=hS.alloc (cB 3 [Value.int .i64 D]);have c:=m.size;refine a _ _ (hS) ?_;refine pU ?_;refine mL 4 8 rfl rfl rfl rfl kR (fun K a=>?_) (fun K a=>?_)
        ·refine T.afB _ _ _ rfl D rfl e3 (eZ n c) rfl ay ?_;intro R c4 W4 T ai B;have hS:=B.ig hS dE;have m:=m.trans (B.below (eZ n c));replace o:=B.ig o dE;have c:=m.size;refine a _ _ (hS) ?_;refine kL [10] ?_;refine tO 8 fun K a=>?_;go_simp;have Y:=fc.new W4 3 [A];have l8:=(T.lt).1;replace T:=T.alloc (cB 3 [Value.int .i64 A]);have m:=m.alloc (eZ n c) (cB 3 [Value.int .i64 A]);replace o:=o.alloc (cB 3 [Value.int .i64 A]);have hS:=hS.alloc (cB 3 [Value.int .i64 A]);have c:=m.size;refine a _ _ (hS) ?_;exact K8
        ·go_simp;have Y:=fc.new (w8.drew.alloc (cB 3 [Value.int .i64 D])) 3 [A];have l8:=(T.lt).1;replace T:=T.alloc (cB 3 [Value.int .i64 A]);have m:=m.alloc (eZ n c) (cB 3 [Value.int .i64 A]);replace o:=o.alloc (cB 3 [Value.int .i64 A]);have hS:=hS.alloc (cB 3 [Value.int .i64 A]);have c:=m.size;refine a _ _ (hS) ?_;replace e3:=e3.alloc (cB 3 [Value.int .i64 A]);refine tO 4 fun K a=>?_;refine T.afB _ _ _ rfl D rfl e3 (eZ n c) rfl ay ?_;intro R c4 W4 T ai B;have hS:=B.ig hS dE;have m:=m.trans (B.below (eZ n c));replace o:=B.ig o dE;have c:=m.size;refine a _ _ (hS) ?_;refine kL [10] ?_;have Y:=ES ai Y (fun e=>FH _ (bP (l3 _ e) sI));rw[lz] at Y;exact K8
       ·go_simp;have Y:=fc.new w8.drew 3 [A];have l8:=(T.lt).1;replace T:=T.alloc (cB 3 [Value.int .i64 A]);have m:=m.alloc (eZ n c) (cB 3 [Value.int .i64 A]);replace o:=o.alloc (cB 3 [Value.int .i64 A]);have hS:=hS.alloc (cB 3 [Value.int .i64 A]);have c:=m.size;refine a _ _ (hS) ?_;refine tO 3 fun K a=>?_;go_simp;have e3:=fc.new (w8.drew.alloc (cB 3 [Value.int .i64 A])) 3 [D];have l3:=(T.lt).1;replace T:=T.alloc (cB 3 [Value.int .i64 D]);have m:=m.alloc (eZ n c) (cB 3 [Value.int .i64 D]);replace o:=o.alloc (cB 3 [Value.int .i64 D]);have hS:=hS.alloc (cB 3 [Value.int .i64 D]);have c:=m.size;refine a _ _ (hS) ?_;replace Y:=Y.alloc (cB 3 [Value.int .i64 D]);rw[lz] at e3;refine tO 4 fun K a=>?_;refine T.afB _ _ _ rfl D rfl e3 (eZ n c) rfl ay ?_;intro R c4 W4 T ai B;have hS:=B.ig hS dE;have m:=m.trans (B.below (eZ n c));replace o:=B.ig o dE;have c:=m.size;refine a _ _ (hS) ?_;refine kL [10] ?_;have Y:=ES ai Y (fun e=>FH _ (l0 _ e));exact K8
      case rest=>
       obtain⟨ah,ag,aJ,aE,ax,aH⟩:=hcut;obtain⟨Al,cl,cG,dn,dp,aX⟩:=gx.open_ aE.hl.reads;obtain⟨zl,cN⟩:=ec (l:=l) (i:=k) oG;obtain⟨gl,ol,rfl,cZ,yl⟩:=aX k zl cN;obtain rfl:=cG;have dz:=ax.size;have dj:(k:Int)<(l.length:Int):=oG;have cQ:k<l.length:=oG;have cE:l.length<=1000000000:=oG;have LL:=zH ll;have aC:M.heap.size+1<=wc.heap.size:=oG;clear ll aX aI al T8;go_upto_region 15 with fail
       refine rG (fun wS=>fc wS s 390 [ah,ag,.slice (pA gl ol) l cl,L]/\fc wS wr 84 [z,q]/\wS.cell? (pA gl (ol+k))=some zl) [11,12,13] (⟨aJ.drew,aH.drew,yl⟩) fun hS=>?_;refine kL [0,1,2,3,4,5,6,7,8,9] ?_;refine tO 10 fun K a=>?_;go_simp;generalize IntKind.i64.wrap (zl+q)=zn;have aL:=fc.new wc.drew 3 [zn];have aG:=aE.drew.alloc (cB 3 [Value.int .i64 zn]);have aq:=aJ.drew.alloc (cB 3 [Value.int .i64 zn]);have F:=(bS _ wc).drew.alloc lE (cB 3 [Value.int .i64 zn]);have aB:=F.size;refine a _ _ (⟨aq,aH.drew.alloc _,a7 F lE yl⟩) ?_;refine tL 11 fun K a=>?_;refine aG.aaH _ _ _ rfl zn rfl aL (eZ aC aB) rfl cE ?_;intro g3 c3 W3 T3 cC aj;have b3:=aj.ig aq dE;have dw:=aP.size;have cj:=aP.trans ((ax.mono oG).trans ((F.mono (show M.heap.size<=wc by omega)).trans ((aj.below (eZ aC aB)).mono oG)));have q2:=b3.c 2;have q3:=b3.frozen 2;have bJ:=((bU.below ax oG).below F (show M.heap.size<wc by omega)).below (aj.below (eZ aC aB)) oG;clear aL aG aq cC aj F;refine a _ _ ?_;refine tL 12 fun K a=>?_;go_simp;refine a _ _ ?_;refine tL 13 fun K a=>?_;go_simp;refine a _ _ ?_;refine tD ?_;go_wp2_with fail;have T4:=T3.vo (q:=(pA s 2)) b3 dE rfl (.slice g3 (l+1) c3);have cw:=cj.setCell (p:=pA s 2) dO (.slice g3 (l+1) c3);have bO:fc (W3.setCell (pA s 2) (.slice g3 (l+1) c3)) M 44 [.slice (pA aa ak) t ct]:=bJ.kj (p:=pA s 2) dO _;exact⟨⟨k+1,f++[D],b++[A],l++[zn],_,_,_,D,A,an,rfl,rfl,rfl,b3.gH 2 _,bO,T4,by simp;omega,by simp;omega,by simp;have:=LL.out;omega,cw⟩,by simp[intOf];omega⟩
    ·obtain rfl:k=t.length:=oG;have ar:=br.below G lr;have cg:=ao.below G lE;have P:=j.trans (G.mono j.size);have aF:zR (w+1+1+1) wr [W,V,Q,L] t:=⟨W,V,Q,f,b,l,L,rfl,N.hf.mono oG,N.hb.mono oG,N.hl.mono oG,lf,lb,ll⟩;have bZ:([W,V,Q,L]:List Value).all (fun u=>u.oneCell')=true:=by obtain⟨_,_,rfl,-⟩:=N.hf.slice;obtain⟨_,_,rfl,-⟩:=N.hb.slice;obtain⟨_,_,rfl,-⟩:=N.hl.slice;rfl
     have cI: ∀g,ov.ownBlock=some g->g<M.heap.size:=by obtain⟨_,_,_,h,_⟩:=ao.out;exact fun g e=>(iB h g e).2
     obtain⟨cT,h3,h4,h5,h6⟩:=cg;have cK:(d.take i).length<=1000000000:=by rw[fB];have:=HK.out.len;omega
     have bY:=bx.below G lx;clear bx af t6;go_upto_region 17 with fail
     refine rG (fun wS=>fc wS (w+1+1) 388 (yX x A1 c1 A2 c2 [.slice (pA bt ot) d cd,ov])/\fc wS s 390 [W,V,Q,L]) [10] (⟨ar.drew,bs.drew⟩) fun hS=>?_;refine kL [0,1,2,3,4,5] ?_;refine tO 6 fun K a=>?_;go_simp;have b1:=ar.drew.alloc (cB 390 [W,V,Q,L]);have O1:=aF.below ((bS _ wr).drew.alloc lE (cB 390 [W,V,Q,L])) lE;have cU:=P.drew.alloc (by show w.heap.size<=wr;omega) (cB 390 [W,V,Q,L]);refine a _ _ (⟨b1,bs.drew.alloc _⟩) ?_;refine tO 7 fun K a=>?_;refine vX wr.drew _ _ 386 rfl (w.heap.size+1+1+1) 390 _ 4 80 underlying386 Sm rfl dE dE _ _ _ h5 rfl _ _ rfl rfl bZ cK (by show _<=wr.heap.size;omega) ?_;intro g7 c7 Z cH cY dr X cD;have b7:=X.ig ar.drew dE;have v:=P.drew.trans ((X.below (by show _<=wr.heap.size;omega)).mono oG);have O7:=OL.push rfl h3 h4 rfl cH (fun i x cs hx hc=>(h6 i x cs hx hc).keep (w:=wr.drew) X dE) (aF.keep (w:=wr.drew) X dE);have hS:fc Z _ _ _/\fc Z s 390 [W,V,Q,L]:=⟨b7,(cD.block s sO (fun e=>by have:=cI s e.symm;omega)).trans (bs.drew.alloc _)⟩;refine a _ _ (hS) ?_;refine kL [8,9] ?_;have cR:=b7.c 7;have f7:=b7.frozen 7;refine tL 10 fun K a=>?_;go_simp;refine a _ _ ?_;refine tD ?_;go_wp2_with fail;have aZ:(d.take i).length=i:=by rw[fB];omega
     rw[<-bG.out,aZ] at O7;have cM:=X.size;have dB:wr.heap.size<=Z.heap.size:=cM;refine⟨⟨i+1,_,oG,rfl,(X.ig bY.drew dE).kj (p:=pA (w+1+1) 7) dO _,b7.gH 7 _,(wZ.fG (q:=(pA (w+1+1) 7)) O7 dO _),v.setCell (p:=pA (w+1+1) 7) dO _,by simp;omega⟩,by simp[intOf];omega⟩
  ·obtain rfl:i=d.length:=oG;have hO:=ao.out;rw[gh] at hO;have bB:=zH hO;clear hO;go_wp2_with fail;go_ret;exact⟨w.heap.size+1+1,rfl,oG,⟨A1,c1,A2,c2,_,ov,br,HX.below j lE,iK.below HD j lE,bB.reads⟩,j⟩
end
section
open Go.RowKit jm ko kN
variable {c g:Nat}
structure wj (ty:TypeId) (D:Nat->Prop) (w:World) (v:Value) (T:List Tr):Prop where
 own: ∃vs,w.ownsRow 0 ty 1 v T vs/\ ∀(i:Nat) (t:Tr),T[i]? =some t-> ∃u,vs[i]? =some u/\RL 2 iH w u t/\InO D u
 nd: ∀g,v.ownBlock=some g-> ¬D g
def RL.zU {t:Tr} (h:RL 2 iH w v t) (y: ∀g,v.ownBlock=some g->w'.heap[g]? =w.heap[g]?) (j:w.heap.size<=w'):RL 2 iH w' v t:=RL.atG (w:=w) (R:=iH) (fun _ _ h=>h) h y j
section
variable {ty:TypeId} {v' u:Value} {T:List Tr} {t:Tr}
def wj.jL (ty:TypeId) (D:Nat->Prop) (w:World):wj ty D w () []:=⟨⟨[],gL _ _ _ _,fun i t h=>by simp at h⟩,fun g h=>by cases h⟩
def wj.at (h:wj ty D w v T) (o: ∀k,D k\/v.ownBlock=some k->w'.heap[k]? =w.heap[k]?) (j:w.heap.size<=w'):wj ty D w' v T:=by obtain⟨⟨vs,a,f⟩,m⟩:=h;refine⟨⟨vs,sM a fun g d=>o g (.inr d),fun i t e=>?_⟩,m⟩;obtain⟨u,p,l,q⟩:=f i t e;exact⟨u,p,RL.zU l (fun g d=>o g (.inl (q g d))) j,q⟩
def wj.more (h:wj ty D w v T) (A: ∀k,D k->D' k) (E: ∀g,v.ownBlock=some g-> ¬D' g):wj ty D' w v T:=by obtain⟨⟨vs,a,f⟩,m⟩:=h;refine⟨⟨vs,a,fun i t e=>?_⟩,E⟩;obtain⟨u,p,l,q⟩:=f i t e;exact⟨u,p,l,fun g d=>A g (q g d)⟩
def wj.cur {o:Nat} (h:wj ty D w (.slice (pA g o) n c) T):o=0/\n=T/\g<w/\ ∃cur,fc w g ty cur:=by
 obtain⟨vs,a,-⟩:=h.own
 rcases a.2 with ⟨e,-⟩|⟨l,c2,cur,e,f,m,-⟩
 ·cases e
 ·cases e;exact⟨rfl,rfl,(aah.1 m).1,cur.toList,by unfold fc;simpa using m⟩
def wj.lt (h:wj ty D w v T): ∀g,v.ownBlock=some g->g<w.heap.size:=fun g d=>by obtain⟨vs,a,-⟩:=h.own;exact(iB a g d).2
def wj.cells (h:wj ty D w v T): ∀g,v.ownBlock=some g-> ∃o,w.heap[g]? =some o/\o.isCells=true:=fun g d=>by
 obtain⟨vs,a,-⟩:=h.own
 rcases a.2 with ⟨e,-⟩|⟨l,c2,cur,e,f,m,-⟩
 ·rw[e] at d;cases d
 ·rw[e] at d;cases d;exact⟨_,m,rfl⟩
def wj.slice (h:wj ty D w v T): ∃A c,v=.slice A T c/\T.length<=c/\c<=9223372036854775807:=by obtain⟨vs,a,-⟩:=h.own;obtain⟨A,c,y,p,l,-⟩:=RS.jh a;exact⟨A,c,y,p,by simpa[maxLen] using l⟩
def wj.get {A:Option Addr} (h:wj ty D w (.slice A n c) T) (e:T[i]? =some t): ∃g u,A=some ⟨g,0,none⟩/\g<w.heap.size/\RL 2 iH w u t/\InO D u/\w.cell? (pA g i)=some u:=by obtain⟨vs,a,f⟩:=h.own;obtain⟨u,p,l,q⟩:=f i t e;obtain⟨j,c',y,-,-,K,z⟩:=RS.jh a;cases y;have m:=(bX.1 e).1;obtain⟨b,o,rfl,k,d⟩:=z oG;obtain⟨rfl,-,-,-⟩:=h.cur;exact⟨b,u,rfl,k,l,q,by simpa using d i u p⟩
def wj.put {k:Nat} (h:wj ty D w (.slice g n c) T) (o:k<T) (H:RL 2 iH w u t) (A:InO D u):wj ty D (w.setCell (pA g k) u) (.slice g n c) (T.set k t):=by
 obtain⟨⟨vs,a,f⟩,q⟩:=h;have d:=q g rfl;have F:vs.length=T.length:=by have:=a.1;omega
 have r: ∀{x:Value} {s:Tr},RL 2 iH w x s->InO D x->RL 2 iH (w.setCell (pA g k) u) x s:=fun G E=>RL.zU G (fun b B=>fX _ _ _ _ _ fun e=>d (e▸E b B)) sI;refine⟨⟨vs.set k u,⟨by simpa using a.1,?_⟩,fun i s j=>?_⟩,q⟩
 ·rcases a.2 with ⟨e,-⟩|⟨l,c2,cur,e,f,m,z,v,y,C⟩
  ·cases e
  ·cases e;refine .inr ⟨g,c,cur.setIfInBounds k u,by rw[jt],f,heap_setCell_same w g k cur _ _ m,by rw[jt];exact z,v,by simpa using y,?_⟩;rw[vY,jt,Vg,C]
 ·by_cases p:i=k
  ·subst p;rw[iT o] at j;cases j;exact⟨u,iT oG,r H A,A⟩
  ·rw[iu (jN p)] at j;obtain⟨I,m,z,v⟩:=f i s j;exact⟨I,by rw[iu (jN p)];exact m,r z v,v⟩
def wj.reads (h:wj ty D w v T):RL 1 jf w v T:=by
 obtain⟨vs,a,f⟩:=h.own;obtain⟨A,c,rfl,p,l,q,m⟩:=RS.jh a;refine⟨A,c,rfl,p,l,fun E=>?_⟩;obtain⟨b,o,rfl,k,d⟩:=m E;refine⟨b,o,rfl,k,fun i t e=>?_⟩;obtain⟨u,n,r,-⟩:=f i t e;exact⟨[u],rfl,⟨u,rfl,r⟩,fun j x g=>by
  cases j with
  |zero=>simp at g;subst g;simpa using d i u n
  |succ j=>simp at g⟩
def wj.push {vs:List Value} (h:wj ty D w v T) (a:w.ownsRow 0 ty 1 v T vs) (r:w'.ownsRow 0 ty 1 v' (T+1) (vs++[u])) (d:w.grownBy w' v.ownBlock) (K: ∀k,D k->k<w.heap.size) (H:RL 2 iH w u t) (A:InO D u) (E: ∀g,v'.ownBlock=some g-> ¬D g):wj ty D w' v' (T++[t]):=by
 obtain⟨⟨n,f,m⟩,z⟩:=h;have e:n=vs:=by
  have y: ∀{xs},w.ownsRow 0 ty 1 v T xs->xs.length=T.length:=fun h=>by have:=h.1;omega
  rcases a.2 with ⟨C,P⟩|⟨g,c,cur,C,-,J,-,-,-,N⟩
  ·have:=y a;have:=y f;rw[gj (show n.length=0 by omega),gj (show vs.length=0 by omega)]
  ·rcases f.2 with ⟨G,-⟩|⟨Q,c',I,G,-,L,-,-,-,M⟩
   ·rw[G] at C;cases C
   ·rw[G] at C;cases C;rw[L] at J;cases J;rw[<-M,<-N]
 subst e;have o: ∀k,D k->w'.heap[k]? =w.heap[k]? :=fun k o=>d.block k (K k o) fun e=>z k e.symm o;have F:n.length=T.length:=by have:=a.1;omega
 refine⟨⟨n++[u],by rw[fa];exact r,fun i s j=>?_⟩,E⟩
 rcases iU i T with hi|hi
 ·rw[fu hi] at j;obtain⟨x,p,l,q⟩:=m i s j;exact⟨x,by rw[fu oG];exact p,RL.zU l (fun b B=>o b (q b B)) d.size,q⟩
 ·rw[fo hi] at j;have O:=(bX.1 j).1;have e:i-T.length=0:=by simp at O;omega
  rw[e] at j;cases j;exact⟨u,by rw[fo oG,F,e];rfl,RL.zU H (fun b B=>o b (A b B)) d.size,A⟩
end
def nO.ne {f:Int->Option Int} (h:nO w b f) (d:w.cell? (pA g i)=some v):g≠b:=fun e=>by subst e;obtain⟨c,a,B,-⟩:=h.ex;simp[World.cell?,B] at d
def gI.cell (h:gI O w w') (d:w.cell? (pA b i)=some v) (r: ¬O b):w'.cell? (pA b i)=some v:=(oD (h.block b (block_lt_of_cell d) r)).trans d
def gI.ig (h:gI O w w') {t:TypeId} {a:List Value} (d:fc w b t a) (r: ¬O b):fc w' b t a:=(h.block b d.lt r).trans d
end
section
open Go.Proofs.Tryz
open Go.RowKit jm ko Et kN
def L8 {x:fS} (H:eV x) (A1:Option Addr) (c1:Nat) (A2:Option Addr) (c2:Nat) (dv:Value) (p:Pl) (k:Nat) (cu:kc) (w:World) (h:tj x.eB w dv p) (q:x.eB[k]? =some cu) (G:iz w (.agg (xC x A1 c1 A2 c2).toArray) x) (n:cu.kind=2):
  Calls prog 139 #[.agg (vC x A1 c1 A2 c2 dv (k:Int)).toArray] w fun e w'=> ∃z:Int,e=.returned z/\((z=0->pX cu.jU cu.size cu.start (Qd x p k)=0)/\(cu.lR≠1->z=pX cu.jU cu.size cu.start (Qd x p k)))/\Below w w w':=by
 have hh:=H.head;have m:=zX H (a8 q) n;have ae:=(bX.1 q).1;obtain⟨X,Y,e,v,-⟩:=id G;obtain rfl:Value.slice A1 x.eB c1=X:=by cases e;rfl
 obtain⟨A,c,Z,-,-,E⟩:=v;cases Z;obtain⟨b,o,rfl,u,f⟩:=E oG;obtain⟨pv,F,J,L,M,N,O,P,Q,R⟩:=f k cu q;obtain⟨S,V,rfl,-⟩:=lu.open_ F;have r:=zH h;obtain⟨y,C,rfl,-⟩:=jP.open_ h.rd;have g:=zH m;clear h G e E f F q m n;go_enter func139,ntmps139;go_wp2_with fail;obtain⟨W,hW⟩:=nR (w.alloc (cB 144 (vC x (pA b o) c1 A2 c2 (.slice y p C) (k:Int))));have a:Below w w W:=by rw[<-hW];exact bL bF _
 have B:fc W w 144 (vC x (pA b o) c1 A2 c2 (.slice y p.length C) (k:Int)):=by rw[<-hW];exact fc.new _ _ _
 rw[hW];clear hW;have d:=B.iY;simp only[im,Nat.reduceAdd] at d;obtain⟨d0,d1,d2,d3,d4,d5,d6,d7,-⟩:=d;replace J:=a7 a lE J;replace L:=a7 a lE L;replace M:=a7 a lE M;replace N:=a7 a lE N;replace O:=a7 a lE O;replace P:=a7 a lE P;replace Q:=a7 a lE Q;replace R:=a7 a lE R;have D:b<W.heap.size:=bP u a.size;have aa:=B.lt;refine rB [] fun hS=>?_;refine kL [0,1,2,3,4,5,6,7] ?_;refine tO 8 fun K s=>?_;go_simp;refine(Bx x _ c1 A2 c2 _ p (k:Int) _ ⟨jP.below r.rd (a.trans (hS.mono a.size)) lE,r.len,r.dy⟩ hh.1).mono ?_;rintro e w2 ⟨lv,rfl,i,j⟩;obtain⟨Al,cl,rfl,-⟩:=i.open_;have T:=zH i;have hS:=hS.trans (j.mono hS.size);clear i j;refine s _ _ (hS) ?_;refine tO 9 fun K s=>?_;go_simp;refine(LR cu.kind cu.iL (S) cu.jC.length V cu.jU cu.size cu.start cu.lR cu.hold _ _ _ (T.below bF lE) (by rw[lB];omega) g.1 g.2.1 g.2.2).mono ?_;rintro e w3 ⟨z,rfl,I,l⟩;have hS:=hS.trans (l.mono hS.size);have U:=zH I;clear I l;have t:=a.trans (hS.mono a.size);refine s _ _ (hS) ?_;refine kL [10] ?_;refine tD ?_;go_wp2_with fail;go_ret;exact⟨z,rfl,U,t⟩
end
section
open Go.Proofs.Tryz
open Go.RowKit jm ko Et kN
variable {a:Nat} {c:Array MapEntry} {s:Int}
def C6 (z:Value):Option (Nat×Value)->Value
 |some x=>.tuple #[x.2,true]
 |none=>.tuple #[z,false]
section
variable {P:Program} {t k e:TypeId}
def IK {v:Value} (j:P.underlying t=some (.map k e)) (g:P.underlying k=some (.int .i64)) (d:w.heap[b]? =some (.map c a))
  (l:Instr.findNow (.int .i64) s c.toList 0=some none):
  ∃w',(Instr.mapUpdate t (.map (some b)) s v).run P w=.ok () w'/\w'.heap[b]? =some (.map (c.push ⟨.int .i64 s,v,a⟩) (a+1))/\w'.heap.size=w/\ ∀lb,lb<=b->Below lb w w':=by
 refine⟨{w with heap:=w.heap.setIfInBounds b (.map (c.push ⟨.int .i64 s,v,a⟩) (a+1))},?_,?_,by simp,fun lb m=>⟨rfl,rfl,rfl,by simp,fun i n=>?_⟩⟩
 ·have f:(Instr.checkKey false 10000 k s).run P w=.ok () w:=mu g (show MapKept.IsKey (.int .i64) s from rfl) false 9999;have h:(Instr.findKey k s c.toList).run P w=.ok none w:=jY g l;simp[Instr.mapUpdate,run_underlying j,iI d,f,h,mV _ d,Result.andThen]
 ·have:=(aah.1 d).1;simp[this]
 ·rw[iQ oG]
def Fc {r:Option (Nat×Value)} {z:Value} (j:P.underlying t=some (.map k e)) (g:P.underlying k=some (.int .i64)) (d:w.heap[b]? =some (.map c a))
  (l:Instr.findNow (.int .i64) s c.toList 0=some r) (u:(zeroValue e).run P w=.ok z w):
  (Instr.lookup t (.map (some b)) s true).run P w=.ok (C6 z r) w:=by
 have f:(Instr.checkKey c.isEmpty 10000 k s).run P w=.ok () w:=mu g (show MapKept.IsKey (.int .i64) s from rfl) _ 9999;have h:(Instr.findKey k s c.toList).run P w=.ok r w:=jY g l;cases r with
 |none=>simp[Instr.lookup,run_underlying j,iI d,f,h,u,Result.andThen,C6]
 |some x=>simp[Instr.lookup,run_underlying j,iI d,f,h,Result.andThen,C6]
end
def DU (w:World):(zeroValue 198).run prog w=.ok .nilFunc w:=kR
def F2 {x:fS} (T:eV x) (A1:Option Addr) (c1:Nat) (A2:Option Addr) (c2:Nat) (dv:Value) (p:Pl) (k:Nat) (cu:kc) (w:World) (h:tj x.eB w dv p) (g:x.eB[k]? =some cu) (M:iz w (.agg (xC x A1 c1 A2 c2).toArray) x) (l:cu.kind=2):
  Calls prog 88 #[.agg (xC x A1 c1 A2 c2).toArray,.agg #[dv],(k:Int)] w fun e w'=> ∃z:Int,e=.returned z/\((z=0->pX cu.jU cu.size cu.start (Qd x p k)=0)/\(cu.lR≠1->z=pX cu.jU cu.size cu.start (Qd x p k)))/\Below w w w':=by
 have hh:=T.head;have ai:=(bX.1 g).1;obtain⟨Z,aa,e,J,-⟩:=id M;obtain rfl:Value.slice A1 x.eB c1=Z:=by cases e;rfl
 obtain⟨A,c,e2,-,-,S⟩:=J;cases e2;obtain⟨b,o,rfl,ae,f⟩:=S oG;obtain⟨pv,hp,U,y1,y2,y3,y4,y5,y6,y7⟩:=f k cu g;obtain⟨B,X,V⟩:=Zc h M g;obtain⟨O,Q,rfl,-⟩:=jP.open_ h.rd;obtain⟨W,hW⟩:=nR ((w.alloc (cB 25 (xC x (pA b o) c1 A2 c2))).alloc (cB 30 [.slice O p Q]));have E:Below w w W:=by rw[<-hW];exact bL (bL bF _) _
 have t:fc W w 25 (xC x (pA b o) c1 A2 c2):=by rw[<-hW];exact(fc.new _ _ _).alloc _
 have C:fc W (w+1) 30 [.slice O p.length Q]:=by rw[<-hW];exact fc.fW _ _ _ sI
 have D:W.heap.size=w.heap.size+2:=by rw[<-hW];simp
 have aj:= @run_makeMap prog;have I:(W.alloc (.map #[] 0)).heap[W.heap.size]? =some (.map #[] 0):=by simp only[World.alloc,Vd]
 obtain⟨w1,K,F,ak,m⟩:=IK (P:=prog) (v:=.func (.func 138) #[] #[]) (s:=1) underlying199 underlying3 I rfl;obtain⟨y,L,G,al,n⟩:=IK (P:=prog) (v:=.func (.func 139) #[] #[]) (s:=2) underlying199 underlying3 F (by rfl);clear h M e S f hp g y1 y2 y3 y4 y5 y6 y7;go_enter func88,ntmps88;have a:Below w w y:=E.trans ((((bS W W).alloc lE (.map #[] 0)).trans (m _ lE)).trans (n _ lE)|>.mono oG);have i:Below W W y:=(((bS W W).alloc lE (.map #[] 0)).trans (m _ lE)).trans (n _ lE);have d:=t.iY;simp only[im,Nat.reduceAdd] at d;obtain⟨d0,d1,d2,d3,d4,d5,-⟩:=d;have R:=(t.below i t.lt).iY;simp only[im,Nat.reduceAdd] at R;obtain⟨f0,f1,f2,f3,f4,f5,-⟩:=R;have p0:=(C.below i C.lt).c 0;have N:=a7 a lE U;have l1:=t.lt;have l2:=C.lt;have af:decide ((k:Int)<0)=false:=decide_eq_false oG;have ag:decide (x.eB.length<=k)=false:=decide_eq_false oG;have ah:(k:Int)<x.eB.length:=oG;clear D;rw[l] at U N;have q:=Fc (P:=prog) (s:=2) (z:=.nilFunc) (r:=some (1,.func (.func 139) #[] #[])) underlying199 underlying3 G (by rfl) (DU y);simp only[C6] at q;go_wp2_with fail;refine(L8 T _ c1 A2 c2 _ p k cu y ⟨jP.below B.rd a lE,B.len,B.dy⟩ V (iz.below X a lE) l).mono ?_;rintro e w3 ⟨z,rfl,u,j⟩;have H:=a.trans (j.mono a.size);have Y:=zH u;clear j q K L u;go_wp2_with fail;go_ret;exact⟨z,rfl,Y,H⟩
end
section
open Go Go.RowKit jm ko Et kN
structure afK (size s:Int) (q L:List Int) (m:Nat):Prop where
 brought:q.sum<=size*m
 left:0<=s+q.sum-q.length
 keeps:fe s q.length<=L.sum
 bd: ∀l∈L,0<=l/\l<=size
 len:L.length=q
def acC {size:Int} (o:1<=size): ∀(q:List Int) (s:Int) (L:List Int) (k:Nat),0<=s->(∀z∈q,0<=z)->oA 1 size s q=some L->afK size s q L (mx k q).length
 | [],s,L,k,h0,_,h=>by cases h;exact⟨by simp[mx],by simp;omega,by simp[fe],by simp,rfl⟩
 |z::q,s,L,k,h0,hz,h=>by
  rw[oA] at h;split at h
  ·cases h
  ·rename_i g;obtain⟨M,b,rfl⟩:=mP.1 h;have z0:=hz z (.head _);have a:=acC o q (s+z-1) M (k+1) oG (fun y f=>hz y (.tail _ f)) b;have i:=a.brought;have j:=a.left;have n:=a.keeps;have p:=acv q (show s-1<=s+z-1 by omega);refine⟨?_,?_,?_,?_,by simp[a.len]⟩
   ·rw[mx,fa,yu];split
    ·rw[afI,Pz,vd];omega
    ·rw[fZ,gW];omega
   ·rw[yu,ff];omega
   ·rw[ff,fe,yu];omega
   ·intro l m
    rcases fC.1 m with rfl|m
    ·omega
    ·exact a.bd l m
def K3 (M:Int): ∀(l:List Int) (s:Int),(∀z∈l,0<=z/\z<=M)->0<=s->s+M*l.length<=4611686018427387904->Cj s l=s+l.sum
 | [],s,_,_,_=>by simp[Cj]
 |z::l,s,h,h0,hm=>by
  have k:=h z (.head _);rw[ff,Pz,vd] at hm;have a:0<=M*(l.length:Int):=eS oG oG;have n:wrap64 (s+z)=s+z:=by unfold wrap64;omega
  show Cj (wrap64 (s+z)) l=_;rw[n,K3 M l (s+z) (fun y f=>h y (.tail _ f)) oG oG,yu];omega
def adF (l:List Int):me l=Cj 0 l:=rfl
def afq {w s m:Int} (o:1<=s) (h:w<=s*m):ix w s<=m:=by
 unfold ix;have i:w/s<=m:=afH oG (by rw[TT];exact h);split
 ·exact i
 ·rename_i g;have j:=sF w s;have n:=vf w (show s≠0 by omega);have p:w/s≠m:=fun e=>by rw[e] at j;omega
  omega
section
variable {x:fS} {c:kc} {a b:Int}
def sy (c:kc) (q:List Int):Int:=c.hold*(sL 1 c.size c.start q).sum
def iF.ni (d:iF x c a b) (f:qn x.days c.size c.start q):afK c.size c.start q (sL 1 c.size c.start q) (gg q).length:=by
 have o:=d.start;have e:=d.ct;have h:=f.ok;have s:=f.bd;unfold pX at h;unfold sL;cases i:Uf q with
 |false=>rw[i] at h;simp at h
 |true=>
  rw[i] at h;simp only[if_true] at h|-
  cases g:oA 1 c.size c.start q with
  |none=>rw[g] at h;simp at h
  |some L=>exact acC e.2.2.2.1.1 q c.start L 0 o.1 (fun z k=>(s z k).1) g
def afg {M:Int}: ∀{l:List Int},(∀z∈l,0<=z/\z<=M)->0<=l.sum/\l.sum<=M*l.length
 | [],_=>by simp
 |z::l,h=>by have:=afg fun y f=>h y (.tail _ f);have:=h z (.head _);rw[yu,ff,Pz,vd];omega
def iF.held (d:iF x c a b) (f:qn x.days c.size c.start q):wrap64 (c.hold*me (sL 1 c.size c.start q))=sy c q/\0<=sy c q/\sy c q<=140737488355328/\c.hold*fe c.start x.days.toNat<=sy c q:=by
 have g:=d.ni f;have e:=d.ct;have r:=d.hd;have m:=f.len;have h:=g.len;have s:=fun z k=>(g.bd z k);have l: ∀z∈sL 1 c.size c.start q,0<=z/\z<=2147483648:=fun z k=>by have:=s z k;omega
 have i:=afg l;rw[adF,K3 2147483648 _ 0 l (ui _) (by rw[h];omega),xT];have j:(sL 1 c.size c.start q).sum<=137438953472:=by rw[h] at i;omega
 have n:0<=sy c q:=eS e.2.2.2.2.2.1 i.1;have p:sy c q<=1024*137438953472:=eX e.2.2.2.2.2.2 j i.1 dE;refine⟨?_,n,p,?_⟩
 ·show wrap64 (sy c q)=_;unfold wrap64;omega
 ·have:=g.keeps;rw[show x.days.toNat=q.length by omega];exact ng this e.2.2.2.2.2.1
def iF.forced (d:iF x c a b) (f:qn x.days c.size c.start q):0<=dd c x.days/\dd c x.days<=(gg q).length/\dd c x.days<=64:=by
 have g:=d.ni f;have e:=d.ct;have r:=d.hd;have o:=d.start;have m:=f.len;have i:=g.brought;have j:=g.left;have s:=px q 0;have n:gw c x.days<=c.size*((gg q).length:Int):=by have:0<=c.size*((gg q).length:Int):=eS oG oG;unfold gw;rw[e.2.1];omega
 have h:=afq e.2.2.2.1.1 n;have k:0<=ix (gw c x.days) c.size:=by have:0<=gw c x.days/c.size:=aap (by unfold gw;omega) oG;unfold ix;split <;>omega
 unfold dd;split <;>omega
def iF.Mc (d:iF x c a b) (z:Int):uA x [(0,z)]=a+b:=by
 have e:sm x.gn 0 1=a:=by rw[d.di];rfl
 have f:sm x.gn 1 0=b:=by rw[d.di];rfl
 show sm x.gn 0 (0+1)+sm x.gn (0+1) 0=a+b;rw[xT,e,f]
def iF.afN (d:iF x c a b): ∀q:List Int,(ow x (ep q)).sum=(gg q).length*(a+b)/\(∀z∈ow x (ep q),0<=z/\z<=2147483648)/\(ow x (ep q)).length=q.length:=by
 have key: ∀(q:List Int) (k:Nat),(ow x (ep q)).sum=(mx k q).length*(a+b)/\(∀z∈ow x (ep q),0<=z/\z<=2147483648)/\(ow x (ep q)).length=q.length:=by
  intro q;have g:=d.ab
  induction q with
  |nil=>intro k;simp[ow,ep,mx]
  |cons z q ih=>
   intro k;obtain⟨i,j,n⟩:=ih (k+1);have e:ow x (ep (z::q))=me ((ic z).map (uA x))::ow x (ep q):=rfl;have r:me ((ic z).map (uA x))=if 0<z then a+b else 0:=by
    unfold ic;split
    ·show wrap64 (0+uA x [(0,z)])=_;rw[d.Mc];unfold wrap64;omega
    ·rfl
   rw[e,r];refine⟨?_,?_,by simp[n]⟩
   ·rw[yu,i,mx,fa,Pz,Int.add_mul];split <;>simp
   ·intro y f
    rcases fC.1 f with rfl|f
    ·split <;>omega
    ·exact j y f
 exact fun q=>key q 0
def iF.afO (d:iF x c a b) (f:qn x.days c.size c.start q):me (pJ x (ep q) x.eB)=sy c q:=by
 have h:=d.held f;have e:Wk x (ep q) 0 c=sy c q:=by unfold Wk;rw[aeh f.bd f.len,d.ct.2.1];exact h.1
 rw[d.cu];show me (pJ x (ep q) (0+1))=_;rw[EU (cu:=c) (by rw[d.cu];rfl) d.ct.1,e];show wrap64 (0+sy c q)=_;unfold wrap64;omega
def iF.cost (d:iF x c a b) (f:qn x.days c.size c.start q):xj x (ep q)=sy c q+(gg q).length*(a+b)/\(0<=pe x c a b/\pe x c a b<=sy c q+(gg q).length*(a+b))/\dd c x.days*a<=pe x c a b/\sy c q+(gg q).length*(a+b)<=140875000000000:=by have k:=d.held f;obtain⟨c1,c2,c3⟩:=d.afN q;have h:=d.forced f;have g:=d.ab;have r:=d.hd;have m:=f.len;have s:=px q 0;have l:=LC x.days.toNat c.start;have e:=d.ct;have i:0<=c.hold*fe c.start x.days.toNat:=eS e.2.2.2.2.2.1 l;have j:0<=dd c x.days*(a+b):=eS h.1 oG;have n:dd c x.days*(a+b)<=(gg q).length*(a+b):=aef h.2.1 oG;have p:dd c x.days*a<=dd c x.days*(a+b):=ng oG h.1;have o:((gg q).length:Int)*(a+b)<=64*2147483648:=eX (by unfold gg;omega) oG oG dE;refine⟨?_,⟨by unfold pe;omega,by unfold pe;omega⟩,by unfold pe;omega,oG⟩;unfold xj;rw[d.afO f,K3 2147483648 _ _ c2 k.2.1 (by rw[c3];omega),c1]
end
end
section
open Go.Proofs.Tryz
open Go.RowKit jm ko kN
variable {M d:Dy} {c:Int} {m t:Tr}
structure Ch (n:Nat) (c:Int) (d:Dy) (i:Nat) (M:Dy):Prop where
 ok: ∀t∈M,(jK n t/\ ∀s∈t,s.1≠c)/\t≠[]
 wt:yw M<=yw (d.take i)
def Ch.skip (h:Ch n c d i M) (f:d[i]? =some t):Ch n c d (i+1) M:=⟨h.ok,by rw[rz f];have:=h.wt;omega⟩
def Ch.push (h:Ch n c d i M) (f:d[i]? =some t) (b:jK n m/\ ∀s∈m,s.1≠c) (a:m≠[]) (g:m.length<=t):Ch n c d (i+1) (M++[m]):=
 ⟨fun s G=>(fO.1 G).elim (h.ok s) fun e=>by rw[nw.1 e];exact⟨b,a⟩,by rw[rz f,zD];have:=h.wt;omega⟩
def WW {s:vg} (h:jK n m/\ ∀s∈m,s.1≠c) (G:xd n s) (X:s.1≠c):jK n (m++[s])/\ ∀y∈m++[s],y.1≠c:=
 ⟨h.1.append (jK.one G),fun y a=>(fO.1 a).elim (h.2 y) fun e=>by rw[nw.1 e];exact X⟩
inductive af0 (n K:Nat) (c:Int) (w:World) (e:Ending) (w':World):Prop
 |mk (dv:Value) (d:Dy) (z:Int) (he:e=.returned (.tuple #[.agg #[dv],z])) (ho:OT w w' dv d) (hd:jS n K d) (hne: ∀t∈d,t≠[]) (hc: ∀t∈d,∀s∈t,s.1≠c) (hb:Below w w w')
def Gt (dv:Value) (d:Dy) (n K:Nat) (c:Int) (w:World) (hd:RL 1 jf w dv d) (hk:jS n K d) (hK:K<=1000000):
  Calls prog 306 #[.agg #[dv],c] w (af0 n K c w):=by
 obtain⟨Ad,cd,rfl,aw,ax,O⟩:=iK.open_ hd;obtain⟨HC,Y⟩:=Zb O hk;have ay:d.length<=1000000:=by have:=hk.len;omega
 clear hd O hk;go_enter func306,ntmps306;go_wp2_with fail;go_loopw [7,16] (fun bv iv wr=> ∃(i:Nat) (z:Int) (ov:Value) (M:Dy),i<=d/\iv=.int .i64 i/\bv=.int .i64 z/\fc wr w 39 [.slice Ad d cd]/\fc wr (w+1) 39 [()]/\fc wr (w+1+1) 39 [ov]/\Hid (OT (w+3) wr ov M)/\Hid (Ch n c d i M)/\Below w w wr) (fun _ iv _=>d.length-(intOf iv).toNat)
 case atStart=>exact⟨0,0,_,[],eC _,rfl,rfl,((fc.new w _ _).alloc _).alloc _,(fc.fW (w.alloc (cB 39 [.slice Ad d cd])) _ _ sI).alloc _,fc.fW _ _ _ sI,(OT.jL _ _),zH ⟨(fun t h=>by cases h),eC _⟩,bL (bL (bL bF _) _) _⟩
 case round=>
  obtain⟨i,z,ov,M,hi,rfl,rfl,V,H,W,T,U,N⟩:=hrel;have l0:=V.lt;have l1:=H.lt;have l2:=W.lt;obtain⟨Am,cm,rfl,-⟩:=T.slice;by_cases D:i<d
  ·obtain⟨t,f⟩:=ec D;obtain⟨b,o,rfl,ar,tv,R,y0⟩:=HC i t f;obtain⟨At,ct,rfl,aB,aC,Q⟩:=fQ.open_ R;replace y0:=a7 N lE y0;have P:=N.size;have au:b<wr.heap.size:=oG;obtain⟨ag,HT,J⟩:=Zc Q f (Y.get f);have aD:t.length<=1000000:=by have:=J.out.2;omega
   have ah:M.length<=1000000000:=by have:=zC M;have:=U.out.wt;have:=uB d i;have:=Y.out.wt;omega
   clear R Q f;have e0:=V.c 0;obtain⟨v,an⟩:=nE (wr:World);subst an;go_wp2_with fail;have ha:=bL (bS v v) (cB 44 [.slice At t ct]);have bt:=fc.new v 44 [.slice At t ct];go_loopw [7,10,23] (fun bv lv jv wq=> ∃(j:Nat) (z:Int) (m:Tr),j<=t/\jv=.int .i64 j/\bv=.int .i64 z/\Hid (OS (v+1) wq lv m)/\m.length<=j/\Hid (jK n m/\ ∀s∈m,s.1≠c)/\Below v v wq/\v.heap.size<wq) (fun _ _ jv _=>t.length-(intOf jv).toNat)
   case atStart=>exact⟨0,z,[],eC _,rfl,rfl,(OS.jL _ _),lE,zH ⟨jK.jL n,fun s h=>by cases h⟩,ha,by simp⟩
   case round=>
    obtain⟨j,z,m,hj,rfl,rfl,q,ak,x,e,aE⟩:=hrel;obtain⟨Al,cl,rfl,-⟩:=q.slice;by_cases B:j<t
    ·obtain⟨⟨s1,s2⟩,G⟩:=ec B;obtain⟨b3,o3,rfl,aq,y1,y2⟩:=ag j _ G;have k:=N.trans (e.mono P);replace y1:=a7 k lE y1;replace y2:=a7 k lE y2;have HS:=zH (J.1.get G);have aA:=k.size;have ao:b3<wr.heap.size:=oG;have al:m.length<=1000000000:=oG;clear G;by_cases X:s1=c
     ·subst X;go_wp2_with fail;exact⟨⟨j+1,_,m,B,rfl,rfl,(q.alloc _),oG,x,e.alloc oG _,by simp;omega⟩,by simp[intOf];omega⟩
     ·go_wp2_with (at_builtin;refine P7 _ rfl (.tmp 35) (.tmp 37) rfl (v+1) _ m (q.alloc _) rfl s1 s2 rfl sI al sO ?_;intro g cap w5 F ai aj C S);go_roundw
      case rel=>exact⟨j+1,z,_,B,rfl,rfl,F,by simp;omega,(WW x HS X),(e.alloc oG _).trans ((C.below sO).mono oG),by simp at S;omega⟩
      case measure=>exact mI
    ·obtain rfl:j=t.length:=oG;have y:=V.below e l0;have A:=H.below e l1;have r:=W.below e l2;have aF:=y.lt;have aG:=A.lt;have aH:=r.lt;have I:=zH (T.below e lE);have k:=N.trans (e.mono P);have e2:=r.c 0;clear bt ha e0 y0 V H W T
     rcases tP m with rfl|hcm
     ·go_wp2_with fail;exact⟨⟨i+1,z,_,M,D,by go_num,rfl,y,A,r,I,(U.skip HT),k⟩,by simp[intOf];omega⟩
     ·have E:m≠[]:=by obtain⟨a,l,rfl⟩:=hcm;simp
      have az:0<m.length:=jQ.2 E;have aa:=zH E;clear hcm E;go_wp2_with (at_builtin;refine yA _ rfl (.tmp 44) (.tmp 47) rfl (w+3) _ M I rfl _ m (q.mono oG) rfl rfl ah oG ?_;intro g cap w5 F ai aj C S;have u:=C.below oG;have q2:=r.below u oG;have f2:=q2.frozen 0;have c2:w5.cell? (pB (w+1+1))=some (.slice Am M cm):=q2.cell 0);go_roundw
      case rel=>
       refine⟨i+1,z,_,M++[m],D,by go_num,rfl,(y.below u oG).kj (p:=pB (w+1+1)) dO _,(A.below u oG).kj (p:=pB (w+1+1)) dO _,q2.gH 0 _,zH ?_,(U.push HT x aa ak),?_⟩
       ·exact F.fG dO _
       ·exact(k.trans (u.mono oG)).setCell (p:=pB (w+1+1)) dO _
      case measure=>exact mI
  ·obtain rfl:i=d.length:=oG;have e2:=W.c 0;have e1:=H.c 0;have f1:=H.frozen 0;have L:=U.out;have Z:Hid (jS n K M):=zH ⟨fun t f=>(L.ok t f).1.1,by have:=L.wt;have:=uB d d;have:=Y.out.wt;omega⟩;have af:Hid (∀t∈M,t≠[]):=zH fun t f=>(L.ok t f).2;have ae:Hid (∀t∈M,∀s∈t,s.1≠c):=zH fun t f=>(L.ok t f).1.2;clear L;go_wp2_with fail;refine bodyPost_ret (iw rfl _ _ (w+1) 39 [.slice Am M cm] _ z rfl rfl (H.gH 0 _) underlying39 rfl kR) rfl ⟨_,M,z,rfl,(T.fG dO _).mono oG,Z,af,ae,N.setCell dO _⟩
end
section
open Go Go.RowKit jm ko Et kN
variable {p:Pl}
def OU (k:Nat) (d:Dy):(iP k d).length<=yw d:=by
 induction d with
 |nil=>simp[iP]
 |cons t d ih=>
  have a:iP k (t::d)=ku k t++iP k d:=by simp[iP]
  have b:(ku k t).length=t.length:=by simp[ku]
  rw[qM,a,fa];omega
def LX {k:Nat} {d:Dy} {y:Nat×vg} (h:y∈iP k d):y.1=k:=by unfold iP at h;obtain⟨t,-,h⟩:=qR.1 h;obtain⟨s,-,rfl⟩:=cy.1 h;rfl
def Fw (d:Nat): ∀(p:Pl) (k:Nat),(∀y∈p,jS n 4000 y)->(iZ k p).countP (fun x=>decide (x.1=d))<=4000/\(d<k->(iZ k p).countP (fun x=>decide (x.1=d))=0)
 | [],k,_=>by simp[iZ]
 |y::p,k,h=>by
  obtain⟨e,b⟩:=Fw d p (k+1) fun z g=>h z (.tail _ g);have i:=OU k y;have j:=(h y (.head _)).wt;have m:=List.countP_le_length (p:=fun x:Nat×vg=>decide (x.1=d)) (l:=iP k y);have f:k≠d->(iP k y).countP (fun x=>decide (x.1=d))=0:=fun c=>List.countP_eq_zero.2 fun x a=>by rw[LX a];simpa using c
  rw[iZ,aci];by_cases c:k=d
  ·have:=b oG;exact⟨oG,fun h=>oG⟩
  ·have:=f c;exact⟨oG,fun h=>by have:=b oG;omega⟩
def Og (h: ∀y∈p,jS n 4000 y) (c:Int) (d:Nat):tF (pY (sU c p)) d<=60000:=by
 have e:=(Fw d p 0 h).1;have b:tF (pY (sU c p)) d<=(iZ 0 p).countP (fun x=>decide (x.1=d)):=by
  unfold tF pY sU mn;rw[List.countP_map,List.countP_map,List.countP_filter];refine List.countP_mono_left fun x _ a=>?_;simp only[Function.comp,a6,decide_eq_true_eq] at a|-
  omega
 unfold tF at b|-
 omega
def UQ (h: ∀y∈p,jS n 4000 y) (c:Int): ∀x∈pY (sU c p),0<=x.2/\x.2<=2147483648:=fun x a=>by unfold pY sU mn at a;rw[kK] at a;obtain⟨y,g,rfl⟩:=cy.1 a;obtain⟨d,b,t,f,e⟩:=yj (mC.1 g).1;exact((h d b).st t f _ e).2
end
end Go.Proofs.YtgimnjldndkalaaGreatDoor
