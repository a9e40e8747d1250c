/- Of the proof of TopGreat: The end of a list of stops, turned round in place. -/
import Derived.Test.YtgimnjldndkalaaGreatDoorG1
import Derived.Test.YtgimnjldndkalaaGreatDoorF15
set_option linter.all false
set_option maxHeartbeats 4000000
set_option maxRecDepth 100000
namespace Go.Proofs.YtgimnjldndkalaaGreatDoor
variable {q:Addr} {b f l:List Int} {B lb:Nat} {c d v:Value} {w w':World}
section
open Go.Proofs.Tryz
open Go.RowKit Go.Sort jm ko kN
variable {j:Nat}
def OW {t:Tr} (c:j<t.length*2):(t.flatMap gV)[j]? =(gV (t.getD (j/2) (0,0)))[j%2]? :=by obtain⟨s,u⟩:=ec (l:=t) (i:=j/2) oG;have h:=uI t (j/2) (j%2) s u oG;rw[show j/2*2+j%2=j by omega] at h;rw[h,gR,u];rfl
def ON (s:vg) {c:Nat} (a:c<2):(gV s)[c]? =some ((gV s)[c]!):=by
 have:c=0\/c=1:=oG
 rcases this with rfl|rfl <;>rfl
def EL (t:Tr) (c:j<t.length*2):(flatK gV 2 t.toArray)[j]! =(gV (t.getD (j/2) (0,0)))[j%2]! :=by rw[get_flatK _ _ _ _ (by simpa using c)];congr 2;simp[gR];rfl
def R5 (base:Nat) (w:World) (g cap c':Nat) (L a:Tr) (n:Nat) (M:n=(L++a).length) (h:OS base w (.slice g n cap) (L++a)) (H:(L++a).length<=1000000000):
  Calls prog 329 #[.slice (pA g (L.length*2)) a c'] w fun e w'=>
   e=.returned (.tuple #[])/\OS base w' (.slice g n cap) (L++a.reverse)/\kQ 84 base w w':=by
 subst M;have R:=h.1
 rcases h.2 with ⟨p,-⟩|⟨P,F,b,p,y,z,t,K,u,O⟩
 ·cases p
 injection p with m _ e3
 injection m with m
 injection m with m
 subst m;subst e3;have l: ∀j,j<(L++a).length*2->b[j]? =((L++a).flatMap gV)[j]? :=fun j c=>by
  have this:(List.take ((L++a).length*2) b.toList)[j]? =((L++a).flatMap gV)[j]? :=by rw[O]
  rw[iG c,fA] at this;exact this
 have N:((L++a).flatMap gV).length=(L++a).length*2:=mG _;have J:(L++a).length=L.length+a.length:=fa;have d: ∀(S:Tr) (j:Nat),j<S.length*2->((L++S).flatMap gV)[L.length*2+j]? =some ((gV (S.getD (j/2) (0,0)))[j%2]!):=fun S j c=>by rw[fU,fo (by rw[mG];omega),mG,rY,OW c,ON _ oG]
 have I:HoldsK gV 2 w g (L.length*2) a.toArray:=fun j c=>by
  have r:j<a.length*2:=by simpa using c
  refine⟨?_,?_⟩
  ·rw[cell_of_row w g _ b _ (0,0) z,l _ oG,d a j r,EL a r];rfl
  ·simp[World.frozen?,z]
 have f:=AnyQ.slices_Reverse KQ 2 (isAgg84) (sizeOf84) gV (fun _=>rfl) (fun x v p=>by simp[gV] at p;rcases p with rfl|rfl <;>rfl) g (L.length*2) c' a.toArray w I sO;refine(show Calls prog 329 #[.slice (pA g (L.length*2)) a c'] w (fun e w'=>e=.returned (.tuple #[])/\ ∃n,w'=putRowK gV 2 (Sort.ahead w n) g (L.length*2) a.toArray.reverse) from f).mono ?_;clear f;have E:a.toArray.reverse=a.reverse.toArray:=List.reverse_toArray;rintro e w' ⟨rfl,q,rfl⟩;have A:(putRowK gV 2 (Sort.ahead w q) g (L.length*2) a.toArray.reverse).heap[g]? =some (.cells (putCells id (L.length*2) (flatK gV 2 a.toArray.reverse) b) 84 (0,0)):=by simp[putRowK,putRow,mapBlock,Sort.ahead,jc,z,onCells]
 have B:w.grownBy (putRowK gV 2 (Sort.ahead w q) g (L.length*2) a.toArray.reverse) (some g):=by refine⟨rfl,rfl,rfl,by simp[putRowK,putRow,mapBlock,Sort.ahead],fun k Q D=>?_⟩;have:g≠k:=fun e=>D (by rw[e]);simp[putRowK,putRow,mapBlock,Sort.ahead,jc,this]
 refine⟨rfl,⟨?_,.inr ⟨g,cap,_,?_,y,A,?_,K,?_,?_⟩⟩,?_⟩
 ·rw[mG]
 ·simp
 ·simpa using t
 ·simpa[putCells] using u
 ·refine gy fun j=>?_;have o:(L++a.reverse).length=L.length+a.length:=sI;by_cases c:j<(L.length+a.length)*2
  ·rw[iG (by rw[o];exact c),fA];have C:j<b.size:=by rw[u];have:=t;omega
   by_cases s:j<L.length*2
   ·have m:((L++a.reverse).flatMap gV)[j]? =((L++a).flatMap gV)[j]? :=by rw[fU,fU,fu (by rw[mG];exact s),fu (by rw[mG];exact s)]
    rw[m,<-l j oG];simp[putCells,nz,show¬L.length*2<=j by omega]
   ·obtain⟨i,rfl⟩: ∃i,j=L.length*2+i:=⟨j-L.length*2,oG⟩;rw[d a.reverse i (by rw[Er];omega)];have G:=EL a.reverse (j:=i) (by rw[Er];omega);rw[<-E] at G;simp only[putCells,nz];rw[fM C];simp only[lL];rw[if_pos sO,rY,G];rfl
  ·rw[S5 (by rw[o];omega),hX (by rw[mG,o];omega)]
 ·exact kQ.ux h B
end
section
open Go.Proofs.Tryz
open Go.RowKit jm ko kN J8
def tZ (r:List Pc) (hr:r.length=5) (i:Nat) (p:Pc) (D:r[i]? =some p) (W:World):(Instr.index 355 (.agg (kJ r).toArray) (i:Int)).run prog W=.ok (.agg (VM p).toArray) W:=by
 match r,hr with
 | [p0,p1,p2,p3,p4],_=>
  have hi:i<5:=by have:=fP D;simpa using this
  have:i=0\/i=1\/i=2\/i=3\/i=4:=oG
  rcases this with rfl|rfl|rfl|rfl|rfl
  all_goals
   simp only[df,fK,lH] at D;subst D;simp[Instr.index,asIntOf,part,go_sem,kJ,VM]
def Jh {r:List Pc} {i:Nat} {p:Pc} (h:r[i]? =some p):rowLen (r.take (i+1))=rowLen (r.take i)+tG p:=by rw[gk,h];simp[rowLen]
def RV (p:Pc):0<=tG p:=by unfold tG;split <;>omega
def wL: ∀r:List Pc,0<=rowLen r
 | []=>by simp[rowLen]
 |p::r=>by have h1:=wL r;have h2:=RV p;unfold rowLen at*;rw[gN,yu];omega
def Oq (r:List Pc) (i:Nat):rowLen (r.take i)<=rowLen r:=by
 have h:rowLen r=rowLen (r.take i)+rowLen (r.drop i):=by unfold rowLen;rw[<-aeM,<-gJ,lV]
 have:=wL (r.drop i);omega
def OS.OA {lb:Nat} {w:World} {v:Value} {t:Tr} (h:OS lb w v t) (D:0<t.length): ∃g cap,v=.slice (pB g) t cap/\t.length<=cap/\cap<=9223372036854775807/\lb<=g/\g<w.heap.size:=by
 rcases h.2 with ⟨-,f⟩|⟨g,cap,a,e,hb,b,d,c,-⟩
 ·omega
 ·exact⟨g,cap,e,d,by simpa[maxLen] using c,hb,(aah.1 b).1⟩
inductive Ke (n:Nat) (len:Int) (w:World) (e:Ending) (w':World):Prop
 |mk (lv:Value) (L:Tr) (he:e=.returned lv) (ho:OS w w' lv L) (ht:jK n L) (hl:(L.length:Int)=len) (hb:Below w w w')
def yK (dv:Value) (d:Dy) (n:Nat) (r:List Pc) (w:World) (hd:RL 1 jf w dv d) (aq: ∀t∈d,jK n t) (hr:lA d r) (aM:rowLen r<=1000000) (au: ∀t∈d,t.length<=1000000):
  Calls prog 314 #[.agg #[dv],.agg (kJ r).toArray] w (Ke n (rowLen r) w):=by
 obtain⟨A,c,rfl,h1,h2,hc⟩:=iK.open_ hd;obtain⟨HC,aA,aD,HR⟩:=Zd hc aq au hr;have n1:=lC r;rw[hr.1] at n1;have i1:(prog.info? 355).map (·.size)=some (kJ r).length:=by rw[n1];exact gZ
 obtain⟨I1,ai⟩:=Zb i1 (fun(i:Nat) (p:Pc) (D:r[i]? =some p) (W:World)=>tZ r hr.1 i p D W);obtain⟨R1,ag⟩:=nR (kJ r);rw[ag] at I1 ai|-
 have b3:=fc.fW (w.alloc (cB 39 [.slice A d c])) 355 R1 (g:=w.heap.size+1) sI;clear hd hc aq hr n1 i1 ag au;go_enter func314,ntmps314;go_wp2_with (refine mJ _ rfl 355 (.tmp 3) rfl (w+1) 355 R1 _ rfl b3 underlying355 rfl I1 ?_);clear b3;go_loopw [5,10] (fun lv iv wr=> ∃(i:Nat) (L:Tr),i<=5/\iv=.int .i64 i/\Hid (OS (w+1+1) wr lv L)/\Hid (jK n L)/\Hid ((L.length:Int)=rowLen (r.take i))/\fc wr w 39 [.slice A d c]/\Below w w wr/\w.heap.size+1+1<=wr) (fun _ iv _=>5-(intOf iv).toNat)
 case atStart=>exact⟨0,[],eC _,rfl,(OS.jL _ _),(jK.jL _),rfl,(fc.new w _ _).alloc _,bL (bL bF _) _,by simp⟩
 case round=>
  obtain⟨i,L,hi,rfl,HO,HT,HL,B,v,aU⟩:=hrel;have aT:=B.lt;by_cases aH:i<5
  ·obtain⟨p,D⟩:=ec (l:=r) (i:=i) (by rw[HR.out.1];exact aH);have hx:=fun W=>ai i p D W;have Q:=zH (Jh D);have X:=HR.2 p (a8 D);have aG:=HL.out;have N:=Oq r (i+1);rw[Q.out] at N;have V:(L.length:Int)+tG p<=1000000:=oG;obtain⟨tn,a,u,H⟩:=p;have e0:=B.c 0;obtain⟨Al,cl,rfl,-⟩:=HO.slice;have s:=fc.new wr 353 [tn,a,u,H];have f:=v.alloc v.size (cB 353 [tn,a,u,H]);simp only[VM,tG,List.toArray] at hx V Q;clear D aG N;by_cases x:a<u
   ·obtain⟨g0,g1,t,m,gl⟩:=X x;replace g0:0<=a:=g0;replace g1:0<=tn:=g1;replace gl:u<=(t.length:Int):=gl;replace m:d[tn.toNat]? =some t:=m;rw[if_pos x] at V;have aC:Hid (rowLen (r.take (i+1))=rowLen (r.take i)+(u-a)):=zH (by rw[Q.out,if_pos x]);have aW:=aD t (a8 m);obtain⟨h,rfl⟩:=fw g0;obtain⟨tm,rfl⟩:=fw g1;obtain⟨j,rfl⟩:=fw (show 0<=u by omega);rw[gu] at m;have aS:=fP m;obtain⟨b,o,rfl,hb,tv,Z,y⟩:=HC tm t m;obtain⟨At,ct,rfl,aQ,aR,ah⟩:=fQ.open_ Z;obtain⟨s0,ar⟩:=ec (l:=t) (i:=0) oG;obtain⟨bt,ot,rfl,aO,-⟩:=ah 0 s0 ar;have z: ∀c',j-h<=c'->c'<=maxLen->Hid (RL 2 iH w (.slice (pA bt (ot+h*2)) (j-h) c') ((t.take j).drop h)):=fun c' q1 q2=>zH (fQ.part Z oG oG c' q1 q2);have R:Hid (jK n ((t.take j).drop h)):=zH (((aA t (a8 m)).take _).drop _);have k:Hid (((t.take j).drop h).length=j-h):=zH (by rw[km,fB];omega);have y1:=a7 f lE y;have aP:=bP hb v.size;obtain⟨SG,S⟩:=nR ((t.take j).drop h);rw[S] at R k;simp only[S] at z;have HG:=zH z;have p0:=s.c 0;have p1:=s.c 1;have p2:=s.c 2;have p3:=s.c 3;have x0:(wr.alloc (cB 353 [(tm:Int),(h:Int),(j:Int),H])).cell? w=some (.slice (pA b o) d c):=(B.alloc _).cell 0;have aK:h<j:=oG;clear m Z ah ar S z y X Q x;go_wp2_with fail;have E:=HO.alloc (cB 353 [(tm:Int),(h:Int),(j:Int),H]);have C:=B.alloc (cB 353 [(tm:Int),(h:Int),(j:Int),H]);have P:wr.heap.size<(wr.alloc (cB 353 [(tm:Int),(h:Int),(j:Int),H])).heap.size:=sI;revert p0 p1 p2 p3 x0 y1 s f E C P;generalize wr.alloc (cB 353 [(tm:Int),(h:Int),(j:Int),H])=wX;intro s f y1 p0 p1 p2 p3 x0 E C P;have aV:j<=ct:=oG;have aF:h<=j:=oG;have aE:h<ct:=oG;have aL:w.heap.size<wX.heap.size:=oG;have aN:b<wX.heap.size:=oG;have aB:=zH E;clear E;refine rB [13,14] fun hS=>?_;refine kL [0,1,2,3,4,5,6,7,8,9,10,11,12] ?_;rw[if_neg (show¬ct=h by omega)];have aI:ct-h<=maxLen:=by simp only[maxLen];omega
    have q:Below w w wX.drew:=f.drew;have O:w.heap.size+1+1<=wX.drew.heap.size:=by show _<=wX.heap.size;omega
    have an:L.length+(j-h)<=1000000000:=oG;refine tL 13 fun K hK=>?_;refine G1 wX.drew (.tmp 20) (.tmp 32) rfl (w+1+1) _ L (OS.drewN aB 1) rfl _ (j-h) (ct-h) SG rfl (fQ.below (HG _ oG aI).out q lE) k an O ?_;intro v5 w5 G U;have F:=U.below O;have M:=U.ig (s.drew) dE;have J:=C.drew.below F oG;obtain⟨gA,I,rfl,g5,g6,g7,g8⟩:=G.OA (by rw[fa,k.out];omega);rw[fa,k.out] at g5 G|-
    refine hK _ _ ?_;refine tL 14 fun K hK=>?_;go_simp;refine hK _ _ ?_;refine tD ?_;have z5:wX.heap.size<=w5.heap.size:=F.size;have z6:=M.lt;have p3:=M.c 3;have ak:((L++SG).length:Int)=rowLen (r.take (i+1)):=by rw[fa,k.out,aC.out];have:=HL.out;omega
    obtain⟨aa,ae⟩:=Zb ak G;clear hS p0 p1 p2 x0 y1 ak G U;cases H
    ·go_wp2_with fail;go_roundw
     case rel=>exact⟨i+1,L++SG,oG,by go_num,ae,(HT.append R),aa,J,q.trans (F.mono oG),oG⟩
     case measure=>exact mI
    ·go_wp2_with fail;have Y:=R5 (w+1+1) w5 gA I (I-L.length) L SG (L.length+(j-h)) (by rw[fa,k.out]) ae (by rw[fa,k.out];omega);rw[k.out] at Y;refine Y.mono ?_;clear Y;rintro e w6 ⟨rfl,ao,aj⟩;have T:=aj.below (show w.heap.size+1+1<=w5 by omega);have al:((L++SG.reverse).length:Int)=rowLen (r.take (i+1)):=by have:=aa.out;rw[fa] at this|-;rw[Er];exact this
     obtain⟨ax,az⟩:=Zb al ao;have z7:=T.size;clear al ao aj;go_wp2_with fail;go_roundw
     case rel=>exact⟨i+1,L++SG.reverse,oG,by go_num,az,(HT.append R.rev),ax,J.below T oG,(q.trans (F.mono oG)).trans (T.mono oG),oG⟩
     case measure=>exact mI
   ·have aJ:u<=a:=oG;rw[if_neg x] at Q;have aw:Hid ((L.length:Int)=rowLen (r.take (i+1))):=zH (by rw[Q.out,HL.out];omega);clear x V Q X;go_wp2_with fail;go_roundw
    case rel=>exact⟨i+1,L,oG,by go_num,(HO.alloc _),HT,aw,B.alloc _,f,by simp;omega⟩
    case measure=>exact mI
  ·obtain rfl:i=5:=oG;have af:(L.length:Int)=rowLen r:=by have:=HL.out;rw[fj (by rw[HR.out.1];exact lE)] at this;exact this
   have ay:=zH af;obtain⟨Al,cl,rfl,-⟩:=HO.slice;clear af;go_wp2_with fail;go_ret;exact⟨_,L,rfl,HO.mono oG,HT,ay,v⟩
def Eu (w:World) (C:List Value) (t:Tr):Prop:= ∃(D A y:Value) (f b l:List Int) (z:Int),C=[D,A,y,z]/\gx w .i64 D f/\gx w .i64 A b/\gx w .i64 y l/\f.length=t/\b.length=t/\l.length=t.length+1
def Eu.below {C:List Value} {t:Tr} (h:Eu w C t) (k:Below B w w') (a:w.heap.size<=B):Eu w' C t:=by obtain⟨D,A,y,f,b,l,z,e,c,i,j,m⟩:=h;exact⟨D,A,y,f,b,l,z,e,c.below k a,i.below k a,j.below k a,m⟩
def pI (w:World) (g:Nat) (x:fS) (d:Dy):Prop:=
 ∃A1 c1 A2 c2 dv O,fc w g 388 (yX x A1 c1 A2 c2 [dv,O])/\
  iz w (.agg #[x.days,x.mm,x.cap,x.len,.slice A1 x.eB c1,.slice A2 x.gn c2]) x/\RL 1 jf w dv d/\RL 4 Eu w O d
def pI.below {g:Nat} {x:fS} {d:Dy} (h:pI w g x d) (k:Below B w w') (a:w.heap.size<=B):pI w' g x d:=by obtain⟨A1,c1,A2,c2,dv,O,c,i,j,m⟩:=h;exact⟨A1,c1,A2,c2,dv,O,c.below k (bP c.lt a),i.below k a,iK.below j k a,RL.below m k a fun _ _ h=>h.below k a⟩
def KU (g:Nat) (x:fS) (d:Dy) (r:List Pc) (w:World) (hg:pI w g x d) (Q:lA d r):
  Calls prog 328 #[.pointer g,.agg (kJ r).toArray] w (yy w):=by
 obtain⟨A1,c1,A2,c2,dv,O,F,-,-,K⟩:=hg;obtain⟨Ao,co,rfl,g1,g2,J⟩:=RL.open_ K;obtain⟨HC,HR⟩:=Zb J Q;have Z:=lC r;rw[Q.1] at Z;have i1:(prog.info? 355).map (·.size)=some (kJ r).length:=by rw[Z];exact gZ
 obtain⟨I1,I⟩:=Zb i1 (fun(i:Nat) (p:Pc) (L:r[i]? =some p) (W:World)=>tZ r Q.1 i p L W);obtain⟨R1,E⟩:=nR (kJ r);rw[E] at I1 I|-
 have b3:=fc.new w 355 R1;have V:=F.lt;clear K J Q Z i1 E;go_enter func328,ntmps328;go_wp2_with (refine mJ _ rfl 355 (.tmp 3) rfl w 355 R1 _ rfl b3 underlying355 rfl I1 ?_);clear b3;go_loopw [5,9] (fun sv Y wr=> ∃(i:Nat) (z:Int),i<=5/\Y=.int .i64 i/\sv=.int .i64 z/\Below w w wr) (fun _ Y _=>5-(intOf Y).toNat)
 case atStart=>exact⟨0,0,eC _,rfl,rfl,bL bF _⟩
 case round=>
  obtain⟨i,z,hi,rfl,rfl,j⟩:=hrel;by_cases X:i<5
  ·obtain⟨p,L⟩:=ec (l:=r) (i:=i) (by rw[HR.out.1];exact X);have hx:=fun W=>I i p L W;have v:=HR.2 p (a8 L);obtain⟨R,c,h,T⟩:=p;have q:=fc.new wr 353 [R,c,h,T];have a:=j.alloc j.size (cB 353 [R,c,h,T]);simp only[VM,List.toArray] at hx;clear L;by_cases s:c<h
   ·obtain⟨U,n,t,e,gl⟩:=v s;replace U:0<=c:=U;replace n:0<=R:=n;replace gl:h<=(t.length:Int):=gl;replace e:d[R.toNat]? =some t:=e;obtain⟨B,rfl⟩:=fw U;obtain⟨tm,rfl⟩:=fw n;obtain⟨P,rfl⟩:=fw (show 0<=h by omega);rw[gu] at e;have ai:=fP e;obtain⟨b,o,rfl,k,C,-,⟨D,A,y,f,bl,l,zz,rfl,-,-,hl,-,-,ak⟩,H⟩:=HC tm t e;have y2:=a7 a lE (H 2 y rfl);obtain⟨Al,cl,rfl,q1,q2,u⟩:=gx.open_ hl;obtain⟨z1,M⟩:=ec (l:=l) (i:=P) oG;obtain⟨z2,N⟩:=ec (l:=l) (i:=B) oG;obtain⟨b2,o2,rfl,ah,w1⟩:=u P z1 M;obtain⟨S,aa,G,ae,w2⟩:=u B z2 N;obtain⟨rfl,rfl⟩:b2=S/\o2=aa:=by simpa using G
    replace w1:=a7 a lE w1;replace w2:=a7 a lE w2;have m:=F.below a V;have x7:(wr.alloc (cB 353 [(tm:Int),(B:Int),(P:Int),T])).cell? (pA g 7)=some (.slice (pA b o) d co):=m.cell 7;have p0:=q.c 0;have p1:=q.c 1;have p2:=q.c 2;have al:P<l.length:=oG;have aj:B<l.length:=oG;have ag:B<P:=oG;clear e hl u H M N G v s m;go_wp2_with fail
    go_quiet (fail)
    go_wp2_with fail;go_roundw
    case rel=>exact⟨i+1,_,oG,by go_num,rfl,below_drewN a _⟩
    case measure=>exact mI
   ·have af:h<=c:=oG;clear s v;go_wp2_with fail;go_roundw
    case rel=>exact⟨i+1,z,oG,by go_num,rfl,a⟩
    case measure=>exact mI
  ·obtain rfl:i=5:=oG;go_wp2_with fail;go_ret;exact⟨_,rfl,j⟩
end
section
open Go.RowKit jm ko kN J8
variable {a:List Value} {d:Dy} {t:Tr}
def zR (lb:Nat) (w:World) (a:List Value) (t:Tr):Prop:= ∃(d c g:Value) (f b l:List Int) (z:Int),a=[d,c,g,z]/\OI lb w d f/\OI lb w c b/\OI lb w g l/\f.length=t/\b.length=t/\l.length=t.length+1
def zR.below (h:zR lb w a t) (o:Below B w w') (n:w.heap.size<=B):zR lb w' a t:=by obtain⟨d,c,g,f,b,l,z,e,i,j,k,m⟩:=h;exact⟨d,c,g,f,b,l,z,e,i.below o n,j.below o n,k.below o n,m⟩
def zR.keep {base:Nat} {p:TypeId} (h:zR lb w a t) (o:kQ p base w w') (n:3≠p):zR lb w' a t:=by obtain⟨d,c,g,f,b,l,z,e,i,j,k,m⟩:=h;exact⟨d,c,g,f,b,l,z,e,i.keep o n,j.keep o n,k.keep o n,m⟩
def zR.fG (h:zR lb w a t) (n:q.block<lb) (u:Value):zR lb (w.setCell q u) a t:=by obtain⟨d,c,g,f,b,l,z,e,i,j,k,m⟩:=h;exact⟨d,c,g,f,b,l,z,e,i.fG n u,j.fG n u,k.fG n u,m⟩
def zR.reads (h:zR lb w a t):Eu w a t:=by obtain⟨d,c,g,f,b,l,z,e,i,j,k,m⟩:=h;exact⟨d,c,g,f,b,l,z,e,i.reads,j.reads,k.reads,m⟩
def wZ (lb:Nat) (w:World) (v:Value) (d:Dy):Prop:=OL lb 390 4 (zR lb) w v d
def wZ.below (h:wZ lb w v d) (o:Below B w w') (n:w.heap.size<=B):wZ lb w' v d:=OL.below h o n fun _ _ h=>h.below o n
def wZ.fG (h:wZ lb w v d) (n:q.block<lb) (u:Value):wZ lb (w.setCell q u) v d:=OL.fG h n u fun _ _ h=>h.fG n u
def wZ.reads (h:wZ lb w v d):RL 4 Eu w v d:=OL.reads h fun _ _ h=>h.reads
end
section
open Go.RowKit jm ko kN J8
def FK (u v:Value):Prop:= ∀g,u.ownBlock=some g->v.ownBlock≠some g
def FK.symm {u:Value} (h:FK u v):FK v u:=fun g a b=>h g b a
def OI.lt {lb:Nat} {w:World} {l:List Int} (h:OI lb w v l) {g:Nat} (a:v.ownBlock=some g):g<w.heap.size:=(iB h g a).2
end
section
open Go.Proofs.Tryz
open Go.RowKit jm ko kN J8
variable {e:Value} {g:Nat} {i:List Value} {t:TypeId}
def OI.Wy {u:Value} (m:OI lb w u l) (b:w.grownBy w' v.ownBlock) (C:FK u v):OI lb w' u l:=by
 refine World.ownsRow.kept m b ?_;cases h:u.ownBlock with
 |none=>exact .inl rfl
 |some k=>exact .inr fun e=>C k h e.symm
def OI.vo (h:OI lb w v l) (a:fc w g t i) (k:t≠3) (j:q.block=g) (u:Value):OI lb (w.setCell q u) v l:=by
 refine nJ h (fun G b e=>?_) u
 rcases h.2 with ⟨rfl,_⟩|⟨m,cap,d,rfl,f,c,_⟩
 ·simp[Value.ownBlock] at b
 ·simp[Value.ownBlock] at b;subst b;rw[j] at e;subst e;unfold fc at a;rw[c] at a;injection a with a
  injection a with _ a _
  exact k a.symm
def qj {o:Oper} {a:Act} {K:Act->World->Prop} {Q:Exit->Act->World->Prop} (w:World) (s x:Operand)
  (N:o.op=.call {callee:=.builtin .append,args:= #[s,x],argTypes:= #[26,26]})
  (base:Nat) (v:Value) (l:List Int) (n:OI base w v l) (O:a.eval s=v) (z:Int) {c p:Nat} (R:a.eval x=.slice p 1 c) (F:fc w p 3 [z]) (U:l.length<=1000000000) (q:base<=w)
  (h: ∀g cap w',OI base w' (.slice (pB g) (l+1) cap) (l++[z])->(∀u L,OI base w u L->FK u v->OI base w' u L/\FK u (.slice (pB g) (l+1) cap))->w.grownBy w' v.ownBlock->kQ 3 base w w'->
   K (a.put o.dst (.slice g (l+1) cap)) w'):Oper.wp prog o a w K Q:=by
 obtain⟨i,A,J,f,E⟩:=info_parts Ga;have b: ∀j u,[Value.int .i64 z][j]? =some u->w.cell? ((p:Addr).add j)=some u:=fun j u m=>by
  have t:(p:Addr).add j=(pA p j):=by unfold Addr.add;split <;>simp_all
  rw[t,F.cell];exact m
 have r: ∀u∈[Value.int .i64 z],u.oneCell'=true:=fun u m=>by simp at m;subst m;rfl
 have y:(l.length+1)*i.bytes<=140737488355328:=by rw[E];omega
 have B:[Value.int .i64 z].length=1*i.size:=by rw[f];rfl
 have d:w.ownsRow base 3 i.size v l.length (l.map (.int .i64)):=by rw[f];exact n
 obtain⟨V,w',I,H,D,T⟩:=run_append_own (P:=prog) w base 26 o.type 3 i _ i.size i.bytes underlying26 A J rfl rfl (by rw[f];rfl) (by rw[f];decide) v l.length _ d p 1 c [z] B b r mO y q;obtain⟨g,cap,rfl,k⟩:=yB (P:=prog) w base 26 o.type 3 i _ underlying26 A J v l _ d p 1 c [z] B b r oG mO y I;rw[f] at H;unfold Oper.wp execOp;simp only[N,resolve,invoke,builtin,ks,pR,lO,mT,gN,lG,O,R,I];refine h g cap w' (by unfold OI;rw[fa,gJ];exact H) (fun u L m C=>⟨m.Wy D C,fun G M S=>?_⟩) D (kQ.ux n D);have e:g=G:=by simpa[Value.ownBlock] using S
 subst e
 rcases k with h5|h5
 ·exact C g M h5
 ·have:=m.lt M;omega
def ES (b:w.grownBy w' v.ownBlock) (a:fc w g t i) (c:v.ownBlock≠some g):fc w' g t i:=
 (b.block g a.lt (fun e=>c e.symm)).trans a
structure xA (lb:Nat) (w:World) (fv bv lv:Value) (f b l:List Int):Prop where
 hf:OI lb w fv f
 hb:OI lb w bv b
 hl:OI lb w lv l
 d1:FK fv bv
 d2:FK fv lv
 d3:FK bv lv
def xA.below {B:Nat} (h:xA lb w d c e f b l) (a:Below B w w') (g:w.heap.size<=B):xA lb w' d c e f b l:=⟨h.hf.below a g,h.hb.below a g,h.hl.below a g,h.d1,h.d2,h.d3⟩
def xA.vo (h:xA lb w d c e f b l) (a:fc w g t i) (k:t≠3) (j:q.block=g) (u:Value):xA lb (w.setCell q u) d c e f b l:=⟨h.hf.vo a k j u,h.hb.vo a k j u,h.hl.vo a k j u,h.d1,h.d2,h.d3⟩
def xA.alloc (h:xA lb w d c e f b l) (o:Obj):xA lb (w.alloc o) d c e f b l:=⟨h.hf.alloc o,h.hb.alloc o,h.hl.alloc o,h.d1,h.d2,h.d3⟩
def FK.nil (v:Value):FK () v:=fun g h=>by simp[Value.ownBlock] at h
def OI.Wu {z:Int} (a:fc w g 3 [z]) (b:lb<=g):OI lb w (.slice g 1 1) [z]:=
 ⟨rfl,.inr ⟨g,1,#[z],rfl,b,a,lE,by decide,rfl,rfl⟩⟩
end
section
open Go.Proofs.Tryz
open Go.RowKit jm ko kN J8
variable {a:Value}
section
variable {o:Oper} {a:Act} {K:Act->World->Prop} {Q:Exit->Act->World->Prop} (w:World) (s x:Operand) (ho:o.op=.call {callee:=.builtin .append,args:= #[s,x],argTypes:= #[26,26]})
 {lb:Nat} {fv bv lv:Value} {f b l:List Int} (T:xA lb w fv bv lv f b l) (z:Int) {c g0:Nat} (hx:a.eval x=.slice (some ⟨g0,0,none⟩) 1 c) (hg0:fc w g0 3 [.int .i64 z]) (hb:lb<=w.heap.size)
include ho T hx hg0 hb
theorem xA.afB (m:a.eval s=fv) (p:f.length<=1000000000) (h: ∀g cap w',xA lb w' (.slice (pB g) (f+1) cap) bv lv (f++[z]) b l->w.grownBy w' fv.ownBlock->kQ 3 lb w w'->K (a.put o.dst (.slice (pB g) (f+1) cap)) w'):Oper.wp prog o a w K Q:=by refine qj w s x ho lb fv f T.hf m z hx hg0 p hb fun g cap w' k c d e=>h g cap w' ?_ d e;obtain⟨i,j⟩:=c bv b T.hb T.d1.symm;obtain⟨r,t⟩:=c lv l T.hl T.d2.symm;exact⟨k,i,r,j.symm,t.symm,T.d3⟩
theorem xA.aaG (m:a.eval s=bv) (p:b.length<=1000000000) (h: ∀g cap w',xA lb w' fv (.slice (pB g) (b+1) cap) lv f (b++[z]) l->w.grownBy w' bv.ownBlock->kQ 3 lb w w'->K (a.put o.dst (.slice (pB g) (b+1) cap)) w'):Oper.wp prog o a w K Q:=by refine qj w s x ho lb bv b T.hb m z hx hg0 p hb fun g cap w' k c d e=>h g cap w' ?_ d e;obtain⟨n,q⟩:=c fv f T.hf T.d1;obtain⟨r,t⟩:=c lv l T.hl T.d3.symm;exact⟨n,k,r,q,T.d2,t.symm⟩
theorem xA.aaH (m:a.eval s=lv) (p:l.length<=1000000000) (h: ∀g cap w',xA lb w' fv bv (.slice (pB g) (l+1) cap) f b (l++[z])->w.grownBy w' lv.ownBlock->kQ 3 lb w w'->K (a.put o.dst (.slice (pB g) (l+1) cap)) w'):Oper.wp prog o a w K Q:=by refine qj w s x ho lb lv l T.hl m z hx hg0 p hb fun g cap w' k c d e=>h g cap w' ?_ d e;obtain⟨n,q⟩:=c fv f T.hf T.d2;obtain⟨i,j⟩:=c bv b T.hb T.d3;exact⟨n,i,k,T.d1,q,j⟩
end
theorem kQ.tr {e:TypeId} {base:Nat} {A B C:World} (h:kQ e base A B) (k:kQ e base B C):kQ e base A C:=
 ⟨k.os.trans h.os,k.tape.trans h.tape,k.output.trans h.output,eZ h.size k.size,fun b a d=>by have e:=h.block b a d;exact(k.block b (bP a h.size) (d.imp id fun c f g=>by rw[e];exact c f g)).trans e⟩
theorem xA.drew (h:xA lb w c a d f b l):xA lb w.drew c a d f b l:=⟨h.hf,h.hb,h.hl,h.d1,h.d2,h.d3⟩
theorem xA.lt (T:xA lb w c a d f b l):(∀g,c.ownBlock=some g->g<w.heap.size)/\(∀g,a.ownBlock=some g->g<w.heap.size)/\ ∀g,d.ownBlock=some g->g<w.heap.size:=
 ⟨fun g h=>(iB T.hf g h).2,fun g h=>(iB T.hb g h).2,fun g h=>(iB T.hl g h).2⟩
theorem vX {P:Program} {o:Oper} {a:Act} {K:Act->World->Prop} {Q:Exit->Act->World->Prop} (w:World) (s x:Operand) (t:TypeId)
  (ho:o.op=.call {callee:=.builtin .append,args:= #[s,x],argTypes:= #[t,t]})
  (base:Nat) (e:TypeId) (z:Value) (size d:Nat) (N:P.underlying t=some (.slice e)) (E:(P.info? e).map (fun i=>(i.zero,i.size,i.bytes))=some (some z,size,d))
  (I:z.cells.size=size) (G:0<size) (C:d<=100)
  (v:Value) (n:Nat) (J:List Value) (f:w.ownsRow base e size v n J) (m:a.eval s=v)
  (b:List Value) (c:Nat) (O:a.eval x=.slice w 1 c) (T:b.length=size) (k:b.all (fun u=>u.oneCell')=true)
  (p:n<=1000000000) (A:base<=w)
  (h: ∀g cap w',w'.ownsRow base e size (.slice (pB g) (n+1) cap) (n+1) (J++b)->base<=g->g<w'.heap.size->kQ e base w w'->(w.alloc (cB e b)).grownBy w' v.ownBlock->
   K (a.put o.dst (.slice g (n+1) cap)) w'):
  Oper.wp P o a (w.alloc (cB e b)) K Q:=by
 obtain⟨i,E,R,F,y⟩:=info_parts E;refine wp_append_own (P:=P) (w.alloc (cB e b)) s x t ho base e i z size d N E R F y I G v n J m (f.alloc _) w 1 c b O oG
  (fun j u H=>?_) (fun u H=>dT.1 k u H) mO ?_ sO (fun U w' q L _=>?_)
 ·have l:(w:Addr).add j=(pA w j):=by unfold Addr.add;split <;>simp_all
  rw[l,(fc.new w e b).cell];exact H
 ·have:=kg (show n+1<=1000000001 by omega) C;omega
 ·rcases q.2 with ⟨_,S⟩|⟨g,cap,M,rfl,B,D,r⟩
  ·omega
  ·exact h g cap w' q B (aah.1 D).1 (kQ.IX f L) L
end
end Go.Proofs.YtgimnjldndkalaaGreatDoor
