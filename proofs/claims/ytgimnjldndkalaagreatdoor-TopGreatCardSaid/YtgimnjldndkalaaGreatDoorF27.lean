/- Of the proof of TopGreat: A tank by itself: what its visits cost (some number), and the visits that are chosen. -/
import Derived.Test.YtgimnjldndkalaaGreatDoorF43
import Derived.Test.YtgimnjldndkalaaGreatDoorF26
set_option linter.all false
set_option maxHeartbeats 2000000
set_option maxRecDepth 100000
namespace Go.Proofs.YtgimnjldndkalaaGreatDoor
section
open Go.Proofs.Tryz
open Go.RowKit jm ko Et kN
def s6 (l:List Int) (d:Int):Int:=if d<0 then 0 else l[d.toNat]?.getD 0
theorem Bn (v:Value) (l:List Int) (d:Int) (w:World) (h:gx w .i64 v l):
  Calls prog 211 #[v,d] w fun e w'=>e=.returned (s6 l d)/\w'=w:=by
 obtain⟨A,c,rfl,m,n,r⟩:=h.open_;clear h;by_cases f:d<0
 ·have a:s6 l d=0:=by unfold s6;rw[if_pos f]
  rw[a];go_enter func211,ntmps211;go_wp2_with fail;go_ret;exact⟨rfl,rfl⟩
 ·by_cases p:(l.length:Int)<=d
  ·have a:s6 l d=0:=by unfold s6;rw[if_neg f,hX oG];rfl
   rw[a];have i:0<=d:=oG;go_enter func211,ntmps211;go_wp2_with fail;go_ret;exact⟨rfl,rfl⟩
  ·obtain⟨k,rfl⟩:=fw (show 0<=d by omega);have j:k<l.length:=oG;obtain⟨z,g⟩:=ec j;have a:s6 l k=z:=by unfold s6;rw[if_neg f,gu,g];rfl
   rw[a];obtain⟨b,o,rfl,H,P⟩:=r k z g;have i:(k:Int)<l.length:=oG;clear g a;go_enter func211,ntmps211;go_wp2_with fail;go_ret;exact⟨rfl,rfl⟩
structure VOk (V:List (Int×Int)):Prop where
 len:V.length<=64
 q: ∀x∈V,0<=x.2/\x.2<=2147483648
section
variable (dm:Int) (A0:Option Addr) (n0 c0:Nat) (size start hold:Int)
theorem acJ (n:Nat) (U X:Value) (l:List Int) (V:List (Int×Int)) (w:World) (hs:1<=size/\size<=2147483648) (L:0<=start/\start<=size) (hn:1<=n/\n<=64) (J:gx w .i64 U l) (M:RL 2 iH w X V) (F:VOk V):
  Calls prog 210 #[.agg (pL dm A0 n0 c0 size start hold).toArray,(n:Int),U,X] w (yy w):=by
 obtain⟨W,hW⟩:=nR (w.alloc (cB 47 (pL dm A0 n0 c0 size start hold)));have d:Below w w W:=by rw[<-hW];exact bL bF _
 have f:fc W w 47 (pL dm A0 n0 c0 size start hold):=by rw[<-hW];exact fc.new _ _ _
 obtain⟨A1,c1,rfl,-⟩:=J.open_;obtain⟨A2,c2,rfl,-,-,r⟩:=fQ.open_ M;obtain⟨HP,HV,HC,HQ⟩:=Zd J M r F.q;have T:=F.len;clear J M r F;go_enter func210,ntmps210;go_wp2_with fail;clear hW;go_loopw [9,16] (fun sv O wr=> ∃(i:Nat) (s:Int),i<=V/\O=.int .i64 i/\sv=.int .i64 s/\fc wr w 47 (pL dm A0 n0 c0 size start hold)/\Below w w wr) (fun _ O _=>V.length-(intOf O).toNat)
 case atStart=>exact⟨0,0,eC _,rfl,rfl,f,d⟩
 case round=>
  clear f d;obtain⟨i,s,hi,rfl,rfl,f,d⟩:=hrel;have I:=f.lt;have m:=d.size;by_cases k:i<V
  ·obtain⟨⟨z,q⟩,g⟩:=ec k;obtain⟨b,o,rfl,H,P,Z⟩:=HC i _ g;replace P:=a7 d lE P;replace Z:=a7 d lE Z;clear g;have h:=bL d (cB 86 [z,q]);go_wp2_with fail;refine(Bn _ l z _ (HP.below h lE)).mono ?_;rintro e w3 ⟨rfl,rfl⟩;generalize s6 l z=p;go_wp2_with fail;go_roundw
   case rel=>exact⟨i+1,_,k,by go_num,rfl,f.alloc _,h⟩
   case measure=>exact mI
  ·obtain rfl:i=V.length:=oG;obtain⟨x0,x1,x2,x3,x4,x5,x6,x7,-⟩:=f.iY;go_wp2_with fail;refine rB [] fun hS=>?_;refine kL [0,1,2] ?_;refine tO 3 fun K C=>?_;go_simp;refine(Km _ V n _ (fQ.below HV.out (d.trans (hS.mono m)) lE) (fun x hx=>by have:=HQ.out x hx;omega) hn oG).mono ?_;rintro e w3 ⟨lv,rfl,t,j⟩;have c:=lB V n;obtain⟨Q,S⟩:=nR (lW V n);rw[S] at t c;obtain⟨A3,c3,rfl,-⟩:=t.open_;obtain⟨HR,A⟩:=Zb t c;clear S c;have hS:=hS.trans (j.mono hS.size);clear t j;refine C _ _ (hS) ?_;refine tO 4 fun K C=>?_;go_simp;refine(Bs 2 dm A0 n0 c0 1 size start 2 hold _ _ _ HR.out (by have:=A.out;omega) L hs.2 oG).mono ?_;rintro e Y ⟨u,rfl,v,a⟩;obtain⟨N,R⟩:=nR (sL 1 size start Q);rw[R] at v;obtain⟨A4,c4,rfl,-⟩:=v.open_;have HU:=zH v;generalize pX 1 size start Q=E;clear R;have hS:=hS.trans (a.mono hS.size);have D:=zH (bS Y Y);clear v a;refine C _ _ (hS) ?_;refine kL [5,6,7,8,9] ?_;refine tD ?_;have a:=d.trans (hS.mono m);have B:=f.below hS I;obtain⟨x0,x1,x2,x3,x4,x5,x6,x7,-⟩:=B.iY;go_wp2_with fail;refine(QD 2 dm _ 1 size start 2 hold _ N _ ⟨_,_,_,rfl⟩ (HU.below D lE)).mono ?_;rintro e w5 ⟨rfl,G⟩;generalize wrap64 (hold*me N)=y;go_wp2_with fail;go_ret;exact⟨_,rfl,a.trans (G.mono a.size)⟩
end
end
section
open Go.Proofs.Tryz
open Go.RowKit jm ko Et kN
theorem adH {size start:Int} {q:List Int} (e:q.length<=64) (h:pX 1 size start q=0):VOk (gg q):=by
 refine⟨by have:=px q 0;unfold gg;omega,fun x c=>?_⟩;obtain⟨d,-,-,a,-⟩:=tg c;unfold pX at h;cases b:Uf q with
 |false=>rw[b] at h;simp at h
 |true=>
  have:=dT.1 (show q.all _=true from b) x.2 (a8 a);simpa using this
section
variable (dm:Int) (A0:Option Addr) (n0 c0:Nat) (size start hold:Int)
theorem afl (n:Nat) (cap:Int) (pv:Value) (l:List Int) (w:World) (L:1<=size/\size<=2147483648) (f:0<=start/\start<=size) (c:size<=cap/\cap<=2147483648) (J:1<=n/\n<=64) (G:gx w .i64 pv l):
  Calls prog 241 #[.agg (pL dm A0 n0 c0 size start hold).toArray,(n:Int),cap,pv] w fun e w'=>
   ∃y q,e=.returned (.tuple #[y,true])/\q.length=n/\pX 1 size start q=0/\OV w w' y (gg q)/\Below w w w':=by
 obtain⟨W,hW⟩:=nR (w.alloc (cB 47 (pL dm A0 n0 c0 size start hold)));have E:Below w w W:=by rw[<-hW];exact bL bF _
 have I:fc W w 47 (pL dm A0 n0 c0 size start hold):=by rw[<-hW];exact fc.new _ _ _
 obtain⟨Ap,cp,rfl,-⟩:=G.open_;have HP:=zH G;have aj:=I.lt;have au:=E.size;obtain⟨M,N,O,P,Q,R,S,T,-⟩:=I.iY;clear G;go_enter func241,ntmps241;go_wp2_with fail;clear hW;refine(aes dm A0 n0 c0 size start hold n cap W L f c J.2).mono ?_;rintro e w2 ⟨y,q,rfl,a,i,b,d⟩;obtain⟨A1,c1,rfl,-⟩:=b.slice;obtain⟨j,A,HO⟩:=Zc a i b;have af:=I.below d aj;have r:=E.trans (d.mono au);clear a i b M N O P Q R S T;go_wp2_with fail;refine(aal _ q w2 HO.out.reads (by have:=j.out;omega)).mono ?_;rintro e w3 ⟨vv,rfl,s,h⟩;obtain⟨V,g⟩:=nR (gg q);rw[g] at s;obtain⟨A2,c2,rfl,-⟩:=s.slice;obtain⟨HV,C⟩:=Zb s g;have ak:=af.lt;have D:=af.below h ak;have F:=r.trans (h.mono r.size);obtain⟨M,N,O,P,Q,R,S,T,-⟩:=D.iY;have al:=D.lt;have ay:=F.size;clear s g d h;go_wp2_with fail;refine(aeX dm A0 n0 c0 size start hold n cap w3 L f c J.2).mono ?_;rintro e w5 ⟨y,q2,rfl,a,b,k⟩;obtain⟨A3,c3,rfl,-⟩:=b.slice;obtain⟨B,hB⟩:=nR (decide (pX 1 size start q2=0));rw[hB];obtain⟨z,aq,ao,aa⟩:=Zd a hB b (HV.below k lE);have ag:=D.below k al;have m:=F.trans (k.mono F.size);have an:=ag.lt;clear a b hB M N O P Q R S T k;cases B
 ·go_wp2_with fail
  go_ret2
  exact⟨_,q,rfl,j,A,by rw[C.out];exact aa.mono r.size,m⟩
 ·have t:=zH (of_decide_eq_true aq);go_wp2_with fail;refine(aal _ q2 w5 ao.out.reads (by have:=z.out;omega)).mono ?_;rintro e w7 ⟨vv,rfl,s,o⟩;obtain⟨V2,g⟩:=nR (gg q2);rw[g] at s;obtain⟨A4,c4,rfl,-⟩:=s.slice;obtain⟨Z,u,ae⟩:=Zc s g (aa.below o lE);have ah:=ag.below o an;have p:=m.trans (o.mono m.size);have U:=zH (adH (by have:=j.out;omega) A.out);have X:=zH (adH (by have:=z.out;omega) t.out);rw[C.out] at U;rw[u.out] at X;obtain⟨M,N,O,P,Q,R,S,T,-⟩:=ah.iY;have ax:=ah.lt;have H:=p.size;clear s g o;go_wp2_with fail;refine rB [] fun hS=>?_;refine kL [0,1,2] ?_;refine kG [3,4,5,6,8,9,10,11] ?_;refine pU ?_;refine BD 7 rfl (by rfl) kR (fun K hK=>?_);go_simp;refine(acJ dm A0 n0 c0 size start hold n _ _ l V2 _ L f J (HP.below (p.trans (hS.mono H)) lE) (Z.below hS lE).reads X).mono ?_;rintro e w9 ⟨z1,rfl,ai⟩;have hS:=hS.trans (ai.mono hS.size);clear ai;refine hK _ _ (hS) ?_;refine pU ?_;refine BD 12 rfl (by rfl) kR (fun K hK=>?_);go_simp;refine(acJ dm A0 n0 c0 size start hold n _ _ l V _ L f J (HP.below (p.trans (hS.mono H)) lE) (ae.below hS lE).reads U).mono ?_;rintro e az ⟨z2,rfl,v⟩;have hS:=hS.trans (v.mono hS.size);clear v;refine hK _ _ (hS) ?_;refine kG [13] ?_;refine kL [14] ?_;refine tD ?_;have x:=p.trans (hS.mono H);obtain⟨ar,Y⟩:=Zb (Z.below hS lE) (ae.below hS lE);by_cases hz:z1<=z2
  ·have aw:decide (z1<=z2)=true:=decide_eq_true hz;go_wp2_with fail
   go_ret2
   exact⟨_,q2,rfl,z,t,by rw[u.out];exact ar.mono m.size,x⟩
  ·have aw:decide (z1<=z2)=false:=decide_eq_false hz;go_wp2_with fail
   go_ret2
   exact⟨_,rfl,q,j,A,by rw[C.out];exact Y.mono r.size,x⟩
theorem abR (n:Nat) (cap:Int) (pv:Value) (l:List Int) (w:World) (L:1<=size/\size<=2147483648) (f:0<=start/\start<=size) (c:size<=cap/\cap<=2147483648) (J:1<=n/\n<=64) (G:gx w .i64 pv l):
  Calls prog 209 #[.agg (pL dm A0 n0 c0 size start hold).toArray,(n:Int),cap,pv] w fun e w'=>
   ∃y q,e=.returned (.tuple #[y,true])/\q.length=n/\pX 1 size start q=0/\OV w w' y (gg q)/\Below w w w':=by
 obtain⟨W,hW⟩:=nR (w.alloc (cB 47 (pL dm A0 n0 c0 size start hold)));have E:Below w w W:=by rw[<-hW];exact bL bF _
 have I:fc W w 47 (pL dm A0 n0 c0 size start hold):=by rw[<-hW];exact fc.new _ _ _
 obtain⟨Ap,cp,rfl,-⟩:=G.open_;have HP:=zH G;have aj:=I.lt;obtain⟨M,N,O,P,Q,R,S,T,-⟩:=I.iY;clear G;go_enter func209,ntmps209;go_wp2_with fail;clear hW;refine(afl dm A0 n0 c0 size start hold n cap _ l W L f c J (HP.below E lE)).mono ?_;rintro e w2 ⟨y,q,rfl,a,i,b,d⟩;obtain⟨V,g⟩:=nR (gg q);rw[g] at b;obtain⟨A1,c1,rfl,-⟩:=b.slice;obtain⟨j,HO⟩:=Zb (And.intro a (And.intro i g)) b;have h:=E.trans (d.mono E.size);clear a i b g M N O P Q R S T d;go_wp2_with fail
 go_ret2
 exact⟨_,q,rfl,j.1,j.2.1,by rw[j.out.2.2];exact HO.mono E.size,h⟩
end
end
section
open Go.Proofs.Tryz
open Go.RowKit jm ko Et kN
theorem ad8 {n:Nat} {π:Int} {d:Nat} (h:d<n):s6 (List.replicate n π) d=π:=by unfold s6;rw[if_neg oG,gu,rW,if_pos h];rfl
section
variable (dm:Int) (A0:Option Addr) (n0 c0:Nat)
theorem adS (c:kc) (n:Nat) (cap π:Int) (Q:Value) (w:World) (o:c.jU=1/\(1<=c.size/\c.size<=2147483648)/\(0<=c.start/\c.start<=c.size)) (A:0<=c.hold/\c.hold<=1024) (p:c.size<=cap/\cap<=2147483648) (hn:1<=n/\n<=64) (t:gx w .i64 Q (List.replicate n π)) (hπ:0<=π/\π<=2147483648):
  Calls prog 166 #[.agg (pL dm A0 n0 c0 c.size c.start c.hold).toArray,(n:Int),cap,Q] w fun e w'=>e=.returned (dd c n*π+c.hold*fe c.start n:)/\Below w w w':=by
 have C:(List.replicate n π).length=n:=sI;have H:=zH fun W=>acs dm A0 n0 c0 c.hold c n cap W ⟨o.1,o.2.1,o.2.2.1,oG⟩ p oG;have I:=zH fun W=>aeA dm A0 n0 c0 c.size c.start c.hold n W ⟨o.2.2.1,oG⟩ A hn.2;have g:=LA n c.start oG;have f:0<=dd c n/\dd c n<=64:=by have h0:=aaM (m:=gw c n) (by unfold gw;omega) o.2.1.1;unfold dd;split <;>omega
 have B:0<=c.hold*fe c.start n/\c.hold*fe c.start n<=1024*137438953472:=⟨eS A.1 g.1,eX A.2 oG g.1 dE⟩;have q:0<=dd c n*π/\dd c n*π<=64*2147483648:=⟨eS f.1 hπ.1,eX f.2 hπ.2 hπ.1 dE⟩;obtain⟨F,M⟩:=nR (dd c n);obtain⟨K,N⟩:=nR (c.hold*fe c.start n);obtain⟨G,x⟩:=nR (F*π);rw[M] at H q|-
 rw[N] at I B|-
 rw[x] at q|-
 have HG:Hid (wrap64 (F*π)=G):=zH (by rw[x];unfold wrap64;omega);have u:=zH fun d (h:d<n)=>ad8 (π:=π) h;obtain⟨L,O⟩:=nR (List.replicate n π);rw[O] at t u;obtain⟨Ap,cp,rfl,-⟩:=t.open_;have J:=zH t;clear M N x g f t O C;generalize c.size=size at*;generalize c.start=a at*;generalize c.hold=b at*;obtain⟨W,hW⟩:=nR (w.alloc (cB 47 (pL dm A0 n0 c0 size a b)));have s:Below w w W:=by rw[<-hW];exact bL bF _
 have v:fc W w 47 (pL dm A0 n0 c0 size a b):=by rw[<-hW];exact fc.new _ _ _
 obtain⟨S,T,U,V,X,Y,Z,x7,-⟩:=v.iY;have D:=v.lt;go_enter func166,ntmps166;go_wp2_with fail;clear hW;refine(Bn _ L ((0:Nat):Int) W (J.below s lE)).mono ?_;rintro e w2 ⟨rfl,rfl⟩;rw[u.out 0 oG];go_wp2_with fail;go_loopw [11,39] (fun lv E wr=> ∃i:Nat,i<=n/\E=.int .i64 i/\lv=.int .i64 π/\wr=w2) (fun _ E _=>n-(intOf E).toNat)
 case atStart=>exact⟨0,eC _,rfl,rfl,rfl⟩
 case round=>
  obtain⟨i,hi,rfl,rfl,rfl⟩:=hrel;by_cases r:i<n
  ·go_wp2_with fail;refine(Bn _ L (i:Int) wr (J.below s lE)).mono ?_;rintro e R ⟨rfl,rfl⟩;rw[u.out i r];go_wp2_with fail;go_roundw
   case rel=>exact⟨i+1,r,by go_num,rfl,by first|rfl|trivial⟩
   case measure=>exact mI
  ·obtain rfl:i=n:=oG;go_wp2_with fail;refine(H wr).mono ?_;rintro e R ⟨rfl,k⟩;have j:=v.below k D;have P:=j.lt;have l:=s.trans (k.mono s.size);clear S T U V X Y Z x7;obtain⟨S,T,U,V,X,Y,Z,x7,-⟩:=j.iY;have aa:=HG.out;go_wp2_with fail;refine(I R).mono ?_;rintro e w4 ⟨rfl,y⟩;have z:=l.trans (y.mono l.size);go_wp2_with fail;go_ret;exact⟨rfl,z⟩
end
end
end Go.Proofs.YtgimnjldndkalaaGreatDoor
