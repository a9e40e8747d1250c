/- Of the proof of TopGreat: The walk of the length of a row. -/
import Derived.Test.YtgimnjldndkalaaGreatDoorF41
import Derived.Test.YtgimnjldndkalaaGreatDoorF11
set_option linter.all false
set_option maxHeartbeats 4000000
set_option maxRecDepth 100000
namespace Go.Proofs.YtgimnjldndkalaaGreatDoor
section
open Go.Proofs.Tryz
open Go.RowKit jm ko kN J8
theorem Rk{p:Prop}(h:p:=by
 refine kL [0,1,2,3,4,5,6,7,8,9,10,11,13,14,15,16,17,18,20,21,22,23,24] ?_;refine tO 12 fun K q=>?_;go_simp;refine(pk _ x _ _ _ (B.below (below_drewN bF _) lE)).mono ?_;rintro e wA ⟨rfl,v⟩;have j:=(below_drewN bF _).trans v;refine q _ _ (j) ?_;refine tO 19 fun K q=>?_;go_simp;refine q _ _ (j) ?_;refine tO 25 fun K q=>?_;go_simp;refine q _ _ (j) ?_;refine tO 26 fun K q=>?_;go_simp;refine q _ _ (j) ?_;refine tO 27 fun K q=>?_;go_simp;refine q _ _ (j) ?_;refine tD ?_;have G:=zH j;have aI:=(j.cell (p:=pA R (o7+s*2)) u4).trans v1;have aJ:=(j.cell (p:=(pA R (o7+(m-1)*2))) u4).trans v2;clear hS j v S;go_wp2_with fail;go_roundw
 case rel=>exact⟨i+1,_,_,oG,by go_num,rfl,rfl,c.trans (G.mono c.size)⟩
 case measure=>exact mI):p:=h
def uJ (g:Nat) (x:fS) (d:Dy) (r:List Pc) (w:World) (hg:pI w g x d) (hr:lA d r) (F: ∀t∈d,t.length<=1000000):
  Calls prog 327 #[.pointer g,.agg (kJ r).toArray] w (yy w):=by
 obtain⟨A1,c1,A2,c2,dv,ov,J,aj,Y,af⟩:=hg;obtain⟨HX,ar⟩:=Zb aj F;obtain⟨Ad,cd,rfl,k1,k2,X⟩:=iK.open_ Y;have aq:=zH X;obtain⟨Ao,co,rfl,g1,g2,ae⟩:=RL.open_ af;obtain⟨HC,HR⟩:=Zb ae hr;have n1:=lC r;rw[hr.1] at n1;have i1:(prog.info? 355).map (·.size)=some (kJ r).length:=by rw[n1];exact gZ
 obtain⟨I1,aa⟩:=Zb i1 (fun(i:Nat) (p:Pc) (hp:r[i]? =some p) (W:World)=>tZ r hr.1 i p hp W);obtain⟨R1,T⟩:=nR (kJ r);rw[T] at I1 aa|-
 have b3:=fc.new w 355 R1;have O:=J.lt;clear af ae hr n1 i1 T aj Y X F;go_enter func327,ntmps327;go_wp2_with (refine mJ _ rfl 355 (.tmp 3) rfl w 355 R1 _ rfl b3 underlying355 rfl I1 ?_);clear b3;go_loopw [5,6,14] (fun av sv iv wr=> ∃(i:Nat) (z a:Int),i<=5/\iv=.int .i64 i/\sv=.int .i64 z/\av=.int .i64 a/\Below w w wr) (fun _ _ iv _=>5-(intOf iv).toNat)
 case atStart=>exact⟨0,0,0,eC _,rfl,rfl,rfl,bL bF _⟩
 case round=>
  obtain⟨i,z,a,hi,rfl,rfl,rfl,n⟩:=hrel;by_cases aE:i<5
  ·obtain⟨p,hp⟩:=ec (l:=r) (i:=i) (by rw[HR.out.1];exact aE);have hx:=fun W=>aa i p hp W;have P:=HR.2 p (a8 hp);obtain⟨tn,k,y,bk⟩:=p;have C:=fc.new wr 353 [tn,k,y,bk];have c:=n.alloc n.size (cB 353 [tn,k,y,bk]);simp only[VM,List.toArray] at hx;clear hp;by_cases N:k<y
   ·obtain⟨g0,H,t,u,gl⟩:=P N;replace g0:0<=k:=g0;replace H:0<=tn:=H;replace gl:y<=(t.length:Int):=gl;replace u:d[tn.toNat]? =some t:=u;have aX:=ar t (a8 u);obtain⟨s,rfl⟩:=fw g0;obtain⟨Q,rfl⟩:=fw H;obtain⟨m,rfl⟩:=fw (show 0<=y by omega);rw[gu] at u;have aR:=fP u;obtain⟨b,o,rfl,hb,cs,-,⟨fv,bv,lv,f,bl,l,zz,rfl,Z,V,-,aD,aC,-⟩,L⟩:=HC Q t u;have y0:=a7 c lE (L 0 fv rfl);have y1:=a7 c lE (L 1 bv rfl);rw[eW] at y0;obtain⟨Af,cf,rfl,q1,q2,M⟩:=gx.open_ Z;obtain⟨Ab,cb,rfl,q3,q4,I⟩:=gx.open_ V;obtain⟨z1,ak⟩:=ec (l:=f) (i:=m-1) oG;obtain⟨z2,al⟩:=ec (l:=f) (i:=s) oG;obtain⟨z3,an⟩:=ec (l:=bl) (i:=m-1) oG;obtain⟨z4,ao⟩:=ec (l:=bl) (i:=s) oG;obtain⟨b2,o2,rfl,ay,w1⟩:=M (m-1) z1 ak;obtain⟨au,aF,U,aK,w2⟩:=M s z2 al;obtain⟨rfl,rfl⟩:b2=au/\o2=aF:=by simpa using U
    obtain⟨b4,o4,rfl,az,w3⟩:=I (m-1) z3 an;obtain⟨aw,aG,D,aL,w4⟩:=I s z4 ao;obtain⟨rfl,rfl⟩:b4=aw/\o4=aG:=by simpa using D
    obtain⟨b6,o6,rfl,aA,tv,ai,yt⟩:=aq Q t u;obtain⟨At,ct,rfl,aP,aQ,A⟩:=fQ.open_ ai;obtain⟨⟨s1,e1⟩,ag⟩:=ec (l:=t) (i:=s) oG;obtain⟨⟨s2,e2⟩,ah⟩:=ec (l:=t) (i:=m-1) oG;obtain⟨R,o7,rfl,aB,v1,-⟩:=A s _ ag;obtain⟨ax,aH,E,aM,v2,-⟩:=A (m-1) _ ah;obtain⟨rfl,rfl⟩:R=ax/\o7=aH:=by simpa using E
    replace w1:=a7 c lE w1;replace w2:=a7 c lE w2;replace w3:=a7 c lE w3;replace w4:=a7 c lE w4;replace yt:=a7 c lE yt;replace v1:=a7 c lE v1;replace v2:=a7 c lE v2;have h:=J.below c O;have p0:=C.c 0;have p1:=C.c 1;have p2:=C.c 2;have p3:=C.c 3;have x0:=h.c 0;have x1:=h.c 1;have x2:=h.c 2;have x3:=h.c 3;have x4:=h.c 4;have x5:=h.c 5;have x6:=h.c 6;have x7:=h.c 7;have aY:m-1<t.length:=oG;have aW:s<t.length:=oG;have aO:s<m:=oG;have aS:m-1<f.length:=oG;have aT:s<f.length:=oG;have aU:m-1<bl.length:=oG;have aV:s<bl.length:=oG;have u0:=bP O c.size;have u1:=bP ay c.size;have u2:=bP az c.size;have u3:=bP aA c.size;have u4:=bP aB c.size;have u5:=bP hb c.size;have t0:g<wr.heap.size+1:=by simpa using u0
    have t1:b2<wr.heap.size+1:=by simpa using u1
    have t2:b4<wr.heap.size+1:=by simpa using u2
    have t3:b6<wr.heap.size+1:=by simpa using u3
    have t4:R<wr.heap.size+1:=by simpa using u4
    have t5:b<wr.heap.size+1:=by simpa using u5
    have u6:wr.heap.size<(wr.alloc (cB 353 [(Q:Int),(s:Int),(m:Int),bk])).heap.size:=sI;have S:IntKind.i64.wrap ((m:Int)-1)=((m-1:Nat):Int):=by have:((m-1:Nat):Int)=(m:Int)-1:=oG;rw[this];exact iM _ oG
    have B:=zH (HX.below c lE);clear u Z V M I L ak al an ao U D E P N h ai A ag ah aD aC;cases bk;all_goals go_wp2_with fail
    ·go_quiet (fail)
     go_wp2_with fail
     go_quiet (fail)
     go_wp2_with fail;refine rG (fun wS=>Below (wr.alloc (cB 353 [(Q:Int),(s:Int),(m:Int),false])).heap.size (wr.alloc (cB 353 [(Q:Int),(s:Int),(m:Int),false])) wS) [] ((below_drewN bF _).drew) fun hS=>?_;exact Rk
    ·go_quiet (fail)
     go_wp2_with fail
     go_quiet (fail)
     go_wp2_with fail
     go_quiet (fail)
     go_wp2_with fail;refine rG (fun wS=>Below (wr.alloc (cB 353 [(Q:Int),(s:Int),(m:Int),true])).heap.size (wr.alloc (cB 353 [(Q:Int),(s:Int),(m:Int),true])) wS) [] ((below_drewN (below_drewN bF _) _).drew) fun hS=>?_;exact Rk
   ·have aN:y<=k:=oG;clear N P;go_wp2_with fail;go_roundw
    case rel=>exact⟨i+1,z,a,oG,by go_num,rfl,rfl,c⟩
    case measure=>exact mI
  ·obtain rfl:i=5:=oG;have h:=J.below n O;have x0:=h.c 0;have x1:=h.c 1;have x2:=h.c 2;have x3:=h.c 3;have x4:=h.c 4;have x5:=h.c 5;have B:=zH (HX.below n lE);go_wp2_with fail;refine(pk _ x _ _ _ B).mono ?_;rintro e wA ⟨rfl,v⟩;go_wp2_with fail;go_ret;exact⟨_,rfl,n.trans (v.mono n.size)⟩
def Le (g:Nat) (x:fS) (d:Dy) (k i j:Int) (n m:Nat) (D E:List Pc) (w:World) (hg:pI w g x d) (A:lA d D) (B:lA d E) (ag:n<d) (ah:m<d) (r: ∀t∈d,t.length<=1000000):
  Calls prog 312 #[.pointer g,.agg #[k,(n:Int),(m:Int),i,j],.agg (kJ D).toArray,.agg (kJ E).toArray] w (yy w):=by
 have HG:=zH hg;obtain⟨A1,c1,A2,c2,dv,ov,N,-,-,Q⟩:=hg;obtain⟨Ao,co,rfl,g1,g2,z⟩:=RL.open_ Q;obtain⟨ta,R⟩:=ec ag;obtain⟨tb,S⟩:=ec ah;obtain⟨bo,oo,rfl,af,cs,-,⟨_,_,_,_,_,_,za,rfl,-⟩,O⟩:=z n ta R;obtain⟨Z,ai,M,aj,ak,-,⟨_,_,_,_,_,_,zb,rfl,-⟩,q⟩:=z m tb S;obtain⟨rfl,rfl⟩:bo=Z/\oo=ai:=by simpa using M
 have ya:=O 3 za rfl;have V:=q 3 zb rfl;obtain⟨X,Y,G⟩:=Zc A B r;have n1:=lC D;have n2:=lC E;rw[A.1] at n1;rw[B.1] at n2;have I1:=zH (show(prog.info? 355).map (·.size)=some (kJ D).length by rw[n1];exact gZ);have I2:=zH (show(prog.info? 355).map (·.size)=some (kJ E).length by rw[n2];exact gZ);have P:=N.lt;obtain⟨F,o⟩:=Zb (fun(W:World) (h:Below w w W)=>uJ g x d D W (HG.below h lE) X G) (fun(W:World) (h:Below w w W)=>uJ g x d E W (HG.below h lE) Y G);obtain⟨s,I⟩:=nR (kJ D);obtain⟨u,J⟩:=nR (kJ E);rw[I] at I1 F|-
 rw[J] at I2 o|-
 clear Q z R S M O q A B r n1 n2 I J;go_enter func312,ntmps312;go_wp2_with fail;have C:=((fc.new w 320 [k,(n:Int),(m:Int),i,j]).alloc (cB 355 s)).alloc (cB 355 u);have T:=(fc.fW (w.alloc (cB 320 [k,(n:Int),(m:Int),i,j])) 355 s (g:=w.heap.size+1) sI).alloc (cB 355 u);have U:=fc.fW ((w.alloc (cB 320 [k,(n:Int),(m:Int),i,j])).alloc (cB 355 s)) 355 u (g:=w.heap.size+1+1) sI;have a:=bL (bL (bL (bS w w) (cB 320 [k,(n:Int),(m:Int),i,j])) (cB 355 s)) (cB 355 u);revert C T U a;generalize ((w.alloc (cB 320 [k,(n:Int),(m:Int),i,j])).alloc (cB 355 s)).alloc (cB 355 u)=w1;intro C T U a;have l0:=C.lt;have l1:=T.lt;have l2:=U.lt;have m1:=C.c 1;have m2:=C.c 2;replace ya:=a7 a lE ya;replace V:=a7 a lE V;have x7:=(N.below a P).c 7;have u0:=bP P a.size;have u1:=bP af a.size;refine rB [] fun hS=>?_;refine kL [0] ?_;refine ki 1 (v:=.agg s.toArray) rfl rfl kR jF (fun wS hSw=>?_) hS ?_
 ·refine nK wS 355 (.tmp 6) ?_ (w+1) 355 s _ ?_ (T.below hSw l1) underlying355 rfl I1
  ·rfl
  ·rfl
 refine pU ?_;refine kL [3,4,5,6,7,8,9,10,11] ?_;refine tO 2 fun K f=>?_;go_simp;refine(F _ (a.trans (hS.mono a.size))).mono ?_;rintro e w2 ⟨z2,rfl,L⟩;have b:=hS.trans (L.mono hS.size);refine f _ _ (b) ?_;refine tO 12 fun K f=>?_;go_simp;refine f _ _ (b) ?_;refine tO 13 fun K f=>?_;go_simp;refine f _ _ (b) ?_;refine tD ?_;have c:=a.trans (b.mono a.size);have H:=U.below b l2;have y:=C.below b l0;have m1:=y.c 1;have m2:=y.c 2;replace V:=(b.cell (p:=pA bo (oo+m*4+3)) u1).trans V;replace x7:=(b.cell (p:=pA g 7) u0).trans x7;have v0:=bP u0 b.size;have v1:=bP u1 b.size;have v2:=H.lt;have v3:=y.lt;clear hS b L ya;by_cases aa:n=m
 ·subst aa;go_wp2_with fail;go_ret;exact⟨_,rfl,c⟩
 ·go_wp2_with fail;refine rB [] fun hS=>?_
  refine kL [0,1] ?_;refine ki 2 (v:=.agg u.toArray) rfl rfl kR jF (fun wS hSw=>?_) hS ?_
  ·refine nK wS 355 (.tmp 7) ?_ (w+1+1) 355 u _ ?_ (H.below hSw v2) underlying355 rfl I2
   ·rfl
   ·rfl
  refine pU ?_;refine kL [4,5,6,7,8,9,10,11,12] ?_;refine tO 3 fun K f=>?_;go_simp;refine(o _ (c.trans (hS.mono c.size))).mono ?_;rintro e w3 ⟨z3,rfl,ae⟩;have l:=hS.trans (ae.mono hS.size);refine f _ _ (l) ?_;refine tO 13 fun K f=>?_;go_simp;refine f _ _ (l) ?_;refine tO 14 fun K f=>?_;go_simp;refine f _ _ (l) ?_;refine tO 15 fun K f=>?_;go_simp;refine f _ _ (l) ?_;refine tD ?_;go_wp2_with fail;go_ret;exact⟨_,rfl,c.trans (l.mono c.size)⟩
theorem SV{p:Prop}(h:p:=by
 intro wS hSw
 (try dsimp only at hSw)
 obtain⟨hSc,hSf⟩:=xi hSw;go_simp;try with_reducible rfl):p:=h
def CH (g:Nat) (x:fS) (d:Dy) (o:List Pc) (w:World) (D:pI w g x d) (n:lA d o) (j: ∀t∈d,t.length<=1000000):
  Calls prog 313 #[.pointer g,.agg (kJ o).toArray] w (ug w):=by
 have C:=zH D;obtain⟨A1,c1,A2,c2,dv,I,l,-,-,-⟩:=D;obtain⟨q,u⟩:=Zb n j;have B:=lC o;rw[n.1] at B;have y:=zH (show(prog.info? 355).map (·.size)=some (kJ o).length by rw[B];exact gZ);have m:=l.lt;obtain⟨p,i⟩:=Zb (fun(W:World) (h:Below w w W)=>KU g x d o W (C.below h lE) q) (fun(W:World) (h:Below w w W)=>uJ g x d o W (C.below h lE) q u);obtain⟨k,s⟩:=nR (kJ o);rw[s] at y p i|-
 clear n j B s;go_enter func313,ntmps313;go_wp2_with fail;have r:=fc.new w 355 k;have a:=bL (bS w w) (cB 355 k);revert r a;generalize w.alloc (cB 355 k)=w1;intro r a;have E:=r.lt;have M:=(l.below a m).c 2;have N:=(l.below a m).c 3;have u0:=bP m a.size;refine rB [] fun hS=>?_;refine kL [0] ?_;refine ki 1 (v:=.agg k.toArray) rfl rfl kR jF (fun wS hSw=>?_) hS ?_
 ·refine nK wS 355 (.tmp 3) ?_ w 355 k _ ?_ (r.below hSw E) underlying355 rfl y
  ·rfl
  ·rfl
 refine pU ?_;refine kL [3,4,5,6,7] ?_;refine tO 2 fun K b=>?_;go_simp;refine(p _ (a.trans (hS.mono a.size))).mono ?_;rintro e J ⟨F,rfl,z⟩;have c:=hS.trans (z.mono hS.size);refine b _ _ (c) ?_;by_cases H:F<=x.cap
 ·refine tO 8 fun K b=>?_;go_simp;refine b _ _ (c) ?_;refine tO 9 fun K b=>?_;go_simp;refine b _ _ (c) ?_;have hS:=c;refine pU ?_;refine jE 10 (v:=?_) rfl (by rfl) kR jF ?_ hS ?_;rotate_left
  ·exact SV
  refine pU ?_;refine jE 11 (v:=.agg k.toArray) rfl (by rfl) kR jF (fun wS hSw=>?_) hS ?_
  ·refine nK wS 355 (.tmp 3) ?_ w 355 k _ ?_ (r.below hSw E) underlying355 rfl y
   ·rfl
   ·rfl
  refine pU ?_;refine pU ?_;refine jE 13 (v:=?_) rfl (by rfl) kR jF ?_ hS ?_;rotate_left
  ·exact SV
  refine pU ?_;refine pU ?_;refine jE 14 (v:=?_) rfl (by rfl) kR jF ?_ hS ?_;rotate_left
  ·exact SV
  refine pU ?_;refine pU ?_;refine jE 15 (v:=?_) rfl (by rfl) kR jF ?_ hS ?_;rotate_left
  ·exact SV
  refine pU ?_;refine pU ?_;refine jE 16 (v:=?_) rfl (by rfl) kR jF ?_ hS ?_;rotate_left
  ·exact SV
  refine pU ?_;refine pU ?_;refine jE 17 (v:=?_) rfl (by rfl) kR jF ?_ hS ?_;rotate_left
  ·exact SV
  refine pU ?_;refine pU ?_;refine BD 12 rfl (by rfl) kR (fun K b=>?_);go_simp;refine(i _ (a.trans (hS.mono a.size))).mono ?_;rintro e L ⟨O,rfl,A⟩;have f:=hS.trans (A.mono hS.size);refine b _ _ (f) ?_;refine pU ?_;refine BD 18 rfl (by rfl) kR (fun K b=>?_);go_simp;refine b _ _ (f) ?_;refine tO 19 fun K b=>?_;go_simp;refine b _ _ (f) ?_;refine tO 20 fun K b=>?_;go_simp;refine b _ _ (f) ?_;refine tD ?_;go_wp2_with fail;go_ret;exact⟨_,rfl,a.trans (f.mono a.size)⟩
 ·have G:x.cap<F:=oG;refine tO 8 fun K b=>?_;go_simp;refine b _ _ (c) ?_;refine tO 9 fun K b=>?_;go_simp;refine b _ _ (c) ?_;have hS:=c;refine kS [10,11,12,13,14,15,16,17,18] ?_;refine tO 19 fun K b=>?_;go_simp;refine b _ _ (c) ?_;refine tO 20 fun K b=>?_;go_simp;refine b _ _ (c) ?_;refine tD ?_;go_wp2_with fail;go_ret;exact⟨_,rfl,a.trans (c.mono a.size)⟩
end
end Go.Proofs.YtgimnjldndkalaaGreatDoor
