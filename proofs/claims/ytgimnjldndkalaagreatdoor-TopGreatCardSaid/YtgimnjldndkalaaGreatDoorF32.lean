/- Of the proof of TopGreat: The heap's order mended from a place downwards. -/
import Derived.Deep.DeepCutAuto
import Derived.Test.YtgimnjldndkalaaGreatDoorF8
set_option linter.all false
set_option maxHeartbeats 1600000
set_option maxRecDepth 100000
namespace Go.Proofs.YtgimnjldndkalaaGreatDoor
section
open Go.Proofs.Tryz
open Go.RowKit PF jm ko kN
theorem Q0{p:Prop}(h:p:=by
 clear a;cases b
 ·go_wp2_with fail;go_ret
  exact⟨_,rfl,L',l,c,u,d⟩
 ·go_wp2_with fail;have q:=CV O _ p L' v mb l c k (2*k+1) oG oG;rw[t] at q;refine q.mono ?_;clear q;rintro e I ⟨rfl,⟨B,g⟩,j,r⟩;obtain⟨m,o⟩:=Zb g (d.trans (j.mono fun _=>.inl));clear g j r;go_wp2_with fail;exact⟨⟨2*k+1,_,B,by rw[t],oG,m,u.trans (D5.swap oG oG),o⟩,by rw[<-t];simp[intOf];omega⟩):p:=h
inductive PL (O:Nat->Prop) (w:World) (p:Nat) (L:Hp) (v:Value) (mb n:Nat) (e:Ending) (w':World):Prop
 |mk (b:Bool) (he:e=.returned b) (L':Hp) (f':Int->Option Int) (hs:sg O w' p L' v mb f') (hm:D5 n L L') (ht:gI O w w')
def NZ (O:Nat->Prop) (w:World) (p:Nat) (L:Hp) (v:Value) (mb:Nat) (f:Int->Option Int) (h:sg O w p L v mb f) (i n:Nat) (J:i<n) (T:n<=L) (P:L.length<=1000000):
  Calls prog 365 #[.iface 427 (.pointer p),i,n] w (PL O w p L v mb n):=by
 have H:=zH h;clear h;go_enter func365,ntmps365;go_wp2;go_loopw [7] (fun q wr=> ∃(k:Nat) (L':Hp) (l:Int->Option Int),q=.int .i64 k/\k<n/\sg O wr p L' v mb l/\D5 n L L'/\gI O w wr) (fun q _=>n-(intOf q).toNat)
 case atStart=>exact⟨i,L,f,rfl,J,H,D5.refl _ _,gI.refl _ _⟩
 case round=>
  obtain⟨k,L',l,rfl,R,F,E,C⟩:=hrel;obtain⟨y,u,D⟩:=Zc F E C;have S:=E.len;clear F E C;have M:=Ru 562 p;have N:=La 562 p;have t:((2*k+1:Nat):Int)=2*(k:Int)+1:=oG;have A:((2*k+1+1:Nat):Int)=2*(k:Int)+1+1:=oG;by_cases Q:2*k+1<n
  ·by_cases K:2*k+2<n
   ·go_wp2_with fail;have q:=uj O wr p L' v mb l y (2*k+1+1) (2*k+1) oG oG;rw[A,t] at q;refine q.mono ?_;rintro e w1 ⟨b,rfl,x⟩;obtain⟨s,z⟩:=Zb (y.below x) (D.trans (gI.ke x));clear x q;cases b
    ·go_wp2_with fail;have q:=uj O _ p L' v mb l s (2*k+1) k oG oG;rw[t] at q;refine q.mono ?_;clear q;rintro e G ⟨b,rfl,a⟩;obtain⟨c,d⟩:=Zb (s.below a) (z.trans (gI.ke a));exact Q0
    ·go_wp2_with fail;have q:=uj O _ p L' v mb l s (2*k+1+1) k oG oG;rw[A] at q;refine q.mono ?_;clear q;rintro e G ⟨b,rfl,a⟩;obtain⟨c,d⟩:=Zb (s.below a) (z.trans (gI.ke a));clear a;cases b
     ·go_wp2_with fail;go_ret
      exact⟨_,rfl,L',l,c,u,d⟩
     ·go_wp2_with fail;have q:=CV O _ p L' v mb l c k (2*k+1+1) oG oG;rw[A] at q;refine q.mono ?_;clear q;rintro e I ⟨rfl,⟨B,g⟩,j,r⟩;obtain⟨m,o⟩:=Zb g (d.trans (j.mono fun _=>.inl));clear g j r;go_wp2_with fail;exact⟨⟨2*k+1+1,_,B,by rw[A],oG,m,u.trans (D5.swap oG oG),o⟩,by rw[<-A];simp[intOf];omega⟩
   ·go_wp2_with fail;have q:=uj O _ p L' v mb l y (2*k+1) k oG oG;rw[t] at q;refine q.mono ?_;clear q;rintro e G ⟨b,rfl,a⟩;obtain⟨c,d⟩:=Zb (y.below a) (D.trans (gI.ke a));exact Q0
  ·go_wp2_with fail;go_ret
   exact⟨_,rfl,L',l,y,u,D⟩
end
section
open Go.Proofs.Tryz
open Go.RowKit PF jm ko kN
variable {L:Hp} {a:Int×Int} {n:Nat}
inductive Mx (O:Nat->Prop) (w:World) (p:Nat) (L:Hp) (mb:Nat) (a:Int×Int) (e:Ending) (w':World):Prop
 |mk (r:Value) (he:e=.returned r) (L':Hp) (v':Value) (f':Int->Option Int) (hs:sg O w' p L' v' mb f') (hm: ∀x∈L',x∈L/\x.1≠a.1) (ht:gI O w w')
def Cb (y:L.length=n+1) (b:L[n]? =some a):L=L.take n++[a]:=by
 have h2:L[n]'oG=a:=by rw[fp oG] at b;exact fg b
 have c:L.drop n=[a]:=by rw[qW oG,h2,iE oG]
 rw[<-c,lV]
def DK {f:Int->Option Int} (h:vn L f) (y:L.length=n+1) (b:L[n]? =some a): ∀x∈L.take n,x∈L/\x.1≠a.1:=fun x A=>by obtain⟨i,r⟩:=gz.1 A;have c:=(bX.1 r).1;rw[fB] at c;rw[iG oG] at r;refine⟨a8 r,fun e=>?_⟩;have:=h.inj (id:=a.1) (u:=x.2) (v:=a.2) (by rw[r,<-e]) b;omega
def Ix (O:Nat->Prop) (w:World) (p:Nat) (L:Hp) (v:Value) (mb:Nat) (f:Int->Option Int) (h:sg O w p L v mb f) (i:Nat) (a:Int×Int) (r:L[i]? =some a) (hL:L.length<=1000000):
  Calls prog 363 #[.iface 427 (.pointer p),i] w (Mx O w p L mb a):=by
 have G:=(bX.1 r).1;obtain⟨n,y⟩: ∃n,L.length=n+1:=⟨L.length-1,oG⟩;have H:=zH h;clear h;have h0:=VH 562 p;have h1:=La 562 p;have h2:=Yu 562 p;go_enter func363,ntmps363;go_wp2_with fail;refine(Iu O _ p L v mb f H).mono ?_;rintro e w1 ⟨rfl,rfl⟩;rw[y];have hw:wrap64 (((n+1:Nat):Int)-1)=n:=by rw[show((n+1:Nat):Int)-1=n by omega];exact qO _ oG
 by_cases Z:n=i
 ·subst Z;have ae:=zH (Cb y r);have Y:((n:Int)==(n:Int))=true:=sI;go_wp2_with fail;have j:=zH (Cb y r);have c:=H.out;rw[j.out] at c;refine(CO O _ p _ v mb f a.1 a.2 c).mono ?_;rintro e w9 ⟨rfl,⟨R,D,d⟩,g⟩;obtain⟨k,m,B⟩:=Zc d (((gI.refl O _)).trans (g.mono fun _=>.inl)) (DK H.ok y r);clear c d g;go_wp2_with fail;go_ret;exact⟨_,rfl,_,R,D,k,fun x A=>by obtain⟨o,q⟩:=B x A;exact⟨o,q⟩,m⟩
 ·have Y:((n:Int)==(i:Int))=false:=by simp;omega
  obtain⟨b,hb⟩:=ec (l:=L) (i:=n) oG;go_wp2_with fail;refine(CV O _ p L v mb f H i n G oG).mono ?_;rintro e w2 ⟨rfl,⟨f2,z⟩,N,aa⟩;have E:(qI L i n)[n]? =some a:=by rw[mH r hb,if_pos rfl]
  have I:(qI L i n).length=n+1:=by rw[E1,y]
  have V:D5 L L (qI L i n):=D5.swap G oG;generalize qI L i n=L2 at z E I V;have T:=zH z;clear z aa;go_wp2_with fail;refine(NZ O _ p L2 v mb f2 T i n oG oG oG).mono ?_;rintro e w3 ⟨bb,rfl,U,f3,K,S,P⟩;have s:=zH K;have t:U[n]? =some a:=(S.tl n lE).trans E;have u:U.length=n+1:=S.len.trans I;have X:=N.trans (P.mono fun _=>.inl);clear K N P;cases bb
  ·go_wp2_with fail;refine(MF O _ p U v mb f3 s i oG oG).mono ?_;rintro e w4 ⟨rfl,⟨L4,f4,M,W⟩,Q⟩;have C:=zH M;have F:L4[n]? =some a:=(W.tl n oG).trans t;have J:L4.length=n+1:=W.len.trans u;have T4:=X.trans (Q.mono fun _=>.inl);clear M X Q;go_wp2_with fail;have j:=zH (Cb J F);have c:=C.out;rw[j.out] at c;refine(CO O _ p _ v mb f4 a.1 a.2 c).mono ?_;rintro e w9 ⟨rfl,⟨R,D,d⟩,g⟩;obtain⟨k,m,B⟩:=Zc d ((T4).trans (g.mono fun _=>.inl)) (DK C.ok J F);clear c d g;go_wp2_with fail;go_ret;exact⟨_,rfl,_,R,D,k,fun x A=>by obtain⟨o,q⟩:=B x A;exact⟨(V.mem x).1 ((S.mem x).1 ((W.mem x).1 o)),q⟩,m⟩
  ·go_wp2_with fail;have j:=zH (Cb u t);have c:=s.out;rw[j.out] at c;refine(CO O _ p _ v mb f3 a.1 a.2 c).mono ?_;rintro e w9 ⟨rfl,⟨R,D,d⟩,g⟩;obtain⟨k,m,B⟩:=Zc d ((X).trans (g.mono fun _=>.inl)) (DK s.ok u t);clear c d g;go_wp2_with fail;go_ret;exact⟨_,rfl,_,R,D,k,fun x A=>by obtain⟨o,q⟩:=B x A;exact⟨(V.mem x).1 ((S.mem x).1 o),q⟩,m⟩
end
section
open Go.Proofs.Tryz
open Go.RowKit PF jm ko kN
inductive Th (w:World) (e:Ending) (w':World):Prop
 |mk (p mb:Nat) (he:e=.returned (.pointer p)) (O:Nat->Prop) (hs:sg O w' p [] () mb (fun _=>none)) (ho: ∀k,O k->w.heap.size<=k) (hb:Below w w w')
def qe:prog.underlying 364=some (.map 3 3):=kR
def qd:prog.underlying 3=some (.int .i64):=kR
def uk (w:World):(zeroValue 3).run prog w=.ok (vI 0) w:=kR
def QE (w:World):Calls prog 331 #[] w (Th w):=by have b:= @run_makeMap prog;go_enter func331,ntmps331;go_wp2_with fail;go_ret;have a:=fc.fW (w.alloc (.map #[] 0)) 425 [(),.map (some w)] (g:=w.heap.size+1) sI;have c:=(nO.new w).at (w':=(w.alloc (.map #[] 0)).alloc (cB 425 [(),.map (some w)])) (sV _ _ _ sI);exact⟨w.heap.size+1,w,rfl,fun k=>k=w.heap.size\/k=w.heap.size+1,⟨a,gL _ _ _ _,c,vn.jL,.inr rfl,.inl rfl,fun g e=>by simp[Value.ownBlock] at e,fun k s=>by simp;omega⟩,fun k s=>oG,bL (bL bF _) _⟩
def N0 (O:Nat->Prop) (w:World) (p:Nat) (L:Hp) (v:Value) (mb:Nat) (f:Int->Option Int) (h:sg O w p L v mb f) (i:Nat) (a:Int×Int) (k:L[i]? =some a) (n:L.length<=1000000):
  Calls prog 354 #[.pointer p,a.1] w (Mx O w p L mb a):=by
 have H:=zH h;have m:=h.map.Vz (P:=prog) qe qd (uk _) a.1;have l:f a.1=some (i:Int):=(h.ok a.1 i).2 ⟨i,rfl,a.2,k⟩;rw[l] at m;have b:=h.ig;have y:=b.lt;have c0:=b.c 0;have c1:=b.c 1;clear h;go_enter func354,ntmps354;go_wp2_with fail;refine(Ix O _ p L v mb f H i a k n).mono ?_;rintro e w' ⟨r,rfl,L',t,s,d,c,g⟩;obtain⟨q,o,j⟩:=Zc d c g;clear d c g;go_wp2_with fail;go_ret;exact⟨_,rfl,L',t,s,q,o,j⟩
inductive PY (O:Nat->Prop) (w:World) (p:Nat) (L:Hp) (mb:Nat) (e:Ending) (w':World):Prop
 |no (hL:L=[]) (he:e=.returned (.tuple #[.int .i64 0,.int .i64 0,false])) (ht:gI O w w')
 |yes (a:Int×Int) (ha:a∈L) (he:e=.returned (.tuple #[a.1,a.2,true])) (L':Hp) (v':Value) (f':Int->Option Int) (hs:sg O w' p L' v' mb f') (hm: ∀x∈L',x∈L/\x.1≠a.1) (ht:gI O w w')
inductive Nq (L:Hp) (w:World) (e:Ending) (w':World):Prop
 |no (hL:L=[]) (he:e=.returned (.tuple #[.int .i64 0,.int .i64 0,false])) (hb:Below w w w')
 |yes (a:Int×Int) (ha:L[0]? =some a) (he:e=.returned (.tuple #[a.1,a.2,true])) (hb:Below w w w')
def KE (O:Nat->Prop) (w:World) (p:Nat) (L:Hp) (v:Value) (mb:Nat) (f:Int->Option Int) (h:sg O w p L v mb f):
  Calls prog 353 #[.pointer p] w (Nq L w):=by
 have b:=h.ig;have y:=b.lt;have c0:=b.c 0;obtain⟨A,c,rfl,E,k⟩:=h.slice
 match L with
 | []=>
  go_enter func353,ntmps353;go_wp2_with fail;refine bodyPost_ret (results_tmp3 rfl _ _ _) rfl (.no rfl rfl bF)
 |a::L=>
  obtain⟨g,c',i,j,-,-,e,d,-⟩:=h.cells sI;cases j;obtain⟨l,m⟩:=d 0 a rfl;clear h d;go_enter func353,ntmps353;go_upto_region 5 with fail
  refine rG (fun wS=>fc wS w 429 [a.1,a.2]) [] ((fc.new w 429 [a.1,a.2]).drew) fun hS=>?_;refine kL [0,1,2,3,4,5,6] ?_;refine tD ?_;go_wp2_with fail;refine bodyPost_ret (results_tmp3 rfl _ _ _) rfl (.yes a rfl rfl (bL bF _).drew)
def N4 (O:Nat->Prop) (w:World) (p:Nat) (L:Hp) (v:Value) (mb:Nat) (f:Int->Option Int) (h:sg O w p L v mb f) (n:L.length<=1000000):
  Calls prog 334 #[.pointer p] w (PY O w p L mb):=by
 have H:=zH h;clear h;go_enter func334,ntmps334;go_wp2_with fail;refine(KE O _ p L v mb f H).mono ?_;rintro e w1 (⟨l,rfl,k⟩|⟨a,m,rfl,k⟩)
 ·have j:=zH (gI.ke (O:=O) k);clear k;go_wp2_with fail;refine bodyPost_ret (results_tmp3 rfl _ _ _) rfl (.no l rfl j)
 ·obtain⟨b,i⟩:=Zb (H.below k) (gI.ke (O:=O) k);clear k;go_wp2_with fail;refine(N0 O _ p L v mb f b 0 a m n).mono ?_;rintro e G ⟨r,rfl,L',t,s,d,c,g⟩;obtain⟨q,o,j⟩:=Zc d c (i.trans (g.mono fun _=>.inl));clear d c g;go_wp2_with fail;refine bodyPost_ret (results_tmp3 rfl _ _ _) rfl (.yes a (a8 m) rfl L' t s q o j)
inductive Ti (O:Nat->Prop) (w:World) (p:Nat) (L:Hp) (mb:Nat) (id u:Int) (e:Ending) (w':World):Prop
 |mk (b:Bool) (he:e=.returned b) (O':Nat->Prop) (L':Hp) (v':Value) (f':Int->Option Int) (hs:sg O' w' p L' v' mb f') (ho: ∀k,O' k->O k\/w.heap.size<=k) (hm: ∀x∈L',x∈L\/x=(id,u)) (hl:L'.length<=L+1) (ht:gI O w w')
inductive PR (O:Nat->Prop) (w:World) (p:Nat) (L:Hp) (mb:Nat) (id u:Int) (e:Ending) (w':World):Prop
 |mk (he:e=.returned (.tuple #[])) (O':Nat->Prop) (L':Hp) (v':Value) (f':Int->Option Int) (hs:sg O' w' p L' v' mb f') (ho: ∀k,O' k->O k\/w.heap.size<=k) (hm: ∀x∈L',x∈L\/x=(id,u)) (hl:L'.length=L+1) (ht:gI O w w')
def KF (O:Nat->Prop) (w:World) (p:Nat) (L:Hp) (v:Value) (mb:Nat) (f:Int->Option Int) (h:sg O w p L v mb f) (id u:Int) (A:f id=none) (n:L.length<=100000):
  Calls prog 352 #[.iface 427 (.pointer p),.iface 429 (.agg #[id,u])] w (PR O w p L mb id u):=by
 have H:=zH h;clear h;have B:=zH A;clear A;have I:=VH 562 p;have E:=Wp 562 p;go_enter func352,ntmps352;go_wp2_with fail;refine(N3 O _ p L v mb f H id u B oG).mono ?_;rintro e w1 ⟨rfl,⟨r,t,z,d,c⟩,j⟩;obtain⟨b,i,a⟩:=Zc d j c;have m:(L++[(id,u)]).length=L.length+1:=sI;clear d j c;go_wp2_with fail;refine(Iu r _ p _ t mb z b).mono ?_;rintro e G ⟨rfl,rfl⟩;rw[m];have J:wrap64 (((L.length+1:Nat):Int)-1)=L.length:=by rw[show((L.length+1:Nat):Int)-1=L.length by omega];exact qO _ oG
 go_wp2_with fail;refine(MF r _ p _ t mb z b L oG oG).mono ?_;rintro e K ⟨rfl,⟨C,D,g,y⟩,l⟩;obtain⟨o,q⟩:=Zb g (i.trans (l.mono (fun k s=>a k s)));clear g l;go_wp2_with fail
 go_end0
 exact⟨rfl,r,C,t,D,o,a,fun x F=>by have:=(y.mem x).1 F;simpa using this,by rw[y.len,m],q⟩
def Iw (O:Nat->Prop) (w:World) (p:Nat) (L:Hp) (v:Value) (mb:Nat) (f:Int->Option Int) (h:sg O w p L v mb f) (id u:Int) (n:L.length<=100000):
  Calls prog 333 #[.pointer p,id,u] w (Ti O w p L mb id u):=by
 have H:=zH h;have m:=h.map.Vz (P:=prog) qe qd (uk _) id;have b:=h.ig;have y:=b.lt;have c0:=b.c 0;have c1:=b.c 1;cases l:f id with
 |some k=>
  rw[l] at m;clear h l;go_enter func333,ntmps333;go_wp2_with fail;go_ret;exact⟨false,rfl,O,L,v,f,H,fun k h=>.inl h,fun x h=>.inl h,oG,gI.refl _ _⟩
 |none=>
  rw[l] at m;have r:=zH l;clear h l;go_enter func333,ntmps333;go_wp2_with fail;refine(KF O _ p L v mb f H id u r n).mono ?_;rintro e w1 ⟨rfl,B,L',t,s,d,i,c,a,g⟩;obtain⟨q,A,o,j,z⟩:=Ze d i c g a;clear d i c g a;go_wp2_with fail;go_ret;exact⟨true,rfl,B,L',t,s,q,A,o,by rw[z.out];omega,j⟩
end
end Go.Proofs.YtgimnjldndkalaaGreatDoor
