/- Of the proof of TopCosts: The walks of the reader: numbers behind names. -/
import Derived.Test.YtgimnjldndkalaaGreatDoorF36
import Derived.Test.YtgimnjldndkalaaGreatDoorF6
import Derived.Test.YtgimnjldndkalaaGreatDoorF38
set_option linter.all false
set_option maxHeartbeats 4000000
set_option maxRecDepth 100000
namespace Go.Proofs.YtgimnjldndkalaaGreatDoor
variable {w:World}
section
open Go.Proofs.Tryz
open Go.RowKit ue jm uf
variable {C:Value} {L:List kW} {R:Nat} {c:List Word} {d:kW} {st:Rd} {w0:World}
def Li (h:d.length≠2*c.length):mw c d=none:=by
 cases e:mw c d with
 |none=>rfl
 |some ds=>
  obtain⟨h1,J⟩:=xX c d ds e;exfalso;apply h;rw[J];have: ∀(a b:List Word),b.length=a->((a.zip b).flatMap fun p=>[p.1,p.2]).length=2*a.length:=by
   intro a
   induction a with
   |nil=>intro b _;rfl
   |cons x a ih=>
    intro b z
    match b,z with
    |y::b,z=>
     rw[acn,gG,fa,ih b (by simpa using z)];simp;omega
  exact this c ds h1
def IM {k:Nat} {n a b:Word} (hn:c[k]? =some n) (Y:d[2*k]? =some a) (z:d[2*k+1]? =some b):
  mw (c.drop k) (d.drop (2*k))=if a=n then(mw (c.drop (k+1)) (d.drop (2*(k+1)))).map fun t=>b::t else none:=by
 have e1:c.drop k=n::c.drop (k+1):=iV.trans (by rw[hn];rfl);have e2:d.drop (2*k)=a::d.drop (2*k+1):=iV.trans (by rw[Y];rfl);have e3:d.drop (2*k+1)=b::d.drop (2*k+1+1):=iV.trans (by rw[z];rfl);rw[e1,e2,e3,mw,show 2*(k+1)=2*k+1+1 by omega]
structure Tj (w0:World) (R:Nat) (lv:Value) (L:List kW):Prop where
 lines:tV w0 lv L
 low:w0.heap.size<=R
 Ik:L.length<=1000000
 small: ∀l∈L,l.length<=1000/\ ∀x∈l,x.length<=1000000
 words: ∀l∈L,∀x∈l,isWord x=true
def r6.x8 (h:r6 w0 R C L w st) (b:Tj w0 R C L):(fV st).1.length<=1000/\ ∀x∈(fV st).1,x.length<=1000000:=by
 obtain⟨k,c,d,h1,J,e,f,g,i⟩:=h;obtain⟨rest,x,n,o⟩:=st;simp only at J;cases rest with
 |nil=>exact⟨by simp[fV],fun x H=>by simp[fV] at H⟩
 |cons a r=>exact b.small a (jj (by rw[J];simp))
def r6.Lk (h:r6 w0 R C L w st) (b:Tj w0 R C L): ∀x∈(fV st).1,isWord x=true:=by
 obtain⟨k,c,d,h1,J,e,f,g,i⟩:=h;obtain⟨rest,x,n,o⟩:=st;simp only at J;cases rest with
 |nil=>exact fun x H=>by simp[fV] at H
 |cons a r=>exact b.words a (jj (by rw[J];simp))
def Ff (w0:World) (R:Nat) (C:Value) (L:List kW) (st:Rd) (f:List Word) (g:Nat) (t:TypeId) (w:World) (hC:Tj w0 R C L) (hs:r6 w0 R C L w st) (hg:g≠R) (z:fc w g t (f.map kI)) (aE:f.length<=4):
  Calls prog 116 #[.pointer R,.slice g f f] w fun e w'=> ∃v,e=.returned (.tuple #[v,.bool (qF f (fV st).1).isSome])/\r6 w0 R C L w' (fV st).2/\kz R w w'/\ ∀m,qF f (fV st).1=some m->qS (R+1) w' v m:=by
 obtain⟨U,HS,HB,M⟩:=Zd hC hs z (hs.x8 hC);have E:Hid (qF f (fV st).1=(mw f (fV st).1).bind fun q=>if q.all isNum then some (q.map nI) else none):=zH rfl;obtain⟨d,r⟩:=nE ((fV st).1);clear hC hs z;go_enter func116,ntmps116;go_wp2_with fail;refine(uv w0 R C L st _ U.lines U.low HS U.Ik).mono ?_;rintro e w2 ⟨v,rfl,hv,Q,aa,ae⟩;have D:=zH ae;clear ae;rw[<-r] at hv M E;have K:=zH r;clear r;obtain⟨y,T⟩:=Zb Q (aa _ _ _ hg HB);obtain⟨A,c,rfl,h1,J,af⟩:=hv.open_;have HL:=zH af;have aD:=M.1;have z2:=Q.lt;clear Q aa af hv;by_cases p:d.length=2*f.length;rotate_left
 ·have V:Hid (qF f d=none):=zH (E.trans (by rw[Li p];rfl));have P:((d.length:Int) !=2*(f.length:Int))=true:=by rw[bne_iff_ne];omega
  clear p;go_wp2_with fail
  go_ret2
  rw[<-K.out,V.out];exact⟨_,rfl,y,D,fun m O=>by cases O⟩
 ·have P:((d.length:Int) !=2*(f.length:Int))=false:=by rw[bne_eq_false_iff_eq];omega
  have HE:=zH p;clear p;go_wp2_with fail;clear P;go_loopw [7,20] (fun sv iv wr=> ∃(k:Nat) (q:List Word),k<=f/\iv=.int .i64 k/\Hid (q.length=k/\(∀x∈q,x.length<=1000000)/\mw f d=(mw (f.drop k) (d.drop (2*k))).map fun t=>q++t)/\Hid (wr.ownsRow w2 9 1 sv k (q.map kI))/\Below w2 w2 wr) (fun _ iv _=>f.length-(intOf iv).toNat)
  case atStart=>exact⟨0,[],eC _,rfl,zH ⟨rfl,by simp,by simp⟩,(gL _ _ _ _),bS _ _⟩
  case round=>
   obtain⟨k,q,hk,rfl,I,HO,h⟩:=hrel;by_cases aw:k<f
   ·obtain⟨n,hn⟩:=ec aw;obtain⟨a,Y⟩:=ec (l:=d) (i:=2*k) (by have:=HE.out;omega);obtain⟨b,z⟩:=ec (l:=d) (i:=2*k+1) (by have:=HE.out;omega);have W:=zH (IM hn Y z);have X:=T.below h T.lt;have y0:wr.cell? (pA g k)=some (kI n):=by rw[X.cell,fh,hn];rfl
    obtain⟨bl,o,rfl,aB,ca⟩:=HL (2*k) a Y;obtain⟨aj,o',hA,-,cb⟩:=HL (2*k+1) b z;obtain⟨rfl,rfl⟩:bl=aj/\o=o':=by simpa using hA
    have Z:=(y.below h).from_;have y1:=a7 Z U.low ca;have y2:=a7 Z U.low cb;have ag:=zH (M.2 b (a8 z));have e1:IntKind.i64.wrap (2*(k:Int))=2*(k:Int):=iM _ oG;have aA:IntKind.i64.wrap (2*(k:Int)+1)=2*(k:Int)+1:=iM _ oG;have e2:(2*(k:Int)).toNat=2*k:=oG;have e3:(2*(k:Int)+1).toNat=2*k+1:=oG;have p1:(0:Int)<=2*(k:Int):=oG;have p2:(0:Int)<=2*(k:Int)+1:=oG;have p:=HE.out;have p3:2*k<d.length:=oG;have p4:2*k+1<d.length:=oG;have p5:2*(k:Int)<(d.length:Int):=oG;have p6:2*(k:Int)+1<(d.length:Int):=oG;have aq:k<=1000000000:=oG;have N:=h.size;have az:=HO.out;have aC:=X.lt;clear hn Y z hA ca cb p;by_cases F:a=n
    ·subst F;obtain⟨sa,s⟩:=nE (⟨a.toArray⟩:ByteArray);have B:kI a=.string sa:=by rw[s];rfl
     rw[B] at y0;rw[<-s] at y1;clear s B;go_wp2_with (at_builtin;refine kD _ rfl (.tmp 32) (.tmp 39) 76 rfl w2 9 _ 1 16 underlying76 M8 rfl dE dE _ _ _ az rfl [kI b] _ rfl rfl rfl aq N ?_;intro v5 w5 ay ak aF);go_roundw
     case rel=>
      refine⟨k+1,q++[b],oG,by go_num,zH ⟨by simp[I.out.1],fun x H=>?_,?_⟩,zH (by rw[gJ];exact ay),h.trans ak⟩
      ·rcases fO.1 H with H|H
       ·exact I.2.1 x H
       ·obtain rfl:x=b:=by simpa using H
        exact ag
      ·rw[I.out.2.2,W.out,if_pos rfl,Option.map_map];congr 1;funext t;simp
     case measure=>exact mI
    ·obtain⟨sa,s⟩:=nE (⟨a.toArray⟩:ByteArray);obtain⟨sn,S⟩:=nE (⟨n.toArray⟩:ByteArray);have B:kI n=.string sn:=by rw[S];rfl
     have P:(sa.toList==sn.toList)=false:=by rw[beq_eq_false_iff_ne,mR,mR,s,S];simpa using F
     rw[B] at y0;rw[<-s] at y1;have V:Hid (qF f d=none):=zH (E.trans (by rw[I.out.2.2,W.out,if_neg F];rfl));clear F s S B;go_wp2_with fail
     go_ret2
     rw[<-K.out,V.out];exact⟨_,rfl,y.below h,D.below h,fun m O=>by cases O⟩
   ·obtain rfl:k=f.length:=oG;have ai:Hid (mw f d=some q):=zH (by rw[I.out.2.2,ada,iE (by have:=HE.out;omega)];simp[mw]);have ah:Hid (kX wr u7 q):=zH (by have:=RS.jh HO;unfold kX;rw[I.out.1];exact this);go_wp2_with fail;refine(uN q _ _ (by rw[I.out.1];omega) I.2.1 ah).mono ?_;rintro e w4 ⟨u,rfl,hu,G⟩;have HU:=zH hu;have V:Hid (qF f d=if q.all isNum then some (q.map nI) else none):=zH (E.trans (by rw[ai.out];rfl));clear hu;go_wp2
    go_ret2
    rw[<-K.out,V.out];by_cases j:q.all isNum=true
    ·rw[if_pos j,j];refine⟨u,rfl,(y.below h).below G,(D.below h).below G,fun m O=>?_⟩;obtain rfl:=fg O;have:=HU.out;rw[uw j] at this;exact kZ this (by have:=h.size;omega)
    ·have j:q.all isNum=false:=by simpa using j
     rw[j];exact⟨u,rfl,(y.below h).below G,(D.below h).below G,fun m O=>by cases O⟩
end
section
open Go.Proofs.Tryz
open Go.RowKit ue jm uf
def qS.cell {lb b o c n:Nat} {w:World} {l:List Int} (h:qS lb w (.slice (pA b o) n c) l) {i:Nat} {z:Int} (hz:l[i]? =some z):w.cell? (pA b (o+i))=some z:=by
 obtain⟨A,c',e,-,-,s⟩:=h.reads.open_;injection e with e1 _ _
 obtain⟨d,f,a,-,h⟩:=s i z hz;rw[<-e1] at a;obtain⟨rfl,rfl⟩:b=d/\o=f:=by simpa using a
 exact h
def TO (w0:World) (R:Nat) (u:Value) (L:List kW) (st:Rd) (w:World) (Z:Tj w0 R u L) (O:r6 w0 R u L w st):
  Calls prog 74 #[.pointer R] w fun e w'=>e=.returned (.bool (BM st).isSome)/\Below R w0 w'/\ ∀j,BM st=some j->r6 w0 R u L w' j/\kz R w w':=by
 obtain⟨HC,HS⟩:=Zb Z O;have z:=O.lt;clear Z O;go_enter func74,ntmps74;go_wp2_with fail;refine(Ff w0 R u L st [Bz] w 9 _ HC (HS.below (jX bF _)) oG (fc.new w _ _) dE).mono ?_;rintro e D ⟨v,rfl,g,t,N⟩;have F:=zH (((kz.refl R w).below (jX bF _)).trans t);clear t;cases r:qF [Bz] (fV st).1 with
 |none=>
  have B:Hid (BM st=none):=zH (by unfold BM;rw[r]);have f:=zH g;clear r N g;go_wp2_with fail;go_ret;rw[B.out];exact⟨rfl,f.from_,fun j h=>by cases h⟩
 |some m=>
  obtain⟨ds,l1,-,-,l4⟩:=uL r;obtain⟨n,rfl⟩: ∃n,m=[n]:=by
   rw[l4]
   match ds,l1 with
   | [k],_=>exact⟨_,rfl⟩
  have B:Hid (BM st=some {(fV st).2 with count:=n}):=zH (by unfold BM;rw[r]);have a:=N _ r;obtain⟨A,c,rfl,g1,g2,s⟩:=a.reads.open_;obtain⟨b,o,rfl,x,i⟩:=s 0 n rfl;simp only[ff,fZ,gv] at i g1;clear r N l1 l4 s a;obtain⟨y,q⟩:=nE ((fV st).2);rw[<-q] at g B;clear q;obtain⟨k,cv,dv,U,V,C,W,X,Y⟩:=g;obtain⟨c0,c1,c2,c3,c4,c5,c6,c7,c8,c9⟩:=C.wu;have l:=C.Qt 8;have d:=C.gH 8 n;simp only[fI,fJ] at d;have f:Hid (r6 w0 R u L (D.setCell (pA R 8) n) {y with count:=n}):=zH
   ⟨k,cv,dv,U,V,d,W.fG (p:=pA R 8) lS _,X.fG (p:=pA R 8) lS _,Y.setCell (p:=pA R 8) lE _⟩
  clear d U V C W X Y;go_wp2_with fail;go_ret;rw[B.out];exact⟨rfl,f.from_,fun j h=>by obtain rfl:=fg h;exact⟨f,F.set 8 _⟩⟩
def KR (w0:World) (R:Nat) (u:Value) (L:List kW) (st:Rd) (w:World) (Z:Tj w0 R u L) (O:r6 w0 R u L w st):
  Calls prog 73 #[.pointer R] w fun e w'=>e=.returned (.bool (pQ st).isSome)/\Below R w0 w'/\ ∀j,pQ st=some j->r6 w0 R u L w' j/\kz R w w':=by
 obtain⟨HC,HS⟩:=Zb Z O;have z:=O.lt;clear Z O;go_enter func73,ntmps73;go_wp2_with fail;refine(Ff w0 R u L st [BA,JT,JQ,JR] w 9 _ HC (HS.below (jX bF _)) oG (fc.new w _ _) dE).mono ?_;rintro e D ⟨v,rfl,g,t,N⟩;have F:=zH (((kz.refl R w).below (jX bF _)).trans t);clear t;cases r:qF [BA,JT,JQ,JR] (fV st).1 with
 |none=>
  have B:Hid (pQ st=none):=zH (by unfold pQ;rw[r]);have f:=zH g;clear r N g;go_wp2_with fail;go_ret;rw[B.out];exact⟨rfl,f.from_,fun j h=>by cases h⟩
 |some m=>
  obtain⟨ds,l1,-,-,l4⟩:=uL r;obtain⟨E,P,Q,S,rfl⟩: ∃a b c d,m=[a,b,c,d]:=by
   rw[l4]
   match ds,l1 with
   | [a,b,c,d],_=>exact⟨_,_,_,_,rfl⟩
  have B:Hid (pQ st=some {(fV st).2 with x:=⟨E,P,Q,S,st.x.eB,st.x.gn⟩}):=zH (by unfold pQ;rw[r]);have G:=zH (N _ r);have aa:(fV st).2.x=st.x:=by unfold fV;split <;>rfl
  clear r N l1 l4;obtain⟨A,c,rfl,g1,g2,s⟩:=G.reads.open_;obtain⟨b,o,rfl,-,-⟩:=s 0 E rfl;simp only[ff,fZ] at g1 G;clear s;rw[<-aa] at B;obtain⟨y,q⟩:=nE ((fV st).2);rw[<-q] at g B;clear q aa;obtain⟨k,cv,dv,U,V,C,W,X,Y⟩:=g;have T:=jq G ((bS D D).drew) lE;have hz:=C.lt;have b0:=C.drew;have b1:=b0.gH 2 E;have b2:=b1.gH 3 P;have b3:=b2.gH 4 Q;have b4:=b3.gH 5 S;simp only[fI,fJ] at b1 b2 b3 b4;have o1:=jo (p:=pA R 2) T lS E;have o2:=jo (p:=pA R 3) o1 lS P;have o3:=jo (p:=pA R 4) o2 lS Q;have o4:=jo (p:=pA R 5) o3 lS S;obtain⟨B0,l,B1,B2,B3,O1,O2,O3⟩:=Zh b0 C b1 b2 b3 o1 o2 o3;have O4:=zH o4;have f:Hid (r6 w0 R u L ((((D.drew.setCell (pA R 2) E).setCell (pA R 3) P).setCell (pA R 4) Q).setCell (pA R 5) S) {y with x:=⟨E,P,Q,S,y.x.eB,y.x.gn⟩}):=zH
   ⟨k,cv,dv,U,V,b4,((((W.below ((bS D D).drew) lE).fG (p:=pA R 2) lS _).fG (p:=pA R 3) lS _).fG (p:=pA R 4) lS _).fG (p:=pA R 5) lS _,
    ((((X.below ((bS D D).drew) lE).fG (p:=pA R 2) lS _).fG (p:=pA R 3) lS _).fG (p:=pA R 4) lS _).fG (p:=pA R 5) lS _,
    (((Y.drew.setCell (p:=pA R 2) lE _).setCell (p:=pA R 3) lE _).setCell (p:=pA R 4) lE _).setCell (p:=pA R 5) lE _⟩
  clear b0 b1 b2 b3 b4 o1 o2 o3 o4 U V C W X Y;go_wp2_with fail;refine rL (fun wS=>qS (R+1) wS (.slice (pA b o) [E,P,Q,S].length c) [E,P,Q,S]) [] kR ?_ (fun hS=>?_)
  ·exact T
  refine kL [0,1,2,3,4,5] ?_;refine lZ 6 (v:=?_) rfl kR jF (by rfl) ?_ hS ?_;rotate_left
  ·intro wS hSw
   (try dsimp only at hSw)
   have s:=qS.cell hSw (i:=0) rfl;rw[gv] at s;go_simp;try with_reducible rfl
  try simp only[Act.put]
  refine kL [7,8] ?_;refine lZ 9 (v:=?_) rfl kR jF (by rfl) ?_ hS ?_;rotate_left
  ·intro wS hSw
   (try dsimp only at hSw)
   have s:=qS.cell hSw (i:=1) rfl;go_simp;try with_reducible rfl
  try simp only[Act.put]
  refine kL [10,11] ?_;refine lZ 12 (v:=?_) rfl kR jF (by rfl) ?_ hS ?_;rotate_left
  ·intro wS hSw
   (try dsimp only at hSw)
   have s:=qS.cell hSw (i:=2) rfl;go_simp;try with_reducible rfl
  try simp only[Act.put]
  refine kL [13,14] ?_;refine lZ 15 (v:=?_) rfl kR jF (by rfl) ?_ hS ?_;rotate_left
  ·intro wS hSw
   (try dsimp only at hSw)
   have s:=qS.cell hSw (i:=3) rfl;go_simp;try with_reducible rfl
  try simp only[Act.put]
  refine kL [16,17,18] ?_;refine tO 19 fun K n=>?_;have H:=l.c 2;have J:=l.frozen 2;have I:=B0.c 2;have M:=B0.frozen 2;go_simp;refine n _ _ O1 ?_;clear n K I M H J;refine tk 20 O1 ?_;refine tk 21 O1 ?_;refine tk 22 O1 ?_;refine tO 23 fun K n=>?_;have H:=l.c 3;have J:=l.frozen 3;have I:=B1.c 3;have M:=B1.frozen 3;go_simp;refine n _ _ O2 ?_;clear n K I M H J;refine tk 24 O2 ?_;refine tk 25 O2 ?_;refine tk 26 O2 ?_;refine tO 27 fun K n=>?_;have H:=l.c 4;have J:=l.frozen 4;have I:=B2.c 4;have M:=B2.frozen 4;go_simp;refine n _ _ O3 ?_;clear n K I M H J;refine tk 28 O3 ?_;refine tk 29 O3 ?_;refine tk 30 O3 ?_;refine tO 31 fun K n=>?_;have H:=l.c 5;have J:=l.frozen 5;have I:=B3.c 5;have M:=B3.frozen 5;go_simp;refine n _ _ O4 ?_;clear n K I M H J;refine tD ?_;go_wp2;go_ret;rw[B.out];exact⟨rfl,f.from_,fun j h=>by obtain rfl:=fg h;exact⟨f,((((F.below (bF.drew)).set 2 _).set 3 _).set 4 _).set 5 _⟩⟩
def Wx (s d:Nat) (A:s<2^d) (a:d<64):bits BinOp.or IntKind.u64 (s:Int) (IntKind.u64.wrap (2^d))=((s+2^d:Nat):Int):=by have b:2^d<=2^63:=jk dE oG;have e:((2:Int)^d)=((2^d:Nat):Int):=sI;rw[e,show IntKind.u64.wrap ((2^d:Nat):Int)=((2^d:Nat):Int) from IntWalk.u64_in _ ⟨oG,oG⟩,bits_or_u64_nat s (2^d) oG oG];have:=Nat.two_pow_add_eq_or_of_lt A 1;rw[jR,Nat.or_comm] at this;rw[<-this,sY]
def SM (s d:Nat) (w:World) (A:s<2^d) (a:d<64):
  Calls prog 195 #[.int .u64 (s:Int),(d:Int)] w fun e w'=>e=.returned (.int .u64 ((s+2^d:Nat):Int))/\w'=w:=by
 have b:decide ((d:Int)<64)=true:=decide_eq_true oG;have c:=zH (Wx s d A a);clear A;go_enter func195,ntmps195;go_wp2;go_ret;rw[c.out];exact⟨rfl,rfl⟩
def SN (s d:Nat) (w:World) (a:64<=d):
  Calls prog 195 #[.int .u64 (s:Int),(d:Int)] w fun e w'=>e=.returned (.int .u64 (s:Int))/\w'=w:=by
 have b:decide ((d:Int)<64)=false:=decide_eq_false oG;clear a;go_enter func195,ntmps195;go_wp2;go_ret;exact⟨rfl,rfl⟩
def Fs (c:UInt8): ∀l:Word,rh (l++[c])=rh l+(if c=49 then 2^l.length else 0)
 | []=>by simp[rh]
 |a::l=>by rw[fY,rh,Fs c l,rh,ff,js];split <;>split <;>omega
def zh: ∀l:Word,rh l<2^l.length
 | []=>by simp[rh]
 |a::l=>by have:=zh l;rw[rh,ff,js];split <;>omega
def TB (l:Word):Nat:=if sQ l then vp l else 0
def Qp (l:Word):Int:=if sQ l then(if 64<l.length then 3 else 0) else 2
def N6 (c:UInt8):Bool:=c==48||c==49
def AO (l:Word):sQ l=(!l.isEmpty&&l.all N6):=rfl
def UJ (l:Word) (c:UInt8):rh ((l++[c]).take 64)=rh (l.take 64)+if c=49/\l.length<64 then 2^l.length else 0:=by
 by_cases h:l.length<64
 ·rw[fj sO,fj oG,Fs];simp[h]
 ·rw[pw oG,if_neg oG,gv]
def Kx (t:ByteArray) (w:World) (M: ∀c∈t.data.toList,c.toNat<128) (A:t.size<=1000000):
  Calls prog 153 #[.string t] w fun e w'=>e=.returned (.tuple #[.int .u64 (TB t.data.toList:Nat),(Qp t.data.toList)])/\Below w w w':=by
 have N:=zH M;clear M;go_enter func153,ntmps153;go_wp2_with fail;go_loopw [4,5] (fun U J wr=> ∃i:Nat,i<=t.size/\U=.int .u64 (rh ((t.data.toList.take i).take 64):Nat)/\J=.int .i64 i/\wr.heap[w.heap.size]? =some (.stringIter t i)/\Hid ((t.data.toList.take i).all N6=true)/\Below w w wr) (fun _ J _=>t.size-(intOf J).toNat)
 case atStart=>refine⟨0,eC _,rfl,rfl,?_,rfl,jX bF _⟩;exact World.iter_heap w t 0
 case round=>
  obtain⟨i,W,rfl,rfl,r,B,f⟩:=hrel;by_cases C:i<t.size
  ·have s:=se t i C;have L:=N _ (De t i C);have p:=fun ty=>Lib.run_next_ascii_at (P:=prog) wr w t i ty r C L;have m:=Lib.iterAt_heap wr w t i (i+1) r;have g:=Lib.below_iterAt f (k:=w.heap.size) lE t (i+1);obtain⟨c,G⟩:=nE (t[i]);rw[<-G] at s;have I: ∀ty,(Instr.next (.pointer w) true ty).run prog wr=.ok (.tuple #[true,i,.int .i32 (c.toNat:Nat)]) (wr.iterAt w t (i+1)):=fun ty=>by rw[G];exact p ty
   have q:=zH (UJ (t.data.toList.take i) c);have z:(t.data.toList.take i).length=i:=by rw[fB,kC];omega
   obtain⟨v,o⟩:=Zb s z;clear p L G s z;by_cases b:c=48
   ·have Q:((c.toNat:Int)==48)=true:=by rw[b];rfl
    have x:Hid (rh ((t.data.toList.take (i+1)).take 64)=rh ((t.data.toList.take i).take 64)):=zH (by rw[v.out,q.out,if_neg (fun h=>by rw[b] at h;exact absurd h.1 dE),gv]);have n:Hid ((t.data.toList.take (i+1)).all N6=true):=zH (by rw[v.out,my,B.out,b];rfl);clear b;go_wp2_with fail;go_roundw
    case rel=>exact⟨i+1,oG,by rw[x.out],by go_num,m,n,g⟩
    case measure=>exact mI
   ·have S:((c.toNat:Int)==48)=false:=by rw[beq_eq_false_iff_ne];exact fun e=>b (BG.1 (by show c.toNat=48;omega))
    by_cases d:c=49
    ·have R:((c.toNat:Int)==49)=true:=by rw[d];rfl
     have n:Hid ((t.data.toList.take (i+1)).all N6=true):=zH (by rw[v.out,my,B.out,d];rfl);by_cases j:i<64
     ·have x:Hid (rh ((t.data.toList.take (i+1)).take 64)=rh ((t.data.toList.take i).take 64)+2^i):=zH (by rw[v.out,q.out,o.out,if_pos ⟨d,j⟩]);have E:Hid (rh ((t.data.toList.take i).take 64)<2^i):=zH (by
       have:=zh ((t.data.toList.take i).take 64);rw[fj (by rw[o.out];omega)] at this|-
       rwa [o] at this)
      clear b d;go_wp2_with fail;refine(SM _ i _ E j).mono ?_;rintro e V ⟨rfl,rfl⟩;go_wp2;go_roundw
      case rel=>exact⟨i+1,oG,by rw[x.out,Pz,Int.natCast_pow];rfl,by go_num,m,n,g⟩
      case measure=>exact mI
     ·have x:Hid (rh ((t.data.toList.take (i+1)).take 64)=rh ((t.data.toList.take i).take 64)):=zH (by rw[v.out,q.out,o.out,if_neg oG,gv]);clear b d;go_wp2_with fail;refine(SN _ i _ oG).mono ?_;rintro e V ⟨rfl,rfl⟩;go_wp2;go_roundw
      case rel=>exact⟨i+1,oG,by rw[x.out],by go_num,m,n,g⟩
      case measure=>exact mI
    ·have T:((c.toNat:Int)==49)=false:=by rw[beq_eq_false_iff_ne];exact fun e=>d (BG.1 (by show c.toNat=49;omega))
     have u:Hid (sQ t.data.toList=false):=zH (by rw[AO,pZ];right;rw[nV];refine⟨c,mh (i:=i+1) (by rw[v.out];simp),?_⟩;simp[N6,b,d]);clear b d;go_wp2_with fail
     go_ret2
     rw[TB,Qp,u.out];exact⟨rfl,g⟩
  ·obtain rfl:i=t.size:=oG;have I: ∀ty,(Instr.next (.pointer w) true ty).run prog wr=_:=fun ty=>Lib.run_next_end_at wr w t t.size ty r C;have H:t.data.toList.take t.size=t.data.toList:=DJ t;have D:Hid (t.data.toList.all N6=true):=zH (by have:=B.out;rwa [H] at this);rw[H];clear H B;by_cases K:t.size=0
   ·have u:Hid (sQ t.data.toList=false):=zH (by rw[AO,gj (l:=t.data.toList) (by rw[kC];exact K)];rfl);have O:((t.size:Int)==0)=true:=by rw[K];rfl
    go_wp2_with fail
    go_ret2
    rw[TB,Qp,u.out];exact⟨rfl,f⟩
   ·have u:Hid (sQ t.data.toList=true):=zH (by
     rw[AO,D.out,kF];cases e:t.data.toList with
     |nil=>have:=kC t;rw[e] at this;simp at this;omega
     |cons a l=>rfl)
    have O:((t.size:Int)==0)=false:=by rw[beq_eq_false_iff_ne];omega
    by_cases j:64<t.size
    ·have F:decide ((64:Int)<(t.size:Int))=true:=decide_eq_true oG;have y:Hid (TB t.data.toList=0/\Qp t.data.toList=3):=zH (by rw[TB,Qp,u.out,vp,kC];simp[j]);go_wp2_with fail
     go_ret2
     rw[y.out.1,y.out.2];exact⟨rfl,f⟩
    ·have F:decide ((64:Int)<(t.size:Int))=false:=decide_eq_false oG;have y:Hid (TB t.data.toList=rh (t.data.toList.take 64)/\Qp t.data.toList=0):=zH (by rw[TB,Qp,u.out,vp,kC,fj (by rw[kC];omega)];simp[j]);go_wp2_with fail
     go_ret2
     rw[y.out.1,y.out.2];exact⟨rfl,f⟩
def vV {P:Program} {c:Array Oper} {Q:Exit->Act->World->Prop} {S:World->Prop} {late:List Nat}: ∀(n:Nat) (b:Array Bool) (a:Act) (w:World),il P c Q S late n b a w->il P c Q (fun _=>True) [] n b a w
 |0,_,_,_,h=>h
 |n+1,_,_,_,h=>⟨h.1,fun i hi=>wpOp_mono (fun d w' h'=>⟨fun _=>trivial,vV n _ d w' h'.2⟩) (h.2 i hi)⟩
def Below.Sc {B:Nat} {a:World} (h:Below B a w) (p:Addr) (u:Value):Below B (a.setCell p u) (w.setCell p u):=
 ⟨h.os,h.tape,h.output,by simp;exact h.size,fun k b=>by simp only[World.setCell,jc];rw[h.block k b]⟩
def JK:(prog.info? 80).map (fun i=>(i.zero,i.size,i.bytes))=some (some (.int .u64 0),1,8):=kR
def Qg:(prog.info? 47).map (fun i=>(i.zero,i.size,i.bytes))=some (some (.agg #[Zo,Zo,(),Zo,Zo,Zo,Zo,Zo]),8,80):=kR
def L7 {α:Type} {l:List α} {k:Nat} {a:α} (h:l[k]? =some a):l.take (k+1)=l.take k++[a]:=by rw[gk,h];rfl
def r6.abT {w0:World} {R:Nat} {lv:Value} {L:List kW} {st:Rd} (h:r6 w0 R lv L w st) (b:Bool):r6 w0 R lv L (w.setCell (pA R 9) b) {st with odd:=b}:=by obtain⟨k,cv,dv,h1,h2,a,c,d,e⟩:=h;exact⟨k,cv,dv,h1,h2,a.gH 9 b,c.fG (p:=pA R 9) lS _,d.fG (p:=pA R 9) lS _,e.setCell (p:=pA R 9) lE _⟩
def Gc {x:Word} (h:isWord x=true): ∀c∈x,c.toNat<128:=by unfold isWord at h;rw[a6,dT] at h;intro c hc;have:=h.2 c hc;simp only[oy,a6,decide_eq_true_eq] at this;omega
def Pj (w0:World) (R:Nat) (lv:Value) (L:List kW) (st:Rd) (l:List Word) (v:Value) (w:World) (hR:w0.heap.size<=R) (hs:r6 w0 R lv L w st) (hv:kX w0 v l) (hl:l.length<=1000) (M: ∀x∈l,x.length<=1000000/\isWord x=true) (V:st.x.eB.length<=1000000000):
  Calls prog 117 #[.pointer R,v] w fun e w'=>e=.returned (.bool (oX st.x.days l).isSome)/\Below R w0 w'/\
   ∀c o,oX st.x.days l=some (c,o)->r6 w0 R lv L w' {st with x:=⟨st.x.days,st.x.mm,st.x.cap,st.x.len,st.x.eB++[c],st.x.gn⟩,odd:=st.odd||o}/\kz R w w':=by
 have HS:=zH hs;have z:=hs.lt;have W:=hs.from_;obtain⟨aa,HX⟩:=Zb W M;obtain⟨A,c,rfl,h1,h2,aA⟩:=hv.open_;have HL:=zH aA;clear hs hv aA M;cases l with
 |nil=>
  clear HL HX;go_enter func117,ntmps117;go_wp2;go_ret;exact⟨rfl,aa,fun c o h=>by cases h⟩
 |cons d ps=>
  obtain⟨b,o,rfl,hb,c0⟩:=HL 0 d rfl;have y0:=a7 W hR c0;rw[gv] at y0;have HD:=zH (HX d sI);simp only[ff] at hl h1;clear c0 W;by_cases hn:isNum d=true;rotate_left
  ·have HF:Hid (oX st.x.days (d::ps)=none):=zH (by simp[oX,hn]);have HN:=zH (show isNum d=false by simpa using hn);clear hn;go_enter func117,ntmps117;go_wp2_with fail;refine(yU d _ HD.1).mono ?_;rintro e k ⟨rfl,rfl⟩;rw[HN.out];go_wp2;go_ret;rw[HF.out];exact⟨rfl,aa,fun c o h=>by cases h⟩
  ·have HN:=zH hn;clear hn;go_enter func117,ntmps117;go_wp2_with fail;refine(yU d _ HD.1).mono ?_;rintro e k ⟨rfl,rfl⟩;rw[HN.out];go_wp2_with fail;all_goals
    have aH:=HS;go_loopw [29] (fun iv wr=> ∃(i:Nat) (pv:Value) (w1:World) (od:Bool),i<=ps/\iv=.int .i64 i/\Hid (r6 w0 R lv L w1 {st with odd:=od})/\w1.heap.size=k/\Below k w1 wr/\
      fc wr k 47 [.int .i64 1,(nQ d),pv,Zo,Zo,Zo,Zo,Zo]/\
      Hid (wr.ownsRow (k+1) 80 1 pv i ((ps.take i).map fun x=>.int .u64 (vp x:Nat)))/\Hid ((ps.take i).all sQ=true)/\Hid (od=(st.odd||(ps.take i).any fun p=>decide ((p.length:Int)≠st.x.days)))/\Hid (kz R k w1)) (fun iv _=>ps.length-(intOf iv).toNat)
    case atStart=>exact⟨0,(),k,st.odd,eC _,rfl,aH,rfl,jX bF _,fc.new _ _ _,zH (gL _ _ _ _),zH rfl,zH sI,zH (kz.refl R k)⟩
    case round=>
     obtain⟨i,pv,w1,od,hi,rfl,y,Z,q,u,HO,HA,ae,P⟩:=hrel;by_cases aL:i<ps
     ·try (exfalso;omega)
      all_goals
       obtain⟨x,M⟩:=ec aL;obtain⟨b',o',hA,-,cx⟩:=HL (i+1) x (by rw[fD];exact M);obtain⟨rfl,rfl⟩:b=b'/\o=o':=by simpa using hA
       have z1:=y.lt;have aq:Below R w0 wr:=y.from_.trans (q.mono oG);have y1:=a7 aq hR cx;rw[show o+(i+1)=o+1+i by omega] at y1;obtain⟨ah,aJ,F⟩:=Zc (HX x (nX _ (a8 M))) (a8 M) (L7 M);obtain⟨t,ht⟩:=nE (⟨x.toArray⟩:ByteArray);have Y:t.data.toList=x:=by rw[ht]
       rw[<-ht] at y1;have ag:=zH Y;have O:t.size=x.length:=by rw[<-kC,Y]
       have T:=zH O;have aE:=u.lt;clear M hA cx ht Y O;go_wp2_with fail;refine(Kx t _ (by rw[ag.out];exact Gc ah.2) (by rw[T.out];exact ah.1)).mono ?_;rintro e w5 ⟨rfl,I⟩;rw[ag.out];have D:=q.trans (I.mono (pF aE));have m:=u.below I aE;by_cases C:sQ x=true;rotate_left
       ·have HF:Hid (oX st.x.days (d::ps)=none):=zH (by
         have:ps.all sQ=false:=by rw[nV];exact⟨x,aJ,C⟩
         simp[oX,this])
        have e2:Qp x=2:=by unfold Qp;rw[if_neg C]
        rw[e2];have aG:=zH ((y.from_.trans (D.mono oG)));clear C e2;go_wp2_with fail;go_ret;rw[HF.out];exact⟨rfl,aG,fun c o h=>by cases h⟩
       ·have aC:TB x=vp x:=by unfold TB;rw[if_pos C]
        rw[aC];obtain⟨ev,ak,aR⟩: ∃ev:Int,Qp x=ev/\(ev==2)=false:=⟨_,rfl,by unfold Qp;rw[if_pos C];split <;>rfl⟩;rw[ak];have af:=zH C;clear C aC ak;obtain⟨kk,cv,dv,q1,q2,q3,q4,q5,q6⟩:=y.out;have qB:=q3.below D z;have d2:=qB.cell 2;have az:i<=1000000000:=oG;have aS:=I.size;clear q1 q2 q3 q4 q5 q6;by_cases G:(x.length:Int)=st.x.days
        ·have aM:((t.size:Int) !=st.x.days)=false:=by rw[T.out,G];simp
         have X:=jq HO I lE;have E:=m;have e5:=m.c 2;have a:k.heap.size+1<=w5.heap.size:=oG;have Q:=zH G;clear G;go_wp2_with (at_builtin;refine iD _ rfl (.tmp 52) (.tmp 54) 45 rfl (k+1) 80 _ 1 8 underlying45 JK rfl dE dE _ _ _ X rfl [.int .u64 (vp x:Nat)] _ rfl rfl rfl az a ?_;intro g cap w6 J aw ay j aD;have n:=j.below a;have f:=E.below n lS;have e6:w6.cell? (pA k 2)=some pv:=f.cell 2;have f6:w6.frozen? (pA k 2)=false:=f.frozen 2);go_roundw
         case rel=>
          refine⟨i+1,.slice g (i+1) cap,w1,od,oG,by go_num,y,Z,(D.trans (n.mono (iW _))).setCell (p:=pA k 2) lE _,f.gH 2 _,zH ?_,zH ?_,zH ?_,P⟩
          ·rw[F.out,gJ];exact jo (p:=pA k 2) J lS _
          ·rw[F.out,my,HA.out];simp[af.out]
          ·rw[F.out,List.any_append,ae.out];simp[Q.out]
         case measure=>exact mI
        ·have aM:((t.size:Int) !=st.x.days)=true:=by rw[T.out,bne_iff_ne];exact G
         have d9:=qB.cell 9;have f9:=qB.frozen 9;have X:=jo (p:=pA R 9) (jq HO I lE) dO true;have E:=m.kj (p:=pA R 9) dO true;have e5:=m.c 2;have e7:=E.c 2;have aF:(w5.setCell (pA R 9) true).heap.size=w5.heap.size:=sI;have a:k.heap.size+1<=(w5.setCell (pA R 9) true).heap.size:=by rw[aF];omega
         have Q:=zH G;clear G;go_wp2_with (at_builtin;refine iD _ rfl (.tmp 52) (.tmp 54) 45 rfl (k+1) 80 _ 1 8 underlying45 JK rfl dE dE _ _ _ X rfl [.int .u64 (vp x:Nat)] 1 (by rw[aF];rfl) rfl rfl az a ?_;intro g cap w6 J aw ay j aD;have n:=j.below a;have f:=E.below n lS;have e6:w6.cell? (pA k 2)=some pv:=f.cell 2;have f6:w6.frozen? (pA k 2)=false:=f.frozen 2);go_roundw
         case rel=>
          refine⟨i+1,.slice g (i+1) cap,w1.setCell (pA R 9) true,true,oG,by go_num,(y.abT true),by simp;exact Z,((Below.Sc D (pA R 9) true).trans (n.mono (iW _))).setCell (p:=pA k 2) lE _,f.gH 2 _,zH ?_,zH ?_,zH ?_,(P.set 9 _)⟩
          ·rw[F.out,gJ];exact jo (p:=pA k 2) J lS _
          ·rw[F.out,my,HA.out];simp[af.out]
          ·rw[F.out,List.any_append];simp[Q.out]
         case measure=>exact mI
     ·obtain rfl:i=ps.length:=oG;obtain⟨Ap,cp,rfl,-⟩:=RS.jh HO;obtain⟨kk,cv,dv,q1,q2,q3,q4,q5,q6⟩:=y.out;have B:Below w1 w1 wr:=by rw[Z];exact q
      have qB:=q3.below q z;obtain⟨aU,g1,g2,g3⟩:=q4.below B lE;have aO:=q5.below B lE;have aP:=q6.trans (q.mono (pF z));have aT:=u.lt;have aK:st.x.eB.length<=1000000000:=V;have a:R+1<=wr.heap.size:=oG;simp only at g1 g2 g3;clear q3 q4 q5 q6;go_wp2_with fail;refine rL (fun _=>True) [] kR trivial (fun hT=>?_);refine tk 0 hT ?_;refine vV (S:=fun wS=>Below wr wr wS) (late:=[8,9,10,11,12]) _ _ _ _ ?_;have hS:Below wr wr wr.drew:=bF.drew;refine kL [1,2,3,4] ?_;refine lZ 5 (v:=?_) rfl kR jF (by rfl) ?_ hS ?_;rotate_left
      ·intro wS hSw
       (try dsimp only at hSw)
       have hc:=(qB.below hSw qB.lt).c 6;go_simp;try with_reducible rfl
      try simp only[Act.put]
      refine lZ 6 (v:=?_) rfl kR jF (by rfl) ?_ hS ?_;rotate_left
      ·intro wS hSw
       (try dsimp only at hSw)
       obtain⟨k0,k1,k2,k3,k4,k5,k6,k7⟩:=(u.below hSw u.lt).xG;go_simp;try with_reducible rfl
      try simp only[Act.put]
      refine tO 7 fun K H=>?_;go_simp;refine H _ _ (hS.alloc hS.size _) ?_;refine tL 8 fun K H=>?_;refine ma wr.drew _ _ _ (by rfl) (R+1) 47 _ 8 80 underlying22 Qg rfl dE dE _ _ _ g2.drew (by rfl) (kH ⟨1,nQ d,ps.map vp,0,0,0,0,0⟩ (.slice Ap ps cp)) _ (by rfl) rfl rfl aK a ?_;intro g cap w6 J aw ay j aD;have n:=j.below (show R+1<=wr.drew.heap.size from a);have U:=(qB.drew).below n lS;refine H _ _ ?_;refine tL 9 fun K H=>?_;go_simp;refine H _ _ ?_;refine tL 10 fun K H=>?_;go_simp;refine H _ _ ?_;refine tL 11 fun K H=>?_;go_simp;refine H _ _ ?_;refine tL 12 fun K H=>?_;have e6:=U.c 6;have f6:=U.frozen 6;go_simp;refine H _ _ ?_;refine tD ?_;go_wp2_with fail;go_ret;have aj:ps.all sQ=true:=by have:=HA.out;rwa [gh] at this
      have aN:od=(st.odd||ps.any fun p=>decide ((p.length:Int)≠st.x.days)):=by have:=ae.out;rwa [gh] at this
      have aI:oX st.x.days (d::ps)=some (⟨1,nQ d,ps.map vp,0,0,0,0,0⟩,ps.any fun p=>decide ((p.length:Int)≠st.x.days)):=by simp only[oX];rw[HN.out,aj];rfl
      have aB:wr.ownsRow (R+1) 80 1 (.slice Ap ps cp) (ps.map vp).length ((ps.map vp).map fun(s:Nat)=>Value.int .u64 (s:Int)):=by have:=kZ (base':=R+1) HO oG;rw[gh] at this;rw[fm,kK];exact this
      have ai:=U.gH 6 (.slice g (st.x.eB+1) cap);simp only[fI,fJ] at ai;obtain⟨aQ,r1,r2⟩:=aO;have N:Below R w0 (w6.setCell (pA R 6) (.slice g (st.x.eB+1) cap)):=(aP.drew.trans (n.mono (iW R))).setCell (p:=pA R 6) lE _;rw[aI];refine⟨rfl,N,fun c' o' h=>?_⟩;obtain⟨rfl,rfl⟩:=Np (fg h);rw[<-aN];refine⟨⟨kk,.slice g (st.x.eB+1) cap,dv,q1,q2,ai,?_,?_,N⟩,(((P.below B).below (bF.drew)).keep j dE).set 6 _⟩
      ·exact(iJ.push rfl g1 J (fun i x qv M hq=>j.own (g3 i x qv M hq).drew dE) (j.own aB.drew dE)).fG (p:=pA R 6) lS _
      ·exact OwnRows.fG (p:=pA R 6) ⟨aQ,j.own r1.drew dE,fun i r rv h h'=>j.own (r2 i r rv h h').drew dE⟩ lS _
theorem Q8{p:Prop}(h:p:=by
 obtain⟨kk,cv,dv,q1,q2,q3,q4,q5,q6⟩:=Z.out;have z2:R<y.heap.size:=q3.lt;have qB:=q3.below H z2;obtain⟨aO,af,ag,ah⟩:=q4.below H lE;have aq:=q5.below H lE;have aw:=q6.trans (H.mono (pF z2));have aN:=k.lt;have ai:st.x.eB.length<=1000000000:=P;have n:R+1<=t.heap.size:=oG;clear q3 q4 q5 q6;refine rL (fun _=>True) [] kR trivial (fun hT=>?_);refine tk 0 hT ?_;refine vV (S:=fun wS=>Below t t wS) (late:=[8,9,10,11,12]) _ _ _ _ ?_;have hS:Below t t t.drew:=bF.drew;refine kL [1,2,3,4] ?_;refine lZ 5 (v:=?_) rfl kR jF (by rfl) ?_ hS ?_;rotate_left
 ·intro wS hSw
  (try dsimp only at hSw)
  have hc:=(qB.below hSw qB.lt).c 6;go_simp;try with_reducible rfl
 try simp only[Act.put]
 refine lZ 6 (v:=?_) rfl kR jF (by rfl) ?_ hS ?_;rotate_left
 ·intro wS hSw
  (try dsimp only at hSw)
  obtain⟨k0,k1,k2,k3,k4,k5,k6,k7⟩:=(k.below hSw k.lt).xG;go_simp;try with_reducible rfl
 try simp only[Act.put]
 refine tO 7 fun K f=>?_;go_simp;refine f _ _ (hS.alloc hS.size _) ?_;refine tL 8 fun K f=>?_;refine ma t.drew _ _ _ (by rfl) (R+1) 47 _ 8 80 underlying22 Qg rfl dE dE _ _ _ ag.drew (by rfl) (kH ⟨2,0,[],nQ a,nQ b,nQ d,G,nQ h⟩ ()) _ (by rfl) rfl rfl ai n ?_;intro g cap w6 aj aK aL j aM;have O:=j.below (show R+1<=t.drew.heap.size from n);have E:=(qB.drew).below O lS;refine f _ _ ?_;refine tL 9 fun K f=>?_;go_simp;refine f _ _ ?_;refine tL 10 fun K f=>?_;go_simp;refine f _ _ ?_;refine tL 11 fun K f=>?_;go_simp;refine f _ _ ?_;refine tL 12 fun K f=>?_;have e6:=E.c 6;have f6:=E.frozen 6;go_simp;refine f _ _ ?_;refine tD ?_;go_wp2_with fail;go_ret;have ae:qJ [a,b,d,r,h]=some (⟨2,0,[],nQ a,nQ b,nQ d,G,nQ h⟩,false):=by have:=I.out;simp only[gi,lF,kF] at this;rw[<-vZ,<-vZ] at this;simp only[qJ];rw[this,aa.out];rfl
 have Q:t.ownsRow (R+1) 80 1 () ([]:List Nat).length (([]:List Nat).map fun(s:Nat)=>Value.int .u64 (s:Int)):=gL _ _ _ _;have N:=E.gH 6 (.slice g (st.x.eB+1) cap);simp only[fI,fJ] at N;obtain⟨ay,r1,r2⟩:=aq;have C:Below R w0 (w6.setCell (pA R 6) (.slice g (st.x.eB+1) cap)):=(aw.drew.trans (O.mono (iW R))).setCell (p:=pA R 6) lE _;rw[ae];refine⟨rfl,C,fun c' o' h=>?_⟩;obtain⟨rfl,rfl⟩:=Np (fg h);rw[Bool.or_false];refine⟨⟨kk,.slice g (st.x.eB+1) cap,dv,q1,q2,N,?_,?_,C⟩,(((((kz.refl R w).below az).below H).below (bF.drew)).keep j dE).set 6 _⟩
 ·exact(iJ.push rfl af aj (fun i x qv Y hq=>j.own (ah i x qv Y hq).drew dE) (j.own Q.drew dE)).fG (p:=pA R 6) lS _
 ·exact OwnRows.fG (p:=pA R 6) ⟨ay,j.own r1.drew dE,fun i r G h h'=>j.own (r2 i r G h h').drew dE⟩ lS _):p:=h
def Ss (w0:World) (R:Nat) (lv:Value) (L:List kW) (st:Rd) (l:List Word) (v:Value) (w:World) (hR:w0.heap.size<=R) (hs:r6 w0 R lv L w st) (hv:kX w0 v l) (Y: ∀x∈l,x.length<=1000000/\isWord x=true) (P:st.x.eB.length<=1000000000):
  Calls prog 118 #[.pointer R,v] w fun e w'=>e=.returned (.bool (qJ l).isSome)/\Below R w0 w'/\
   ∀c o,qJ l=some (c,o)->r6 w0 R lv L w' {st with x:=⟨st.x.days,st.x.mm,st.x.cap,st.x.len,st.x.eB++[c],st.x.gn⟩,odd:=st.odd||o}/\kz R w w':=by
 have HS:=zH hs;have z:=hs.lt;obtain⟨B,HX⟩:=Zb hs.from_ Y;obtain⟨A,c,rfl,h1,h2,aE⟩:=hv.open_;have HL:=zH aE;clear hs hv aE Y;by_cases h5:l.length=5;rotate_left
 ·have HF:Hid (qJ l=none):=zH (by
   unfold qJ;split
   ·simp at h5
   ·rfl)
  have aS:((l.length:Int) !=5)=true:=by rw[bne_iff_ne];omega
  clear h5;go_enter func118,ntmps118;go_wp2;go_ret;rw[HF.out];exact⟨rfl,B,fun c o h=>by cases h⟩
 ·obtain⟨a,b,d,r,h,rfl⟩: ∃a b d r h,l=[a,b,d,r,h]:=by
   match l,h5 with
   | [a,b,d,r,h],_=>exact⟨_,_,_,_,_,rfl⟩
  clear h5;obtain⟨bl,o,rfl,aJ,ca⟩:=HL 0 a rfl;obtain⟨b1,o1,D,-,cb⟩:=HL 1 b rfl;obtain⟨rfl,rfl⟩:bl=b1/\o=o1:=by simpa using D
  obtain⟨b1,o1,D,-,cd⟩:=HL 2 d rfl;obtain⟨rfl,rfl⟩:bl=b1/\o=o1:=by simpa using D
  obtain⟨b1,o1,D,-,cr⟩:=HL 3 r rfl;obtain⟨rfl,rfl⟩:bl=b1/\o=o1:=by simpa using D
  obtain⟨b1,o1,D,-,ch⟩:=HL 4 h rfl;obtain⟨rfl,rfl⟩:bl=b1/\o=o1:=by simpa using D
  rw[gv] at ca;simp only[ff,fZ] at h1;have y0:=a7 B hR ca;have y1:=a7 B hR cb;have y2:=a7 B hR cd;have y3:=a7 B hR cr;have y4:=a7 B hR ch;have aQ:bl<w.heap.size:=bP aJ oG;clear ca cb cd cr ch HL;go_enter func118,ntmps118;go_wp2_with fail;refine rB [] fun hS=>?_;refine kL [0,1,2,3,4,5,6,7,8,9,10,11] ?_;refine tO 12 fun K f=>?_;go_simp;refine f _ _ (hS.alloc hS.size _) ?_;refine tO 13 fun K f=>?_;go_simp;obtain⟨ok,I⟩: ∃q:Bool,Hid ([a,b,d,h].all isNum=q):=⟨_,rfl⟩;have aB:=(fc.new w 9 [kI a,kI b,kI d,kI h]).drew;refine(uN [a,b,d,h] _ _ sI (fun x Y=>(HX x (by simp only[fC,iy,or_false] at Y|-;rcases Y with rfl|rfl|rfl|rfl <;>simp)).1) (fc.strs (l:=[a,b,d,h]) aB sI)).mono ?_;rintro e y ⟨u,rfl,hu,aC⟩;rw[I.out];have m:Below w w y:=(jX (bS w w) _).drew.trans (aC.mono (show w.heap.size<=_ by simp));refine f _ _ m ?_;refine tk 14 m ?_;refine tk 15 m ?_;refine tk 16 m ?_;refine tk 17 m ?_;refine tk 18 m ?_;refine tD ?_;obtain⟨aA,HU,az,Z⟩:=Zd (B.trans (m.mono (pF z))) hu m (HS.below m);have aH:=a7 m lE y3;clear hu aC hS aB m B HX y0 y1 y2 y4;cases ok with
  |false=>
   have HF:Hid (qJ [a,b,d,r,h]=none):=zH (by have:=I.out;simp only[gi,lF,kF] at this;rw[<-vZ,<-vZ] at this;simp only[qJ];rw[this];rfl);go_wp2_with fail;go_ret;rw[HF.out];exact⟨rfl,aA,fun c o h=>by cases h⟩
  |true=>
   have U:Hid (qS w y u [nQ a,nQ b,nQ d,nQ h]):=zH (by have:=HU.out;rw[uw I.out] at this;exact kZ this sI);clear HU;obtain⟨Au,cu,rfl,g1,g2,aD⟩:=U.reads.open_;obtain⟨bu,ou,rfl,aR,k0⟩:=aD 0 _ rfl;have k1:=qS.cell U (i:=1) rfl;have k2:=qS.cell U (i:=2) rfl;have k3:=qS.cell U (i:=3) rfl;rw[gv] at k0;simp only[ff,fZ] at g1;clear aD;go_wp2_with fail;refine rB [14] fun hS=>?_;refine kL [0,1,2,3,4,5,6,7,8,9,10,11,12] ?_;refine tO 13 fun K f=>?_;go_simp;refine f _ _ (hS.alloc hS.size _) ?_;refine tL 14 fun K f=>?_;go_simp;refine f _ _ ?_;refine tD ?_;generalize ak:World.alloc y (Obj.cells #[.int .i64 2,Zo,(),(nQ a),(nQ b),(nQ d),Zo,(nQ h)] 47)=w3;have B3:=zH (show Below y y w3 by rw[<-ak];exact jX bF _);have bx:fc w3 y 47 [.int .i64 2,Zo,(),(nQ a),(nQ b),(nQ d),Zo,(nQ h)]:=by rw[<-ak];exact fc.newAt _ _ _ rfl
   have y5:=a7 B3 lE aH;have e6:=bx.c 6;have f6:=bx.frozen 6;have T:=zH bx;obtain⟨rs,X⟩:=nE (⟨r.toArray⟩:ByteArray);rw[<-X] at y5;have aP:=zH X;have aG:rs.toList=r:=by rw[X,mR]
   have J:=zH aG;clear ak bx hS X aG k0 k1 k2 k3 y3 aH;by_cases V:r=FC;rotate_left;by_cases ha:r=Pm;rotate_left
   ·have HF:Hid (qJ [a,b,d,r,h]=none):=zH (by
     have:tY r=none:=by unfold tY;rw[if_neg V,if_neg ha]
     simp only[qJ];rw[this];split <;>rfl)
    have W:(rs.toList==[102,105,108,108])=false:=by rw[J.out,beq_eq_false_iff_ne];exact V
    have aF:(rs.toList==[97,110,121])=false:=by rw[J.out,beq_eq_false_iff_ne];exact ha
    have aI:=zH (aA.trans (B3.mono (pF Z.lt)));clear V ha;go_wp2_with fail;go_ret;rw[HF.out];exact⟨rfl,aI.drew,fun c o h=>by cases h⟩
   ·have W:(rs.toList==[102,105,108,108])=true:=by rw[J.out,beq_iff_eq];exact V
    have M:Hid (tY r=some 1):=zH (by unfold tY;rw[if_pos V]);clear V;go_wp2_with fail;generalize F:(World.setCell w3 (pA y 6) (.int .i64 1)).drew=t;have H:=zH (show Below y y t by rw[<-F];exact(B3.setCell (p:=pA y 6) lE _).drew);obtain⟨G,aa,k⟩: ∃G:Int,Hid (tY r=some G)/\Hid (fc t y 47 [.int .i64 2,Zo,(),(nQ a),(nQ b),(nQ d),G,(nQ h)]):=⟨1,M,zH (by rw[<-F];exact(T.gH 6 _).drew)⟩;clear F e6 f6 y5 T B3 W M;exact Q8
   ·have W:(rs.toList==[102,105,108,108])=false:=by rw[J.out,beq_eq_false_iff_ne];exact V
    have aF:(rs.toList==[97,110,121])=true:=by rw[J.out,beq_iff_eq];exact ha
    have M:Hid (tY r=some 2):=zH (by unfold tY;rw[if_neg V,if_pos ha]);clear V ha;go_wp2_with fail;generalize F:(World.setCell w3 (pA y 6) (.int .i64 2)).drew=t;have H:=zH (show Below y y t by rw[<-F];exact(B3.setCell (p:=pA y 6) lE _).drew);obtain⟨G,aa,k⟩: ∃G:Int,Hid (tY r=some G)/\Hid (fc t y 47 [.int .i64 2,Zo,(),(nQ a),(nQ b),(nQ d),G,(nQ h)]):=⟨2,M,zH (by rw[<-F];exact(T.gH 6 _).drew)⟩;clear F e6 f6 y5 T B3 W aF M;exact Q8
end
section
open Go.Proofs.Tryz
open Go.RowKit ue jm uf
variable {a b:Nat} {c:Array MapEntry} {s:ByteArray}
def E8 (z:Value):Option (Nat×Value)->Value
 |some x=>.tuple #[x.2,true]
 |none=>.tuple #[z,false]
section
variable {P:Program} {t k e:TypeId}
def MQ {v:Value} (j:P.underlying t=some (.map k e)) (f:P.underlying k=some .string) (d:w.heap[b]? =some (.map c a))
  (l:Instr.findNow .string (.string s) c.toList 0=some none):
  ∃w',(Instr.mapUpdate t (.map (some b)) (.string s) v).run P w=.ok () w'/\w'.heap[b]? =some (.map (c.push ⟨.string s,v,a⟩) (a+1))/\w'.heap.size=w/\ ∀lb,lb<=b->Below lb w w':=by
 refine⟨{w with heap:=w.heap.setIfInBounds b (.map (c.push ⟨.string s,v,a⟩) (a+1))},?_,?_,by simp,fun lb m=>⟨rfl,rfl,rfl,by simp,fun i n=>?_⟩⟩
 ·have g:(Instr.checkKey false 10000 k (.string s)).run P w=.ok () w:=mu f (show MapKept.IsKey .string (.string s) from trivial) false 9999;have h:(Instr.findKey k (.string s) c.toList).run P w=.ok none w:=jY f l;simp[Instr.mapUpdate,run_underlying j,iI d,g,h,mV _ d,Result.andThen]
 ·have:=(aah.1 d).1;simp[this]
 ·rw[iQ oG]
def Rw {r:Option (Nat×Value)} {z:Value} (j:P.underlying t=some (.map k e)) (f:P.underlying k=some .string) (d:w.heap[b]? =some (.map c a))
  (l:Instr.findNow .string (.string s) c.toList 0=some r) (i:(zeroValue e).run P w=.ok z w):
  (Instr.lookup t (.map (some b)) (.string s) true).run P w=.ok (E8 z r) w:=by
 have g:(Instr.checkKey c.isEmpty 10000 k (.string s)).run P w=.ok () w:=mu f (show MapKept.IsKey .string (.string s) from trivial) _ 9999;have h:(Instr.findKey k (.string s) c.toList).run P w=.ok r w:=jY f l;cases r with
 |none=>simp[Instr.lookup,run_underlying j,iI d,g,h,i,Result.andThen,E8]
 |some x=>simp[Instr.lookup,run_underlying j,iI d,g,h,Result.andThen,E8]
end
def Vb (w:World):(zeroValue 177).run prog w=.ok .nilFunc w:=kR
end
section
open Go.Proofs.Tryz
open Go.RowKit ue jm uf
theorem Q9{p:Prop}(h:p:=by
 go_wp2_with fail;all_goals
  refine(g _ (by first|exact ai _ oG mO|(obtain rfl:l=[]:=rX.1 oG;exact kX.abS _ _ _ (by simp[maxLen])))).mono ?_;rintro e w4 ⟨rfl,k,p⟩;cases a:rT s with
  |none=>
   have W:Hid (pE n st=none):=zH (by rw[r.out,a];rfl);have U:=zH k;clear p k a;go_wp2_with fail;go_ret;rw[W.out];exact⟨rfl,U,fun q h=>by cases h⟩
  |some D=>
   obtain⟨r1,r2,r3,r4⟩:=p D a;obtain⟨Y,Z,V⟩:=Zc r1 r2 a;clear p k a r1 r2;go_wp2_with fail;go_roundw
   case rel=>exact⟨i+1,D,oG,by go_num,Y,zH (by rw[r.out,V.out];rfl),oG,oG,(F.trans Z)⟩
   case measure=>exact mI):p:=h
theorem Rb{p:Prop}(h:p:=by rw[a,Option.isSome_map];refine⟨q1,q2,fun D af=>?_⟩;obtain⟨⟨c',o'⟩,K,rfl⟩:=mP.1 af;exact⟨(T c' o' K).1,(T c' o' K).2,by simp[(tE s).1],rfl⟩):p:=h
variable {l:kW} {st:Rd} {x:Word}
def tE (st:Rd):(fV st).2.x=st.x/\(fV st).2.count=st.count/\(fV st).2.odd=st.odd:=by unfold fV;split <;>exact⟨rfl,rfl,rfl⟩
def xZ (h:(fV st).1≠[]):(fV st).2.rest.length+1=st.rest.length:=by
 unfold fV at h|-
 split
 ·rename_i e;rw[e] at h;exact absurd rfl h
 ·rename_i e;rw[e];rfl
def Ia (d:Int) (l:kW):yF d (nt::l)=oX d l:=by show(if nt=nt then oX d l else if nt=qh then qJ l else none)=_;rw[if_pos rfl]
def Ks (d:Int) (l:kW):yF d (qh::l)=qJ l:=by show(if qh=nt then oX d l else if qh=qh then qJ l else none)=_;rw[if_neg dE,if_pos rfl]
def Kq (d:Int) (x:Word) (l:kW) (f:x≠nt) (j:x≠qh):yF d (x::l)=none:=by show(if x=nt then oX d l else if x=qh then qJ l else none)=_;rw[if_neg f,if_neg j]
def NH (h:(fV st).1=[]):rT st=none:=by unfold rT;rw[h];rfl
def Ic (h:(fV st).1=nt::l):rT st=(oX (fV st).2.x.days l).map fun c=>
  {(fV st).2 with x:=⟨(fV st).2.x.days,(fV st).2.x.mm,(fV st).2.x.cap,(fV st).2.x.len,(fV st).2.x.eB++[c.1],(fV st).2.x.gn⟩,odd:=(fV st).2.odd||c.2}:=by
 obtain⟨f,j,a⟩:=tE st;unfold rT;rw[h,f,a,Ia]
def Ku (h:(fV st).1=qh::l):rT st=(qJ l).map fun c=>
  {(fV st).2 with x:=⟨(fV st).2.x.days,(fV st).2.x.mm,(fV st).2.x.cap,(fV st).2.x.len,(fV st).2.x.eB++[c.1],(fV st).2.x.gn⟩,odd:=(fV st).2.odd||c.2}:=by
 obtain⟨f,j,a⟩:=tE st;unfold rT;rw[h,f,a,Ks]
def Kt (h:(fV st).1=x::l) (f:x≠nt) (j:x≠qh):rT st=none:=by unfold rT;rw[h,Kq _ _ _ f j];rfl
def r6.M1 {w0:World} {R:Nat} {u:Value} {L:List kW} (h:r6 w0 R u L w st):st.rest.length<=L.length:=by obtain⟨k,cv,dv,f,j,-⟩:=h;rw[<-j,km];omega
def Gf (R:Nat):Array MapEntry:= #[⟨.string ⟨#[118,105,115,105,116]⟩,.func (.func 117) #[.pointer R] #[],0⟩,⟨.string ⟨#[116,97,110,107]⟩,.func (.func 118) #[.pointer R] #[],1⟩]
def KO (R:Nat) (s:ByteArray):Instr.findNow .string (.string s) (Gf R).toList 0=some (if s.data.toList=nt then some (0,.func (.func 117) #[.pointer R] #[]) else
  if s.data.toList=qh then some (1,.func (.func 118) #[.pointer R] #[]) else none):=by
 have hb: ∀a:List UInt8,(s==(⟨a.toArray⟩:ByteArray))=decide (s.data.toList=a):=fun a=>by
  rcases s with ⟨d⟩
  show(d==a.toArray)=_;rw[BE,beq_iff_eq,decide_eq_true_eq];exact⟨fun h=>by rw[h],fun h=>by rw[<-h]⟩
 have f:(s==(⟨#[118,105,115,105,116]⟩:ByteArray))=decide (s.data.toList=nt):=hb nt;have j:(s==(⟨#[116,97,110,107]⟩:ByteArray))=decide (s.data.toList=qh):=hb qh;unfold Gf;by_cases C:s.data.toList=nt
 ·rw[if_pos C];rw[decide_eq_true (show s.data.toList=nt from C)] at f;show(match some (s==_) with|some true=>_|some false=>_|none=>_:Option (Option (Nat×Value)))=_;rw[show(s==(⟨#[118,105,115,105,116]⟩:ByteArray))=true from f]
 ·rw[if_neg C];rw[decide_eq_false (show¬s.data.toList=nt from C)] at f;show(match some (s==_) with|some true=>_|some false=>_|none=>_:Option (Option (Nat×Value)))=_;rw[show(s==(⟨#[118,105,115,105,116]⟩:ByteArray))=false from f];show(match some (s==_) with|some true=>_|some false=>_|none=>_:Option (Option (Nat×Value)))=_;by_cases I:s.data.toList=qh
  ·rw[if_pos I];rw[decide_eq_true (show s.data.toList=qh from I)] at j;rw[show(s==(⟨#[116,97,110,107]⟩:ByteArray))=true from j]
  ·rw[if_neg I];rw[decide_eq_false (show¬s.data.toList=qh from I)] at j;rw[show(s==(⟨#[116,97,110,107]⟩:ByteArray))=false from j];rfl
def kX.Z7 {b o c c':Nat} (h:kX w (.slice (pA b o) (x::l).length c) (x::l)) (f:l.length<=c') (i:c'<=maxLen):kX w (.slice (pA b (o+1)) l c') l:=by
 obtain⟨A,c0,B,m,n,p,e⟩:=h;injection B with e1 _ e3
 subst e1;subst e3;refine⟨_,c',rfl,f,i,by simp,fun hn=>?_⟩;obtain⟨d,o',g,hb,a⟩:=e sI;obtain⟨rfl,rfl⟩:b=d/\o=o':=by simpa using g
 refine⟨b,o+1,rfl,hb,fun j u k=>?_⟩;have:=a (1+j) u (by rw[sY,gN,fD];exact k);rw[<-mf] at this;exact this
def kX.abS (w:World) (A:Option Addr) (c:Nat) (a:c<=maxLen):kX w (.slice A 0 c) []:=⟨A,c,rfl,eC _,a,rfl,fun h=>absurd h sI⟩
def PU (w0:World) (R:Nat) (u:Value) (L:List kW) (s:Rd) (f:FuncId) (E:World) (l:kW):Prop:=
 ∀v,kX w0 v l->Calls prog f #[.pointer R,v] E fun e w'=>e=.returned (.bool (rT s).isSome)/\Below R w0 w'/\
  ∀D,rT s=some D->r6 w0 R u L w' D/\kz R E w'/\D.x.eB.length=s.x.eB.length+1/\D.rest.length=(fV s).2.rest.length
def D8 (w0:World) (R:Nat) (u:Value) (L:List kW) (st:Rd) (w:World) (hC:Tj w0 R u L) (hs:r6 w0 R u L w st) (h0:st.x.eB=[]) (aK:0<=st.count) (aL:st.count<=1000000000000000000):
  Calls prog 75 #[.pointer R] w fun e w'=>e=.returned (.bool (pE st.count.toNat st).isSome)/\Below R w0 w'/\ ∀q,pE st.count.toNat st=some q->r6 w0 R u L w' q/\kz R w w':=by
 obtain⟨O,HS,H0⟩:=Zc hC hs h0;have z:=hs.lt;obtain⟨n,hn⟩: ∃n:Nat,st.count=n:=⟨st.count.toNat,oG⟩;have aC:st.count.toNat=n:=oG;rw[aC];have HN:=zH hn;have aS:n<=1000000000000000000:=oG;have aR:= @run_makeMap prog;have aQ: ∀(fn:Fn) (first cap:Array Value) (w:World),(Instr.makeFunc fn first cap).run prog w=.ok (.func fn first cap) w:=fun _ _ _ _=>rfl;have aw:(w.alloc (.map #[] 0)).heap[w.heap.size]? =some (.map #[] 0):=by simp only[World.alloc,Vd]
 obtain⟨w1,aH,ak,aW,az⟩:=MQ (P:=prog) (v:=.func (.func 117) #[.pointer R] #[]) (s:=⟨#[118,105,115,105,116]⟩) underlying178 underlying9 aw rfl;obtain⟨w2,aI,aq,aX,aA⟩:=MQ (P:=prog) (v:=.func (.func 118) #[.pointer R] #[]) (s:=⟨#[116,97,110,107]⟩) underlying178 underlying9 ak (by rfl);have N:Below w w w2:=((jX bF _).trans (az _ lE)).trans (aA _ lE);have Q:w2.heap[w.heap.size]? =some (.map (Gf R) 2):=aq;obtain⟨aE,aF,aG⟩:=Zc Q N (hs.below N);have aT:=hs.M1;obtain⟨kk,cv,dv,-,-,T,-⟩:=hs.below N;have c8:=T.c 8;rw[hn] at c8;have aN:=hC.Ik;clear hC hs hn h0 aC ak aq Q az aA N aw T aK aL;go_enter func75,ntmps75;go_wp2_with fail;clear aH aI c8;go_loopw [17] (fun iv wr=> ∃(i:Nat) (s:Rd),i<=n/\iv=.int .i64 i/\Hid (r6 w0 R u L wr s)/\Hid (pE n st=pE (n-i) s)/\s.x.eB.length=i/\i+s.rest.length<=st.rest/\Hid (kz R w2 wr)) (fun iv _=>n-(intOf iv).toNat)
 case atStart=>exact⟨0,st,eC _,rfl,aG,rfl,by rw[H0.out];rfl,oG,(kz.refl _ _)⟩
 case round=>
  obtain⟨i,s,hi,rfl,G,HR,aO,aU,ah⟩:=hrel;by_cases aP:i<n
  ·go_wp2_with fail;refine(uv w0 R u L s _ O.lines O.low G O.Ik).mono ?_;rintro e E ⟨v,rfl,B,ag,-,ay⟩;obtain⟨H,F,M,aa⟩:=Zd ag (ah.trans ay) (G.x8 O) (G.Lk O);have r:Hid (pE n st=(rT s).bind (pE (n-(i+1)))):=zH (by rw[HR.out,show n-i=(n-(i+1))+1 by omega];rfl);have aV:E.heap.size=E.heap.size:=rfl;clear ay;cases d:(fV s).1 with
   |nil=>
    have W:Hid (pE n st=none):=zH (by rw[r.out,NH d];rfl);rw[d] at B;obtain⟨A,c,rfl,f,j,-⟩:=B.open_;clear B d ag;go_wp2_with fail;go_ret;rw[W.out];exact⟨rfl,H.from_,fun q h=>by cases h⟩
   |cons x l=>
    have X:=zH d;have aM:(fV s).2.rest.length+1=s.rest.length:=xZ (by rw[d];simp);rw[d] at B M aa;obtain⟨A,c,rfl,f,j,aB⟩:=B.open_;obtain⟨b,o,rfl,hb,c0⟩:=aB 0 x rfl;have y0:=a7 H.from_ O.low c0;rw[gv] at y0;have y1:=y0;obtain⟨t,ht⟩:=nE (⟨x.toArray⟩:ByteArray);have aD:t.data.toList=x:=by rw[ht]
    change E.cell? (pA b o)=some (.string ⟨x.toArray⟩) at y0;rw[<-ht] at y0;have S:E.heap[w.heap.size]? =some (.map (Gf R) 2):=F _ _ oG (fun cs e fr h=>by cases h) aE;have ae:=KO R t;rw[aD] at ae;have m:=Rw (P:=prog) underlying178 underlying9 S ae (Vb E);have aj:=zH (fun y hy=>(⟨M.2 y (nX _ hy),aa y (nX _ hy)⟩:y.length<=1000000/\isWord y=true));have ai:Hid (∀c',l.length<=c'->c'<=maxLen->kX w0 (.slice (pA b (o+1)) l c') l):=zH fun c' q1 q2=>B.Z7 q1 q2;have aJ:l.length<=1000:=by have:=M.out.1;simp only[ff] at this;omega
    have J:(fV s).2.x.eB.length<=1000000000:=by rw[(tE s).1];omega
    simp only[ff] at f j;clear B aB c0 y1 ht aD ae S ag d M aa;by_cases C:x=nt
    ·rw[if_pos C] at m;simp only[E8] at m;have g:Hid (PU w0 R u L s 117 E l):=zH fun v B=>(Pj w0 R u L (fV s).2 l v E O.low H B aJ aj J).mono fun e w' ⟨q1,q2,T⟩=>by have a:=Ic (st:=s) (l:=l) (by rw[X.out,C]);exact Rb
     clear C;exact Q9
    ·rw[if_neg C] at m;by_cases I:x=qh
     ·rw[if_pos I] at m;simp only[E8] at m;have g:Hid (PU w0 R u L s 118 E l):=zH fun v B=>(Ss w0 R u L (fV s).2 l v E O.low H B aj J).mono fun e w' ⟨q1,q2,T⟩=>by have a:=Ku (st:=s) (l:=l) (by rw[X.out,I]);exact Rb
      clear C I;exact Q9
     ·rw[if_neg I] at m;simp only[E8] at m;have W:Hid (pE n st=none):=zH (by rw[r.out,Kt X.out C I];rfl);clear C I;go_wp2_with fail;go_ret;rw[W.out];exact⟨rfl,H.from_,fun q h=>by cases h⟩
  ·obtain rfl:i=n:=oG;go_wp2_with fail;go_ret;have hR:=HR.out;rw[pG] at hR;rw[hR];exact⟨rfl,G.from_,fun q h=>by obtain rfl:=fg h;exact⟨G,((kz.refl R w).below aF).trans ah⟩⟩
end
section
open Go.Proofs.Tryz
open Go.RowKit ue jm uf
variable {l:kW}
def WD:(prog.info? 26).map (fun i=>(i.zero,i.size,i.bytes))=some (some (.slice none 0 0),1,24):=kR
def Of (h:l.all isNum=true):(yV l).length=l.length:=by rw[uw h,fm]
def RJ (h:l.all isNum=true):yV l=l.map nI:=by rw[uw h];rfl
def Qn (w0:World) (R:Nat) (S:Value) (L:List kW) (st:Rd) (w:World) (hC:Tj w0 R S L) (hs:r6 w0 R S L w st) (h0:st.x.gn=[]) (aC:0<=st.count) (aD:st.count<=1000000000000000000):
  Calls prog 76 #[.pointer R] w fun e w'=>e=.returned (.bool (sB st).isSome)/\Below R w0 w'/\ ∀j,sB st=some j->r6 w0 R S L w' j/\kz R w w':=by
 obtain⟨t,HS,H0⟩:=Zc hC hs h0;obtain⟨n,hn⟩: ∃n:Nat,st.count=n:=⟨st.count.toNat,oG⟩;have HN:=zH hn;have aS:n<=1000000000000000000:=oG;have aT:=hs.M1;have aM:=hC.Ik;have F:Hid (sB st=if (fV st).1=[BB] then xq (n+1) (fV st).2 else none):=zH (by unfold sB;rw[hn,show((n:Int)+1).toNat=n+1 by omega]);clear hC hs h0 hn aC aD;go_enter func76,ntmps76;go_wp2_with fail;refine(uv w0 R S L st _ t.lines t.low HS t.Ik).mono ?_;rintro e w2 ⟨v,rfl,hv,f,-,ah⟩;obtain⟨ak,Z,HV⟩:=Zc ah f (kX.below hv f.from_ t.low);have hB:=fc.new w2 9 [.string ⟨#[100,105,115,116,97,110,99,101,115]⟩];clear f hv ah;go_wp2_with fail;refine(CE v _ (fV st).1 [BB] _ (kX.below HV (jX bF _) lE) (fc.strs (l:=[BB]) hB)).mono ?_;rintro e w3 ⟨rfl,nd,rfl⟩;have E:Hid (Below w2 w2 ((w2.alloc (cB 9 [.string ⟨#[100,105,115,116,97,110,99,101,115]⟩])).drewN nd)):=zH (below_drewN (jX bF _) nd);generalize aJ:(w2.alloc (cB 9 [.string ⟨#[100,105,115,116,97,110,99,101,115]⟩])).drewN nd=w3 at E;obtain⟨z,U⟩:=Zb (Z.below E) (ak.below E);clear HV hB aJ;by_cases N:(fV st).1=[BB];rotate_left
 ·have T:Hid (sB st=none):=zH (by rw[F.out,if_neg N]);rw[decide_eq_false N];clear N;go_wp2_with fail;go_ret;rw[T.out];exact⟨rfl,z.from_,fun j h=>by cases h⟩
 ·have HD:Hid (sB st=xq (n+1) (fV st).2):=zH (by rw[F.out,if_pos N]);have aG:(fV st).2.rest.length+1=st.rest.length:=xZ (by rw[N];simp);have K:(fV st).2.count=n:=by rw[(tE st).2.1,HN.out]
  have aj:(fV st).2.x.gn=[]:=by rw[(tE st).1,H0.out]
  rw[decide_eq_true N];clear N F;obtain⟨aL,D⟩:=nE ((fV st).2);rw[<-D] at HD z aG K aj;clear D Z;obtain⟨kk,cv,dv,-,-,k,-⟩:=z.out;have c8:=k.c 8;rw[K] at c8;have e1:IntKind.i64.wrap ((n:Int)+1)=(n:Int)+1:=iM _ oG;clear k;go_wp2_with fail;clear c8;go_loopw [15] (fun iv wr=> ∃(i:Nat) (s:Rd),i<=n+1/\iv=.int .i64 i/\Hid (r6 w0 R S L wr s)/\Hid (sB st=xq (n+1-i) s)/\s.x.gn.length=i/\i+s.rest.length<=st.rest/\s.count=n/\Hid (kz R w wr)) (fun iv _=>n+1-(intOf iv).toNat)
  case atStart=>exact⟨0,aL,eC _,rfl,z,HD,by rw[aj];rfl,oG,K,U⟩
  case round=>
   obtain⟨i,s,hi,rfl,y,HR,M,aU,O,X⟩:=hrel;by_cases aB:i<n+1
   ·go_wp2_with fail;refine(uv w0 R S L s _ t.lines t.low y t.Ik).mono ?_;rintro e w4 ⟨v4,rfl,ai,B,-,C⟩;obtain⟨aq,V,G,ay⟩:=Zd B (X.trans C) (y.x8 t) (kX.below ai B.from_ t.low);have H:Hid (sB st=(Gw s).bind (xq (n+1-(i+1)))):=zH (by rw[HR.out,show n+1-i=(n+1-(i+1))+1 by omega];rfl);have aV:=B.lt;clear C B ai;go_wp2_with fail;refine(uN (fV s).1 v4 _ G.1 G.2 ay).mono ?_;rintro e w5 ⟨u,rfl,hu,ae⟩;obtain⟨o,W⟩:=Zb (aq.below ae) (V.below ae);have aW:=o.lt;cases a:(fV s).1.all isNum with
    |false=>
     have T:Hid (sB st=none):=zH (by rw[H.out];unfold Gw;rw[a];rfl);clear hu a;go_wp2_with fail;go_ret;rw[T.out];exact⟨rfl,o.from_,fun j h=>by cases h⟩
    |true=>
     have m:=zH a;have aI:=Of a;have P:=kZ (base':=R+1) hu (show R+1<=w4.heap.size by omega);obtain⟨A,c,rfl,aA,aO,-⟩:=RS.jh P;have HU:=zH P;have aR:=G.1;simp only[aI] at aA|-
     have c8:w5.cell? (pA R 8)=some n:=by obtain⟨kk,cv,dv,-,-,k,-⟩:=o.out;have c8:=k.c 8;rw[(tE s).2.1,O] at c8;exact c8
     clear hu P a;by_cases d:(fV s).1.length=n+1;rotate_left
     ·have T:Hid (sB st=none):=zH (by rw[H.out];unfold Gw;rw[m.out,O,decide_eq_false oG];rfl);have aE:(((fV s).1.length:Int) !=(n:Int)+1)=true:=by rw[bne_iff_ne];omega
      clear d;go_wp2_with fail;go_ret;rw[T.out];exact⟨rfl,o.from_,fun j h=>by cases h⟩
     ·have aE:(((fV s).1.length:Int) !=(n:Int)+1)=false:=by rw[bne_eq_false_iff_eq];omega
      have J:Gw s=some {(fV s).2 with x:=⟨s.x.days,s.x.mm,s.x.cap,s.x.len,s.x.eB,s.x.gn++[(fV s).1.map nI]⟩}:=by unfold Gw;rw[m.out,O,decide_eq_true oG];rfl
      have aH:=xZ (st:=s) (by intro e;rw[e] at d;simp at d);obtain⟨x1,x2,x3⟩:=tE s;rw[<-x1] at J M;have Y:=zH J;have aw:Hid (w5.ownsRow (R+1) 3 1 (.slice A (fV s).1.length c) ((fV s).1.map nI).length (((fV s).1.map nI).map (Value.int .i64))):=zH (by have:=HU.out;rw[RJ m.out] at this;simpa using this);obtain⟨kk,cv,dv,q1,q2,k,q4,⟨aY,r1,r2⟩,q6⟩:=o.out;obtain⟨b,f⟩:=nE ((fV s).2);rw[<-f] at Y q2 k q4 r1 r2 M aH x2;have az:b.x.gn.length<=1000000000:=oG;have q:R+1<=w5.heap.size:=oG;have c7:=k.c 7;have f7:=k.frozen 7;obtain⟨Q,aK⟩:=Zb (And.intro q1 (And.intro q2 (And.intro k (And.intro q4 (And.intro r2 q6))))) k;clear f J q1 q2 k q4 r2 q6 d aB;go_wp2_with (at_builtin;refine iD _ rfl (.tmp 40) (.tmp 42) 23 rfl (R+1) 26 _ 1 24 underlying23 WD rfl dE dE _ _ _ r1 rfl [.slice A (fV s).1.length c] _ rfl rfl rfl az q ?_;intro g cap w6 aF aP aQ r aX;have af:=r.below q;have I:=aK.below af lS;have e7:w6.cell? (pA R 7)=some dv:=I.cell 7;have aN:w6.frozen? (pA R 7)=false:=I.frozen 7);go_roundw
      case rel=>
       subst M;obtain⟨q1,q2,k,q4,r2,q6⟩:=Q.out;have ag:Below R w0 (w6.setCell (pA R 7) (.slice g (b.x.gn+1) cap)):=(q6.trans (af.mono (iW R))).setCell (p:=pA R 7) lE _;have aa:=I.gH 7 (.slice g (b.x.gn+1) cap);simp only[fI,fJ] at aa;refine⟨b.x.gn.length+1,{b with x:=⟨b.x.days,b.x.mm,b.x.cap,b.x.len,b.x.eB,b.x.gn++[(fV s).1.map nI]⟩},oG,by go_num,zH ⟨kk,cv,.slice g (b.x.gn.length+1) cap,q1,q2,aa,?_,?_,ag⟩,zH (by rw[H.out,Y.out];rfl),by simp,by show b.x.gn.length+1+b.rest.length<=st.rest.length;omega,by show b.count=n;omega,((W.keep r dE).set 7 _)⟩
       ·exact iJ.fG (p:=pA R 7) (iJ.keep q4 r dE dE) lS _
       ·exact(OwnRows.push rfl (by have:=r1.1;simpa using this) aF (fun i x qv hx hq=>r.own (r2 i x qv hx hq) dE) (r.own aw dE)).fG (p:=pA R 7) lS _
      case measure=>exact mI
   ·obtain rfl:i=n+1:=oG;go_wp2_with fail;go_ret;have hR:=HR.out;rw[pG] at hR;rw[hR];exact⟨rfl,y.from_,fun j h=>by obtain rfl:=fg h;exact⟨y,X⟩⟩
end
section
open Go.Proofs.Tryz
open Go.RowKit ue jm uf
theorem Rc{p:Prop}(h:p:=by
 go_wp2_with fail;rw[r.out,o.out.1]
 simp only[o.out.2,if_true];refine bodyPost_ret (r8 rfl _ _ w 25 [Zo,Zo,Zo,Zo,(),()] _ (.int .i64 3) rfl rfl ?hW underlying25 rfl Ge) rfl ⟨_,rfl,?_,?_⟩
 case hW=>exact a.Sa
 ·exact ph.zero _ _ _ _ _ _
 ·exact so (kB I H) lE):p:=h
variable {L:List kW} {l:kW}
def CU (b:UInt8): ∀(a:kW) (x:Word),x∈a->x.length<=(jw b a).length
 | [],x,h=>by cases h
 | [w],x,h=>by
  obtain rfl:x=w:=by simpa using h
  exact ij _
 |w::v::t,x,h=>by
  rw[jw,fa,ff]
  rcases fC.1 h with h|h
  ·subst h;omega
  ·have:=CU b (v::t) x h;omega
def BK (h:l∈L):(kx l).length<=(L.flatMap kx).length:=by
 induction L with
 |nil=>cases h
 |cons a L ih=>
  rw[gG,fa]
  rcases fC.1 h with h|h
  ·subst h;omega
  ·have:=ih h;omega
def KT {t:List UInt8} (h:nH t=some L) (Z:l∈L) {x:Word} (P:x∈l):x.length<=t.length:=by have X:=(Bm h).1;have z:=BK Z;have h3:=CU 32 l x P;rw[X] at z;unfold kx at z;simp at z;omega
def I4:Nat->FuncId
 |0=>72
 |1=>73
 |2=>74
 |3=>75
 |4=>76
 |_=>77
def I5 (R i:Nat):Value:=.func (.func (I4 i)) #[.pointer R] #[]
def r8 {P:Program} {W:Func} {p q:Tmp} {ty:TypeId} (h:W.results= #[.cell p ty,.tmp q]) (tmps:Array Value) (w:World) (g:Nat) (t:TypeId) (cs:List Value) (d:TypeDesc) (u:Value)
  (C:tmps.getD p undef=.pointer g) (f:tmps.getD q undef=u) (e:fc w g t cs)
  (i:P.underlying ty=some d) (c:(match d with| .struct _| .array _ _=>true|_=>false)=true) (Y:(P.info? ty).map (·.size)=some cs):
  (results W tmps).run P w=.ok (.tuple #[.agg cs.toArray,u]) w:=by
 have a:tmps[p]?.getD undef=.pointer g:=by simpa using C
 have b:tmps[q]?.getD undef=u:=by simpa using f
 simp[results,h,a,b,asAddr,run_loadVar_row w g t ty cs.toArray (0,0) d e i c (by simpa using Y)]
def Ge:(prog.info? 25).map (·.size)=some 6:=kR
def ph.zero (lb:Nat) (a c d b:TypeId) (w:World):ph lb a c d b w (.agg #[Zo,Zo,Zo,Zo,(),()]) qV:=
 ⟨_,_,rfl,iJ.none_ _ _ _ _,OwnRows.none_ _ _ _ _⟩
def RU (w0:World) (R:Nat) (a:Value) (L:List kW) (i:Nat) (s:Rd) (w:World) (b:Tj w0 R a L) (Y:i<6) (j:tJ L i=some s) (c:r6 w0 R a L w s):
  Calls prog (I4 i) #[.pointer R] w fun e w'=>e=.returned (.bool (uf.part i s).isSome)/\Below R w0 w'/\ ∀k,uf.part i s=some k->r6 w0 R a L w' k/\kz R w w':=by
 obtain⟨d,f,g⟩:=DD L i oG j
 match i,Y,f,g with
 |0,_,_,_=>exact Pd w0 R a L s w b.lines b.low c b.Ik
 |1,_,_,_=>exact KR w0 R a L s w b c
 |2,_,_,_=>exact TO w0 R a L s w b c
 |3,_,f,_=>exact D8 w0 R a L s w b c (f oG) d.lo d.hi
 |4,_,_,g=>exact Qn w0 R a L s w b c (g oG) d.lo d.hi
 |5,_,_,_=>
  refine(TG w0 R a L s w b.lines c).mono fun e w' ⟨q1,q2,q3⟩=>?_;have:(Ij s).isSome=decide (s.rest=[]):=by unfold Ij;split <;>simp_all
  rw[show uf.part 5 s=Ij s from rfl,this];refine⟨q1,q2.from_,fun k h=>?_⟩;unfold Ij at h;split at h
  ·obtain rfl:=fg h;exact⟨q2,q3⟩
  ·cases h
 |n+6,Y,_,_=>omega
def Lv (s:ByteArray) (m:Int) (w:World) (aa:s.size<=1000000) (Z: ∀l∈uK s.data.toList,l.length<=1000) (p:w.cell? (pB 0)=some m):
  Calls prog 49 #[.string s] w fun e w'=> ∃v,e=.returned (.tuple #[v,(kU s.data.toList).2])/\ph w 47 80 26 3 w' v (kU s.data.toList).1/\Below w w w':=by
 have q:=zH (a7 (jX (bS w w) (cB 25 [Zo,Zo,Zo,Zo,(),()])) lE p);cases c:nH s.data.toList with
 |none=>
  have y:=zH (vN c).2;rw[Lw c];clear c Z p;go_enter func49,ntmps49;go_wp2_with fail;refine(E3 s m _ aa q).mono ?_;rintro e b ⟨v,rfl,O,g⟩;rw[y.out];have f:=(fc.new w 25 [Zo,Zo,Zo,Zo,(),()]).below g sI;have I:Below w w b:=kB (jX (bS w w) _) g;obtain⟨E,y1,y2,y3,y4,y5⟩:=f.jI;obtain⟨e0,e1,e2,e3,e4,e5⟩:=f.Im;clear O g q;go_wp2_with fail;refine bodyPost_ret (r8 rfl _ _ w 25 [Zo,Zo,Zo,Zo,(),()] _ (.int .i64 2) rfl rfl ?hW underlying25 rfl Ge) rfl ⟨_,rfl,?_,?_⟩
  case hW=>exact f.Sa
  ·exact ph.zero _ _ _ _ _ _
  ·exact so I lE
 |some L=>
  have y:=zH (tB c).2;have S:=zH (tB c).1;have ak:s.data.toList.length=s.size:=kC s;have aw:L.length<=1000000:=by have:=KS c;omega
  have aj:Hid (∀l∈L,l.length<=1000/\ ∀x∈l,x.length<=1000000):=zH fun l P=>⟨Z l (by rw[S.out];exact P),fun x aB=>by have:=KT c P aB;omega⟩;have aq:Hid (∀l∈L,∀x∈l,isWord x=true):=zH fun l P=>((Bm c).2 l P).2;have r:Hid (kU s.data.toList=match vk L with|none=>(qV,2)|some st=>if st.odd|| !may st.x then(qV,3) else(st.x,0)):=zH (by unfold kU;rw[c];rfl);clear c Z p ak;have aC: ∀(W:Fn) (first cap:Array Value) (w:World),(Instr.makeFunc W first cap).run prog w=.ok (.func W first cap) w:=fun _ _ _ _=>rfl;go_enter func49,ntmps49;go_wp2_with fail;refine(E3 s m _ aa q).mono ?_;rintro e b ⟨v,rfl,O,g⟩;rw[y.out];rw[S.out] at O;obtain⟨G,J,rfl,-⟩:=tV.open_ (sj.reads O);have HR:=zH (sj.reads O);have f:=(fc.new w 25 [Zo,Zo,Zo,Zo,(),()]).below g sI;have I:Below w w b:=kB (jX (bS w w) _) g;have F:=f.lt;have HC:Hid (Tj b b (.slice G L J) L):=zH ⟨HR,lE,aw,aj,aq⟩;have ai:Hid (r6 b b (.slice G L J) L (b.alloc (cB 132 [.slice G L J,Zo,Zo,Zo,Zo,Zo,(),(),Zo,false])) ⟨L,qV,0,false⟩):=zH
   ⟨0,(),(),eC _,rfl,fc.new _ _ _,iJ.none_ _ _ _ _,OwnRows.none_ _ _ _ _,jX bF _⟩
  clear O g q;go_wp2_with fail;go_loopw [34] (fun iv wr=> ∃(i:Nat) (st:Rd),i<=6/\iv=.int .i64 i/\Hid (r6 b b (.slice G L J) L wr st)/\Hid (tJ L i=some st)/\Hid (wr.heap[b.heap.size+1]? =some (.cells ((List.range 6).map (I5 b)).toArray 36 (0,0)))) (fun iv _=>6-(intOf iv).toNat)
  case atStart=>refine⟨0,_,eC _,rfl,(ai.below (jX bF _)),rfl,zH ?_⟩;have:=(fc.new (b.alloc (cB 132 [.slice G L J,Zo,Zo,Zo,Zo,Zo,(),(),Zo,false])) 36 ((List.range 6).map (I5 b)));simp only[lz] at this;exact this
  case round=>
   obtain⟨i,st,Y,rfl,t,k,R⟩:=hrel;have A:fc wr (b+1) 36 ((List.range 6).map (I5 b)):=R.out;by_cases B:i<6
   ·have E:wr.cell? (pA (b+1) i)=some (I5 b i):=by rw[A.cell,fh,oH B];rfl
    unfold I5 at E;clear A;have j:=RU b b (.slice G L J) L i st _ HC B k t
    rcases (show i=0\/i=1\/i=2\/i=3\/i=4\/i=5 by omega) with h|h|h|h|h|h
    all_goals
     rw[show I4 i=_ from congrArg I4 h] at E j;dsimp only[I4] at E j;have j:=zH j;clear h;go_wp2_with fail;refine j.mono ?_;rintro e w5 ⟨rfl,u,D⟩;have ae:=zH u;cases C:uf.part i st with
     |none=>
      have o:Hid (vk L=none):=zH (LW L k C B);have a:=f.below u F;obtain⟨E,y1,y2,y3,y4,y5⟩:=a.jI;obtain⟨e0,e1,e2,e3,e4,e5⟩:=a.Im;clear D u C;go_wp2_with fail;rw[r.out,o.out];refine bodyPost_ret (r8 rfl _ _ w 25 [Zo,Zo,Zo,Zo,(),()] _ (.int .i64 2) rfl rfl ?hW underlying25 rfl Ge) rfl ⟨_,rfl,?_,?_⟩
      case hW=>exact a.Sa
      ·exact ph.zero _ _ _ _ _ _
      ·exact so (kB I ae) lE
     |some st'=>
      obtain⟨r1,r2⟩:=D st' C;obtain⟨ag,ah,HP⟩:=Zc r1 r2 C;clear D u C r1 r2;go_wp2_with fail;go_roundw
      case rel=>exact⟨i+1,st',oG,by go_num,ag,zH (show(tJ L i).bind (uf.part i)=some st' by rw[k.out];exact HP),(ah _ _ oG (fun cs e fr h=>by cases h;rfl) R)⟩
      case measure=>exact mI
   ·obtain rfl:i=6:=oG;have d:vk L=some st:=by rw[<-DE];exact k
    obtain⟨ok,-,-⟩:=DD L 6 lE k;have aA:=ok.wf;have ay:st.x.eB.length<=1000000:=by have:=ok.len;omega
    obtain⟨kk,K,M,q1,q2,q3,q4,q5,q6⟩:=t.out;have T:Hid (ph (b+1) 47 80 26 3 wr (.agg #[st.x.days,st.x.mm,st.x.cap,st.x.len,K,M]) st.x):=zH ⟨K,M,rfl,q4,q5⟩;obtain⟨aD,-,oc,-⟩:=q4;obtain⟨aE,od,-⟩:=q5;obtain⟨Ac,cc,rfl,-⟩:=RS.jh oc;obtain⟨Ad,cd,rfl,-⟩:=RS.jh od;obtain⟨af,Q⟩:=Zb q3 q6;obtain⟨c0,c1,c2,c3,c4,c5,c6,c7,c8,c9⟩:=q3.wu;clear q1 q2 q3 q6 oc od A;cases N:st.odd with
    |true=>
     have o:Hid (vk L=some st/\(st.odd|| !may st.x)=true):=zH ⟨d,by rw[N];rfl⟩;have H:=Q;have a:=f.below H F;obtain⟨E,y1,y2,y3,y4,y5⟩:=a.jI;obtain⟨e0,e1,e2,e3,e4,e5⟩:=a.Im;rw[N] at c9;clear d N;exact Rc
    |false=>
     rw[N] at c9;obtain⟨HO,V⟩:=Zb N d;clear d N;go_wp2_with fail;refine(MR _ st.x _ T.reads aA ay).mono ?_;rintro e w6 ⟨rfl,n⟩;have H:Hid (Below b b w6):=zH (Q.trans (n.mono (pF t.lt)));have a:=f.below H F;obtain⟨E,y1,y2,y3,y4,y5⟩:=a.jI;obtain⟨e0,e1,e2,e3,e4,e5⟩:=a.Im;have az:=af.below n t.lt;obtain⟨d0,d1,d2,d3,d4,d5,d6,d7,d8,d9⟩:=az.wu;have U:Hid (ph (b+1) 47 80 26 3 w6 (.agg #[st.x.days,st.x.mm,st.x.cap,st.x.len,.slice Ac st.x.eB cc,.slice Ad st.x.gn cd]) st.x):=zH (by obtain⟨K,M,X,z,h3⟩:=T.out;exact⟨K,M,X,z.below n lE,h3.below n lE⟩);clear c0 c1 c2 c3 c4 c5 c6 c7 c8 c9 n;cases p:may st.x with
     |false=>
      rw[AD p];have o:Hid (vk L=some st/\(st.odd|| !may st.x)=true):=zH ⟨V,by rw[p,HO.out];rfl⟩;clear p;exact Rc
     |true=>
      rw[Rx p];have o:Hid (vk L=some st/\(st.odd|| !may st.x)=false):=zH ⟨V,by rw[p,HO.out];rfl⟩;clear p;go_wp2_with fail;rw[r.out,o.out.1];simp only[o.out.2];refine bodyPost_ret (r8 rfl _ _ w 25 [st.x.days,st.x.mm,st.x.cap,st.x.len,.slice Ac st.x.eB cc,.slice Ad st.x.gn cd] _ Zo rfl rfl ?hW underlying25 rfl Ge) rfl ⟨_,rfl,?_,?_⟩
      case hW=>exact a.Sa
      ·obtain⟨K,M,X,z,h3⟩:=U.out;exact⟨K,M,X,(z.QT oG).mono oG,(h3.QT oG).mono oG⟩
      ·exact so (kB I H) lE
end
end Go.Proofs.YtgimnjldndkalaaGreatDoor
