/- Of the proof of TopGreat: The walks of the reader: the next line. -/
import Derived.Test.YtgimnjldndkalaaGreatDoorF10
import Derived.Test.YtgimnjldndkalaaGreatDoorF42
set_option linter.all false
set_option maxHeartbeats 4000000
set_option maxRecDepth 100000
namespace Go.Proofs.YtgimnjldndkalaaGreatDoor
variable {w:World}
section
open Go.Proofs.Tryz
open Go.RowKit jm uf
def uv (d:World) (R:Nat) (G:Value) (L:List kW) (st:Rd) (w:World) (C:tV d G L) (I:d.heap.size<=R) (U:qq d R G L w st) (P:L.length<=1000000):
  Calls prog 115 #[.pointer R] w fun e w'=> ∃v,e=.returned v/\kX d v (fV st).1/\qq d R G L w' (fV st).2/\(∀g t m,g≠R->fc w g t m->fc w' g t m)/\kz R w w':=by
 obtain⟨rest,x,n,o⟩:=st;obtain⟨k,H,dv,Q,q,f,u,y,z⟩:=U;simp only at q f u y;obtain⟨A,c,rfl,q1,q2,D⟩:=tV.open_ C;obtain⟨c0,c1,c2,c3,c4,c5,c6,c7,c8,c9⟩:=f.wu;have f1:=f.Qt 1;by_cases S:k<L
 ·obtain⟨l,F⟩:=ec S;obtain⟨b,V,rfl,r,v,M,a⟩:=D k l F;have E:=a7 z I a;have h:=zH a;have i:rest=l::L.drop (k+1):=by rw[<-q];exact iV.trans (by rw[F];rfl)
  obtain⟨O,N⟩:=Zb M i;clear C D F M a i;go_enter func115,ntmps115;go_wp2_with fail
  go_quiet (fail)
  go_wp2_with fail;have B:=(f.drewN nq).gH 1 ((k:Int)+1:);simp only[fI,fJ] at B;have hW:=(below_drewN z nq).setCell (p:=pA R 1) lE ((k:Int)+1:);have J:=a7 hW I h;obtain⟨W,X,Y,Z,d4,d5,d6,d7,d8,d9⟩:=B.wu;have T:(k:Int)+1-1=(k:Int):=oG;have s:Hid (qq d R (.slice (pA b V) L c) L ((w.drewN nq).setCell (pA R 1) ((k:Int)+1:)) ⟨L.drop (k+1),x,n,o⟩):=
   zH ⟨k+1,H,dv,oG,rfl,by rw[show(((k+1:Nat)):Int)=(k:Int)+1 by omega];exact B,(u.below (below_drewN (bS w w) nq) lE).fG (p:=pA R 1) lS _,(y.below (below_drewN (bS w w) nq) lE).fG (p:=pA R 1) lS _,hW⟩
  clear c0 c1 E
  go_quiet (fail)
  go_wp2_with fail;go_ret
  rw[N.out];exact⟨_,rfl,O,s.below (below_drewN bF _),fun g t m K r=>((r.drewN _).kj (p:=pA R 1) K _).drewN _,(((kz.refl R w).below (below_drewN bF _)).set 1 _).below (below_drewN bF _)⟩
 ·have j:rest=[]:=by rw[<-q];exact iE oG
  subst j;clear C D;go_enter func115,ntmps115;go_wp2_with fail;have s:Hid (qq d R (.slice A L c) L w ⟨[],x,n,o⟩):=zH ⟨k,H,dv,Q,q,f,u,y,z⟩
  go_quiet (fail)
  go_wp2_with fail;go_ret
  exact⟨_,rfl,RS.none_ _ _,s.below (below_drewN bF _),fun g t m K r=>r.drewN _,(kz.refl R w).below (below_drewN bF _)⟩
def NL {α:Type} {l m:List α} {k:Nat} {a b:α} (o:l[k]? =some a) (r:m[k]? =some b):(l.drop k=m.drop k)↔(a=b/\l.drop (k+1)=m.drop (k+1)):=by rw[iV (l:=l),iV (l:=m),o,r];simp
def CE (g I:Value) (l m:List (List UInt8)) (w:World) (B:kX w g l) (G:kX w I m):
  Calls prog 114 #[g,I] w fun e w'=>e=.returned (.bool (decide (l=m)))/\ ∃n,w'=w.drewN n:=by
 obtain⟨A,c,rfl,M,z,u⟩:=B.open_;obtain⟨S,c',rfl,N,O,x⟩:=G.open_;obtain⟨y,L⟩:=Zb u x;clear u x B G;by_cases d:l.length=m;rotate_left
 ·have H:Hid (decide (l=m)=false):=zH (decide_eq_false fun e=>d (by rw[e]));have i:((l.length:Int) !=(m.length:Int))=true:=by rw[bne_iff_ne];omega
  clear d;go_enter func114,ntmps114;go_wp2;go_ret;exact⟨ji H.symm,0,rfl⟩
 ·have E:=zH d;have i:((l.length:Int) !=(m.length:Int))=false:=by rw[bne_eq_false_iff_eq];omega
  clear d;go_enter func114,ntmps114;go_wp2_with fail;clear i;go_loopw [13] (fun D wr=> ∃(k p:Nat),k<=l/\D=.int .i64 k/\wr=w.drewN p/\Hid ((l=m)↔(l.drop k=m.drop k))) (fun D _=>l.length-(intOf D).toNat)
  case atStart=>exact⟨0,0,eC _,rfl,rfl,Iff.rfl⟩
  case round=>
   obtain⟨k,p,V,rfl,rfl,F⟩:=hrel;by_cases C:k<l
   ·obtain⟨a,o⟩:=ec C;have v:k<m.length:=by have:=E.out;omega
    obtain⟨b,r⟩:=ec v;have q:=zH (F.trans (NL o r));obtain⟨T,W,rfl,P,s⟩:=y k a o;obtain⟨U,X,rfl,Q,t⟩:=L k b r;clear o r;by_cases h:a=b
    ·subst h;obtain⟨J,f⟩:=nE (⟨a.toArray⟩:ByteArray);rw[<-f] at s t;clear f;go_wp2_with fail
     go_quiet (fail)
     go_wp2;go_roundw
     case rel=>exact⟨k+1,_,oG,by go_num,rfl,(q.trans sI)⟩
     case measure=>exact mI
    ·obtain⟨J,f⟩:=nE (⟨a.toArray⟩:ByteArray);obtain⟨R,j⟩:=nE (⟨b.toArray⟩:ByteArray);have i:(J.toList==R.toList)=false:=by rw[beq_eq_false_iff_ne,mR,mR,f,j];simpa using h
     rw[<-f] at s;rw[<-j] at t;have K:Hid (decide (l=m)=false):=zH (decide_eq_false fun e=>h (q.1 e).1);clear h f j;go_wp2_with fail
     go_quiet (fail)
     go_wp2;go_ret;exact⟨ji K.symm,_,World.drewN_drewN _ _ _⟩
   ·have H:Hid (decide (l=m)=true):=zH (decide_eq_true (F.out.2 (by rw[iE oG,iE (by have:=E.out;omega)])));go_wp2;go_ret;exact⟨ji H.symm,_,rfl⟩
def fc.strs {w:World} {g:Nat} {t:TypeId} {l:List (List UInt8)} (h:fc w g t (l.map kI)) (B:l.length<=1000:=by decide):kX w (.slice g l l) l:=
 ⟨_,_,rfl,lE,by simp only[maxLen];omega,by simp,fun _=>⟨g,0,rfl,h.lt,fun j u a=>by rw[gW,h.cell];exact a⟩⟩
def Pd (a:World) (R:Nat) (g:Value) (L:List kW) (st:Rd) (w:World) (f:tV a g L) (n:a.heap.size<=R) (j:qq a R g L w st) (x:L.length<=1000000):
  Calls prog 72 #[.pointer R] w fun e w'=>e=.returned (.bool (uX st).isSome)/\Below R a w'/\ ∀c,uX st=some c->qq a R g L w' c/\kz R w w':=by
 obtain⟨y,q⟩:=Zb f j;clear f j;go_enter func72,ntmps72;go_wp2_with fail;refine(uv a R g L st _ y n q x).mono ?_;rintro e s ⟨v,rfl,r,b,-,i⟩;obtain⟨k,m⟩:=Zb i b;have A:=b.lt;have t:=zH (kX.below r b.from_ n);have u:=fc.new s 9 [.string ⟨#[116,114,97,110,116,101,114]⟩,.string ⟨#[49]⟩];have d:Hid (∀o p,qq a R g L ((s.alloc o).drewN p) (fV st).2):=zH fun o p=>(m.below (jX bF _)).below (below_drewN bF p);clear b r i;go_wp2_with fail;refine(CE v _ (fV st).1 [rK,adI] _ (kX.below t (jX bF _) lE) (fc.strs (l:=[rK,adI]) u)).mono ?_;rintro e B ⟨rfl,p,rfl⟩;go_wp2;go_ret;have z:uX st=if (fV st).1=[rK,adI] then some (fV st).2 else none:=rfl;rw[z];by_cases h:(fV st).1=[rK,adI]
 ·rw[if_pos h];exact⟨ji (decide_eq_true h),(d _ _).from_,fun c e=>by obtain rfl:=fg e;exact⟨d _ _,(k.below (jX bF _)).below (below_drewN bF _)⟩⟩
 ·rw[if_neg h];exact⟨ji (decide_eq_false h),(d _ _).from_,fun c e=>by cases e⟩
def TG (a:World) (R:Nat) (g:Value) (L:List kW) (st:Rd) (w:World) (f:tV a g L) (j:qq a R g L w st):
  Calls prog 77 #[.pointer R] w fun e w'=>e=.returned (.bool (decide (st.rest=[])))/\qq a R g L w' st/\kz R w w':=by
 have q:=zH j;obtain⟨k,h,dv,M,z,d,i,l,m⟩:=j;obtain⟨A,c,rfl,n,o,-⟩:=tV.open_ f;obtain⟨c0,c1,c2,c3,c4,c5,c6,c7,c8,c9⟩:=d.wu;have b:Hid (decide (st.rest=[])=((k:Int)==(L.length:Int))):=by
  show _=_;rw[<-z];by_cases e:k=L
  ·subst e;simp
  ·rw[beq_eq_false_iff_ne.2 oG,decide_eq_false];rw[List.drop_eq_nil_iff];omega
 clear f z;go_enter func77,ntmps77;go_wp2_with fail
 go_quiet (fail)
 go_wp2;go_ret;exact⟨ji b.symm,q.below (below_drewN bF _),(kz.refl R w).below (below_drewN bF _)⟩
end
section
open Go.Proofs.Tryz
open Go.RowKit ue jm uf
variable {C:Value} {D:World} {L:List kW} {R:Nat} {c:List Word} {d:kW} {st:Rd}
def Li (h:d.length≠2*c.length):mw c d=none:=by
 cases e:mw c d with
 |none=>rfl
 |some ds=>
  obtain⟨h1,K⟩:=xX c d ds e;exfalso;apply h;rw[K];have: ∀(a b:List Word),b.length=a->((a.zip b).flatMap fun p=>[p.1,p.2]).length=2*a.length:=by
   intro a
   induction a with
   |nil=>intro b _;rfl
   |cons x a ih=>
    intro b z
    match b,z with
    |y::b,z=>
     rw[acn,gG,fa,ih b (by simpa using z)];simp;omega
  exact this c ds h1
def IM {k:Nat} {n a b:Word} (hn:c[k]? =some n) (Z:d[2*k]? =some a) (z:d[2*k+1]? =some b):
  mw (c.drop k) (d.drop (2*k))=if a=n then(mw (c.drop (k+1)) (d.drop (2*(k+1)))).map fun t=>b::t else none:=by
 have e1:c.drop k=n::c.drop (k+1):=iV.trans (by rw[hn];rfl);have e2:d.drop (2*k)=a::d.drop (2*k+1):=iV.trans (by rw[Z];rfl);have e3:d.drop (2*k+1)=b::d.drop (2*k+1+1):=iV.trans (by rw[z];rfl);rw[e1,e2,e3,mw,show 2*(k+1)=2*k+1+1 by omega]
structure Tj (w0:World) (R:Nat) (lv:Value) (L:List kW):Prop where
 lines:tV w0 lv L
 low:w0.heap.size<=R
 Ik:L.length<=1000000
 small: ∀l∈L,l.length<=1000/\ ∀x∈l,x.length<=1000000
 words: ∀l∈L,∀x∈l,isWord x=true
def qq.x8 (h:qq D R C L w st) (b:Tj D R C L):(fV st).1.length<=1000/\ ∀x∈(fV st).1,x.length<=1000000:=by
 obtain⟨k,c,dv,h1,K,d,e,f,g⟩:=h;obtain⟨rest,x,n,o⟩:=st;simp only at K;cases rest with
 |nil=>exact⟨by simp[fV],fun x I=>by simp[fV] at I⟩
 |cons a r=>exact b.small a (jj (by rw[K];simp))
def qq.Lk (h:qq D R C L w st) (b:Tj D R C L): ∀x∈(fV st).1,isWord x=true:=by
 obtain⟨k,c,dv,h1,K,d,e,f,g⟩:=h;obtain⟨rest,x,n,o⟩:=st;simp only at K;cases rest with
 |nil=>exact fun x I=>by simp[fV] at I
 |cons a r=>exact b.words a (jj (by rw[K];simp))
def Ff (D:World) (R:Nat) (C:Value) (L:List kW) (st:Rd) (f:List Word) (g:Nat) (t:TypeId) (w:World) (hC:Tj D R C L) (hs:qq D R C L w st) (hg:g≠R) (z:fc w g t (f.map kI)) (az:f.length<=4):
  Calls prog 116 #[.pointer R,.slice g f f] w fun e w'=> ∃v,e=.returned (.tuple #[v,.bool (qF f (fV st).1).isSome])/\qq D R C L w' (fV st).2/\kz R w w'/\ ∀m,qF f (fV st).1=some m->qS (R+1) w' v m:=by
 obtain⟨V,HS,HB,N⟩:=Zd hC hs z (hs.x8 hC);have F:Hid (qF f (fV st).1=(mw f (fV st).1).bind fun q=>if q.all isNum then some (q.map nI) else none):=zH rfl;obtain⟨d,r⟩:=nE ((fV st).1);clear hC hs z;go_enter func116,ntmps116;go_wp2_with fail;refine(uv D R C L st _ V.lines V.low HS V.Ik).mono ?_;rintro e w2 ⟨v,rfl,hv,S,ae,af⟩;have E:=zH af;clear af;rw[<-r] at hv N F;have M:=zH r;clear r;obtain⟨y,U⟩:=Zb S (ae _ _ _ hg HB);obtain⟨A,c,rfl,h1,K,ag⟩:=hv.open_;have HL:=zH ag;have ay:=N.1;have z2:=S.lt;clear S ae ag hv;by_cases p:d.length=2*f.length;rotate_left
 ·have W:Hid (qF f d=none):=zH (F.trans (by rw[Li p];rfl));have Q:((d.length:Int) !=2*(f.length:Int))=true:=by rw[bne_iff_ne];omega
  clear p;go_wp2_with fail
  go_ret2
  rw[<-M.out,W.out];exact⟨_,rfl,y,E,fun m P=>by cases P⟩
 ·have Q:((d.length:Int) !=2*(f.length:Int))=false:=by rw[bne_eq_false_iff_eq];omega
  have HE:=zH p;clear p;go_wp2_with fail;clear Q;go_loopw [7,20] (fun sv iv wr=> ∃(k:Nat) (q:List Word),k<=f/\iv=.int .i64 k/\Hid (q.length=k/\(∀x∈q,x.length<=1000000)/\mw f d=(mw (f.drop k) (d.drop (2*k))).map fun t=>q++t)/\Hid (wr.ownsRow w2 9 1 sv k (q.map kI))/\Below w2 w2 wr) (fun _ iv _=>f.length-(intOf iv).toNat)
  case atStart=>exact⟨0,[],eC _,rfl,zH ⟨rfl,by simp,by simp⟩,(gL _ _ _ _),bS _ _⟩
  case round=>
   obtain⟨k,q,hk,rfl,J,HO,h⟩:=hrel;by_cases ao:k<f
   ·obtain⟨n,hn⟩:=ec ao;obtain⟨a,Z⟩:=ec (l:=d) (i:=2*k) (by have:=HE.out;omega);obtain⟨b,z⟩:=ec (l:=d) (i:=2*k+1) (by have:=HE.out;omega);have X:=zH (IM hn Z z);have Y:=U.below h U.lt;have y0:wr.cell? (pA g k)=some (kI n):=by rw[Y.cell,fh,hn];rfl
    obtain⟨bl,o,rfl,aw,ca⟩:=HL (2*k) a Z;obtain⟨ak,o',hA,-,cb⟩:=HL (2*k+1) b z;obtain⟨rfl,rfl⟩:bl=ak/\o=o':=by simpa using hA
    have aa:=(y.below h).from_;have y1:=a7 aa V.low ca;have y2:=a7 aa V.low cb;have ah:=zH (N.2 b (a8 z));have e1:IntKind.i64.wrap (2*(k:Int))=2*(k:Int):=iM _ oG;have au:IntKind.i64.wrap (2*(k:Int)+1)=2*(k:Int)+1:=iM _ oG;have e2:(2*(k:Int)).toNat=2*k:=oG;have e3:(2*(k:Int)+1).toNat=2*k+1:=oG;have p1:(0:Int)<=2*(k:Int):=oG;have p2:(0:Int)<=2*(k:Int)+1:=oG;have p:=HE.out;have p3:2*k<d.length:=oG;have p4:2*k+1<d.length:=oG;have p5:2*(k:Int)<(d.length:Int):=oG;have p6:2*(k:Int)+1<(d.length:Int):=oG;have an:k<=1000000000:=oG;have O:=h.size;have ar:=HO.out;have ax:=Y.lt;clear hn Z z hA ca cb p;by_cases G:a=n
    ·subst G;obtain⟨sa,s⟩:=nE (⟨a.toArray⟩:ByteArray);have B:kI a=.string sa:=by rw[s];rfl
     rw[B] at y0;rw[<-s] at y1;clear s B;go_wp2_with (at_builtin;refine kD _ rfl (.tmp 32) (.tmp 39) 76 rfl w2 9 _ 1 16 underlying76 M8 rfl dE dE _ _ _ ar rfl [kI b] _ rfl rfl rfl an O ?_;intro v5 w5 aq al aA);go_roundw
     case rel=>
      refine⟨k+1,q++[b],oG,by go_num,zH ⟨by simp[J.out.1],fun x I=>?_,?_⟩,zH (by rw[gJ];exact aq),h.trans al⟩
      ·rcases fO.1 I with I|I
       ·exact J.2.1 x I
       ·obtain rfl:x=b:=by simpa using I
        exact ah
      ·rw[J.out.2.2,X.out,if_pos rfl,Option.map_map];congr 1;funext t;simp
     case measure=>exact mI
    ·obtain⟨sa,s⟩:=nE (⟨a.toArray⟩:ByteArray);obtain⟨sn,T⟩:=nE (⟨n.toArray⟩:ByteArray);have B:kI n=.string sn:=by rw[T];rfl
     have Q:(sa.toList==sn.toList)=false:=by rw[beq_eq_false_iff_ne,mR,mR,s,T];simpa using G
     rw[B] at y0;rw[<-s] at y1;have W:Hid (qF f d=none):=zH (F.trans (by rw[J.out.2.2,X.out,if_neg G];rfl));clear G s T B;go_wp2_with fail
     go_ret2
     rw[<-M.out,W.out];exact⟨_,rfl,y.below h,E.below h,fun m P=>by cases P⟩
   ·obtain rfl:k=f.length:=oG;have aj:Hid (mw f d=some q):=zH (by rw[J.out.2.2,ada,iE (by have:=HE.out;omega)];simp[mw]);have ai:Hid (kX wr u7 q):=zH (by have:=RS.jh HO;unfold kX;rw[J.out.1];exact this);go_wp2_with fail;refine(uN q _ _ (by rw[J.out.1];omega) J.2.1 ai).mono ?_;rintro e w4 ⟨u,rfl,hu,H⟩;have HU:=zH hu;have W:Hid (qF f d=if q.all isNum then some (q.map nI) else none):=zH (F.trans (by rw[aj.out];rfl));clear hu;go_wp2
    go_ret2
    rw[<-M.out,W.out];by_cases j:q.all isNum=true
    ·rw[if_pos j,j];refine⟨u,rfl,(y.below h).below H,(E.below h).below H,fun m P=>?_⟩;obtain rfl:=fg P;have:=HU.out;rw[uw j] at this;exact kZ this (by have:=h.size;omega)
    ·have j:q.all isNum=false:=by simpa using j
     rw[j];exact⟨u,rfl,(y.below h).below H,(E.below h).below H,fun m P=>by cases P⟩
end
section
open Go.Proofs.Tryz
open Go.RowKit ue jm uf
def qS.cell {lb b o c n:Nat} {w:World} {l:List Int} (h:qS lb w (.slice (pA b o) n c) l) {i:Nat} {z:Int} (hz:l[i]? =some z):w.cell? (pA b (o+i))=some z:=by
 obtain⟨A,c',e,-,-,t⟩:=h.reads.open_;injection e with e1 _ _
 obtain⟨d,f,a,-,h⟩:=t i z hz;rw[<-e1] at a;obtain⟨rfl,rfl⟩:b=d/\o=f:=by simpa using a
 exact h
def TO (s:World) (R:Nat) (y:Value) (L:List kW) (st:Rd) (w:World) (hC:Tj s R y L) (P:qq s R y L w st):
  Calls prog 74 #[.pointer R] w fun e w'=>e=.returned (.bool (BM st).isSome)/\Below R s w'/\ ∀j,BM st=some j->qq s R y L w' j/\kz R w w':=by
 obtain⟨HC,HS⟩:=Zb hC P;have z:=P.lt;clear hC P;go_enter func74,ntmps74;go_wp2_with fail;refine(Ff s R y L st [Bz] w 9 _ HC (HS.below (jX bF _)) oG (fc.new w _ _) dE).mono ?_;rintro e E ⟨v,rfl,g,u,O⟩;have G:=zH (((kz.refl R w).below (jX bF _)).trans u);clear u;cases r:qF [Bz] (fV st).1 with
 |none=>
  have C:Hid (BM st=none):=zH (by unfold BM;rw[r]);have f:=zH g;clear r O g;go_wp2_with fail;go_ret;rw[C.out];exact⟨rfl,f.from_,fun j h=>by cases h⟩
 |some m=>
  obtain⟨ds,l1,-,-,l4⟩:=uL r;obtain⟨n,rfl⟩: ∃n,m=[n]:=by
   rw[l4]
   match ds,l1 with
   | [k],_=>exact⟨_,rfl⟩
  have C:Hid (BM st=some {(fV st).2 with count:=n}):=zH (by unfold BM;rw[r]);have a:=O _ r;obtain⟨A,c,rfl,g1,g2,t⟩:=a.reads.open_;obtain⟨b,o,rfl,x,i⟩:=t 0 n rfl;simp only[ff,fZ,eW] at i g1;clear r O l1 l4 t a;obtain⟨B,q⟩:=nE ((fV st).2);rw[<-q] at g C;clear q;obtain⟨k,cv,dv,V,W,D,X,Y,Z⟩:=g;obtain⟨c0,c1,c2,c3,c4,c5,c6,c7,c8,c9⟩:=D.wu;have l:=D.Qt 8;have d:=D.gH 8 n;simp only[fI,fJ] at d;have f:Hid (qq s R y L (E.setCell (pA R 8) n) {B with count:=n}):=zH
   ⟨k,cv,dv,V,W,d,X.fG (p:=pA R 8) lS _,Y.fG (p:=pA R 8) lS _,Z.setCell (p:=pA R 8) lE _⟩
  clear d V W D X Y Z;go_wp2_with fail;go_ret;rw[C.out];exact⟨rfl,f.from_,fun j h=>by obtain rfl:=fg h;exact⟨f,G.set 8 _⟩⟩
def KR (s:World) (R:Nat) (y:Value) (L:List kW) (st:Rd) (w:World) (hC:Tj s R y L) (P:qq s R y L w st):
  Calls prog 73 #[.pointer R] w fun e w'=>e=.returned (.bool (pQ st).isSome)/\Below R s w'/\ ∀j,pQ st=some j->qq s R y L w' j/\kz R w w':=by
 obtain⟨HC,HS⟩:=Zb hC P;have z:=P.lt;clear hC P;go_enter func73,ntmps73;go_wp2_with fail;refine(Ff s R y L st [BA,JT,JQ,JR] w 9 _ HC (HS.below (jX bF _)) oG (fc.new w _ _) dE).mono ?_;rintro e E ⟨v,rfl,g,u,O⟩;have G:=zH (((kz.refl R w).below (jX bF _)).trans u);clear u;cases r:qF [BA,JT,JQ,JR] (fV st).1 with
 |none=>
  have C:Hid (pQ st=none):=zH (by unfold pQ;rw[r]);have f:=zH g;clear r O g;go_wp2_with fail;go_ret;rw[C.out];exact⟨rfl,f.from_,fun j h=>by cases h⟩
 |some m=>
  obtain⟨ds,l1,-,-,l4⟩:=uL r;obtain⟨F,Q,S,T,rfl⟩: ∃a b c d,m=[a,b,c,d]:=by
   rw[l4]
   match ds,l1 with
   | [a,b,c,d],_=>exact⟨_,_,_,_,rfl⟩
  have C:Hid (pQ st=some {(fV st).2 with x:=⟨F,Q,S,T,st.x.eB,st.x.gn⟩}):=zH (by unfold pQ;rw[r]);have H:=zH (O _ r);have aa:(fV st).2.x=st.x:=by unfold fV;split <;>rfl
  clear r O l1 l4;obtain⟨A,c,rfl,g1,g2,t⟩:=H.reads.open_;obtain⟨b,o,rfl,-,-⟩:=t 0 F rfl;simp only[ff,fZ] at g1 H;clear t;rw[<-aa] at C;obtain⟨B,q⟩:=nE ((fV st).2);rw[<-q] at g C;clear q aa;obtain⟨k,cv,dv,V,W,D,X,Y,Z⟩:=g;have U:=jq H ((bS E E).drew) lE;have hz:=D.lt;have b0:=D.drew;have b1:=b0.gH 2 F;have b2:=b1.gH 3 Q;have b3:=b2.gH 4 S;have b4:=b3.gH 5 T;simp only[fI,fJ] at b1 b2 b3 b4;have o1:=jo (p:=pA R 2) U lS F;have o2:=jo (p:=pA R 3) o1 lS Q;have o3:=jo (p:=pA R 4) o2 lS S;have o4:=jo (p:=pA R 5) o3 lS T;obtain⟨B0,l,B1,B2,B3,O1,O2,O3⟩:=Zh b0 D b1 b2 b3 o1 o2 o3;have O4:=zH o4;have f:Hid (qq s R y L ((((E.drew.setCell (pA R 2) F).setCell (pA R 3) Q).setCell (pA R 4) S).setCell (pA R 5) T) {B with x:=⟨F,Q,S,T,B.x.eB,B.x.gn⟩}):=zH
   ⟨k,cv,dv,V,W,b4,((((X.below ((bS E E).drew) lE).fG (p:=pA R 2) lS _).fG (p:=pA R 3) lS _).fG (p:=pA R 4) lS _).fG (p:=pA R 5) lS _,
    ((((Y.below ((bS E E).drew) lE).fG (p:=pA R 2) lS _).fG (p:=pA R 3) lS _).fG (p:=pA R 4) lS _).fG (p:=pA R 5) lS _,
    (((Z.drew.setCell (p:=pA R 2) lE _).setCell (p:=pA R 3) lE _).setCell (p:=pA R 4) lE _).setCell (p:=pA R 5) lE _⟩
  clear b0 b1 b2 b3 b4 o1 o2 o3 o4 V W D X Y Z;go_wp2_with fail;refine rL (fun wS=>qS (R+1) wS (.slice (pA b o) [F,Q,S,T].length c) [F,Q,S,T]) [] kR ?_ (fun hS=>?_)
  ·exact U
  refine kL [0,1,2,3,4,5] ?_;refine lZ 6 (v:=?_) rfl kR jF (by rfl) ?_ hS ?_;rotate_left
  ·intro wS hSw
   (try dsimp only at hSw)
   have t:=qS.cell hSw (i:=0) rfl;rw[eW] at t;go_simp;try with_reducible rfl
  try simp only[Act.put]
  refine kL [7,8] ?_;refine lZ 9 (v:=?_) rfl kR jF (by rfl) ?_ hS ?_;rotate_left
  ·intro wS hSw
   (try dsimp only at hSw)
   have t:=qS.cell hSw (i:=1) rfl;go_simp;try with_reducible rfl
  try simp only[Act.put]
  refine kL [10,11] ?_;refine lZ 12 (v:=?_) rfl kR jF (by rfl) ?_ hS ?_;rotate_left
  ·intro wS hSw
   (try dsimp only at hSw)
   have t:=qS.cell hSw (i:=2) rfl;go_simp;try with_reducible rfl
  try simp only[Act.put]
  refine kL [13,14] ?_;refine lZ 15 (v:=?_) rfl kR jF (by rfl) ?_ hS ?_;rotate_left
  ·intro wS hSw
   (try dsimp only at hSw)
   have t:=qS.cell hSw (i:=3) rfl;go_simp;try with_reducible rfl
  try simp only[Act.put]
  refine kL [16,17,18] ?_;refine tO 19 fun K n=>?_;have I:=l.c 2;have M:=l.frozen 2;have J:=B0.c 2;have N:=B0.frozen 2;go_simp;refine n _ _ O1 ?_;clear n K J N I M;refine tk 20 O1 ?_;refine tk 21 O1 ?_;refine tk 22 O1 ?_;refine tO 23 fun K n=>?_;have I:=l.c 3;have M:=l.frozen 3;have J:=B1.c 3;have N:=B1.frozen 3;go_simp;refine n _ _ O2 ?_;clear n K J N I M;refine tk 24 O2 ?_;refine tk 25 O2 ?_;refine tk 26 O2 ?_;refine tO 27 fun K n=>?_;have I:=l.c 4;have M:=l.frozen 4;have J:=B2.c 4;have N:=B2.frozen 4;go_simp;refine n _ _ O3 ?_;clear n K J N I M;refine tk 28 O3 ?_;refine tk 29 O3 ?_;refine tk 30 O3 ?_;refine tO 31 fun K n=>?_;have I:=l.c 5;have M:=l.frozen 5;have J:=B3.c 5;have N:=B3.frozen 5;go_simp;refine n _ _ O4 ?_;clear n K J N I M;refine tD ?_;go_wp2;go_ret;rw[C.out];exact⟨rfl,f.from_,fun j h=>by obtain rfl:=fg h;exact⟨f,((((G.below (bF.drew)).set 2 _).set 3 _).set 4 _).set 5 _⟩⟩
def Wx (s d:Nat) (B:s<2^d) (a:d<64):bits BinOp.or IntKind.u64 (s:Int) (IntKind.u64.wrap (2^d))=((s+2^d:Nat):Int):=by have b:2^d<=2^63:=jk dE oG;have e:((2:Int)^d)=((2^d:Nat):Int):=sI;rw[e,show IntKind.u64.wrap ((2^d:Nat):Int)=((2^d:Nat):Int) from IntWalk.u64_in _ ⟨oG,oG⟩,bits_or_u64_nat s (2^d) oG oG];have:=Nat.two_pow_add_eq_or_of_lt B 1;rw[jR,Nat.or_comm] at this;rw[<-this,sY]
def SM (s d:Nat) (w:World) (B:s<2^d) (a:d<64):
  Calls prog 195 #[.int .u64 (s:Int),(d:Int)] w fun e w'=>e=.returned (.int .u64 ((s+2^d:Nat):Int))/\w'=w:=by
 have b:decide ((d:Int)<64)=true:=decide_eq_true oG;have c:=zH (Wx s d B a);clear B;go_enter func195,ntmps195;go_wp2;go_ret;rw[c.out];exact⟨rfl,rfl⟩
def SN (s d:Nat) (w:World) (a:64<=d):
  Calls prog 195 #[.int .u64 (s:Int),(d:Int)] w fun e w'=>e=.returned (.int .u64 (s:Int))/\w'=w:=by
 have b:decide ((d:Int)<64)=false:=decide_eq_false oG;clear a;go_enter func195,ntmps195;go_wp2;go_ret;exact⟨rfl,rfl⟩
def Fs (c:UInt8): ∀l:Word,rh (l++[c])=rh l+(if c=49 then 2^l.length else 0)
 | []=>by simp[rh]
 |a::l=>by rw[fY,rh,Fs c l,rh,ff,js];split <;>split <;>omega
def zh: ∀l:Word,rh l<2^l.length
 | []=>by simp[rh]
 |a::l=>by have:=zh l;rw[rh,ff,js];split <;>omega
def TB (l:Word):Nat:=if sQ l then vp l else 0
def Qp (l:Word):Int:=if sQ l then(if 64<l.length then 3 else 0) else 2
def N6 (c:UInt8):Bool:=c==48||c==49
def AO (l:Word):sQ l=(!l.isEmpty&&l.all N6):=rfl
def UJ (l:Word) (c:UInt8):rh ((l++[c]).take 64)=rh (l.take 64)+if c=49/\l.length<64 then 2^l.length else 0:=by
 by_cases h:l.length<64
 ·rw[fj sO,fj oG,Fs];simp[h]
 ·rw[pw oG,if_neg oG,eW]
def Kx (t:ByteArray) (w:World) (N: ∀c∈t.data.toList,c.toNat<128) (B:t.size<=1000000):
  Calls prog 153 #[.string t] w fun e w'=>e=.returned (.tuple #[.int .u64 (TB t.data.toList:Nat),(Qp t.data.toList)])/\Below w w w':=by
 have O:=zH N;clear N;go_enter func153,ntmps153;go_wp2_with fail;go_loopw [4,5] (fun V K wr=> ∃i:Nat,i<=t.size/\V=.int .u64 (rh ((t.data.toList.take i).take 64):Nat)/\K=.int .i64 i/\wr.heap[w.heap.size]? =some (.stringIter t i)/\Hid ((t.data.toList.take i).all N6=true)/\Below w w wr) (fun _ K _=>t.size-(intOf K).toNat)
 case atStart=>refine⟨0,eC _,rfl,rfl,?_,rfl,jX bF _⟩;exact World.iter_heap w t 0
 case round=>
  obtain⟨i,X,rfl,rfl,s,C,f⟩:=hrel;by_cases D:i<t.size
  ·have u:=se t i D;have M:=O _ (De t i D);have q:=fun p=>Lib.run_next_ascii_at (P:=prog) wr w t i p s D M;have m:=Lib.iterAt_heap wr w t i (i+1) s;have g:=Lib.below_iterAt f (k:=w.heap.size) lE t (i+1);obtain⟨c,H⟩:=nE (t[i]);rw[<-H] at u;have J: ∀p,(Instr.next (.pointer w) true p).run prog wr=.ok (.tuple #[true,i,.int .i32 (c.toNat:Nat)]) (wr.iterAt w t (i+1)):=fun p=>by rw[H];exact q p
   have r:=zH (UJ (t.data.toList.take i) c);have A:(t.data.toList.take i).length=i:=by rw[fB,kC];omega
   obtain⟨x,o⟩:=Zb u A;clear q M H u A;by_cases b:c=48
   ·have R:((c.toNat:Int)==48)=true:=by rw[b];rfl
    have y:Hid (rh ((t.data.toList.take (i+1)).take 64)=rh ((t.data.toList.take i).take 64)):=zH (by rw[x.out,r.out,if_neg (fun h=>by rw[b] at h;exact absurd h.1 dE),eW]);have n:Hid ((t.data.toList.take (i+1)).all N6=true):=zH (by rw[x.out,my,C.out,b];rfl);clear b;go_wp2_with fail;go_roundw
    case rel=>exact⟨i+1,oG,by rw[y.out],by go_num,m,n,g⟩
    case measure=>exact mI
   ·have T:((c.toNat:Int)==48)=false:=by rw[beq_eq_false_iff_ne];exact fun e=>b (BG.1 (by show c.toNat=48;omega))
    by_cases d:c=49
    ·have S:((c.toNat:Int)==49)=true:=by rw[d];rfl
     have n:Hid ((t.data.toList.take (i+1)).all N6=true):=zH (by rw[x.out,my,C.out,d];rfl);by_cases j:i<64
     ·have y:Hid (rh ((t.data.toList.take (i+1)).take 64)=rh ((t.data.toList.take i).take 64)+2^i):=zH (by rw[x.out,r.out,o.out,if_pos ⟨d,j⟩]);have F:Hid (rh ((t.data.toList.take i).take 64)<2^i):=zH (by
       have:=zh ((t.data.toList.take i).take 64);rw[fj (by rw[o.out];omega)] at this|-
       rwa [o] at this)
      clear b d;go_wp2_with fail;refine(SM _ i _ F j).mono ?_;rintro e W ⟨rfl,rfl⟩;go_wp2;go_roundw
      case rel=>exact⟨i+1,oG,by rw[y.out,Pz,Int.natCast_pow];rfl,by go_num,m,n,g⟩
      case measure=>exact mI
     ·have y:Hid (rh ((t.data.toList.take (i+1)).take 64)=rh ((t.data.toList.take i).take 64)):=zH (by rw[x.out,r.out,o.out,if_neg oG,eW]);clear b d;go_wp2_with fail;refine(SN _ i _ oG).mono ?_;rintro e W ⟨rfl,rfl⟩;go_wp2;go_roundw
      case rel=>exact⟨i+1,oG,by rw[y.out],by go_num,m,n,g⟩
      case measure=>exact mI
    ·have U:((c.toNat:Int)==49)=false:=by rw[beq_eq_false_iff_ne];exact fun e=>d (BG.1 (by show c.toNat=49;omega))
     have v:Hid (sQ t.data.toList=false):=zH (by rw[AO,pZ];right;rw[nV];refine⟨c,mh (i:=i+1) (by rw[x.out];simp),?_⟩;simp[N6,b,d]);clear b d;go_wp2_with fail
     go_ret2
     rw[TB,Qp,v.out];exact⟨rfl,g⟩
  ·obtain rfl:i=t.size:=oG;have J: ∀p,(Instr.next (.pointer w) true p).run prog wr=_:=fun p=>Lib.run_next_end_at wr w t t.size p s D;have I:t.data.toList.take t.size=t.data.toList:=DJ t;have E:Hid (t.data.toList.all N6=true):=zH (by have:=C.out;rwa [I] at this);rw[I];clear I C;by_cases L:t.size=0
   ·have v:Hid (sQ t.data.toList=false):=zH (by rw[AO,gj (l:=t.data.toList) (by rw[kC];exact L)];rfl);have Q:((t.size:Int)==0)=true:=by rw[L];rfl
    go_wp2_with fail
    go_ret2
    rw[TB,Qp,v.out];exact⟨rfl,f⟩
   ·have v:Hid (sQ t.data.toList=true):=zH (by
     rw[AO,E.out,kF];cases e:t.data.toList with
     |nil=>have:=kC t;rw[e] at this;simp at this;omega
     |cons a l=>rfl)
    have Q:((t.size:Int)==0)=false:=by rw[beq_eq_false_iff_ne];omega
    by_cases j:64<t.size
    ·have G:decide ((64:Int)<(t.size:Int))=true:=decide_eq_true oG;have z:Hid (TB t.data.toList=0/\Qp t.data.toList=3):=zH (by rw[TB,Qp,v.out,vp,kC];simp[j]);go_wp2_with fail
     go_ret2
     rw[z.out.1,z.out.2];exact⟨rfl,f⟩
    ·have G:decide ((64:Int)<(t.size:Int))=false:=decide_eq_false oG;have z:Hid (TB t.data.toList=rh (t.data.toList.take 64)/\Qp t.data.toList=0):=zH (by rw[TB,Qp,v.out,vp,kC,fj (by rw[kC];omega)];simp[j]);go_wp2_with fail
     go_ret2
     rw[z.out.1,z.out.2];exact⟨rfl,f⟩
def vV {P:Program} {b:Array Oper} {Q:Exit->Act->World->Prop} {S:World->Prop} {late:List Nat}: ∀(n:Nat) (listed:Array Bool) (a:Act) (w:World),il P b Q S late n listed a w->il P b Q (fun _=>True) [] n listed a w
 |0,_,_,_,h=>h
 |n+1,_,_,_,h=>⟨h.1,fun i hi=>wpOp_mono (fun c w' h'=>⟨fun _=>trivial,vV n _ c w' h'.2⟩) (h.2 i hi)⟩
def Below.Sc {B:Nat} {a:World} (h:Below B a w) (p:Addr) (u:Value):Below B (a.setCell p u) (w.setCell p u):=
 ⟨h.os,h.tape,h.output,by simp;exact h.size,fun k b=>by simp only[World.setCell,jc];rw[h.block k b]⟩
def JK:(prog.info? 80).map (fun i=>(i.zero,i.size,i.bytes))=some (some (.int .u64 0),1,8):=kR
def Qg:(prog.info? 47).map (fun i=>(i.zero,i.size,i.bytes))=some (some (.agg #[Zo,Zo,(),Zo,Zo,Zo,Zo,Zo]),8,80):=kR
def L7 {α:Type} {l:List α} {k:Nat} {a:α} (h:l[k]? =some a):l.take (k+1)=l.take k++[a]:=by rw[gk,h];rfl
def qq.abT {M:World} {R:Nat} {lv:Value} {L:List kW} {st:Rd} (h:qq M R lv L w st) (b:Bool):qq M R lv L (w.setCell (pA R 9) b) {st with odd:=b}:=by obtain⟨k,cv,dv,h1,h2,a,c,d,e⟩:=h;exact⟨k,cv,dv,h1,h2,a.gH 9 b,c.fG (p:=pA R 9) lS _,d.fG (p:=pA R 9) lS _,e.setCell (p:=pA R 9) lE _⟩
def Gc {x:Word} (h:isWord x=true): ∀c∈x,c.toNat<128:=by unfold isWord at h;rw[a6,dT] at h;intro c hc;have:=h.2 c hc;simp only[oy,a6,decide_eq_true_eq] at this;omega
def Pj (M:World) (R:Nat) (lv:Value) (L:List kW) (st:Rd) (l:List Word) (v:Value) (w:World) (hR:M.heap.size<=R) (hs:qq M R lv L w st) (hv:kX M v l) (hl:l.length<=1000) (N: ∀x∈l,x.length<=1000000/\isWord x=true) (W:st.x.eB.length<=1000000000):
  Calls prog 117 #[.pointer R,v] w fun e w'=>e=.returned (.bool (oX st.x.days l).isSome)/\Below R M w'/\
   ∀c o,oX st.x.days l=some (c,o)->qq M R lv L w' {st with x:=⟨st.x.days,st.x.mm,st.x.cap,st.x.len,st.x.eB++[c],st.x.gn⟩,odd:=st.odd||o}/\kz R w w':=by
 have HS:=zH hs;have z:=hs.lt;have X:=hs.from_;obtain⟨ae,HX⟩:=Zb X N;obtain⟨A,c,rfl,h1,h2,au⟩:=hv.open_;have HL:=zH au;clear hs hv au N;cases l with
 |nil=>
  clear HL HX;go_enter func117,ntmps117;go_wp2;go_ret;exact⟨rfl,ae,fun c o h=>by cases h⟩
 |cons d ps=>
  obtain⟨b,o,rfl,hb,c0⟩:=HL 0 d rfl;have y0:=a7 X hR c0;rw[eW] at y0;have HD:=zH (HX d sI);simp only[ff] at hl h1;clear c0 X;by_cases hn:isNum d=true;rotate_left
  ·have HF:Hid (oX st.x.days (d::ps)=none):=zH (by simp[oX,hn]);have HN:=zH (show isNum d=false by simpa using hn);clear hn;go_enter func117,ntmps117;go_wp2_with fail;refine(yU d _ HD.1).mono ?_;rintro e k ⟨rfl,rfl⟩;rw[HN.out];go_wp2;go_ret;rw[HF.out];exact⟨rfl,ae,fun c o h=>by cases h⟩
  ·have HN:=zH hn;clear hn;go_enter func117,ntmps117;go_wp2_with fail;refine(yU d _ HD.1).mono ?_;rintro e k ⟨rfl,rfl⟩;rw[HN.out];go_wp2_with fail;all_goals
    have aC:=HS;go_loopw [29] (fun iv wr=> ∃(i:Nat) (pv:Value) (w1:World) (od:Bool),i<=ps/\iv=.int .i64 i/\Hid (qq M R lv L w1 {st with odd:=od})/\w1.heap.size=k/\Below k w1 wr/\
      fc wr k 47 [.int .i64 1,(nQ d),pv,Zo,Zo,Zo,Zo,Zo]/\
      Hid (wr.ownsRow (k+1) 80 1 pv i ((ps.take i).map fun x=>.int .u64 (vp x:Nat)))/\Hid ((ps.take i).all sQ=true)/\Hid (od=(st.odd||(ps.take i).any fun p=>decide ((p.length:Int)≠st.x.days)))/\Hid (kz R k w1)) (fun iv _=>ps.length-(intOf iv).toNat)
    case atStart=>exact⟨0,(),k,st.odd,eC _,rfl,aC,rfl,jX bF _,fc.new _ _ _,zH (gL _ _ _ _),zH rfl,zH sI,zH (kz.refl R k)⟩
    case round=>
     obtain⟨i,pv,w1,od,hi,rfl,y,aa,q,u,HO,HA,af,Q⟩:=hrel;by_cases aG:i<ps
     ·try (exfalso;omega)
      all_goals
       obtain⟨x,N⟩:=ec aG;obtain⟨b',o',hA,-,cx⟩:=HL (i+1) x (by rw[df];exact N);obtain⟨rfl,rfl⟩:b=b'/\o=o':=by simpa using hA
       have z1:=y.lt;have an:Below R M wr:=y.from_.trans (q.mono oG);have y1:=a7 an hR cx;rw[show o+(i+1)=o+1+i by omega] at y1;obtain⟨ai,aE,F⟩:=Zc (HX x (nX _ (a8 N))) (a8 N) (L7 N);obtain⟨t,ht⟩:=nE (⟨x.toArray⟩:ByteArray);have Z:t.data.toList=x:=by rw[ht]
       rw[<-ht] at y1;have ah:=zH Z;have P:t.size=x.length:=by rw[<-kC,Z]
       have U:=zH P;have az:=u.lt;clear N hA cx ht Z P;go_wp2_with fail;refine(Kx t _ (by rw[ah.out];exact Gc ai.2) (by rw[U.out];exact ai.1)).mono ?_;rintro e w5 ⟨rfl,I⟩;rw[ah.out];have D:=q.trans (I.mono (pF az));have m:=u.below I az;by_cases C:sQ x=true;rotate_left
       ·have HF:Hid (oX st.x.days (d::ps)=none):=zH (by
         have:ps.all sQ=false:=by rw[nV];exact⟨x,aE,C⟩
         simp[oX,this])
        have e2:Qp x=2:=by unfold Qp;rw[if_neg C]
        rw[e2];have aB:=zH ((y.from_.trans (D.mono oG)));clear C e2;go_wp2_with fail;go_ret;rw[HF.out];exact⟨rfl,aB,fun c o h=>by cases h⟩
       ·have ax:TB x=vp x:=by unfold TB;rw[if_pos C]
        rw[ax];obtain⟨ev,al,aM⟩: ∃ev:Int,Qp x=ev/\(ev==2)=false:=⟨_,rfl,by unfold Qp;rw[if_pos C];split <;>rfl⟩;rw[al];have ag:=zH C;clear C ax al;obtain⟨kk,cv,dv,q1,q2,q3,q4,q5,q6⟩:=y.out;have qB:=q3.below D z;have d2:=qB.cell 2;have ar:i<=1000000000:=oG;have aN:=I.size;clear q1 q2 q3 q4 q5 q6;by_cases G:(x.length:Int)=st.x.days
        ·have aH:((t.size:Int) !=st.x.days)=false:=by rw[U.out,G];simp
         have Y:=jq HO I lE;have E:=m;have e5:=m.c 2;have a:k.heap.size+1<=w5.heap.size:=oG;have T:=zH G;clear G;go_wp2_with (at_builtin;refine iD _ rfl (.tmp 52) (.tmp 54) 45 rfl (k+1) 80 _ 1 8 underlying45 JK rfl dE dE _ _ _ Y rfl [.int .u64 (vp x:Nat)] _ rfl rfl rfl ar a ?_;intro g cap w6 J ao aq j ay;have n:=j.below a;have f:=E.below n lS;have e6:w6.cell? (pA k 2)=some pv:=f.cell 2;have f6:w6.frozen? (pA k 2)=false:=f.frozen 2);go_roundw
         case rel=>
          refine⟨i+1,.slice g (i+1) cap,w1,od,oG,by go_num,y,aa,(D.trans (n.mono (iW _))).setCell (p:=pA k 2) lE _,f.gH 2 _,zH ?_,zH ?_,zH ?_,Q⟩
          ·rw[F.out,gJ];exact jo (p:=pA k 2) J lS _
          ·rw[F.out,my,HA.out];simp[ag.out]
          ·rw[F.out,List.any_append,af.out];simp[T.out]
         case measure=>exact mI
        ·have aH:((t.size:Int) !=st.x.days)=true:=by rw[U.out,bne_iff_ne];exact G
         have d9:=qB.cell 9;have f9:=qB.frozen 9;have Y:=jo (p:=pA R 9) (jq HO I lE) dO true;have E:=m.kj (p:=pA R 9) dO true;have e5:=m.c 2;have e7:=E.c 2;have aA:(w5.setCell (pA R 9) true).heap.size=w5.heap.size:=sI;have a:k.heap.size+1<=(w5.setCell (pA R 9) true).heap.size:=by rw[aA];omega
         have T:=zH G;clear G;go_wp2_with (at_builtin;refine iD _ rfl (.tmp 52) (.tmp 54) 45 rfl (k+1) 80 _ 1 8 underlying45 JK rfl dE dE _ _ _ Y rfl [.int .u64 (vp x:Nat)] 1 (by rw[aA];rfl) rfl rfl ar a ?_;intro g cap w6 J ao aq j ay;have n:=j.below a;have f:=E.below n lS;have e6:w6.cell? (pA k 2)=some pv:=f.cell 2;have f6:w6.frozen? (pA k 2)=false:=f.frozen 2);go_roundw
         case rel=>
          refine⟨i+1,.slice g (i+1) cap,w1.setCell (pA R 9) true,true,oG,by go_num,(y.abT true),by simp;exact aa,((Below.Sc D (pA R 9) true).trans (n.mono (iW _))).setCell (p:=pA k 2) lE _,f.gH 2 _,zH ?_,zH ?_,zH ?_,(Q.set 9 _)⟩
          ·rw[F.out,gJ];exact jo (p:=pA k 2) J lS _
          ·rw[F.out,my,HA.out];simp[ag.out]
          ·rw[F.out,List.any_append];simp[T.out]
         case measure=>exact mI
     ·obtain rfl:i=ps.length:=oG;obtain⟨Ap,cp,rfl,-⟩:=RS.jh HO;obtain⟨kk,cv,dv,q1,q2,q3,q4,q5,q6⟩:=y.out;have B:Below w1 w1 wr:=by rw[aa];exact q
      have qB:=q3.below q z;obtain⟨aP,g1,g2,g3⟩:=q4.below B lE;have aJ:=q5.below B lE;have aK:=q6.trans (q.mono (pF z));have aO:=u.lt;have aF:st.x.eB.length<=1000000000:=W;have a:R+1<=wr.heap.size:=oG;simp only at g1 g2 g3;clear q3 q4 q5 q6;go_wp2_with fail;refine rL (fun _=>True) [] kR trivial (fun hT=>?_);refine tk 0 hT ?_;refine vV (S:=fun wS=>Below wr wr wS) (late:=[8,9,10,11,12]) _ _ _ _ ?_;have hS:Below wr wr wr.drew:=bF.drew;refine kL [1,2,3,4] ?_;refine lZ 5 (v:=?_) rfl kR jF (by rfl) ?_ hS ?_;rotate_left
      ·intro wS hSw
       (try dsimp only at hSw)
       have hc:=(qB.below hSw qB.lt).c 6;go_simp;try with_reducible rfl
      try simp only[Act.put]
      refine lZ 6 (v:=?_) rfl kR jF (by rfl) ?_ hS ?_;rotate_left
      ·intro wS hSw
       (try dsimp only at hSw)
       obtain⟨k0,k1,k2,k3,k4,k5,k6,k7⟩:=(u.below hSw u.lt).xG;go_simp;try with_reducible rfl
      try simp only[Act.put]
      refine tO 7 fun K H=>?_;go_simp;refine H _ _ (hS.alloc hS.size _) ?_;refine tL 8 fun K H=>?_;refine ma wr.drew _ _ _ (by rfl) (R+1) 47 _ 8 80 underlying22 Qg rfl dE dE _ _ _ g2.drew (by rfl) (kH ⟨1,nQ d,ps.map vp,0,0,0,0,0⟩ (.slice Ap ps cp)) _ (by rfl) rfl rfl aF a ?_;intro g cap w6 J ao aq j ay;have n:=j.below (show R+1<=wr.drew.heap.size from a);have V:=(qB.drew).below n lS;refine H _ _ ?_;refine tL 9 fun K H=>?_;go_simp;refine H _ _ ?_;refine tL 10 fun K H=>?_;go_simp;refine H _ _ ?_;refine tL 11 fun K H=>?_;go_simp;refine H _ _ ?_;refine tL 12 fun K H=>?_;have e6:=V.c 6;have f6:=V.frozen 6;go_simp;refine H _ _ ?_;refine tD ?_;go_wp2_with fail;go_ret;have ak:ps.all sQ=true:=by have:=HA.out;rwa [gh] at this
      have aI:od=(st.odd||ps.any fun p=>decide ((p.length:Int)≠st.x.days)):=by have:=af.out;rwa [gh] at this
      have aD:oX st.x.days (d::ps)=some (⟨1,nQ d,ps.map vp,0,0,0,0,0⟩,ps.any fun p=>decide ((p.length:Int)≠st.x.days)):=by simp only[oX];rw[HN.out,ak];rfl
      have aw:wr.ownsRow (R+1) 80 1 (.slice Ap ps cp) (ps.map vp).length ((ps.map vp).map fun(s:Nat)=>Value.int .u64 (s:Int)):=by have:=kZ (base':=R+1) HO oG;rw[gh] at this;rw[fm,kK];exact this
      have aj:=V.gH 6 (.slice g (st.x.eB+1) cap);simp only[fI,fJ] at aj;obtain⟨aL,r1,r2⟩:=aJ;have O:Below R M (w6.setCell (pA R 6) (.slice g (st.x.eB+1) cap)):=(aK.drew.trans (n.mono (iW R))).setCell (p:=pA R 6) lE _;rw[aD];refine⟨rfl,O,fun c' o' h=>?_⟩;obtain⟨rfl,rfl⟩:=Np (fg h);rw[<-aI];refine⟨⟨kk,.slice g (st.x.eB+1) cap,dv,q1,q2,aj,?_,?_,O⟩,(((Q.below B).below (bF.drew)).keep j dE).set 6 _⟩
      ·exact(iJ.push rfl g1 J (fun i x qv N hq=>j.own (g3 i x qv N hq).drew dE) (j.own aw.drew dE)).fG (p:=pA R 6) lS _
      ·exact OwnRows.fG (p:=pA R 6) ⟨aL,j.own r1.drew dE,fun i r rv h h'=>j.own (r2 i r rv h h').drew dE⟩ lS _
theorem Q8{p:Prop}(h:p:=by
 obtain⟨kk,cv,dv,q1,q2,q3,q4,q5,q6⟩:=Z.out;have z2:R<y.heap.size:=q3.lt;have qB:=q3.below H z2;obtain⟨aI,af,ag,ah⟩:=q4.below H lE;have al:=q5.below H lE;have an:=q6.trans (H.mono (pF z2));have aH:=k.lt;have ai:st.x.eB.length<=1000000000:=P;have n:R+1<=t.heap.size:=oG;clear q3 q4 q5 q6;refine rL (fun _=>True) [] kR trivial (fun hT=>?_);refine tk 0 hT ?_;refine vV (S:=fun wS=>Below t t wS) (late:=[8,9,10,11,12]) _ _ _ _ ?_;have hS:Below t t t.drew:=bF.drew;refine kL [1,2,3,4] ?_;refine lZ 5 (v:=?_) rfl kR jF (by rfl) ?_ hS ?_;rotate_left
 ·intro wS hSw
  (try dsimp only at hSw)
  have hc:=(qB.below hSw qB.lt).c 6;go_simp;try with_reducible rfl
 try simp only[Act.put]
 refine lZ 6 (v:=?_) rfl kR jF (by rfl) ?_ hS ?_;rotate_left
 ·intro wS hSw
  (try dsimp only at hSw)
  obtain⟨k0,k1,k2,k3,k4,k5,k6,k7⟩:=(k.below hSw k.lt).xG;go_simp;try with_reducible rfl
 try simp only[Act.put]
 refine tO 7 fun K f=>?_;go_simp;refine f _ _ (hS.alloc hS.size _) ?_;refine tL 8 fun K f=>?_;refine ma t.drew _ _ _ (by rfl) (R+1) 47 _ 8 80 underlying22 Qg rfl dE dE _ _ _ ag.drew (by rfl) (kH ⟨2,0,[],nQ a,nQ b,nQ d,G,nQ h⟩ ()) _ (by rfl) rfl rfl ai n ?_;intro g cap w6 aj aE aF j aG;have O:=j.below (show R+1<=t.drew.heap.size from n);have E:=(qB.drew).below O lS;refine f _ _ ?_;refine tL 9 fun K f=>?_;go_simp;refine f _ _ ?_;refine tL 10 fun K f=>?_;go_simp;refine f _ _ ?_;refine tL 11 fun K f=>?_;go_simp;refine f _ _ ?_;refine tL 12 fun K f=>?_;have e6:=E.c 6;have f6:=E.frozen 6;go_simp;refine f _ _ ?_;refine tD ?_;go_wp2_with fail;go_ret;have ae:qJ [a,b,d,r,h]=some (⟨2,0,[],nQ a,nQ b,nQ d,G,nQ h⟩,false):=by have:=I.out;simp only[eR,lF,kF] at this;rw[<-vZ,<-vZ] at this;simp only[qJ];rw[this,aa.out];rfl
 have Q:t.ownsRow (R+1) 80 1 () ([]:List Nat).length (([]:List Nat).map fun(s:Nat)=>Value.int .u64 (s:Int)):=gL _ _ _ _;have N:=E.gH 6 (.slice g (st.x.eB+1) cap);simp only[fI,fJ] at N;obtain⟨ao,r1,r2⟩:=al;have C:Below R w0 (w6.setCell (pA R 6) (.slice g (st.x.eB+1) cap)):=(an.drew.trans (O.mono (iW R))).setCell (p:=pA R 6) lE _;rw[ae];refine⟨rfl,C,fun c' o' h=>?_⟩;obtain⟨rfl,rfl⟩:=Np (fg h);rw[Bool.or_false];refine⟨⟨kk,.slice g (st.x.eB+1) cap,dv,q1,q2,N,?_,?_,C⟩,(((((kz.refl R w).below aq).below H).below (bF.drew)).keep j dE).set 6 _⟩
 ·exact(iJ.push rfl af aj (fun i x qv Y hq=>j.own (ah i x qv Y hq).drew dE) (j.own Q.drew dE)).fG (p:=pA R 6) lS _
 ·exact OwnRows.fG (p:=pA R 6) ⟨ao,j.own r1.drew dE,fun i r G h h'=>j.own (r2 i r G h h').drew dE⟩ lS _):p:=h
def Ss (w0:World) (R:Nat) (lv:Value) (L:List kW) (st:Rd) (l:List Word) (v:Value) (w:World) (hR:w0.heap.size<=R) (hs:qq w0 R lv L w st) (hv:kX w0 v l) (Y: ∀x∈l,x.length<=1000000/\isWord x=true) (P:st.x.eB.length<=1000000000):
  Calls prog 118 #[.pointer R,v] w fun e w'=>e=.returned (.bool (qJ l).isSome)/\Below R w0 w'/\
   ∀c o,qJ l=some (c,o)->qq w0 R lv L w' {st with x:=⟨st.x.days,st.x.mm,st.x.cap,st.x.len,st.x.eB++[c],st.x.gn⟩,odd:=st.odd||o}/\kz R w w':=by
 have HS:=zH hs;have z:=hs.lt;obtain⟨B,HX⟩:=Zb hs.from_ Y;obtain⟨A,c,rfl,h1,h2,ay⟩:=hv.open_;have HL:=zH ay;clear hs hv ay Y;by_cases h5:l.length=5;rotate_left
 ·have HF:Hid (qJ l=none):=zH (by
   unfold qJ;split
   ·simp at h5
   ·rfl)
  have aM:((l.length:Int) !=5)=true:=by rw[bne_iff_ne];omega
  clear h5;go_enter func118,ntmps118;go_wp2;go_ret;rw[HF.out];exact⟨rfl,B,fun c o h=>by cases h⟩
 ·obtain⟨a,b,d,r,h,rfl⟩: ∃a b d r h,l=[a,b,d,r,h]:=by
   match l,h5 with
   | [a,b,d,r,h],_=>exact⟨_,_,_,_,_,rfl⟩
  clear h5;obtain⟨bl,o,rfl,aD,ca⟩:=HL 0 a rfl;obtain⟨b1,o1,D,-,cb⟩:=HL 1 b rfl;obtain⟨rfl,rfl⟩:bl=b1/\o=o1:=by simpa using D
  obtain⟨b1,o1,D,-,cd⟩:=HL 2 d rfl;obtain⟨rfl,rfl⟩:bl=b1/\o=o1:=by simpa using D
  obtain⟨b1,o1,D,-,cr⟩:=HL 3 r rfl;obtain⟨rfl,rfl⟩:bl=b1/\o=o1:=by simpa using D
  obtain⟨b1,o1,D,-,ch⟩:=HL 4 h rfl;obtain⟨rfl,rfl⟩:bl=b1/\o=o1:=by simpa using D
  rw[eW] at ca;simp only[ff,fZ] at h1;have y0:=a7 B hR ca;have y1:=a7 B hR cb;have y2:=a7 B hR cd;have y3:=a7 B hR cr;have y4:=a7 B hR ch;have aK:bl<w.heap.size:=bP aD oG;clear ca cb cd cr ch HL;go_enter func118,ntmps118;go_wp2_with fail;refine rB [] fun hS=>?_;refine kL [0,1,2,3,4,5,6,7,8,9,10,11] ?_;refine tO 12 fun K f=>?_;go_simp;refine f _ _ (hS.alloc hS.size _) ?_;refine tO 13 fun K f=>?_;go_simp;obtain⟨ok,I⟩: ∃q:Bool,Hid ([a,b,d,h].all isNum=q):=⟨_,rfl⟩;have au:=(fc.new w 9 [kI a,kI b,kI d,kI h]).drew;refine(uN [a,b,d,h] _ _ sI (fun x Y=>(HX x (by simp only[fC,iy,or_false] at Y|-;rcases Y with rfl|rfl|rfl|rfl <;>simp)).1) (fc.strs (l:=[a,b,d,h]) au sI)).mono ?_;rintro e y ⟨u,rfl,hu,aw⟩;rw[I.out];have m:Below w w y:=(jX (bS w w) _).drew.trans (aw.mono (show w.heap.size<=_ by simp));refine f _ _ m ?_;refine tk 14 m ?_;refine tk 15 m ?_;refine tk 16 m ?_;refine tk 17 m ?_;refine tk 18 m ?_;refine tD ?_;obtain⟨ar,HU,aq,Z⟩:=Zd (B.trans (m.mono (pF z))) hu m (HS.below m);have aB:=a7 m lE y3;clear hu aw hS au m B HX y0 y1 y2 y4;cases ok with
  |false=>
   have HF:Hid (qJ [a,b,d,r,h]=none):=zH (by have:=I.out;simp only[eR,lF,kF] at this;rw[<-vZ,<-vZ] at this;simp only[qJ];rw[this];rfl);go_wp2_with fail;go_ret;rw[HF.out];exact⟨rfl,ar,fun c o h=>by cases h⟩
  |true=>
   have U:Hid (qS w y u [nQ a,nQ b,nQ d,nQ h]):=zH (by have:=HU.out;rw[uw I.out] at this;exact kZ this sI);clear HU;obtain⟨Au,cu,rfl,g1,g2,ax⟩:=U.reads.open_;obtain⟨bu,ou,rfl,aL,k0⟩:=ax 0 _ rfl;have k1:=qS.cell U (i:=1) rfl;have k2:=qS.cell U (i:=2) rfl;have k3:=qS.cell U (i:=3) rfl;rw[eW] at k0;simp only[ff,fZ] at g1;clear ax;go_wp2_with fail;refine rB [14] fun hS=>?_;refine kL [0,1,2,3,4,5,6,7,8,9,10,11,12] ?_;refine tO 13 fun K f=>?_;go_simp;refine f _ _ (hS.alloc hS.size _) ?_;refine tL 14 fun K f=>?_;go_simp;refine f _ _ ?_;refine tD ?_;generalize ak:World.alloc y (Obj.cells #[.int .i64 2,Zo,(),(nQ a),(nQ b),(nQ d),Zo,(nQ h)] 47)=w3;have B3:=zH (show Below y y w3 by rw[<-ak];exact jX bF _);have bx:fc w3 y 47 [.int .i64 2,Zo,(),(nQ a),(nQ b),(nQ d),Zo,(nQ h)]:=by rw[<-ak];exact fc.newAt _ _ _ rfl
   have y5:=a7 B3 lE aB;have e6:=bx.c 6;have f6:=bx.frozen 6;have T:=zH bx;obtain⟨rs,X⟩:=nE (⟨r.toArray⟩:ByteArray);rw[<-X] at y5;have aJ:=zH X;have aA:rs.toList=r:=by rw[X,mR]
   have J:=zH aA;clear ak bx hS X aA k0 k1 k2 k3 y3 aB;by_cases V:r=FC;rotate_left;by_cases ha:r=Pm;rotate_left
   ·have HF:Hid (qJ [a,b,d,r,h]=none):=zH (by
     have:tY r=none:=by unfold tY;rw[if_neg V,if_neg ha]
     simp only[qJ];rw[this];split <;>rfl)
    have W:(rs.toList==[102,105,108,108])=false:=by rw[J.out,beq_eq_false_iff_ne];exact V
    have az:(rs.toList==[97,110,121])=false:=by rw[J.out,beq_eq_false_iff_ne];exact ha
    have aC:=zH (ar.trans (B3.mono (pF Z.lt)));clear V ha;go_wp2_with fail;go_ret;rw[HF.out];exact⟨rfl,aC.drew,fun c o h=>by cases h⟩
   ·have W:(rs.toList==[102,105,108,108])=true:=by rw[J.out,beq_iff_eq];exact V
    have M:Hid (tY r=some 1):=zH (by unfold tY;rw[if_pos V]);clear V;go_wp2_with fail;generalize F:(World.setCell w3 (pA y 6) (.int .i64 1)).drew=t;have H:=zH (show Below y y t by rw[<-F];exact(B3.setCell (p:=pA y 6) lE _).drew);obtain⟨G,aa,k⟩: ∃G:Int,Hid (tY r=some G)/\Hid (fc t y 47 [.int .i64 2,Zo,(),(nQ a),(nQ b),(nQ d),G,(nQ h)]):=⟨1,M,zH (by rw[<-F];exact(T.gH 6 _).drew)⟩;clear F e6 f6 y5 T B3 W M;exact Q8
   ·have W:(rs.toList==[102,105,108,108])=false:=by rw[J.out,beq_eq_false_iff_ne];exact V
    have az:(rs.toList==[97,110,121])=true:=by rw[J.out,beq_iff_eq];exact ha
    have M:Hid (tY r=some 2):=zH (by unfold tY;rw[if_neg V,if_pos ha]);clear V ha;go_wp2_with fail;generalize F:(World.setCell w3 (pA y 6) (.int .i64 2)).drew=t;have H:=zH (show Below y y t by rw[<-F];exact(B3.setCell (p:=pA y 6) lE _).drew);obtain⟨G,aa,k⟩: ∃G:Int,Hid (tY r=some G)/\Hid (fc t y 47 [.int .i64 2,Zo,(),(nQ a),(nQ b),(nQ d),G,(nQ h)]):=⟨2,M,zH (by rw[<-F];exact(T.gH 6 _).drew)⟩;clear F e6 f6 y5 T B3 W az M;exact Q8
end
section
open Go.Proofs.Tryz
open Go.RowKit ue jm uf
variable {a b:Nat} {c:Array MapEntry} {s:ByteArray}
def E8 (z:Value):Option (Nat×Value)->Value
 |some x=>.tuple #[x.2,true]
 |none=>.tuple #[z,false]
section
variable {P:Program} {t k e:TypeId}
def MQ {v:Value} (j:P.underlying t=some (.map k e)) (f:P.underlying k=some .string) (d:w.heap[b]? =some (.map c a))
  (l:Instr.findNow .string (.string s) c.toList 0=some none):
  ∃w',(Instr.mapUpdate t (.map (some b)) (.string s) v).run P w=.ok () w'/\w'.heap[b]? =some (.map (c.push ⟨.string s,v,a⟩) (a+1))/\w'.heap.size=w/\ ∀lb,lb<=b->Below lb w w':=by
 refine⟨{w with heap:=w.heap.setIfInBounds b (.map (c.push ⟨.string s,v,a⟩) (a+1))},?_,?_,by simp,fun lb m=>⟨rfl,rfl,rfl,by simp,fun i n=>?_⟩⟩
 ·have g:(Instr.checkKey false 10000 k (.string s)).run P w=.ok () w:=mu f (show MapKept.IsKey .string (.string s) from trivial) false 9999;have h:(Instr.findKey k (.string s) c.toList).run P w=.ok none w:=jY f l;simp[Instr.mapUpdate,run_underlying j,iI d,g,h,mV _ d,Result.andThen]
 ·have:=(aah.1 d).1;simp[this]
 ·rw[iQ oG]
def Rw {r:Option (Nat×Value)} {z:Value} (j:P.underlying t=some (.map k e)) (f:P.underlying k=some .string) (d:w.heap[b]? =some (.map c a))
  (l:Instr.findNow .string (.string s) c.toList 0=some r) (i:(zeroValue e).run P w=.ok z w):
  (Instr.lookup t (.map (some b)) (.string s) true).run P w=.ok (E8 z r) w:=by
 have g:(Instr.checkKey c.isEmpty 10000 k (.string s)).run P w=.ok () w:=mu f (show MapKept.IsKey .string (.string s) from trivial) _ 9999;have h:(Instr.findKey k (.string s) c.toList).run P w=.ok r w:=jY f l;cases r with
 |none=>simp[Instr.lookup,run_underlying j,iI d,g,h,i,Result.andThen,E8]
 |some x=>simp[Instr.lookup,run_underlying j,iI d,g,h,Result.andThen,E8]
end
def Vb (w:World):(zeroValue 177).run prog w=.ok .nilFunc w:=kR
end
section
open Go.Proofs.Tryz
open Go.RowKit ue jm uf
theorem Q9{p:Prop}(h:p:=by
 go_wp2_with fail;all_goals
  refine(j _ (by first|exact aj _ oG mO|(obtain rfl:l=[]:=rX.1 oG;exact kX.abS _ _ _ (by simp[maxLen])))).mono ?_;rintro e w4 ⟨rfl,k,q⟩;cases a:rT s with
  |none=>
   have X:Hid (pE n st=none):=zH (by rw[u.out,a];rfl);have V:=zH k;clear q k a;go_wp2_with fail;go_ret;rw[X.out];exact⟨rfl,V,fun r h=>by cases h⟩
  |some E=>
   obtain⟨r1,r2,r3,r4⟩:=q E a;obtain⟨Z,aa,W⟩:=Zc r1 r2 a;clear q k a r1 r2;go_wp2_with fail;go_roundw
   case rel=>exact⟨i+1,E,oG,by go_num,Z,zH (by rw[u.out,W.out];rfl),oG,oG,(G.trans aa)⟩
   case measure=>exact mI):p:=h
theorem Rb{p:Prop}(h:p:=by rw[a,Option.isSome_map];refine⟨q1,q2,fun E ag=>?_⟩;obtain⟨⟨c',o'⟩,M,rfl⟩:=mP.1 ag;exact⟨(U c' o' M).1,(U c' o' M).2,by simp[(tE s).1],rfl⟩):p:=h
variable {l:kW} {st:Rd} {x:Word}
def tE (st:Rd):(fV st).2.x=st.x/\(fV st).2.count=st.count/\(fV st).2.odd=st.odd:=by unfold fV;split <;>exact⟨rfl,rfl,rfl⟩
def xZ (h:(fV st).1≠[]):(fV st).2.rest.length+1=st.rest.length:=by
 unfold fV at h|-
 split
 ·rename_i e;rw[e] at h;exact absurd rfl h
 ·rename_i e;rw[e];rfl
def Ia (d:Int) (l:kW):yF d (nt::l)=oX d l:=by show(if nt=nt then oX d l else if nt=qh then qJ l else none)=_;rw[if_pos rfl]
def Ks (d:Int) (l:kW):yF d (qh::l)=qJ l:=by show(if qh=nt then oX d l else if qh=qh then qJ l else none)=_;rw[if_neg dE,if_pos rfl]
def Kq (d:Int) (x:Word) (l:kW) (f:x≠nt) (m:x≠qh):yF d (x::l)=none:=by show(if x=nt then oX d l else if x=qh then qJ l else none)=_;rw[if_neg f,if_neg m]
def NH (h:(fV st).1=[]):rT st=none:=by unfold rT;rw[h];rfl
def Ic (h:(fV st).1=nt::l):rT st=(oX (fV st).2.x.days l).map fun c=>
  {(fV st).2 with x:=⟨(fV st).2.x.days,(fV st).2.x.mm,(fV st).2.x.cap,(fV st).2.x.len,(fV st).2.x.eB++[c.1],(fV st).2.x.gn⟩,odd:=(fV st).2.odd||c.2}:=by
 obtain⟨f,m,a⟩:=tE st;unfold rT;rw[h,f,a,Ia]
def Ku (h:(fV st).1=qh::l):rT st=(qJ l).map fun c=>
  {(fV st).2 with x:=⟨(fV st).2.x.days,(fV st).2.x.mm,(fV st).2.x.cap,(fV st).2.x.len,(fV st).2.x.eB++[c.1],(fV st).2.x.gn⟩,odd:=(fV st).2.odd||c.2}:=by
 obtain⟨f,m,a⟩:=tE st;unfold rT;rw[h,f,a,Ks]
def Kt (h:(fV st).1=x::l) (f:x≠nt) (m:x≠qh):rT st=none:=by unfold rT;rw[h,Kq _ _ _ f m];rfl
def qq.M1 {g:World} {R:Nat} {C:Value} {L:List kW} (h:qq g R C L w st):st.rest.length<=L.length:=by obtain⟨k,cv,dv,f,m,-⟩:=h;rw[<-m,km];omega
def Gf (R:Nat):Array MapEntry:= #[⟨.string ⟨#[118,105,115,105,116]⟩,.func (.func 117) #[.pointer R] #[],0⟩,⟨.string ⟨#[116,97,110,107]⟩,.func (.func 118) #[.pointer R] #[],1⟩]
def KO (R:Nat) (s:ByteArray):Instr.findNow .string (.string s) (Gf R).toList 0=some (if s.data.toList=nt then some (0,.func (.func 117) #[.pointer R] #[]) else
  if s.data.toList=qh then some (1,.func (.func 118) #[.pointer R] #[]) else none):=by
 have hb: ∀a:List UInt8,(s==(⟨a.toArray⟩:ByteArray))=decide (s.data.toList=a):=fun a=>by
  rcases s with ⟨d⟩
  show(d==a.toArray)=_;rw[BE,beq_iff_eq,decide_eq_true_eq];exact⟨fun h=>by rw[h],fun h=>by rw[<-h]⟩
 have f:(s==(⟨#[118,105,115,105,116]⟩:ByteArray))=decide (s.data.toList=nt):=hb nt;have m:(s==(⟨#[116,97,110,107]⟩:ByteArray))=decide (s.data.toList=qh):=hb qh;unfold Gf;by_cases D:s.data.toList=nt
 ·rw[if_pos D];rw[decide_eq_true (show s.data.toList=nt from D)] at f;show(match some (s==_) with|some true=>_|some false=>_|none=>_:Option (Option (Nat×Value)))=_;rw[show(s==(⟨#[118,105,115,105,116]⟩:ByteArray))=true from f]
 ·rw[if_neg D];rw[decide_eq_false (show¬s.data.toList=nt from D)] at f;show(match some (s==_) with|some true=>_|some false=>_|none=>_:Option (Option (Nat×Value)))=_;rw[show(s==(⟨#[118,105,115,105,116]⟩:ByteArray))=false from f];show(match some (s==_) with|some true=>_|some false=>_|none=>_:Option (Option (Nat×Value)))=_;by_cases J:s.data.toList=qh
  ·rw[if_pos J];rw[decide_eq_true (show s.data.toList=qh from J)] at m;rw[show(s==(⟨#[116,97,110,107]⟩:ByteArray))=true from m]
  ·rw[if_neg J];rw[decide_eq_false (show¬s.data.toList=qh from J)] at m;rw[show(s==(⟨#[116,97,110,107]⟩:ByteArray))=false from m];rfl
def kX.Z7 {b o c c':Nat} (h:kX w (.slice (pA b o) (x::l).length c) (x::l)) (f:l.length<=c') (i:c'<=maxLen):kX w (.slice (pA b (o+1)) l c') l:=by
 obtain⟨A,c0,B,m,n,p,e⟩:=h;injection B with e1 _ e3
 subst e1;subst e3;refine⟨_,c',rfl,f,i,by simp,fun hn=>?_⟩;obtain⟨d,o',g,hb,a⟩:=e sI;obtain⟨rfl,rfl⟩:b=d/\o=o':=by simpa using g
 refine⟨b,o+1,rfl,hb,fun j u k=>?_⟩;have:=a (1+j) u (by rw[sY,gN,df];exact k);rw[<-nm] at this;exact this
def kX.abS (w:World) (A:Option Addr) (c:Nat) (a:c<=maxLen):kX w (.slice A 0 c) []:=⟨A,c,rfl,eC _,a,rfl,fun h=>absurd h sI⟩
def PU (g:World) (R:Nat) (C:Value) (L:List kW) (s:Rd) (f:FuncId) (F:World) (l:kW):Prop:=
 ∀v,kX g v l->Calls prog f #[.pointer R,v] F fun e w'=>e=.returned (.bool (rT s).isSome)/\Below R g w'/\
  ∀E,rT s=some E->qq g R C L w' E/\kz R F w'/\E.x.eB.length=s.x.eB.length+1/\E.rest.length=(fV s).2.rest.length
def D8 (g:World) (R:Nat) (C:Value) (L:List kW) (st:Rd) (w:World) (hC:Tj g R C L) (hs:qq g R C L w st) (h0:st.x.eB=[]) (aF:0<=st.count) (aG:st.count<=1000000000000000000):
  Calls prog 75 #[.pointer R] w fun e w'=>e=.returned (.bool (pE st.count.toNat st).isSome)/\Below R g w'/\ ∀r,pE st.count.toNat st=some r->qq g R C L w' r/\kz R w w':=by
 obtain⟨Q,HS,H0⟩:=Zc hC hs h0;have z:=hs.lt;obtain⟨n,hn⟩: ∃n:Nat,st.count=n:=⟨st.count.toNat,oG⟩;have ax:st.count.toNat=n:=oG;rw[ax];have HN:=zH hn;have aN:n<=1000000000000000000:=oG;have aM:= @run_makeMap prog;have aL: ∀(fn:Fn) (first cap:Array Value) (w:World),(Instr.makeFunc fn first cap).run prog w=.ok (.func fn first cap) w:=fun _ _ _ _=>rfl;have ao:(w.alloc (.map #[] 0)).heap[w.heap.size]? =some (.map #[] 0):=by simp only[World.alloc,Vd]
 obtain⟨w1,aC,al,aR,ar⟩:=MQ (P:=prog) (v:=.func (.func 117) #[.pointer R] #[]) (s:=⟨#[118,105,115,105,116]⟩) underlying178 underlying9 ao rfl;obtain⟨w2,aD,an,aS,au⟩:=MQ (P:=prog) (v:=.func (.func 118) #[.pointer R] #[]) (s:=⟨#[116,97,110,107]⟩) underlying178 underlying9 al (by rfl);have O:Below w w w2:=((jX bF _).trans (ar _ lE)).trans (au _ lE);have S:w2.heap[w.heap.size]? =some (.map (Gf R) 2):=an;obtain⟨az,aA,aB⟩:=Zc S O (hs.below O);have aO:=hs.M1;obtain⟨kk,cv,dv,-,-,U,-⟩:=hs.below O;have c8:=U.c 8;rw[hn] at c8;have aI:=hC.Ik;clear hC hs hn h0 ax al an S ar au O ao U aF aG;go_enter func75,ntmps75;go_wp2_with fail;clear aC aD c8;go_loopw [17] (fun iv wr=> ∃(i:Nat) (s:Rd),i<=n/\iv=.int .i64 i/\Hid (qq g R C L wr s)/\Hid (pE n st=pE (n-i) s)/\s.x.eB.length=i/\i+s.rest.length<=st.rest/\Hid (kz R w2 wr)) (fun iv _=>n-(intOf iv).toNat)
 case atStart=>exact⟨0,st,eC _,rfl,aB,rfl,by rw[H0.out];rfl,oG,(kz.refl _ _)⟩
 case round=>
  obtain⟨i,s,hi,rfl,H,HR,aJ,aP,ai⟩:=hrel;by_cases aK:i<n
  ·go_wp2_with fail;refine(uv g R C L s _ Q.lines Q.low H Q.Ik).mono ?_;rintro e F ⟨v,rfl,B,ah,-,aq⟩;obtain⟨I,G,N,ae⟩:=Zd ah (ai.trans aq) (H.x8 Q) (H.Lk Q);have u:Hid (pE n st=(rT s).bind (pE (n-(i+1)))):=zH (by rw[HR.out,show n-i=(n-(i+1))+1 by omega];rfl);have aQ:F.heap.size=F.heap.size:=rfl;clear aq;cases d:(fV s).1 with
   |nil=>
    have X:Hid (pE n st=none):=zH (by rw[u.out,NH d];rfl);rw[d] at B;obtain⟨A,c,rfl,f,m,-⟩:=B.open_;clear B d ah;go_wp2_with fail;go_ret;rw[X.out];exact⟨rfl,I.from_,fun r h=>by cases h⟩
   |cons x l=>
    have Y:=zH d;have aH:(fV s).2.rest.length+1=s.rest.length:=xZ (by rw[d];simp);rw[d] at B N ae;obtain⟨A,c,rfl,f,m,aw⟩:=B.open_;obtain⟨b,o,rfl,hb,c0⟩:=aw 0 x rfl;have y0:=a7 I.from_ Q.low c0;rw[eW] at y0;have y1:=y0;obtain⟨t,ht⟩:=nE (⟨x.toArray⟩:ByteArray);have ay:t.data.toList=x:=by rw[ht]
    change F.cell? (pA b o)=some (.string ⟨x.toArray⟩) at y0;rw[<-ht] at y0;have T:F.heap[w.heap.size]? =some (.map (Gf R) 2):=G _ _ oG (fun cs e fr h=>by cases h) az;have af:=KO R t;rw[ay] at af;have p:=Rw (P:=prog) underlying178 underlying9 T af (Vb F);have ak:=zH (fun y hy=>(⟨N.2 y (nX _ hy),ae y (nX _ hy)⟩:y.length<=1000000/\isWord y=true));have aj:Hid (∀c',l.length<=c'->c'<=maxLen->kX g (.slice (pA b (o+1)) l c') l):=zH fun c' q1 q2=>B.Z7 q1 q2;have aE:l.length<=1000:=by have:=N.out.1;simp only[ff] at this;omega
    have K:(fV s).2.x.eB.length<=1000000000:=by rw[(tE s).1];omega
    simp only[ff] at f m;clear B aw c0 y1 ht ay af T ah d N ae;by_cases D:x=nt
    ·rw[if_pos D] at p;simp only[E8] at p;have j:Hid (PU g R C L s 117 F l):=zH fun v B=>(Pj g R C L (fV s).2 l v F Q.low I B aE ak K).mono fun e w' ⟨q1,q2,U⟩=>by have a:=Ic (st:=s) (l:=l) (by rw[Y.out,D]);exact Rb
     clear D;exact Q9
    ·rw[if_neg D] at p;by_cases J:x=qh
     ·rw[if_pos J] at p;simp only[E8] at p;have j:Hid (PU g R C L s 118 F l):=zH fun v B=>(Ss g R C L (fV s).2 l v F Q.low I B ak K).mono fun e w' ⟨q1,q2,U⟩=>by have a:=Ku (st:=s) (l:=l) (by rw[Y.out,J]);exact Rb
      clear D J;exact Q9
     ·rw[if_neg J] at p;simp only[E8] at p;have X:Hid (pE n st=none):=zH (by rw[u.out,Kt Y.out D J];rfl);clear D J;go_wp2_with fail;go_ret;rw[X.out];exact⟨rfl,I.from_,fun r h=>by cases h⟩
  ·obtain rfl:i=n:=oG;go_wp2_with fail;go_ret;have hR:=HR.out;rw[pG] at hR;rw[hR];exact⟨rfl,H.from_,fun r h=>by obtain rfl:=fg h;exact⟨H,((kz.refl R w).below aA).trans ai⟩⟩
end
section
open Go.Proofs.Tryz
open Go.RowKit ue jm uf
variable {l:kW}
def WD:(prog.info? 26).map (fun i=>(i.zero,i.size,i.bytes))=some (some (.slice none 0 0),1,24):=kR
def Of (h:l.all isNum=true):(yV l).length=l.length:=by rw[uw h,fm]
def RJ (h:l.all isNum=true):yV l=l.map nI:=by rw[uw h];rfl
def Qn (E:World) (R:Nat) (T:Value) (L:List kW) (st:Rd) (w:World) (hC:Tj E R T L) (hs:qq E R T L w st) (h0:st.x.gn=[]) (ax:0<=st.count) (ay:st.count<=1000000000000000000):
  Calls prog 76 #[.pointer R] w fun e w'=>e=.returned (.bool (sB st).isSome)/\Below R E w'/\ ∀j,sB st=some j->qq E R T L w' j/\kz R w w':=by
 obtain⟨t,HS,H0⟩:=Zc hC hs h0;obtain⟨n,hn⟩: ∃n:Nat,st.count=n:=⟨st.count.toNat,oG⟩;have HN:=zH hn;have aN:n<=1000000000000000000:=oG;have aO:=hs.M1;have aH:=hC.Ik;have G:Hid (sB st=if (fV st).1=[aan] then xq (n+1) (fV st).2 else none):=zH (by unfold sB;rw[hn,show((n:Int)+1).toNat=n+1 by omega]);clear hC hs h0 hn ax ay;go_enter func76,ntmps76;go_wp2_with fail;refine(uv E R T L st _ t.lines t.low HS t.Ik).mono ?_;rintro e w2 ⟨v,rfl,hv,f,-,ai⟩;obtain⟨al,aa,HV⟩:=Zc ai f (kX.below hv f.from_ t.low);have hB:=fc.new w2 9 [.string ⟨#[100,105,115,116,97,110,99,101,115]⟩];clear f hv ai;go_wp2_with fail;refine(CE v _ (fV st).1 [aan] _ (kX.below HV (jX bF _) lE) (fc.strs (l:=[aan]) hB)).mono ?_;rintro e w3 ⟨rfl,nd,rfl⟩;have F:Hid (Below w2 w2 ((w2.alloc (cB 9 [.string ⟨#[100,105,115,116,97,110,99,101,115]⟩])).drewN nd)):=zH (below_drewN (jX bF _) nd);generalize aE:(w2.alloc (cB 9 [.string ⟨#[100,105,115,116,97,110,99,101,115]⟩])).drewN nd=w3 at F;obtain⟨z,V⟩:=Zb (aa.below F) (al.below F);clear HV hB aE;by_cases O:(fV st).1=[aan];rotate_left
 ·have U:Hid (sB st=none):=zH (by rw[G.out,if_neg O]);rw[decide_eq_false O];clear O;go_wp2_with fail;go_ret;rw[U.out];exact⟨rfl,z.from_,fun j h=>by cases h⟩
 ·have HD:Hid (sB st=xq (n+1) (fV st).2):=zH (by rw[G.out,if_pos O]);have aB:(fV st).2.rest.length+1=st.rest.length:=xZ (by rw[O];simp);have M:(fV st).2.count=n:=by rw[(tE st).2.1,HN.out]
  have ak:(fV st).2.x.gn=[]:=by rw[(tE st).1,H0.out]
  rw[decide_eq_true O];clear O G;obtain⟨aG,D⟩:=nE ((fV st).2);rw[<-D] at HD z aB M ak;clear D aa;obtain⟨kk,cv,dv,-,-,k,-⟩:=z.out;have c8:=k.c 8;rw[M] at c8;have e1:IntKind.i64.wrap ((n:Int)+1)=(n:Int)+1:=iM _ oG;clear k;go_wp2_with fail;clear c8;go_loopw [15] (fun iv wr=> ∃(i:Nat) (s:Rd),i<=n+1/\iv=.int .i64 i/\Hid (qq E R T L wr s)/\Hid (sB st=xq (n+1-i) s)/\s.x.gn.length=i/\i+s.rest.length<=st.rest/\s.count=n/\Hid (kz R w wr)) (fun iv _=>n+1-(intOf iv).toNat)
  case atStart=>exact⟨0,aG,eC _,rfl,z,HD,by rw[ak];rfl,oG,M,V⟩
  case round=>
   obtain⟨i,s,hi,rfl,y,HR,N,aP,P,Y⟩:=hrel;by_cases aw:i<n+1
   ·go_wp2_with fail;refine(uv E R T L s _ t.lines t.low y t.Ik).mono ?_;rintro e w4 ⟨v4,rfl,aj,B,-,C⟩;obtain⟨an,W,H,aq⟩:=Zd B (Y.trans C) (y.x8 t) (kX.below aj B.from_ t.low);have I:Hid (sB st=(Gw s).bind (xq (n+1-(i+1)))):=zH (by rw[HR.out,show n+1-i=(n+1-(i+1))+1 by omega];rfl);have aQ:=B.lt;clear C B aj;go_wp2_with fail;refine(uN (fV s).1 v4 _ H.1 H.2 aq).mono ?_;rintro e w5 ⟨u,rfl,hu,af⟩;obtain⟨o,X⟩:=Zb (an.below af) (W.below af);have aR:=o.lt;cases a:(fV s).1.all isNum with
    |false=>
     have U:Hid (sB st=none):=zH (by rw[I.out];unfold Gw;rw[a];rfl);clear hu a;go_wp2_with fail;go_ret;rw[U.out];exact⟨rfl,o.from_,fun j h=>by cases h⟩
    |true=>
     have m:=zH a;have aD:=Of a;have S:=kZ (base':=R+1) hu (show R+1<=w4.heap.size by omega);obtain⟨A,c,rfl,au,aJ,-⟩:=RS.jh S;have HU:=zH S;have aM:=H.1;simp only[aD] at au|-
     have c8:w5.cell? (pA R 8)=some n:=by obtain⟨kk,cv,dv,-,-,k,-⟩:=o.out;have c8:=k.c 8;rw[(tE s).2.1,P] at c8;exact c8
     clear hu S a;by_cases d:(fV s).1.length=n+1;rotate_left
     ·have U:Hid (sB st=none):=zH (by rw[I.out];unfold Gw;rw[m.out,P,decide_eq_false oG];rfl);have az:(((fV s).1.length:Int) !=(n:Int)+1)=true:=by rw[bne_iff_ne];omega
      clear d;go_wp2_with fail;go_ret;rw[U.out];exact⟨rfl,o.from_,fun j h=>by cases h⟩
     ·have az:(((fV s).1.length:Int) !=(n:Int)+1)=false:=by rw[bne_eq_false_iff_eq];omega
      have K:Gw s=some {(fV s).2 with x:=⟨s.x.days,s.x.mm,s.x.cap,s.x.len,s.x.eB,s.x.gn++[(fV s).1.map nI]⟩}:=by unfold Gw;rw[m.out,P,decide_eq_true oG];rfl
      have aC:=xZ (st:=s) (by intro e;rw[e] at d;simp at d);obtain⟨x1,x2,x3⟩:=tE s;rw[<-x1] at K N;have Z:=zH K;have ao:Hid (w5.ownsRow (R+1) 3 1 (.slice A (fV s).1.length c) ((fV s).1.map nI).length (((fV s).1.map nI).map (Value.int .i64))):=zH (by have:=HU.out;rw[RJ m.out] at this;simpa using this);obtain⟨kk,cv,dv,q1,q2,k,q4,⟨aT,r1,r2⟩,q6⟩:=o.out;obtain⟨b,f⟩:=nE ((fV s).2);rw[<-f] at Z q2 k q4 r1 r2 N aC x2;have ar:b.x.gn.length<=1000000000:=oG;have q:R+1<=w5.heap.size:=oG;have c7:=k.c 7;have f7:=k.frozen 7;obtain⟨Q,aF⟩:=Zb (And.intro q1 (And.intro q2 (And.intro k (And.intro q4 (And.intro r2 q6))))) k;clear f K q1 q2 k q4 r2 q6 d aw;go_wp2_with (at_builtin;refine iD _ rfl (.tmp 40) (.tmp 42) 23 rfl (R+1) 26 _ 1 24 underlying23 WD rfl dE dE _ _ _ r1 rfl [.slice A (fV s).1.length c] _ rfl rfl rfl ar q ?_;intro g cap w6 aA aK aL r aS;have ag:=r.below q;have J:=aF.below ag lS;have e7:w6.cell? (pA R 7)=some dv:=J.cell 7;have aI:w6.frozen? (pA R 7)=false:=J.frozen 7);go_roundw
      case rel=>
       subst N;obtain⟨q1,q2,k,q4,r2,q6⟩:=Q.out;have ah:Below R E (w6.setCell (pA R 7) (.slice g (b.x.gn+1) cap)):=(q6.trans (ag.mono (iW R))).setCell (p:=pA R 7) lE _;have ae:=J.gH 7 (.slice g (b.x.gn+1) cap);simp only[fI,fJ] at ae;refine⟨b.x.gn.length+1,{b with x:=⟨b.x.days,b.x.mm,b.x.cap,b.x.len,b.x.eB,b.x.gn++[(fV s).1.map nI]⟩},oG,by go_num,zH ⟨kk,cv,.slice g (b.x.gn.length+1) cap,q1,q2,ae,?_,?_,ah⟩,zH (by rw[I.out,Z.out];rfl),by simp,by show b.x.gn.length+1+b.rest.length<=st.rest.length;omega,by show b.count=n;omega,((X.keep r dE).set 7 _)⟩
       ·exact iJ.fG (p:=pA R 7) (iJ.keep q4 r dE dE) lS _
       ·exact(OwnRows.push rfl (by have:=r1.1;simpa using this) aA (fun i x qv hx hq=>r.own (r2 i x qv hx hq) dE) (r.own ao dE)).fG (p:=pA R 7) lS _
      case measure=>exact mI
   ·obtain rfl:i=n+1:=oG;go_wp2_with fail;go_ret;have hR:=HR.out;rw[pG] at hR;rw[hR];exact⟨rfl,y.from_,fun j h=>by obtain rfl:=fg h;exact⟨y,Y⟩⟩
end
section
open Go.Proofs.Tryz
open Go.RowKit ue jm uf
theorem Rc{p:Prop}(h:p:=by
 go_wp2_with fail;rw[r.out,o.out.1]
 simp only[o.out.2,if_true];refine bodyPost_ret (qz rfl _ _ w 25 [Zo,Zo,Zo,Zo,(),()] _ (.int .i64 3) rfl rfl ?hW underlying25 rfl Ge) rfl ⟨_,rfl,?_,?_⟩
 case hW=>exact a.Sa
 ·exact ph.zero _ _ _ _ _ _
 ·exact so (kB I H) lE):p:=h
variable {L:List kW} {l:kW}
def CU (b:UInt8): ∀(a:kW) (x:Word),x∈a->x.length<=(jw b a).length
 | [],x,h=>by cases h
 | [w],x,h=>by
  obtain rfl:x=w:=by simpa using h
  exact ij _
 |w::v::t,x,h=>by
  rw[jw,fa,ff]
  rcases fC.1 h with h|h
  ·subst h;omega
  ·have:=CU b (v::t) x h;omega
def BK (h:l∈L):(kx l).length<=(L.flatMap kx).length:=by
 induction L with
 |nil=>cases h
 |cons a L ih=>
  rw[gG,fa]
  rcases fC.1 h with h|h
  ·subst h;omega
  ·have:=ih h;omega
def KT {t:List UInt8} (h:nH t=some L) (Z:l∈L) {x:Word} (O:x∈l):x.length<=t.length:=by have X:=(Bm h).1;have z:=BK Z;have h3:=CU 32 l x O;rw[X] at z;unfold kx at z;simp at z;omega
def I4:Nat->FuncId
 |0=>72
 |1=>73
 |2=>74
 |3=>75
 |4=>76
 |_=>77
def I5 (R i:Nat):Value:=.func (.func (I4 i)) #[.pointer R] #[]
def qz {P:Program} {W:Func} {p q:Tmp} {a:TypeId} (h:W.results= #[.cell p a,.tmp q]) (tmps:Array Value) (w:World) (g:Nat) (t:TypeId) (V:List Value) (d:TypeDesc) (u:Value)
  (C:tmps.getD p undef=.pointer g) (i:tmps.getD q undef=u) (f:fc w g t V)
  (j:P.underlying a=some d) (e:(match d with| .struct _| .array _ _=>true|_=>false)=true) (Y:(P.info? a).map (·.size)=some V):
  (results W tmps).run P w=.ok (.tuple #[.agg V.toArray,u]) w:=by
 have b:tmps[p]?.getD undef=.pointer g:=by simpa using C
 have c:tmps[q]?.getD undef=u:=by simpa using i
 simp[results,h,b,c,asAddr,run_loadVar_row w g t a V.toArray (0,0) d f j e (by simpa using Y)]
def Ge:(prog.info? 25).map (·.size)=some 6:=kR
def ph.zero (lb:Nat) (a c d b:TypeId) (w:World):ph lb a c d b w (.agg #[Zo,Zo,Zo,Zo,(),()]) qV:=
 ⟨_,_,rfl,iJ.none_ _ _ _ _,OwnRows.none_ _ _ _ _⟩
def RU (a:World) (R:Nat) (b:Value) (L:List kW) (i:Nat) (s:Rd) (w:World) (c:Tj a R b L) (Y:i<6) (k:tJ L i=some s) (d:qq a R b L w s):
  Calls prog (I4 i) #[.pointer R] w fun e w'=>e=.returned (.bool (uf.part i s).isSome)/\Below R a w'/\ ∀l,uf.part i s=some l->qq a R b L w' l/\kz R w w':=by
 obtain⟨f,g,j⟩:=DD L i oG k
 match i,Y,g,j with
 |0,_,_,_=>exact Pd a R b L s w c.lines c.low d c.Ik
 |1,_,_,_=>exact KR a R b L s w c d
 |2,_,_,_=>exact TO a R b L s w c d
 |3,_,g,_=>exact D8 a R b L s w c d (g oG) f.lo f.hi
 |4,_,_,j=>exact Qn a R b L s w c d (j oG) f.lo f.hi
 |5,_,_,_=>
  refine(TG a R b L s w c.lines d).mono fun e w' ⟨q1,q2,q3⟩=>?_;have:(Ij s).isSome=decide (s.rest=[]):=by unfold Ij;split <;>simp_all
  rw[show uf.part 5 s=Ij s from rfl,this];refine⟨q1,q2.from_,fun l h=>?_⟩;unfold Ij at h;split at h
  ·obtain rfl:=fg h;exact⟨q2,q3⟩
  ·cases h
 |n+6,Y,_,_=>omega
def Lv (s:ByteArray) (m:Int) (w:World) (aa:s.size<=1000000) (Z: ∀l∈uK s.data.toList,l.length<=1000) (p:w.cell? (pB 0)=some m):
  Calls prog 49 #[.string s] w fun e w'=> ∃v,e=.returned (.tuple #[v,(kU s.data.toList).2])/\ph w 47 80 26 3 w' v (kU s.data.toList).1/\Below w w w':=by
 have q:=zH (a7 (jX (bS w w) (cB 25 [Zo,Zo,Zo,Zo,(),()])) lE p);cases c:nH s.data.toList with
 |none=>
  have y:=zH (vN c).2;rw[Lw c];clear c Z p;go_enter func49,ntmps49;go_wp2_with fail;refine(E3 s m _ aa q).mono ?_;rintro e b ⟨v,rfl,N,g⟩;rw[y.out];have f:=(fc.new w 25 [Zo,Zo,Zo,Zo,(),()]).below g sI;have I:Below w w b:=kB (jX (bS w w) _) g;obtain⟨E,y1,y2,y3,y4,y5⟩:=f.jI;obtain⟨e0,e1,e2,e3,e4,e5⟩:=f.Im;clear N g q;go_wp2_with fail;refine bodyPost_ret (qz rfl _ _ w 25 [Zo,Zo,Zo,Zo,(),()] _ (.int .i64 2) rfl rfl ?hW underlying25 rfl Ge) rfl ⟨_,rfl,?_,?_⟩
  case hW=>exact f.Sa
  ·exact ph.zero _ _ _ _ _ _
  ·exact so I lE
 |some L=>
  have y:=zH (tB c).2;have R:=zH (tB c).1;have ak:s.data.toList.length=s.size:=kC s;have an:L.length<=1000000:=by have:=KS c;omega
  have aj:Hid (∀l∈L,l.length<=1000/\ ∀x∈l,x.length<=1000000):=zH fun l O=>⟨Z l (by rw[R.out];exact O),fun x au=>by have:=KT c O au;omega⟩;have al:Hid (∀l∈L,∀x∈l,isWord x=true):=zH fun l O=>((Bm c).2 l O).2;have r:Hid (kU s.data.toList=match vk L with|none=>(qV,2)|some st=>if st.odd|| !may st.x then(qV,3) else(st.x,0)):=zH (by unfold kU;rw[c];rfl);clear c Z p ak;have aw: ∀(W:Fn) (first cap:Array Value) (w:World),(Instr.makeFunc W first cap).run prog w=.ok (.func W first cap) w:=fun _ _ _ _=>rfl;go_enter func49,ntmps49;go_wp2_with fail;refine(E3 s m _ aa q).mono ?_;rintro e b ⟨v,rfl,N,g⟩;rw[y.out];rw[R.out] at N;obtain⟨G,J,rfl,-⟩:=tV.open_ (sj.reads N);have HR:=zH (sj.reads N);have f:=(fc.new w 25 [Zo,Zo,Zo,Zo,(),()]).below g sI;have I:Below w w b:=kB (jX (bS w w) _) g;have F:=f.lt;have HC:Hid (Tj b b (.slice G L J) L):=zH ⟨HR,lE,an,aj,al⟩;have ai:Hid (qq b b (.slice G L J) L (b.alloc (cB 132 [.slice G L J,Zo,Zo,Zo,Zo,Zo,(),(),Zo,false])) ⟨L,qV,0,false⟩):=zH
   ⟨0,(),(),eC _,rfl,fc.new _ _ _,iJ.none_ _ _ _ _,OwnRows.none_ _ _ _ _,jX bF _⟩
  clear N g q;go_wp2_with fail;go_loopw [34] (fun iv wr=> ∃(i:Nat) (st:Rd),i<=6/\iv=.int .i64 i/\Hid (qq b b (.slice G L J) L wr st)/\Hid (tJ L i=some st)/\Hid (wr.heap[b.heap.size+1]? =some (.cells ((List.range 6).map (I5 b)).toArray 36 (0,0)))) (fun iv _=>6-(intOf iv).toNat)
  case atStart=>refine⟨0,_,eC _,rfl,(ai.below (jX bF _)),rfl,zH ?_⟩;have:=(fc.new (b.alloc (cB 132 [.slice G L J,Zo,Zo,Zo,Zo,Zo,(),(),Zo,false])) 36 ((List.range 6).map (I5 b)));simp only[lz] at this;exact this
  case round=>
   obtain⟨i,st,Y,rfl,t,k,Q⟩:=hrel;have A:fc wr (b+1) 36 ((List.range 6).map (I5 b)):=Q.out;by_cases B:i<6
   ·have E:wr.cell? (pA (b+1) i)=some (I5 b i):=by rw[A.cell,fh,oH B];rfl
    unfold I5 at E;clear A;have j:=RU b b (.slice G L J) L i st _ HC B k t
    rcases (show i=0\/i=1\/i=2\/i=3\/i=4\/i=5 by omega) with h|h|h|h|h|h
    all_goals
     rw[show I4 i=_ from congrArg I4 h] at E j;dsimp only[I4] at E j;have j:=zH j;clear h;go_wp2_with fail;refine j.mono ?_;rintro e w5 ⟨rfl,u,D⟩;have ae:=zH u;cases C:uf.part i st with
     |none=>
      have o:Hid (vk L=none):=zH (LW L k C B);have a:=f.below u F;obtain⟨E,y1,y2,y3,y4,y5⟩:=a.jI;obtain⟨e0,e1,e2,e3,e4,e5⟩:=a.Im;clear D u C;go_wp2_with fail;rw[r.out,o.out];refine bodyPost_ret (qz rfl _ _ w 25 [Zo,Zo,Zo,Zo,(),()] _ (.int .i64 2) rfl rfl ?hW underlying25 rfl Ge) rfl ⟨_,rfl,?_,?_⟩
      case hW=>exact a.Sa
      ·exact ph.zero _ _ _ _ _ _
      ·exact so (kB I ae) lE
     |some st'=>
      obtain⟨r1,r2⟩:=D st' C;obtain⟨ag,ah,HP⟩:=Zc r1 r2 C;clear D u C r1 r2;go_wp2_with fail;go_roundw
      case rel=>exact⟨i+1,st',oG,by go_num,ag,zH (show(tJ L i).bind (uf.part i)=some st' by rw[k.out];exact HP),(ah _ _ oG (fun V e fr h=>by cases h;rfl) Q)⟩
      case measure=>exact mI
   ·obtain rfl:i=6:=oG;have d:vk L=some st:=by rw[<-DE];exact k
    obtain⟨ok,-,-⟩:=DD L 6 lE k;have ar:=ok.wf;have ao:st.x.eB.length<=1000000:=by have:=ok.len;omega
    obtain⟨kk,K,dv,q1,q2,q3,q4,q5,q6⟩:=t.out;have S:Hid (ph (b+1) 47 80 26 3 wr (.agg #[st.x.days,st.x.mm,st.x.cap,st.x.len,K,dv]) st.x):=zH ⟨K,dv,rfl,q4,q5⟩;obtain⟨ax,-,oc,-⟩:=q4;obtain⟨ay,od,-⟩:=q5;obtain⟨Ac,cc,rfl,-⟩:=RS.jh oc;obtain⟨Ad,cd,rfl,-⟩:=RS.jh od;obtain⟨af,P⟩:=Zb q3 q6;obtain⟨c0,c1,c2,c3,c4,c5,c6,c7,c8,c9⟩:=q3.wu;clear q1 q2 q3 q6 oc od A;cases M:st.odd with
    |true=>
     have o:Hid (vk L=some st/\(st.odd|| !may st.x)=true):=zH ⟨d,by rw[M];rfl⟩;have H:=P;have a:=f.below H F;obtain⟨E,y1,y2,y3,y4,y5⟩:=a.jI;obtain⟨e0,e1,e2,e3,e4,e5⟩:=a.Im;rw[M] at c9;clear d M;exact Rc
    |false=>
     rw[M] at c9;obtain⟨HO,U⟩:=Zb M d;clear d M;go_wp2_with fail;refine(MR _ st.x _ S.reads ar ao).mono ?_;rintro e w6 ⟨rfl,n⟩;have H:Hid (Below b b w6):=zH (P.trans (n.mono (pF t.lt)));have a:=f.below H F;obtain⟨E,y1,y2,y3,y4,y5⟩:=a.jI;obtain⟨e0,e1,e2,e3,e4,e5⟩:=a.Im;have aq:=af.below n t.lt;obtain⟨d0,d1,d2,d3,d4,d5,d6,d7,d8,d9⟩:=aq.wu;have T:Hid (ph (b+1) 47 80 26 3 w6 (.agg #[st.x.days,st.x.mm,st.x.cap,st.x.len,.slice Ac st.x.eB cc,.slice Ad st.x.gn cd]) st.x):=zH (by obtain⟨K,dv,X,z,h3⟩:=S.out;exact⟨K,dv,X,z.below n lE,h3.below n lE⟩);clear c0 c1 c2 c3 c4 c5 c6 c7 c8 c9 n;cases p:may st.x with
     |false=>
      rw[AD p];have o:Hid (vk L=some st/\(st.odd|| !may st.x)=true):=zH ⟨U,by rw[p,HO.out];rfl⟩;clear p;exact Rc
     |true=>
      rw[Rx p];have o:Hid (vk L=some st/\(st.odd|| !may st.x)=false):=zH ⟨U,by rw[p,HO.out];rfl⟩;clear p;go_wp2_with fail;rw[r.out,o.out.1];simp only[o.out.2];refine bodyPost_ret (qz rfl _ _ w 25 [st.x.days,st.x.mm,st.x.cap,st.x.len,.slice Ac st.x.eB cc,.slice Ad st.x.gn cd] _ Zo rfl rfl ?hW underlying25 rfl Ge) rfl ⟨_,rfl,?_,?_⟩
      case hW=>exact a.Sa
      ·obtain⟨K,dv,X,z,h3⟩:=T.out;exact⟨K,dv,X,(z.QT oG).mono oG,(h3.QT oG).mono oG⟩
      ·exact so (kB I H) lE
end
end Go.Proofs.YtgimnjldndkalaaGreatDoor
