/- Of the proof of TopGreat: What it saves to go straight;. -/
import Derived.Test.YtgimnjldndkalaaGreatDoorF33
import Derived.Test.YtgimnjldndkalaaGreatDoorF48
set_option linter.all false
set_option maxHeartbeats 3200000
set_option maxRecDepth 100000
namespace Go.Proofs.YtgimnjldndkalaaGreatDoor
variable {bud:Int} {f:Int->Option Int} {B bb c1 c2 ib lb mb n p rb xb:Nat} {D O:Nat->Prop} {A1 A2:Option Addr} {lv v:Value} {W w w' w0:World}
section
open Go.Proofs.Tryz
open Go.RowKit Go.Shelf jm ko kN P15
def VQ (x:fS) (a b:Int):Int:=IntKind.i64.wrap (IntKind.i64.wrap (sm x.gn (IntKind.i64.wrap (a+1)) 0+sm x.gn 0 (IntKind.i64.wrap (b+1)))-sm x.gn (IntKind.i64.wrap (a+1)) (IntKind.i64.wrap (b+1)))
def Jp (x:fS) (A1:Option Addr) (c1:Nat) (A2:Option Addr) (c2:Nat) (a b:Int) (w:World) (k:iz w (.agg (xC x A1 c1 A2 c2).toArray) x):
  Calls prog 350 #[.agg (xC x A1 c1 A2 c2).toArray,a,b] w fun e w'=>e=.returned (VQ x a b)/\Below w w w':=by
 have g:=zH k;clear k;go_enter func350,ntmps350;have d:=fc.new w 25 (xC x A1 c1 A2 c2);have c:=bL (bS w w) (cB 25 (xC x A1 c1 A2 c2));go_upto_region 1 with fail
 revert d c;show∀(d:fc (w.alloc (cB 25 (xC x A1 c1 A2 c2))) _ _ _),_;generalize w.alloc (cB 25 (xC x A1 c1 A2 c2))=w1;intro d c;have r:=d.lt;obtain⟨l,m,n,o,p,q,-⟩:=d.iY;refine rB [] fun hS=>?_;refine kL [0,1,2,4,5,6,9,10,11,12,13] ?_;refine tO 3 fun K f=>?_;go_simp;refine(pk _ x _ _ _ (g.below (c.trans (hS.mono c.size)) lE)).mono ?_;rintro e s ⟨rfl,h⟩;have hS:=hS.trans (h.mono hS.size);refine f _ _ (hS) ?_;refine tO 7 fun K f=>?_;go_simp;refine(pk _ x _ _ _ (g.below (c.trans (hS.mono c.size)) lE)).mono ?_;rintro e t ⟨rfl,i⟩;have hS:=hS.trans (i.mono hS.size);refine f _ _ (hS) ?_;refine kL [8] ?_;refine tO 14 fun K f=>?_;go_simp;refine(pk _ x _ _ _ (g.below (c.trans (hS.mono c.size)) lE)).mono ?_;rintro e u ⟨rfl,j⟩;have hS:=hS.trans (j.mono hS.size);refine f _ _ (hS) ?_;refine kL [15,16] ?_;refine tD ?_;go_wp2_with fail;go_ret;exact⟨rfl,c.trans (hS.mono c.size)⟩
end
section
open Go.Proofs.Tryz
open Go.RowKit Go.Shelf jm ko kN P15
abbrev Pr:=Int×Int×Int
def MV (p:Pr):List Value:=[p.1,p.2.1,p.2.2]
abbrev Hg:World->List Value->Pr->Prop:=fun _ cs p=>cs=MV p
def OP (lb:Nat) (w:World) (v:Value) (l:List Pr):Prop:=w.ownsRow lb 372 3 v l (l.flatMap MV)
def Ul:(prog.info? 372).map (fun i=>(i.zero,i.size,i.bytes))=some (some (.agg #[Zo,Zo,Zo]),3,24):=kR
section
variable {lb' base:Nat} {e':TypeId} {l:List Pr}
def OP.jL (lb:Nat) (w:World):OP lb w () []:=gL _ _ _ _
def OP.below (h:OP lb w v l) (g:Below B w w') (a:w.heap.size<=B):OP lb w' v l:=jq h g a
def OP.mono (h:OP lb w v l) (a:lb'<=lb):OP lb' w v l:=kZ h a
def OP.keep (h:OP lb w v l) (b:kQ e' base w w') (a:372≠e'):OP lb w' v l:=b.own h a
def OP.alloc (h:OP lb w v l) (o:Obj):OP lb (w.alloc o) v l:=He h o
def OP.ol (h:OP lb w v l):OL lb 372 3 Hg w v l:=
 ⟨l.map MV,by simp,fun e b=>by obtain⟨x,_,rfl⟩:=cy.1 b;rfl,by rw[<-zG];exact h,fun i x e p a=>by rw[fh,p] at a;exact(by simpa using a:MV x=e).symm⟩
def OP.reads (h:OP lb w v l):RL 3 Hg w v l:=OL.reads h.ol fun _ _ h=>h
def OP.slice (h:OP lb w v l): ∃A c,v=.slice A l c/\l.length<=c/\c<=9223372036854775807:=by obtain⟨A,c,j,d,f,-⟩:=RS.jh h;exact⟨A,c,j,d,by simpa[maxLen] using f⟩
def FO.open_ (h:RL 3 Hg w v l): ∃A c,v=.slice A l c/\l.length<=c/\c<=9223372036854775807/\
  ∀i p,l[i]? =some p-> ∃b o,A=some ⟨b,o,none⟩/\b<w.heap.size/\w.cell? (pA b (o+i*3))=some p.1/\w.cell? (pA b (o+i*3+1))=some p.2.1/\w.cell? (pA b (o+i*3+2))=some p.2.2:=by
 obtain⟨A,c,j,d,f,k⟩:=RL.open_ h;refine⟨A,c,j,d,f,fun i s n=>?_⟩;obtain⟨b,o,m,g,e,_,rfl,a⟩:=k i s n;exact⟨b,o,m,g,a 0 _ rfl,a 1 _ rfl,a 2 _ rfl⟩
end
def Hm {f:Array Oper} {rest:List Oper} {o:Oper} {a:Act} {Q:Exit->Act->World->Prop} (w:World) (m:o.guard=none) (s x:Operand) (A:o.op=.call {callee:=.builtin .append,args:= #[s,x],argTypes:= #[409,409]})
  (base:Nat) (v:Value) (l:List Pr) (e:OP base w v l) (n:a.eval s=v) (z i j:Int) {c q:Nat} (p:a.eval x=.slice q 1 c) (k:q=w) (y:l.length<=1000000000) (b:base<=w)
  (h: ∀g cap w',OP base w' (.slice (pB g) (l+1) cap) (l++[(z,i,j)])->kQ 372 base w w'->(w.alloc (cB 372 [Value.int .i64 z,i,j])).grownBy w' v.ownBlock->
   wpList prog f Q rest (a.put o.dst (.slice g (l+1) cap)) w'):wpList prog f Q (o::rest) a (w.alloc (cB 372 [Value.int .i64 z,i,j])):=
 wpList_plain m fun _ u=>vX w s x 409 A base 372 _ 3 24 underlying409 Ul rfl dE dE v l.length _ e n [z,i,j] _ (by rw[p,k]) rfl rfl y b
  fun g cap w' d _ _ r t=>u _ _ (h g cap w' (by unfold OP;rw[fa,fU];exact d) r t)
def lA (a:Int) (l:List Int) (L:List Pr):Prop:=L.length<=l/\ ∀p∈L,p.1=a/\p.2.1∈l
def lA.push {a z s:Int} {l:List Int} {L:List Pr} {i:Nat} (h:lA a l L) (d:L.length<=i) (e:i<l) (c:z∈l):lA a l (L++[(a,z,s)]):=by
 refine⟨by simp;omega,fun p b=>?_⟩
 rcases fO.1 b with b|b
 ·exact h.2 p b
 ·obtain rfl:=nw.1 b;exact⟨rfl,c⟩
inductive Tk (a:Int) (l:List Int) (w:World) (e:Ending) (w':World):Prop
 |mk (v:Value) (L:List Pr) (he:e=.returned v) (hL:lA a l L) (ho:OP w w' v L) (hb:Below w w w')
def Ot (x:fS) (A1:Option Addr) (c1:Nat) (A2:Option Addr) (c2:Nat) (lv:Value) (l:List Int) (a:Int) (w:World) (hx:iz w (.agg (xC x A1 c1 A2 c2).toArray) x) (hl:gx w .i64 lv l) (hn:l.length<=1000000):
  Calls prog 332 #[.agg (xC x A1 c1 A2 c2).toArray,lv,a] w (Tk a l w):=by
 obtain⟨A,c,rfl,h1,h2,hc⟩:=gx.open_ hl;obtain⟨HX,HC⟩:=Zb hx hc;clear hx hl hc;go_enter func332,ntmps332;go_wp2_with fail;go_loopw [7,8,17] (fun pv nv iv wr=> ∃(i:Nat) (L:List Pr) (N:List Int),i<=l/\iv=.int .i64 i/\Hid (lA a l L)/\L.length<=i/\N.length=L/\Hid (OP (w+1) wr pv L)/\Hid (OI (w+1) wr nv N)/\fc wr w 25 (xC x A1 c1 A2 c2)/\Below w w wr/\w.heap.size+1<=wr) (fun _ _ iv _=>l.length-(intOf iv).toNat)
 case atStart=>exact⟨0,[],[],eC _,rfl,zH ⟨eC _,fun _ h=>by cases h⟩,lE,rfl,(OP.jL _ _),(OI.jL _ _),fc.new w _ _,bL bF _,by simp⟩
 case round=>
  obtain⟨i,L,N,hi,rfl,hR,hL,hN,hP,hI,bx,hb,hz⟩:=hrel;obtain⟨Ap,cp,rfl,-⟩:=hP.slice;obtain⟨An,cn,hnv,-⟩:=hI.slice;rw[hN] at hnv;subst hnv;by_cases hlt:i<l
  ·obtain⟨z,hz0⟩:=ec hlt;obtain⟨b,o,rfl,hbl,y0⟩:=HC i _ hz0;replace y0:=a7 hb lE y0;obtain⟨d0,d1,d2,d3,d4,d5,-⟩:=bx.iY;have lx:=bx.lt;have hmem:z∈l:=a8 hz0;clear hz0;by_cases hza:z=a
   ·subst hza;go_wp2_with fail;exact⟨⟨i+1,L,N,hlt,rfl,hR,oG,hN,hP,hI,bx,hb,hz⟩,by simp[intOf];omega⟩
   ·go_wp2_with fail;refine(Jp x A1 c1 A2 c2 a z _ (HX.below hb lE)).mono ?_;rintro e w2 ⟨rfl,hb2⟩;obtain⟨hP2,hI2⟩:=Zb (hP.below hb2 lE) (hI.below hb2 lE);have bx2:=bx.below hb2 lx;have hbb:=hb.trans (hb2.mono hb.size);have hz2:w.heap.size+1<=w2.heap.size:=eZ hz hb2.size;clear hP hI d0 d1 d2 d3 d4 d5 bx hb y0;generalize VQ x a z=s;have bv2:=(fc.new w2 372 [a,z,s]).alloc (cB 372 [Value.int .i64 a,z,s]);have hLb:L.length<=1000000000:=oG;have hNb:N.length<=1000000000:=oG;have hne:=fun g (h:Value.ownBlock (.slice Ap L cp)=some g)=>(iB hP2 g h).2;go_upto_region 9 with (at_builtin;refine Hm _ rfl (.tmp 31) (.tmp 33) rfl (w+1) _ L (hP2.alloc _) rfl a z s rfl sI hLb sO ?_;intro g cap w5 ho5 hk5 hg5;have bv5:=bv2.grown hg5 (fun h=>absurd (hne _ h.symm) (FH _));obtain⟨v0,v1,v2,-⟩:=bv5.iY)
    have hI5:=zH ((hI2.alloc (cB 372 [Value.int .i64 a,z,s])).keep hk5 dE);have bx5:=hk5.ig (bx2.alloc (cB 372 [Value.int .i64 a,z,s])) dE;have hb5:=(bL hbb _).trans ((hk5.below sO).mono (iW _));have hz5:=hk5.size;have hz6:w.heap.size+1<=w5.heap.size:=by simp at hz5;omega
    clear hP2 hI2 hk5 hg5 bv2 bx2 hne;go_wp2_with (at_builtin;refine qu _ rfl (.tmp 35) (.tmp 39) rfl (w+1) _ N hI5 rfl _ rfl sI hNb hz6 ?_;intro g2 cap2 w6 ho6 _ _ hk6 hz7);rw[hN] at ho6;go_roundw
    case rel=>exact⟨i+1,_,_,hlt,rfl,(hR.push hL hlt hmem),by simp;omega,by simp;omega,(ho5.keep hk6 dE),ho6,hk6.ig bx5 dE,hb5.trans ((hk6.below hz6).mono (iW _)),eZ hz6 hk6.size⟩
    case measure=>exact mI
  ·obtain rfl:i=l.length:=oG;go_wp2_with fail;refine(LU _ N _ hI.reads oG).mono ?_;rintro e w2 ⟨ov,O,rfl,hO,hOl,hOm,hb2⟩;have hP2:=zH (hP.below hb2 lE);have hbb:=hb.trans (hb2.mono hb.size);obtain⟨HM,hOl2⟩:=Zb hOm hOl;obtain⟨Ap',cp',hv,-,-,hcp⟩:=FO.open_ hP2.reads;cases hv;obtain⟨Ao,co,rfl,-,-,hco⟩:=gx.open_ hO.reads;obtain⟨HCP,HCO⟩:=Zb hcp hco;have hLO:O.length<=l.length:=oG;rw[hN] at hOl HM;have hww:=hbb.size;clear hP hI hOm hcp hco hO hb2 hb hz bx hP2;go_wp2_with fail;go_loopw [12,45] (fun pv iv wq=> ∃(i:Nat) (M:List Pr),i<=O/\iv=.int .i64 i/\M.length<=i/\Hid (lA a l M)/\Hid (OP w2 wq pv M)/\Below w2 w2 wq) (fun _ iv _=>O.length-(intOf iv).toNat)
   case atStart=>exact⟨0,[],eC _,rfl,lE,zH ⟨eC _,fun _ h=>by cases h⟩,(OP.jL _ _),bS _ _⟩
   case round=>
    obtain⟨i,M,hi,rfl,hM,hRM,hPM,hbq⟩:=hrel;obtain⟨Am,cm,rfl,-⟩:=hPM.slice;by_cases hlt:i<O
    ·obtain⟨z,hz0⟩:=ec hlt;obtain⟨b,o,rfl,hbl,y0⟩:=HCO i _ hz0;replace y0:=a7 hbq lE y0;have hzr:=HM z (a8 hz0);obtain⟨k,rfl⟩:=fw hzr.1;have hkl:k<L.length:=by have:=hzr.2;omega
     have hkl':(k:Int)<L.length:=oG;obtain⟨⟨p1,p2,p3⟩,hp⟩:=ec hkl;obtain⟨b2,o2,rfl,hbl2,q0,q1,q2⟩:=HCP k _ hp;replace q0:=a7 hbq lE q0;replace q1:=a7 hbq lE q1;replace q2:=a7 hbq lE q2;obtain⟨rfl,hp2⟩:=hR.2 _ (a8 hp);have hMb:M.length<=1000000000:=oG;have hsz:=hbq.size;clear hz0 hp hzr;go_wp2_with (at_builtin;refine Hm _ rfl (.tmp 49) (.tmp 54) rfl w2 _ M hPM rfl _ p2 p3 rfl rfl hMb hsz ?_;intro g cap w5 ho5 hk5 hg5);go_roundw
     case rel=>exact⟨i+1,_,hlt,rfl,by simp;omega,(hRM.push hM oG hp2),ho5,hbq.trans (hk5.below hsz)⟩
     case measure=>exact mI
    ·obtain rfl:i=O.length:=oG;go_wp2_with fail;go_ret;exact⟨_,M,rfl,hRM,hPM.mono hww,hbb.trans (hbq.mono hww)⟩
end
section
open Go.Proofs.Tryz
open Go.RowKit jm ko kN
def NX (n:Nat) (w:World) (o:n<=1000000):
  Calls prog 355 #[(),n] w fun e w'=> ∃A,e=.returned A/\OS w w' A []/\Below w w w':=by
 by_cases v:n=0
 ·subst v;go_enter func355,ntmps355;go_wp2_with fail;go_ret;exact⟨_,rfl,OS.jL _ _,bS _ _⟩
 ·obtain⟨z,h,i,l,j⟩:=info_parts nU;have b:=fun B=>Lib.run_append_nil_zeros w 42 3 B 84 z _ .i64 .i64 underlying42 underlying3 h i n oG (by rw[l];omega) oG (by rw[j];omega);obtain⟨G,m⟩:=nE (grownCap w n 0 84);have x:n<=G:=m▸grownCap_ge w n 0 84;have t:G<=9223372036854775807:=m▸grownCap_le_maxLen w n 0 84 (by unfold maxLen;omega);rw[<-m] at b;have f: ∀k,(Builtin.zeroCells (Value.agg #[Zo,Zo]).cells k).size=k*2:=fun k=>by simp[Builtin.zeroCells,Value.cells]
  obtain⟨c,a⟩:=nE (Builtin.zeroCells (Value.agg #[Zo,Zo]).cells n++Builtin.zeroCells (Value.agg #[Zo,Zo]).cells (G-n):Array Value);have g:c.size=G*2:=by rw[a,xy,f,f];omega
  rw[<-a] at b;obtain⟨u,d⟩:=nE (w.drew.alloc (.cells c 84));have s:=zH (show u.heap[w.heap.size]? =some (.cells c 84 (0,0)) by rw[d];exact World.alloc_heap_new w.drew _);have r:Below w w u:=by rw[d];exact bF.drew.alloc lE _
  rw[<-d] at b;obtain⟨q,p⟩:=Zb b g;clear b f a g d m h i l j;have y:(0:Int)<n:=oG;go_enter func355,ntmps355;go_wp2_with (at_builtin;refine Lib.wpList_append_run _ rfl _ _ _ _ rfl _ _ rfl rfl _ _ (q _) ?_);go_ret;exact⟨_,rfl,⟨rfl,.inr ⟨w,G,c,rfl,lE,s,eC _,t,p,rfl⟩⟩,r⟩
def Ko (P Q:Value) (a b:Tr) (g:Nat) (w:World) (D:fc w g 42 [P,Q]) (I:RL 2 iH w P a) (J:RL 2 iH w Q b) (z:a.length<=400000) (lb:b.length<=400000):
  Calls prog 335 #[.slice g 2 2] w fun e w'=> ∃A,e=.returned A/\OS w w' A (a++b)/\Below w w w':=by
 obtain⟨S,X,rfl,-⟩:=fQ.open_ I;obtain⟨T,Y,rfl,-⟩:=fQ.open_ J;obtain⟨U,V⟩:=Zb I J;have c0:=D.c 0;have c1:=D.c 1;have lg:=D.lt;clear I J;go_enter func335,ntmps335;go_wp2_with fail;go_loopw [3,11] (fun nv x wr=> ∃(i n:Nat),i<=2/\x=.int .i64 i/\nv=.int .i64 n/\Hid (n<=i*400000)/\wr=w) (fun _ x _=>2-(intOf x).toNat)
 case atStart=>exact⟨0,0,oG,rfl,rfl,zH oG,rfl⟩
 case round=>
  obtain⟨i,n,K,rfl,rfl,l,rfl⟩:=hrel;have o:=l.out;obtain rfl|rfl|rfl:i=0\/i=1\/i=2:=oG
  ·have v:IntKind.i64.wrap ((n:Int)+a.length)=(n+a.length:Nat):=by rw[jB];omega
   have m:decide (((n+a.length:Nat):Int)<0)=false:=by simp;omega
   have u:=zH (And.intro o (And.intro z lb));clear o l z lb K;generalize hq:n+a.length=q at v m;go_wp2_with fail;have o:=u.out;exact⟨⟨1,q,oG,rfl,rfl,zH oG,by first|rfl|trivial⟩,by simp[intOf]⟩
  ·have v:IntKind.i64.wrap ((n:Int)+b.length)=(n+b.length:Nat):=by rw[jB];omega
   have m:decide (((n+b.length:Nat):Int)<0)=false:=by simp;omega
   have u:=zH (And.intro o (And.intro z lb));clear o l z lb K;generalize hq:n+b.length=q at v m;go_wp2_with fail;have o:=u.out;exact⟨⟨2,q,oG,rfl,rfl,zH oG,by first|rfl|trivial⟩,by simp[intOf]⟩
  ·go_wp2_with fail;refine(NX n _ oG).mono ?_;rintro e w2 ⟨A,rfl,H,r⟩;have W:=zH H;obtain⟨Al,cl,rfl,-⟩:=H.slice;clear H o l;obtain⟨B,F,E⟩:=Zc z lb r;have m:=r.size;obtain⟨y,L⟩:=nE (wr:World);subst L;clear z lb K r D;go_wp2_with fail;go_loopw [6,27] (fun pv x R=> ∃(i:Nat) (M:Tr),x=.int .i64 i/\Hid (i=0/\M=[]\/i=1/\M=a\/i=2/\M=a++b)/\Hid (OS y R pv M)/\Hid (Below y y R)) (fun _ x _=>2-(intOf x).toNat)
   case atStart=>exact⟨0,[],rfl,(.inl ⟨rfl,rfl⟩),W,E⟩
   case round=>
    obtain⟨i,M,rfl,hM,j,c⟩:=hrel;obtain⟨Am,cm,rfl,-⟩:=j.slice;have k:=c.size
    rcases hM with ⟨rfl,h⟩|⟨rfl,h⟩|⟨rfl,h⟩
    ·have G:=zH (fQ.rs (fQ.below U c lE));have Z:=a7 c lE c0;have t:M.length+a.length<=1000000000:=by rw[h];have:=B.out;simp;omega
     have C:=zH h;clear h c0 c1;go_wp2_with (at_builtin;refine nL _ rfl (.tmp 31) (.tmp 32) 42 rfl y 84 _ 2 16 underlying42 nU rfl dE dE _ M.length _ j rfl S a.length X (a.flatMap gV) rfl G (mK a) t k ?_;intro N O f d;have s:=zH (c.trans (d.below k));have p:Hid (OS y O N (M++a)):=zH (by unfold OS;rw[fa,fU];exact f);clear f d);exact⟨⟨1,M++a,by first|rfl|trivial,(.inr (.inl ⟨rfl,by rw[C.out];rfl⟩)),p,s⟩,by simp[intOf]⟩
    ·have G:=zH (fQ.rs (fQ.below V c lE));have Z:=a7 c lE c1;have t:M.length+b.length<=1000000000:=by rw[h];have:=B.out;have:=F.out;omega
     have C:=zH h;clear h c0 c1;go_wp2_with (at_builtin;refine nL _ rfl (.tmp 31) (.tmp 32) 42 rfl y 84 _ 2 16 underlying42 nU rfl dE dE _ M.length _ j rfl T b.length Y (b.flatMap gV) rfl G (mK b) t k ?_;intro N O f d;have s:=zH (c.trans (d.below k));have p:Hid (OS y O N (M++b)):=zH (by unfold OS;rw[fa,fU];exact f);clear f d);exact⟨⟨2,M++b,by first|rfl|trivial,(.inr (.inr ⟨rfl,by rw[C.out]⟩)),p,s⟩,by simp[intOf]⟩
    ·have C:=zH h;clear h c0 c1;go_wp2_with fail;go_ret;exact⟨_,rfl,C▸j,c⟩
end
section
open Go.Proofs.Tryz
open Go.RowKit Go.Shelf jm ko kN P15
theorem K5{p:Prop}(h:p:=by
 refine kL [23] ?_;refine tD ?_;go_wp2_with fail
 go_end0
 exact⟨D,T,n,f,rfl,HS.below m.drew.drew.drew,fun k h=>.inl h,HO,HT,rfl,rfl,.ke m.drew.drew.drew⟩):p:=h
variable {J:Value} {T:List Tr} {n:Int} {x:fS}
structure vr (D:Nat->Prop) (x:fS) (A1:Option Addr) (c1:Nat) (A2:Option Addr) (c2:Nat) (p mb:Nat) (tv:Value) (w:World) (T:List Tr) (n:Int) (f:Int->Option Int):Prop where
 ig:fc w p 367 ((yX x A1 c1 A2 c2 [tv,n,.map (some mb)]))
 t:wj 42 D w tv T
 m:nO w mb f
 pd: ¬D p
 md: ¬D mb
 pm:p≠mb
 gp: ∀g,tv.ownBlock=some g->g≠p/\g≠mb
 dl: ∀k,D k-> ∃o,w.heap[k]? =some o/\o.isCells=true
def Xn (D:Nat->Prop) (p mb:Nat) (J:Value) (k:Nat):Prop:=D k\/k=p\/k=mb\/J.ownBlock=some k
def vr.lt (h:vr D x A1 c1 A2 c2 p mb J w T n f): ∀k,Xn D p mb J k->k<w.heap.size:=by
 rintro k (h1|rfl|rfl|h1)
 ·obtain⟨o,ho,-⟩:=h.dl k h1;exact(aah.1 ho).1
 ·exact h.ig.lt
 ·exact h.m.lt
 ·exact h.t.lt k h1
def vr.at (h:vr D x A1 c1 A2 c2 p mb J w T n f) (hk: ∀k,Xn D p mb J k->w'.heap[k]? =w.heap[k]?) (S:w.heap.size<=w'):vr D x A1 c1 A2 c2 p mb J w' T n f:=
 ⟨(hk p (.inr (.inl rfl))).trans h.ig,h.t.at (fun k h=>hk k (h.imp id fun h=>.inr (.inr h))) S,h.m.at (hk mb (.inr (.inr (.inl rfl)))),h.pd,h.md,h.pm,h.gp,fun k a=>by rw[hk k (.inl a)];exact h.dl k a⟩
def vr.below (h:vr D x A1 c1 A2 c2 p mb J w T n f) (hb:Below w w w'):vr D x A1 c1 A2 c2 p mb J w' T n f:=
 h.at (fun k hk=>hb.block k (h.lt k hk)) hb.size
inductive PM (O:Nat->Prop) (L:Tr) (D:Nat->Prop) (x:fS) (A1:Option Addr) (c1:Nat) (A2:Option Addr) (c2:Nat) (p mb:Nat) (tv:Value) (w:World) (T:List Tr) (e:Ending) (w':World):Prop
 |mk (D':Nat->Prop) (T':List Tr) (n:Int) (f:Int->Option Int) (he:e=.returned (.tuple #[])) (hs:vr D' x A1 c1 A2 c2 p mb tv w' T' n f) (hd: ∀k,D' k->D k\/w.heap.size<=k) (ho:BH L T' f) (ht: ∀t∈T',jK x.eB t) (hl:xS T'=xS T) (hn:T'.length=T) (hb:gI O w w')
def gI.grown {row:Option Nat} (h:w.grownBy w' row) (ho: ∀g,row=some g->O g):gI O w w':=⟨h.os,h.tape,h.output,h.size,fun k hk a=>h.block k hk fun e=>a (ho k e.symm)⟩
def gI.trans' {A B C:World} (h:gI O A B) (k:gI O B C):gI O A C:=h.trans (k.mono fun _=>.inl)
def OS.cells {lb:Nat} {v:Value} {l:Tr} (h:OS lb w v l): ∀g,v.ownBlock=some g->lb<=g/\ ∃o,w.heap[g]? =some o/\o.isCells=true:=fun g I=>by
 rcases h.2 with ⟨h1,-⟩|⟨b,c2,cF,h1,h2,a,-⟩
 ·rw[h1] at I;cases I
 ·rw[h1] at I;cases I;exact⟨h2,_,a,rfl⟩
def KN (f:Int->Option Int) (b:Tr) (i:Int) {j:Nat} {s:vg} (S:b[j]? =some s):yO f (b.take (j+1)) i=qQ (yO f (b.take j) i) s.1 (some i):=by unfold yO;rw[gk,S,nW];rfl
def QO (O:Nat->Prop) (L:Tr) (D:Nat->Prop) (x:fS) (ox:eV x) (A1:Option Addr) (c1:Nat) (A2:Option Addr) (c2:Nat) (p mb:Nat) (J:Value) (w:World) (T:List Tr) (n:Int) (f:Int->Option Int)
  (S:vr D x A1 c1 A2 c2 p mb J w T n f) (hx:iz w (.agg (xC x A1 c1 A2 c2).toArray) x) (ho:BH L T f) (ht: ∀t∈T,jK x.eB t) (hl:xS T<=400000) (hO:O p/\O mb/\ ∀g,J.ownBlock=some g->O g)
  (a b s:Int) (ha:a∈L.map Prod.fst) (hb:b∈L.map Prod.fst):
  Calls prog 317 #[.pointer p,.agg #[a,b,s]] w (PM O L D x A1 c1 A2 c2 p mb J w T):=by
 obtain⟨sa,bI,rfl⟩:=cy.1 ha;obtain⟨sb,bJ,rfl⟩:=cy.1 hb;obtain⟨i,Q,au,ao,aV⟩:=ho sa bI;obtain⟨k,E,aw,aq,aY⟩:=ho sb bJ;obtain⟨At,ct,rfl,dC,dB⟩:=S.t.slice;obtain⟨d,av,rfl,dp,aG,-,y0⟩:=S.t.get ao;obtain⟨dn,bv,e,-,aH,aX,y1⟩:=S.t.get aq;cases e;obtain⟨Aa,ca,rfl,-,-,aU⟩:=fQ.open_ aG;obtain⟨Ab,cb,rfl,-,-,H⟩:=fQ.open_ aH;have du:(i:Int)<T.length:=by have:=(bX.1 ao).1;omega
 have dw:(k:Int)<T.length:=by have:=(bX.1 aq).1;omega
 have aL:=S.m.MM (P:=prog) qe qd (uk _) sa.1;have aM:=S.m.MM (P:=prog) qe qd (uk _) sb.1;rw[au] at aL;rw[aw] at aM;have la:0<Q.length:=jQ.2 fun e=>by subst e;cases aV
 have lb':0<E.length:=jQ.2 fun e=>by subst e;cases aY
 have bp:=S.ig;obtain⟨HS,HX,HO,HT,HL,cA,bU,aQ⟩:=Zh S hx ho ht hl hO aU H;obtain⟨bW,bY,dj,C,F⟩:=Ze aG aH aX ao aq;have hm:=S.m;obtain⟨bZ,cg⟩:=Zb au aw;have lp:=bp.lt;clear S hx ho ht hl hO aU H aG aH aX ao aq ha hb aV aY bI bJ;obtain⟨a,ea⟩:=nE sa.1;obtain⟨b,eb⟩:=nE sb.1;rw[<-ea] at bZ aL au|-
 rw[<-eb] at cg aM aw|-
 clear ea eb;go_enter func317,ntmps317;go_upto_region 1 with fail
 have bq:=fc.new w 372 [a,b,s];revert bq;show∀(bq:fc (w.alloc (cB 372 [a,b,s])) _ _ _),_;have W:=bp.alloc (cB 372 [Value.int .i64 a,b,s]);have m:=bL (bS w w) (cB 372 [Value.int .i64 a,b,s]);revert W m;generalize w.alloc (cB 372 [Value.int .i64 a,b,s])=w1;intro W m bq;have lm:=hm.lt;have cJ:=hm.at (m.block mb lm);refine rG (fun wS=>fc wS p 367 ((yX x A1 c1 A2 c2 [.slice d T ct,n,.map (some mb)]))/\fc wS w 372 [a,b,s]/\nO wS mb f) [] (⟨W,bq,cJ.at rfl⟩) fun hS=>?_;refine kL [0,1,2,3,4,5] ?_;refine pU ?_;refine ki 6 (v:=?_) rfl rfl kR jF ?_ hS ?_;rotate_left
 ·intro wS hSw
  (try dsimp only at hSw)
  have aT:=hSw.2.2.MM (P:=prog) qe qd (uk _) a;go_simp;try with_reducible rfl
 refine pU ?_;refine kL [7,8,9,10,11,12] ?_;refine pU ?_;refine ki 13 (v:=?_) rfl rfl kR jF ?_ hS ?_;rotate_left
 ·intro wS hSw
  (try dsimp only at hSw)
  have aT:=hSw.2.2.MM (P:=prog) qe qd (uk _) b;go_simp;try with_reducible rfl
 refine pU ?_;refine kL [14,15] ?_;refine tD ?_;go_upto_region 2 with fail
 refine rG (fun wS=>fc wS p 367 (yX x A1 c1 A2 c2 [.slice d T ct,n,.map (some mb)])/\wS.cell? (pA d i)=some (.slice Aa Q ca)/\wS.cell? (pA d k)=some (.slice Ab E cb)) [] (⟨W,a7 m.drew.drew lE y0,a7 m.drew.drew lE y1⟩) fun hS=>?_;refine kL [0,1,2,3,4,5,6,7,8,9,10,11,12,13,14,15] ?_;refine tD ?_;go_upto_region 3 with fail
 obtain⟨⟨za,qa⟩,ah⟩:=ec (l:=Q) (i:=Q.length-1) oG;obtain⟨⟨zb,qb⟩,ai⟩:=ec (l:=E) (i:=0) lb';obtain⟨ba,oa,rfl,-,u0,-⟩:=bU _ _ ah;obtain⟨bb,ob,rfl,-,v0,-⟩:=aQ _ _ ai;have dD:IntKind.i64.wrap ((Q.length:Int)-1)=((Q.length-1:Nat):Int):=by rw[jB];have:=(bX.1 C.out).1;have:Q.length<=xS T:=um C.out;have:=HL.out;omega
 have cV:((Q.length-1:Nat):Int)<Q.length:=oG;have cX:(0:Int)<E.length:=oG;replace u0:=a7 m lE u0;replace v0:=a7 m lE v0;clear ah ai aL aM au aw la;by_cases aK:i=k
 ·subst aK;refine rG (fun _=>True) [] (trivial) fun hS=>?_;refine kL [0,1,2,3] ?_;refine kS [4,5,6,7,8,9,10,11,12,13] ?_;refine kL [14,15] ?_;refine kS [16,17,18,19,20,21,22] ?_;exact K5
 ·have cU:((i:Int)==k)=false:=by simp;omega
  refine rG (fun wS=>fc wS w 372 [a,b,s]/\wS.cell? (pA ba (oa+(Q.length-1)*2))=some za/\wS.cell? (pA bb ob)=some zb) [] (⟨bq,u0,by simpa using v0⟩) fun hS=>?_;by_cases ah:za=a
  ·subst ah;by_cases ai:zb=b
   ·subst ai;refine kL [0,1,2,3] ?_;refine kG [4,5,6,7,8,9,10,11,12,13] ?_;refine kL [14,15] ?_;refine kG [16,17,18,19,20,21,22] ?_;refine kL [23] ?_;refine tD ?_;go_upto_region 4 with fail
    have aD:fc w1.drew.drew.drew p 367 (yX x A1 c1 A2 c2 [.slice d T ct,n,.map (some mb)]):=W;have aE:fc w1.drew.drew.drew w 372 [za,zb,s]:=bq;have aa:=m.drew.drew.drew;revert aD aE aa;generalize w1.drew.drew.drew=w4;intro aD aE aa
    go_cut [77] from 63 to 77 (fun v wc=> ∃q:Nat,v=.bool (q==0)/\Below w w wc)
    case first=>
     refine rG (fun wS=>fc wS p 367 (yX x A1 c1 A2 c2 [.slice d T ct,n,.map (some mb)])/\fc wS w 372 [za,zb,s]) [] (⟨aD,aE⟩) fun hS=>?_;by_cases bH:s<=0
     ·have cN:decide (s<=0)=true:=by simpa using bH
      refine kL [0,1,2,3] ?_;refine kG [4,5,6,7,8,9,10,11,12,13] ?_;refine kL [14] ?_;refine tD ?_;by_cases hv:n<=x.mm
      ·have cQ:decide (n<=x.mm)=true:=by simpa using hv
       go_wp2_with fail;go_meet
       exact⟨0,by simp[hv],aa.drew⟩
      ·have cQ:decide (n<=x.mm)=false:=by simpa using hv
       go_wp2_with fail;go_meet
       exact⟨1,by simp[hv],aa.drew⟩
     ·have cN:decide (s<=0)=false:=by simpa using bH
      refine kL [0,1,2,3] ?_;refine kS [4,5,6,7,8,9,10,11,12,13] ?_;refine kL [14] ?_;refine tD ?_;go_wp2_with fail;go_meet;exact⟨1,rfl,aa.drew⟩
    case rest=>
     obtain⟨q,rfl,H⟩:=hcut;by_cases A:q=0
     ·subst A;go_wp2_with fail
      go_end0
      exact⟨D,T,n,f,rfl,HS.below H,fun k h=>.inl h,HO,HT,rfl,rfl,.ke H⟩
     ·have dx:(q==0)=false:=by simpa using A
      go_wp2_with fail;have R:=bL H (cB 42 [.slice (pA ba oa) Q ca,.slice (pA bb ob) E cb]);refine(Ko _ _ Q E _ _ (fc.new wc 42 [.slice (pA ba oa) Q ca,.slice (pA bb ob) E cb]) (fQ.below bW R lE) (fQ.below bY R lE) (eZ (um C) HL) (eZ (um F) HL)).mono ?_;rintro e w5 ⟨lv,rfl,an,aW⟩;obtain⟨l,ax⟩:=nR (Q++E);rw[ax] at an;have cI:l.length<=1000000:=by have:=um C.out;have:=um F.out;have:=HL.out;rw[<-ax,fa];omega
      have aA:=zH ax;clear ax;have ae:=R.trans (aW.mono R.size);have aB:=zH (an.mono (lb':=w.heap.size) R.size);obtain⟨Al,cl,rfl,-⟩:=an.slice;have al:=bp.below ae lp;clear an aW R H;obtain⟨j0,j1,j2,j3,j4,j5,j6,j7,j8,-⟩:=al.iY;go_wp2_with fail;refine(uu _ _ x l _ (HX.below ae lE) ox aB.reads cI).mono ?_;rintro e w7 ⟨z,rfl,-,ar⟩;have G:=ae.trans (ar.mono ae.size);have aS:=al.below ar al.lt;have aC:=zH (aB.below ar lE);clear j0 j1 j2 j3 j4 j5 j6 j7 j8 al ae ar aB;by_cases hz:z=0
      ·subst hz;go_wp2_with fail;have c:=zH (HS.below G);have cL:=zH c.m;have dG:=aS.lt;have aN:p≠mb:=c.pm;have aI:=c.gp d rfl;have cY:E.length<=400000:=eZ (um F) HL;have cH:d<w7.heap.size:=c.t.lt d rfl;go_wp2_with fail;go_loopw [92] (fun iv wr=> ∃j:Nat,j<=E/\iv=.int .i64 j/\Hid (nO wr mb (yO f (E.take j) i))/\Hid (gI (fun k=>k=mb) w7 wr)) (fun iv _=>E.length-(intOf iv).toNat)
       case atStart=>exact⟨0,eC _,rfl,cL,(gI.refl _ _)⟩
       case round=>
        obtain⟨j,hj,rfl,HM,B⟩:=hrel;have X:=B.ig aS aN;have dH:=X.lt;have bO:=B.size;have dA:=G.size;by_cases bh:j<E
        ·obtain⟨⟨z,q⟩,aP⟩:=ec bh;obtain⟨b2,o2,e2,cT,x0,x1⟩:=aQ j _ aP;cases e2;have ag:=HS.m.ne x0;replace x0:=B.cell (a7 G lE x0) ag;replace x1:=B.cell (a7 G lE x1) ag;have cj:=zH (KN f E i aP);clear aP;go_upto_region 10 with fail
         have bG:=HM.at (w':=(wr.alloc (cB 84 [z,q])).drew) (((bS wr wr).alloc lE (cB 84 [z,q])).block mb HM.lt);obtain⟨W2,dz,bB,cO,aZ⟩:=nO.put (P:=prog) bG qe qd z i;obtain⟨cP,cK⟩:=Zb (B.trans' ((gI.alloc (fun k=>k=mb) wr (cB 84 [z,q])).trans' ((gI.drewN _ _ 1).trans' (gI.grown aZ fun g e=>(fg e).symm)))) bB;have cD:=X.alloc (cB 84 [z,q]);have cE:=fc.new wr 84 [z,q];clear aZ cO bB bG x0 x1;refine rG (fun wS=>fc wS p 367 (yX x A1 c1 A2 c2 [.slice d T ct,n,.map (some mb)])/\fc wS wr 84 [z,q]) [7] (⟨cD,cE⟩) fun hS=>?_;refine kL [0,1,2,3,4,5,6] ?_;refine tL 7 fun K hK=>?_;go_simp;refine hK _ _ ?_;refine tD ?_;go_wp2_with fail;exact⟨⟨j+1,bh,by go_num,(cj▸cK),cP⟩,by simp[intOf];omega⟩
        ·obtain rfl:j=E.length:=oG;have hM:=HM.out;rw[fj lE] at hM;have cw:=zH hM;have aJ:=aI.2;have af:=aI.1;have Z:wj 42 D wr (.slice d T ct) T:=c.t.at (fun k hk=>B.block k (hk.elim (fun h=>c.lt k (.inl h)) fun h=>by cases h;exact cH) (fun e=>by
          subst e
          rcases hk with h|h
          ·exact c.md h
          ·cases h;exact aJ rfl)) bO
         obtain⟨-,-,-,cF,M⟩:=Z.cur;obtain⟨g',u1,e1,-,-,-,y2⟩:=Z.get C;cases e1;obtain⟨g',u2,e2,-,-,-,y3⟩:=Z.get F;cases e2;have fi:=M.frozen i;have fk:=M.frozen k;have dr:=M.lt;have e6:=X.c 6;obtain⟨y4,cR⟩:=rr (p:=pA d i) (x:=.slice Al l cl) y3;have cC:=zH Z;clear hM Z M HM;go_upto_region 12 with fail
         refine rG (fun wS=>fc wS p 367 (yX x A1 c1 A2 c2 [.slice d T ct,n,.map (some mb)])) [] (X) fun hS=>?_;refine kL [0,1,2,3,4,5,6,7,8,9,10,11] ?_;refine tO 12 fun K hK=>?_;go_simp;have hS:=hS.kj (p:=pA d i) (fun e=>af e.symm) (.slice Al l cl);refine hK _ _ (hS) ?_;refine kL [13] ?_;refine tO 14 fun K hK=>?_;go_simp;have hS:=hS.kj (p:=pA d k) (fun e=>af e.symm) ();refine hK _ _ (hS) ?_;refine tD ?_;obtain⟨D',Y⟩: ∃D':Nat->Prop,D'=fun k=>D k\/(Value.slice Al l cl).ownBlock=some k:=⟨_,rfl⟩;have N:=OS.cells aC;have dt:d<w.heap.size:=HS.t.lt d rfl;have cM:mb<w.heap.size:=HS.m.lt;have aO:p<w.heap.size:=HS.ig.lt;have bA:RL 2 iH wr (.slice Al l cl) l:=RL.zU aC.reads (fun g I=>B.block g (iB aC g I).2 (fun e=>by have e2:g=mb:=e;have:=(N g I).1;omega)) bO;have az:wj 42 D' wr (.slice d T.length ct) T:=cC.more (fun q h=>by rw[Y];exact .inl h) (fun g I=>by
          have e:d=g:=fg I;subst e;rw[Y];rintro(h|h)
          ·exact c.t.nd _ rfl h
          ·have h2:w.heap.size<=d:=(N _ h).1;omega)
         have V:=zH ((az.put (k:=i) oG bA (fun g I=>by rw[Y];exact .inr I)).put (k:=k) sO (t:=[]) (u:=.slice none 0 0) ⟨none,0,rfl,lE,by simp[maxLen],fun h=>by simp at h⟩ (fun g I=>by cases I));have r:=(X.kj (p:=pA d i) (fun e=>af e.symm) (.slice Al l cl)).kj (p:=pA d k) (fun e=>af e.symm) ();have y:Hid (gI (fun q=>q=mb\/q=d) w7 _):=zH ((B.mono fun _=>.inl).trans' ((gI.set wr (g:=d) (.inr rfl) i (.slice Al l cl)).trans' (gI.set _ (g:=d) (.inr rfl) k ())));have U:Hid (nO ((wr.setCell (pA d i) (.slice Al l cl)).setCell (pA d k) ()) mb _):=zH (cw.at ((fX _ _ _ _ _ (fun e=>aJ e.symm)).trans (fX _ _ _ _ _ (fun e=>aJ e.symm))));have aj:Hid (D'=fun k=>D k\/(Value.slice Al l cl).ownBlock=some k):=zH Y;have ak:=zH N;clear hS bA az N Y cR y2 y3 fi fk e6;revert V r y U;generalize (wr.setCell (pA d i) (.slice Al l cl)).setCell (pA d k) ()=aR;intro V r y U;have e7:=r.c 7;have f7:=r.frozen 7;have dh:=r.lt;go_wp2_with fail
         go_end0
         have cG: ∀q,D' q-> ∃o,aR.heap[q]? =some o/\o.isCells=true:=fun q A=>by
          have ag:q≠mb/\q≠d:=by
           rw[aj.out] at A
           rcases A with h|h
           ·exact⟨fun e=>c.md (e▸h),fun e=>c.t.nd d rfl (e▸h)⟩
           ·have:=(ak q h).1;omega
          have hc: ∃o,w7.heap[q]? =some o/\o.isCells=true:=by rw[aj.out] at A;exact A.elim (c.dl q) fun h=>(ak q h).2
          obtain⟨o,ho,hc⟩:=hc;exact⟨o,(y.block q (aah.1 ho).1 (fun h=>h.elim ag.1 ag.2)).trans ho,hc⟩
         have ay: ∀q,q<w.heap.size-> ¬D q-> ¬D' q:=fun q A hd h=>by rw[aj.out] at h;exact h.elim hd fun h=>by have:=(ak q h).1;omega
         have aF:=cA.out;refine⟨D',xn T i k l,_,yO f E i,rfl,⟨r.gH 7 _,V.at (fun q A=>fX _ _ _ _ _ fun e=>?_) sI,U.at (fX _ _ _ _ _ fun e=>aN e.symm),ay p aO c.pd,ay mb cM c.md,aN,fun g I=>by cases I;exact aI,fun q A=>?_⟩,fun q A=>?_,?_,?_,?_,N9 _ _ _ _,?_⟩
         ·subst e
          rcases A with h|h
          ·exact ay _ aO c.pd h
          ·cases h;exact af rfl
         ·obtain⟨o,h1,h2⟩:=cG q A;exact⟨o,(fX _ _ _ _ _ fun e=>by subst e;exact ay _ aO c.pd A).trans h1,h2⟩
         ·rw[aj.out] at A;exact A.imp id fun h=>(ak q h).1
         ·rw[<-aA.out];exact HO.join C F aK
         ·rw[<-aA.out];exact QN HT C F
         ·rw[<-aA.out];exact Oa C F aK
         ·exact(gI.ke G).trans' ((y.mono fun q A=>by
           rcases A with rfl|rfl
           ·exact aF.2.1
           ·exact aF.2.2 _ rfl).trans' ((gI.set aR aF.1 7 _).trans' (gI.drewN _ _ 1)))
      ·have dF:(z !=0)=true:=by simpa using hz
       go_wp2_with fail
       go_end0
       exact⟨D,T,n,f,rfl,HS.below G,fun k h=>.inl h,HO,HT,rfl,rfl,.ke G⟩
   ·have dg:(zb !=b)=true:=by simpa using ai
    refine kL [0,1,2,3] ?_;refine kG [4,5,6,7,8,9,10,11,12,13] ?_;refine kL [14,15] ?_;refine kG [16,17,18,19,20,21,22] ?_;exact K5
  ·have cZ:(za !=a)=true:=by simpa using ah
   refine kL [0,1,2,3] ?_;refine kG [4,5,6,7,8,9,10,11,12,13] ?_;refine kL [14,15] ?_;refine kS [16,17,18,19,20,21,22] ?_;exact K5
end
section
open Go.RowKit PF jm ko kN
def yx (O:Nat->Prop) (w:World) (v:Value) (L:List Pr):Prop:=RL 3 Hg w v L/\InO O v
section
variable {O':Nat->Prop} {L:List Pr}
theorem yx.kept (h:yx O w v L) (a: ∀k,O k->w'.heap[k]? =w.heap[k]?) (m:w.heap.size<=w'):yx O w' v L:=⟨RL.atG (w:=w) (R:=Hg) (fun _ _ h=>h) h.1 (fun g d=>a g (h.2 g d)) m,h.2⟩
theorem yx.more (h:yx O w v L) (l: ∀k,O k->O' k):yx O' w v L:=⟨h.1,fun g d=>l g (h.2 g d)⟩
theorem yx.of {lb:Nat} (h:OP lb w v L) (l: ∀g,v.ownBlock=some g->O g):yx O w v L:=⟨h.reads,l⟩
theorem yx.tail {b o s c:Nat} {p:Pr} {L:List Pr} (h:yx O w (.slice (pA b o) (n+1) c) (p::L)) (l:n≠0->s=o+3):yx O w (.slice (pA b s) n (c-1)) L:=by refine⟨?_,fun g d=>h.2 g d⟩;obtain⟨A,c',e,q,B,f⟩:=h.1;cases e;simp only[ff] at q f;refine⟨_,c-1,rfl,oG,oG,fun k=>?_⟩;obtain⟨E,F,v,a,z⟩:=f oG;cases v;obtain rfl:=l oG;refine⟨b,o+3,rfl,a,fun i x y=>?_⟩;obtain⟨t,m,r,D⟩:=z (i+1) x (by simpa using y);exact⟨t,m,r,fun j u C=>by rw[show o+3+i*3+j=o+(i+1)*3+j by omega];exact D j u C⟩
end
def Ji (w:World) (g n:Nat):Nat:=((List.range n).map fun i=>match w.cell? (pA g i) with
 |some (.slice _ m _)=>m
 |_=>0).sum
def UB:Value->Nat
 | .slice _ m _=>m
 |_=>0
theorem OZ (vs:List Value) (f:Nat->Nat) (h: ∀i v,vs[i]? =some v->f i=UB v):((List.range vs).map f).sum=(vs.map UB).sum:=by
 congr 1;refine gy fun i=>?_;rw[fh,fh]
 rcases iU i vs with hi|hi
 ·obtain⟨v,e⟩:=ec hi;rw[e,oH hi];simp[h i v e]
 ·rw[hX hi,hX (by simpa using hi)];rfl
theorem Jj {w:World} {g:Nat} {t:TypeId} {vs:List Value} (h:fc w g t vs):Ji w g vs.length=(vs.map UB).sum:=
 OZ vs _ fun i v e=>by rw[h.cell i,e];cases v <;>rfl
theorem M9: ∀{vs:List Value} {i:Nat} {v:Value} (u:Value),vs[i]? =some v->((vs.set i u).map UB).sum+UB v=(vs.map UB).sum+UB u
 | [],i,v,u,h=>by simp at h
 |a::vs,0,v,u,h=>by simp at h;subst h;simp;omega
 |a::vs,i+1,v,u,h=>by have:=M9 (vs:=vs) u (by simpa using h:vs[i]? =some v);simp only[fI,gN,yu];omega
structure ud (c:List Int) (p mb g:Nat) (OH OR:Nat->Prop) (w:World) (H:Hp) (R:List (List Pr)):Prop where
 hp: ∃v f,sg OH w p H v mb f
 dis: ∀k,OH k-> ¬OR k
 og:OR g
 lt: ∀k,OR k->k<w.heap.size
 len:R.length=c
 rows: ∃vs,fc w g 409 vs/\vs.length=c/\ ∀(i:Nat) (L:List Pr),R[i]? =some L-> ∃v,vs[i]? =some v/\yx (fun k=>OR k/\k≠g) w v L
 ok: ∀L∈R,∀q∈L,q.1∈c/\q.2.1∈c
 hi: ∀x∈H,∃(i:Nat) (L:List Pr),x.1=i/\R[i]? =some L/\L≠[]
section
variable {c:List Int} {g:Nat} {OH OR:Nat->Prop} {H:Hp} {R:List (List Pr)}
theorem ud.kept (h:ud c p mb g OH OR w H R) (q: ∀k,OH k->w'.heap[k]? =w.heap[k]?) (B: ∀k,OR k->w'.heap[k]? =w.heap[k]?) (m:w.heap.size<=w'):ud c p mb g OH OR w' H R:=by obtain⟨⟨v,f,n⟩,b,r,z,len,⟨vs,d,t,C⟩,D,o⟩:=h;exact⟨⟨v,f,n.kept q m⟩,b,r,fun k a=>bP (z k a) m,len,⟨vs,(B g r).trans d,t,fun i L s=>by obtain⟨v,e,A⟩:=C i L s;exact⟨v,e,A.kept (fun k a=>B k a.1) m⟩⟩,D,o⟩
theorem ud.below (h:ud c p mb g OH OR w H R) (d:Below w w w'):ud c p mb g OH OR w' H R:=
 h.kept (fun k a=>d.block k (by obtain⟨v,f,n⟩:=h.hp;exact n.ol k a)) (fun k a=>d.block k (h.lt k a)) d.size
theorem ud.more {OR':Nat->Prop} (h:ud c p mb g OH OR w H R) (l: ∀k,OR k->OR' k) (j: ∀k,OH k-> ¬OR' k) (t: ∀k,OR' k->k<w.heap.size):ud c p mb g OH OR' w H R:=by obtain⟨n,b,r,z,len,⟨vs,d,f,C⟩,D,o⟩:=h;exact⟨n,j,l g r,t,len,⟨vs,d,f,fun i L s=>by obtain⟨v,e,A⟩:=C i L s;exact⟨v,e,A.more fun k a=>⟨l k a.1,a.2⟩⟩⟩,D,o⟩
theorem sg.len {v:Value} {f:Int->Option Int} (h:sg OH w p H v mb f) (o: ∀x∈H,∃i:Nat,x.1=i/\i<n):H.length<=n:=by
 have k:(H.map fun x=>x.1.toNat).Nodup:=by refine wW.2 fun i j a b l e=>?_;simp only[fm] at a b;simp only[List.getElem_map] at e;obtain⟨m,s,-⟩:=o _ (Mp a);obtain⟨r,A,-⟩:=o _ (Mp b);have g:=fp a;have d:=fp b;have c:H[i].1=H[j].1:=oG;have:=h.ok.inj (i:=i) (j:=j) (id:=H[i].1) (u:=H[i].2) (v:=H[j].2) g (by rw[d,c]);omega
 have:=P15.wG k fun z q=>by obtain⟨x,y,rfl⟩:=cy.1 q;obtain⟨i,e,t⟩:=o x y;show x.1.toNat<n;omega
 simpa using this
theorem ud.hlen (h:ud c p mb g OH OR w H R):H.length<=c.length:=by obtain⟨v,f,n⟩:=h.hp;refine n.len fun x y=>?_;obtain⟨i,L,e,s,-⟩:=h.hi x y;exact⟨i,e,by rw[<-h.len];exact(bX.1 s).1⟩
theorem ud.put (h:ud c p mb g OH OR w H R) {i:Nat} {L L':List Pr} {u:Value} (o:R[i]? =some L) (s:yx (fun k=>OR k/\k≠g) w u L') (K: ∀q∈L',q.1∈c/\q.2.1∈c) (J: ∀x∈H,x.1=i->L'≠[]):ud c p mb g OH OR (w.setCell (pA g i) u) H (R.set i L'):=by
 obtain⟨⟨v,f,n⟩,b,r,z,len,⟨vs,d,t,C⟩,D,I⟩:=h;have E:=(bX.1 o).1;have a: ∀k,k≠g->(w.setCell (pA g i) u).heap[k]? =w.heap[k]? :=fun k a=>fX _ _ _ _ _ a;refine⟨⟨v,f,n.kept (fun k B=>a k fun e=>b k B (e▸r)) sI⟩,b,r,fun k a=>by simpa using z k a,by simpa using len,⟨vs.set i u,d.gH i u,by simpa using t,fun j M m=>?_⟩,fun M m=>?_,fun x y=>?_⟩
 ·by_cases l:j=i
  ·subst l;rw[iT E] at m;cases m;exact⟨u,iT oG,s.kept (fun k h=>a k h.2) sI⟩
  ·rw[iu (jN l)] at m;obtain⟨G,N,A⟩:=C j M m;exact⟨G,by rw[iu (jN l)];exact N,A.kept (fun k h=>a k h.2) sI⟩
 ·rcases lU m with m|rfl
  ·exact D M m
  ·exact K
 ·obtain⟨j,M,e,m,F⟩:=I x y;by_cases l:j=i
  ·subst l;exact⟨j,L',e,iT E,J x y e⟩
  ·exact⟨j,M,e,by rw[iu (jN l)];exact m,F⟩
theorem ud.heap {j:Nat->Prop} {u:Hp} {G:Value} {E:Int->Option Int} (h:ud c p mb g OH OR w H R) (m:sg j w' p u G mb E) (y:gI OH w w') (l: ∀k,j k->OH k\/w.heap.size<=k) (I: ∀x∈u,∃(i:Nat) (L:List Pr),x.1=i/\R[i]? =some L/\L≠[]):ud c p mb g j OR w' u R:=by obtain⟨⟨v,f,n⟩,b,r,z,len,⟨vs,d,t,C⟩,D,o⟩:=h;have a: ∀k,OR k->w'.heap[k]? =w.heap[k]? :=fun k a=>y.block k (z k a) fun h=>b k h a;exact⟨⟨G,E,m⟩,fun k B q=>(l k B).elim (fun h=>b k h q) (fun h=>by have:=z k q;omega),r,fun k a=>bP (z k a) y.size,len,⟨vs,(a g r).trans d,t,fun i L s=>by obtain⟨v,e,A⟩:=C i L s;exact⟨v,e,A.kept (fun k h=>a k h.1) y.size⟩⟩,D,I⟩
end
end
section
open Go.Proofs.Tryz
open Go.RowKit Go.Shelf PF jm ko kN P15
attribute [local go_sem] iO
def yS (n:Nat):List Value:=List.replicate n ()
def Ou:(prog.info? 409).map (fun i=>(i.zero,i.size,i.bytes))=some (some (.slice none 0 0),1,24):=kR
def Fb (n:Nat):madeCells (Value.slice none 0 0).cells n=(yS n).toArray:=by
 apply Array.ext';simp[madeCells,yS,Value.cells,acg];apply adb
 ·simp
 ·intro i _ _;simp[pC]
def El (n:Nat) (hn:n<=1000000) (w:World):(Instr.makeSlice 407 n n).run prog w=.ok (.slice w n n) (w.alloc (cB 409 (yS n))):=by obtain⟨i,hi,h0,h1,h8⟩:=info_parts Ou;have h:=run_make (P:=prog) w 407 409 i _ underlying407 hi h0 .i64 .i64 (n:Int) (n:Int) oG oG (by rw[h8];omega) oG;rw[h,gu,h1,jR,Fb]
def abU (l:Tr):Vi:=fun _ _ _ x=> ∃a b s:Int,x= #[.agg #[a,b,s]]/\a∈l.map Prod.fst/\b∈l.map Prod.fst
structure aaC (n0 lb xb:Nat) (w0:World) (x:fS) (A1:Option Addr) (c1:Nat) (A2:Option Addr) (c2:Nat) (lv:Value) (O:Nat->Prop) (W:World):Prop where
 bl:Below n0 w0 W
 lt: ∀k,O k->k<W.heap.size
 l:fc W lb 42 [lv]
 x:fc W xb 25 (xC x A1 c1 A2 c2)
 ol:O lb
 ox:O xb
def gI.low {O:Nat->Prop} {w w':World} {B:Nat} (h:gI O w w') (a: ∀k,O k->B<=k) (b:B<=w):Below B w w':=
 ⟨h.os,h.tape,h.output,h.size,fun k m=>h.block k oG fun h'=>by have:=a k h';omega⟩
def F5 (n0 lb xb:Nat) (w0:World) (x:fS) (A1:Option Addr) (c1:Nat) (A2:Option Addr) (c2:Nat) (lv:Value) (l:Tr) (F:iz w0 (.agg (xC x A1 c1 A2 c2).toArray) x) (hl:RL 2 iH w0 lv l) (aH:n0=w0) (cJ:l.length<=100000):
  zO prog 330 #[.pointer lb,.pointer xb] n0 (abU l) (aaC n0 lb xb w0 x A1 c1 A2 c2 lv):=by
 intro n ly J O W hn w hJ hY h0;obtain⟨Al,cl,rfl,dI,dJ,-⟩:=fQ.open_ hl;obtain⟨HX,HJ,HY,HL⟩:=Zd (F.below (aH▸w.bl) lE) hJ hY (fQ.below hl (aH▸w.bl) lE);have af:n0<=W.heap.size:=by have:=w.bl.size;omega
 have HI:Hid (yv n0 w0 J O w0 W):=zH ⟨⟨0,h0⟩,w.bl,w.lt,by have:=w.bl.size;omega⟩;have dg:=zH w.lt;have bl:=w.l;have bx:=w.x;have dw:=zH (And.intro w.ol w.ox);have ll:=bl.lt;have lx:=bx.lt;have aR:=zH aH;clear hl F hJ hY h0 w aH;refine callsIn_of_wp func330 rfl trivial ?_ rfl;simp only[ntmps330,gU,ff,fZ,Nat.reduceAdd,Nat.reduceSub,iq,ir,iX,iA,gQ,fY];have e0:=bl.c 0;gi_wp2;refine⟨trivial,callsIn_wide.2 ((rD _ l _ HL oG).mono ?_)⟩;rintro e w1 ⟨o,rfl,E,aW⟩;obtain⟨M,hM⟩:=nR (l.map Prod.fst);rw[hM] at E;have dD:M.length<=100000:=by rw[<-hM,fm];exact cJ
 have cP:=zH hM;obtain⟨Ac,cc,rfl,-⟩:=E.slice;have bI:=zH E;clear E e0 hM;gi_wp2;refine⟨trivial,callsIn_wide.2 ((zm W _ _ _ bI oG).mono ?_)⟩;rintro e w2 ⟨rfl,aY,cI⟩;have cD:=aW.trans (cI.below aW.size);obtain⟨c,hc⟩:=nE (qU M);have aZ:c.length=M.length:=by rw[hc];exact oq _
 have bO:Hid (∀z∈c,z∈l.map Prod.fst):=zH fun z hz=>by rw[hc] at hz;rw[cP.out];exact OC.1 hz
 rw[<-hc] at aY;have ar:=aY.reads;rw[<-aZ] at ar;have bJ:=zH ar;clear ar;have dG:c.length<=100000:=oG;rw[<-aZ];clear bI cI aW hc aY aZ;gi_wp2;refine⟨trivial,callsIn_wide.2 ((QE _).mono ?_)⟩;rintro e d ⟨p,mb,rfl,D,bB,cK,cE⟩;have dK:=fun W'=>El c oG W';have cL:=cD.size;have dL:=cE.size;have cV:=bL cE (cB 409 (yS c));have j:Hid (ud c p mb d D (fun k=>k=d.heap.size) (d.alloc (cB 409 (yS c))) [] (c.map fun _=>[])):=zH (by
  refine⟨⟨_,_,bB.below (bL bF _)⟩,fun k m e=>?_,rfl,fun k e=>by subst e;simp,by simp,⟨yS c.length,fc.new d _ _,by simp[yS],fun i L hL=>?_⟩,fun L hL q hq=>?_,fun x F=>by cases F⟩
  ·have:=bB.ol k m;omega
  ·rw[fh] at hL;obtain⟨z,hz,rfl⟩:=mP.1 hL;have hi:=(bX.1 hz).1;exact⟨.slice none 0 0,by unfold yS;rw[rW,if_pos hi],⟨none,0,rfl,lE,by simp[maxLen],fun h=>by simp at h⟩,fun g hg=>by cases hg⟩
  ·obtain⟨z,-,rfl⟩:=cy.1 hL;cases hq)
 have cQ:Hid (∀k,D k->w2.heap.size<=k):=zH cK;clear bB cK;gi_wp2;gi_loopw [23] (fun iv wr=> ∃(i:Nat) (D I:Nat->Prop) (H:Hp) (R:List (List Pr)),i<=c/\iv=.int .i64 i/\Hid (ud c p mb d D I wr H R)/\Hid (∀x∈H,x.1<i)/\Hid (∀k,D k\/I k->w2.heap.size<=k)/\Below w2 w2 wr) (fun iv _=>c.length-(intOf iv).toNat)
 case atStart=>exact⟨0,D,_,[],_,eC _,rfl,j,(fun x h=>by cases h),(fun k m=>m.elim (cQ k) fun e=>by omega),cV⟩
 case round=>
  obtain⟨i,D,I,H,R,hi,rfl,j,HH,b,aq⟩:=hrel;have an:=cD.trans (aq.mono cL);have dn:=aq.size;by_cases aG:i<c
  ·obtain⟨a,ha⟩:=ec aG;obtain⟨dt,dz,hv,-,-,A⟩:=gx.open_ bJ;cases hv;obtain⟨bc,oc,rfl,dF,y0⟩:=A i a ha;replace y0:=a7 aq lE y0;have cF:gx wr .i64 (.slice (pA bc oc) c cc) c:=bJ.below aq lE;have aN:=zH cF;have bZ:=bx.below an lx;have dM:=bZ.lt;obtain⟨d0,d1,d2,d3,d4,d5,-⟩:=bZ.iY;have HA:=zH (a8 ha);clear A cF ha;gi_wp2;refine⟨trivial,callsIn_wide.2 ((Ot x A1 c1 A2 c2 _ c a _ (HX.below an lE) aN oG).mono ?_)⟩;rintro e w5 ⟨v,L,rfl,al,B,aX⟩;obtain⟨Av,o,rfl,-⟩:=B.slice;obtain⟨-,-,aB,aA⟩:=And.intro trivial (And.intro trivial (And.intro (fun k m=>by obtain⟨v,f,hp⟩:=j.hp;exact hp.ol k m: ∀k,D k->k<wr.heap.size) j.lt));have dH:=j.lt _ j.og;have cC:i<R.length:=by rw[j.out.len];exact aG
   obtain⟨L0,aV⟩:=ec cC;have aF:=(j.below aX).more (OR':=fun k=>I k\/wr.heap.size<=k/\k<w5.heap.size) (fun k h=>.inl h) (fun k m h=>h.elim (j.dis k m) fun h=>by have:=aB k m;omega) (fun k h=>h.elim (fun h=>bP (aA k h) aX.size) fun h=>h.2);have U:=aF.put (u:=.slice Av L o) (L':=L) aV (yx.of B fun g hg=>by have:=iB B g hg;exact⟨.inr this,oG⟩) (fun q hq=>by have:=al.2 q hq;exact⟨this.1▸HA.out,this.2⟩) (fun x F e=>by have:=HH.out x F;omega);obtain⟨vs,K,bH,-⟩:=aF.rows;obtain⟨u0,bG⟩:=ec (l:=vs) (i:=i) oG;have c5:w5.cell? (pA d i)=some u0:=by rw[K.cell i];exact bG
   have f5:=K.frozen i;have aL:=aq.trans (aX.mono dn);have dr:=aL.size;have V:=aL.setCell (p:=pA d i) dO (.slice Av L o);have Y:Hid (∀k,D k\/(I k\/wr.heap.size<=k/\k<w5.heap.size)->w2.heap.size<=k):=zH (by
    rintro k (h|h|h)
    ·exact b k (.inl h)
    ·exact b k (.inr h)
    ·omega)
   have c6:=zN w5 (pA d i) (.slice Av L o) c5
   match L,B,U,V,c6 with
   | [],B,U,V,c6=>
    have t:=zH U;clear aF U B al aB aA d0 d1 d2 d3 d4 d5 aV K bG j aN;gi_wp2;exact⟨⟨i+1,D,_,H,_,aG,rfl,t,(fun x F=>by have:=HH.out x F;omega),Y,V⟩,by simp[intOf];omega⟩
   |Q::L',B,U,V,c6=>
    have t:=zH U;replace c6:(w5.setCell (pA d i) (.slice Av (L'+1) o)).cell? (pA d i)=some (.slice Av (L'+1) o):=c6;obtain⟨du,dA,hv,-,-,A⟩:=FO.open_ B.reads;cases hv;obtain⟨r,X,rfl,cY,y1,y2,y3⟩:=A 0 Q rfl;have aI:r≠d.heap.size:=fun e=>by have:=iB B r rfl;omega
    have cT:Hid ((R.set i (Q::L'))[i]? =some (Q::L')):=zH (iT cC);have y4:(w5.setCell (pA d i) (.slice (pA r X) (L'+1) o)).cell? (pA r (X+2))=some Q.2.2:=(oD (fX _ _ _ _ _ aI)).trans (by simpa using y3);clear aF U B al aB aA d0 d1 d2 d3 d4 d5 aV K bG j aN A y1 y2 y3;gi_wp2;have h0:0<(Q::L').length:=sI;obtain⟨v9,f9,az⟩:=t.hp;refine⟨trivial,callsIn_wide.2 ((Iw _ _ p H v9 mb f9 az i _ (by have:=t.out.hlen;omega)).mono ?_)⟩;rintro e w9 ⟨bb,rfl,T,H9,v',f',ai,P,ah,-,C⟩;have aP:=zH (t.heap ai C P (fun x F=>by
     rcases ah x F with h|h
     ·exact t.hi x h
     ·subst h;exact⟨i,_,rfl,cT,by simp⟩))
    have cX:=V.trans (C.low (fun k m=>Y k (.inl m)) V.size);have aT:Hid (∀k,T k\/(I k\/wr.heap.size<=k/\k<w5.heap.size)->w2.heap.size<=k):=zH (by
     rintro k (h|h)
     ·rcases P k h with h|h
      ·exact Y k (.inl h)
      ·have:=V.size;omega
     ·exact Y k (.inr h))
    have cM:Hid (∀x∈H9,x.1<((i+1:Nat):Int)):=zH (fun x F=>by
     rcases ah x F with h|h
     ·have:=HH.out x h;omega
     ·subst h;show(i:Int)<((i+1:Nat):Int);omega)
    clear ai P ah C az;gi_wp2;exact⟨⟨i+1,T,_,H9,_,aG,rfl,aP,cM,aT,cX⟩,by simp[intOf];omega⟩
  ·have dp:W.heap.size<=w2.heap.size:=cL;have aS:Hid (∀k,D k\/I k->W.heap.size<=k):=zH (fun k m=>eZ dp (b k m));have G:Hid (yv n0 w0 J (fun k=>O k\/D k\/I k) w0 wr):=zH (HI.step HJ (gI.ke an) af (an.mono af) (fun k m=>by
    have hs:=an.size
    rcases m with h|h|h
    ·exact⟨.inl h,bP (dg k h) hs⟩
    ·exact⟨.inr (aS k (.inl h)),by obtain⟨v,f,hp⟩:=j.hp;exact hp.ol k h⟩
    ·exact⟨.inr (aS k (.inr h)),j.lt k h⟩))
   gi_wp2;gi_loopw [] (fun wr=> ∃(O2 D I:Nat->Prop) (H:Hp) (R:List (List Pr)),Hid (ud c p mb d D I wr H R)/\Hid (∀k,D k\/I k->O2 k/\W.heap.size<=k)/\Hid (yv n0 w0 J O2 w0 wr)) (fun wr=>Ji wr d c)
   case atStart=>exact⟨_,D,I,H,R,j,(fun k m=>⟨.inr m,aS k m⟩),G⟩
   case round=>
    obtain⟨O2,D,I,H,R,j,b,G⟩:=hrel;have ae:n0<=wr.heap.size:=by have:=G.out.sz;have:=aR.out;omega
    obtain⟨v,f,hp⟩:=j.hp;have dC:=j.hlen;gi_wp2;refine⟨trivial,callsIn_wide.2 ((N4 _ _ p H v mb f hp oG).mono ?_)⟩;clear hp;rintro e w5 (⟨-,rfl,ht⟩|⟨⟨a1,a2⟩,ha,rfl,H',v',f',hs,hm,ht⟩)
    ·have S:=zH (G.step HJ (ht.mono fun k h=>(b k (.inl h)).1) ae (ht.low (fun k h=>eZ af (b k (.inl h)).2) ae) (fun k m=>⟨.inl m,bP (G.lt k m) ht.size⟩));clear ht
     gi_upto_region 12 with fail
     refine wpIn_wide.2 ?_;go_wp2_with fail;gi_wp2;refine bodyPost_ret (results_none rfl _ _ _) rfl ?_;obtain⟨s,hj⟩:=S.j;exact⟨⟨_,rfl⟩,s,O2,hj⟩
    ·have S:=zH (G.step HJ (ht.mono fun k h=>(b k (.inl h)).1) ae (ht.low (fun k h=>eZ af (b k (.inl h)).2) ae) (fun k m=>⟨.inl m,bP (G.lt k m) ht.size⟩));obtain⟨i,L,e1,ak,aI⟩:=j.hi _ ha;obtain rfl:a1=(i:Int):=e1;obtain⟨Q,L',rfl⟩: ∃Q L',L=Q::L':=by
      cases L with
      |nil=>exact absurd rfl aI
      |cons q l=>exact⟨q,l,rfl⟩
     have cZ:i<c.length:=by rw[<-j.out.len];exact(bX.1 ak).1
     have aO:=zH (j.heap hs ht (fun k h=>.inl h) (fun x F=>j.hi x (hm x F).1));obtain⟨vs,K,bH,aC⟩:=j.rows;obtain⟨rv,bA,cA⟩:=aC i _ ak;have Z:=cA.kept (w':=w5) (fun k h=>ht.block k (j.lt k h.1) fun h'=>j.dis k h' h.1) ht.size;obtain⟨Av,o,rfl,cG,-,A⟩:=FO.open_ Z.1;obtain⟨r,X,rfl,cY,y1,y2,y3⟩:=A 0 Q rfl;have cU:=Z.2 r rfl;have aw:=j.ok _ (a8 ak);have bU:=zH aw;have bh:=aw Q (.head _);have aa:=ht.ig K fun h=>j.dis _ h j.og;have c5:w5.cell? (pA d i)=some (.slice (pA r X) (L'.length+1) o):=by rw[aa.cell i];exact bA
     obtain⟨aJ,cR,HM⟩:=Zc Z ak hm;have aU:Hid (Ji wr d c.length=(vs.map UB).sum/\vs[i]? =some (.slice (pA r X) (Q::L').length o)):=zH ⟨by rw[<-bH];exact Jj K,bA⟩;obtain⟨s1,cH⟩:=S.j;obtain⟨fn,tmps,assign,body,hy,hR⟩:=HY (n-1) s1 O2 #[.agg #[Q.1,Q.2.1,Q.2.2]] w5 cH ⟨Q.1,Q.2.1,Q.2.2,rfl,bO _ bh.1,bO _ bh.2⟩;have l3:=aa.lt;simp only[vq,eW] at y1 y2 y3;clear hs hm ht ha ak aI K aC cA Z A aw bh cH j bA;gi_wp2;refine hR.mono ?_;rintro e W7 ⟨rfl,cw,ag,au⟩;have t:=zH (aO.kept (fun k h=>au k (b k (.inl h)).1) (fun k h=>au k (b k (.inr h)).1) ag.size);have aD:Hid (yv n0 w0 J O2 w0 W7):=zH ⟨⟨_,cw⟩,S.bl.trans ag,fun q hq=>bP (S.lt q hq) ag.size,eZ S.sz ag.size⟩;have N:fc W7 d 409 vs:=(au _ (b _ (.inr aO.og)).1).trans aa;have aj:=zH (aJ.kept (fun k h=>au k (b k (.inr h.1)).1) ag.size);have c7:W7.cell? (pA d i)=some (.slice (pA r X) (L'.length+1) o):=by rw[N.cell i];exact aU.2
     have f7:=N.frozen i;have l7:=N.lt;clear c5 y1 y2 y3 l3 aa aJ aO S hy hR cw ag au G;obtain⟨o8,h8⟩: ∃o8,o8=if o=1 then X else X+3:=⟨_,rfl⟩;have ay:L'.length≠0->o8=X+3:=fun h=>by rw[h8,if_neg (by simp at cG;omega)]
     have cg:=t.put (u:=.slice (pA r o8) L' (o-1)) (L':=L') cR (aj.tail ay) (fun q hq=>bU q (.tail _ hq)) (fun x F e=>absurd e (HM x F).2);have cj:=aD.out.set (i:=i) HJ.out (by have:=aD.out.sz;have:=aR.out;omega) (b.out _ (.inr t.out.og)).1 (eZ af (b.out _ (.inr t.out.og)).2) (.slice (pA r o8) L' (o-1));have ao:=N.gH i (.slice (pA r o8) L' (o-1));have c8:=zN W7 (pA d i) (.slice (pA r o8) L' (o-1)) c7;have aQ:Hid (∀w9,w9.heap[d.heap.size]? =(W7.setCell (pA d i) (.slice (pA r o8) L' (o-1))).heap[d.heap.size]? ->Ji w9 d c.length<Ji wr d c):=zH (fun w9 h9=>by have h1:fc w9 d 409 (vs.set i (.slice (pA r o8) L' (o-1))):=h9.trans ao;have h2:=Jj h1;rw[jt,bH] at h2;rw[h2,aU.out.1];have h3:=M9 (.slice (pA r o8) L' (o-1)) aU.2;simp only[UB,ff] at h3;omega);have bW:Hid ((R.set i L')[i]? =some L'):=zH (iT (by rw[t.out.len];exact cZ));obtain⟨y,aE⟩:=Zb cg cj;have aK:=aj.tail ay;have dj:r≠d.heap.size:=cU.2;have l8:=ao.lt;have aM:(W7.setCell (pA d i) (.slice (pA r o8) L' (o-1))).heap.size=W7.heap.size:=sI;have dh:n0<=W7.heap.size:=by have:=aD.out.sz;have:=aR.out;omega
     have bY:=zH aM;clear cg cj ao aM t aD aj N
     rcases L' with _|⟨q1,L2⟩
     ·by_cases E:o=1
      ·subst E;rw[if_pos rfl] at h8;subst h8;replace c8:(W7.setCell (pA d i) (.slice (pA r o8) 0 0)).cell? (pA d i)=some (.slice (pA r o8) 0 0):=c8;clear ay;gi_wp2;exact⟨⟨O2,D,I,H',_,y,b,aE⟩,aQ _ rfl⟩
      ·rw[if_neg E] at h8;subst h8;replace c8:(W7.setCell (pA d i) (.slice (pA r (X+3)) 0 (o-1))).cell? (pA d i)=some (.slice (pA r (X+3)) 0 (o-1)):=c8;clear ay;gi_wp2;exact⟨⟨O2,D,I,H',_,y,b,aE⟩,aQ _ rfl⟩
     ·have E: ¬o=1:=by simp at cG;omega
      rw[if_neg E] at h8;subst h8;clear ay;replace c8:(W7.setCell (pA d i) (.slice (pA r (X+3)) (L2+1) (o-1))).cell? (pA d i)=some (.slice (pA r (X+3)) (L2+1) (o-1)):=c8;obtain⟨A9,c9,hv,-,-,A⟩:=FO.open_ aK.1;cases hv;obtain⟨dx,dN,e9,-,-,-,y3⟩:=A 0 q1 rfl;cases e9;have y4:(W7.setCell (pA d i) (.slice (pA r (X+3)) (L2+1) (o-1))).cell? (pA r (X+3+2))=some q1.2.2:=(oD (fX _ _ _ _ _ dj)).trans (by simpa using y3);have h0:0<(q1::L2).length:=sI;clear A y3 aK;gi_wp2;obtain⟨v9,f9,az⟩:=y.hp;refine⟨trivial,callsIn_wide.2 ((Iw _ _ p H' v9 mb f9 az i _ (by have:=y.out.hlen;omega)).mono ?_)⟩;rintro e w9 ⟨bb,rfl,T,H9,dP,dB,ai,P,ah,-,C⟩;have aP:=zH (y.heap ai C P (fun x F=>by
       rcases ah x F with h|h
       ·exact y.hi x h
       ·subst h;exact⟨i,_,rfl,bW,by simp⟩))
      have ax:=dh;rw[<-bY.out] at ax;have cN:Hid (yv n0 w0 J (fun k=>O2 k\/T k) w0 w9):=zH (aE.step HJ (C.mono fun k h=>(b k (.inl h)).1) ax (C.low (fun k h=>eZ af (b k (.inl h)).2) ax) (fun k m=>by
       rcases m with h|h
       ·exact⟨.inl h,bP (aE.lt k h) C.size⟩
       ·exact⟨(P k h).imp (fun h=>(b k (.inl h)).1) id,ai.ol k h⟩))
      have aT:Hid (∀k,T k\/I k->(O2 k\/T k)/\W.heap.size<=k):=zH (fun k m=>by
       rcases m with h|h
       ·refine⟨.inr h,?_⟩
        rcases P k h with h|h
        ·exact(b k (.inl h)).2
        ·have:=y.out.lt _ y.out.og;have h2:=(b _ (.inr y.og)).2;omega
       ·exact⟨.inl (b k (.inr h)).1,(b k (.inr h)).2⟩)
      have cO:=zH (aQ w9 (C.block _ l8 (fun h=>y.dis _ h y.og)));clear ai P ah C az;gi_wp2;exact⟨⟨_,T,I,H9,_,aP,aT,cN⟩,cO⟩
end
section
open Go.Proofs.Tryz
open Go.RowKit Go.Shelf PF jm ko kN P15
attribute [local go_sem] iO
variable {T:List Tr}
def Ky (x:fS) (A1:Option Addr) (c1:Nat) (A2:Option Addr) (c2:Nat) (Al:Option Addr) (n cl:Nat) (w:World):
  Calls prog 316 #[.agg (xC x A1 c1 A2 c2).toArray,.slice Al n cl] w fun e w'=>e=.returned (.func (.func 330) #[] #[.pointer (pB (w+1)),.pointer w])/\fc w' w 25 (xC x A1 c1 A2 c2)/\fc w' (w+1) 42 [.slice Al n cl]/\Below w w w'/\w'.heap.size=w.heap.size+2:=by
 go_enter func316,ntmps316;go_wp2;go_ret;exact⟨rfl,(fc.new w _ _).alloc _,fc.fW _ _ _ sI,bL (bL bF _) _,by simp⟩
def BH.one {L:Tr} (h:BH L T f) (s:vg):BH (L++[s]) (T++[[s]]) (qQ f s.1 (some (T.length:Int))):=by
 intro q hq;by_cases e:q.1=s.1
 ·exact⟨T.length,[s],by unfold qQ;rw[if_pos e],by simp,by simp[e]⟩
 ·rcases fO.1 hq with hq|hq
  ·obtain⟨i,t,y,G,a⟩:=h q hq;exact⟨i,t,by unfold qQ;rw[if_neg e];exact y,by rw[fu (bX.1 G).1];exact G,a⟩
  ·exact absurd (by rw[nw.1 hq]) e
def vr.abV {D:Nat->Prop} {x:fS} {A1:Option Addr} {c1:Nat} {A2:Option Addr} {c2 p mb:Nat} {tv:Value} {w w':World} {n:Int} {a:Int->Option Int} (h:vr D x A1 c1 A2 c2 p mb tv w T n f) (j:nO w' mb a) (hs:gI (fun k=>k=mb) w w'):vr D x A1 c1 A2 c2 p mb tv w' T n a:=
 ⟨hs.ig h.ig h.pm,h.t.at (fun k c=>hs.block k (c.elim (fun y=>h.lt k (.inl y)) fun y=>h.t.lt k y) (fun e=>by
  have e2:k=mb:=e;subst e2;exact c.elim h.md fun y=>(h.gp k y).2 rfl)) hs.size,j,h.pd,h.md,h.pm,h.gp,fun k c=>by
  rw[hs.block k (h.lt k (.inl c)) (fun e=>h.md (show D mb from(show k=mb from e)▸c))];exact h.dl k c⟩
def E2: ∀l:Tr,xS (l.map fun s=>[s])=l
 | []=>rfl
 |a::l=>by have:=E2 l;unfold xS at*;simp only[gN,yu,ff,fZ] at this|-;omega
def ju.step {e:Nat} {O a:Nat->Prop} {W f:World} (h:gI a W f) (d: ∀k,a k->e<=k/\k<B/\ ¬O k) (hn:e<=W) (hO: ∀k,O k->k<W.heap.size):ju B e O W f:=
 ⟨⟨h.size,fun k o c g _=>(h.block k (aah.1 g).1 fun b=>by have:=(d k b).2.1;omega).trans g⟩,h.low (fun k c=>(d k c).1) hn,fun k c=>h.block k (hO k c) fun b=>(d k b).2.2 c⟩
structure VX (L:Tr) (w0:World) (x:fS) (A1:Option Addr) (c1:Nat) (A2:Option Addr) (c2:Nat) (jb rb p mb:Nat) (tv:Value) (D:Nat->Prop) (T:List Tr) (n:Int) (f:Int->Option Int) (O:Nat->Prop) (W:World):Prop where
 bl:Below w0 w0 W
 j:fc W jb 363 [.pointer p]
 st:vr D x A1 c1 A2 c2 p mb tv W T n f
 ob: ∀k,O k->w0.heap.size<=k
 jn: ∀k,Xn D p mb tv k->k≠jb/\k≠rb
 r:fc W rb 39 [()]
 nj: ∀k,Xn D p mb tv k\/k=jb\/k=rb-> ¬O k
 ok:BH L T f
 tr: ∀t∈T,jK x.eB t
 ll:xS T=L
 tl:T.length=L
def Tf (L:Tr) (w0:World) (x:fS) (A1:Option Addr) (c1:Nat) (A2:Option Addr) (c2:Nat) (jb rb p mb:Nat) (tv:Value):Jt:=fun _ O W=> ∃D T n f,VX L w0 x A1 c1 A2 c2 jb rb p mb tv D T n f O W
section
variable {L:Tr} {x:fS} {jb:Nat} {tv:Value}
def Tf.ab:Ms (Tf L w0 x A1 c1 A2 c2 jb rb p mb tv):=fun s O a A B b hs ho=>by
 obtain⟨D,T,n,f,h⟩:=b;have I: ∀k,Xn D p mb tv k\/k=jb\/k=rb->k<A.heap.size:=by
  rintro k (y|rfl|rfl)
  ·exact h.st.lt k y
  ·exact h.j.lt
  ·exact h.r.lt
 have c: ∀k,Xn D p mb tv k\/k=jb\/k=rb->B.heap[k]? =A.heap[k]? :=fun k c=>hs.block k (I k c) (h.nj k c);have d:=h.bl.size;refine⟨D,T,n,f,⟨h.bl.trans (hs.low h.ob d),(c jb (.inr (.inl rfl))).trans h.j,h.st.at (fun k y=>c k (.inl y)) hs.size,fun k c=>?_,h.jn,(c rb (.inr (.inr rfl))).trans h.r,fun k y G=>?_,h.ok,h.tr,h.ll,h.tl⟩⟩
 ·rcases (ho k c).1 with h3|h3
  ·exact h.ob k h3
  ·omega
 ·rcases (ho k G).1 with h3|h3
  ·exact h.nj k y h3
  ·have:=I k y;omega
def Tf.bk (m:w0.heap.size<=B) (j:mb<B) (s:Nat) (O:Nat->Prop):rR B (Tf L w0 x A1 c1 A2 c2 jb rb p mb tv s O):=fun A C row b N d=>by
 obtain⟨D,T,n,f,h⟩:=b;have c: ∀k:Nat,(∃o:Obj,A.heap[k]? =some o/\o.isCells=true)->C.heap[k]? =A.heap[k]? :=by rintro k ⟨o,y,G⟩;refine N.block k (aah.1 y).1 fun e=>?_;obtain⟨-,q,a,i⟩:=d k e.symm;rw[y] at a;cases a;rw[G] at i;cases i
 have E: ∀{g:Nat} {t:TypeId} {l:List Value},fc A g t l-> ∃o:Obj,A.heap[g]? =some o/\o.isCells=true:=fun h=>⟨_,h,rfl⟩;refine⟨D,T,n,f,⟨rR.below m lE A C row h.bl N d,(c jb (E h.j)).trans h.j,h.st.at ?_ N.size,h.ob,h.jn,(c rb (E h.r)).trans h.r,h.nj,h.ok,h.tr,h.ll,h.tl⟩⟩;rintro k (y|rfl|rfl|y)
 ·exact c k (h.st.dl k y)
 ·exact c k (E h.st.ig)
 ·exact N.block k h.st.m.lt fun e=>by have:=(d k e.symm).1;omega
 ·exact c k (h.st.t.cells k y)
end
def OY:(prog.info? 42).map (fun i=>(i.zero,i.size,i.bytes))=some (some (.slice none 0 0),1,24):=kR
def aaj: ∀T:List Tr,(T.filter fun t=>0<t.length).flatten.length=xS T
 | []=>rfl
 |t::T=>by
  have a:=aaj T;unfold xS at a|-
  rw[gN,yu,<-a];cases t with
  |nil=>simp
  |cons s t=>simp;omega
inductive Xy (n K c:Nat) (w:World) (e:Ending) (w':World):Prop
 |mk (dv:Value) (d:Dy) (he:e=.returned (.agg #[dv])) (hr:RL 1 jf w' dv d) (hd:jS n K d) (hne: ∀t∈d,t≠[]) (hc:d.flatten.length=c) (hb:Below w w w')
def IC (x:fS) (A1:Option Addr) (c1:Nat) (A2:Option Addr) (c2:Nat) (lv:Value) (l:Tr) (w:World) (hx:iz w (.agg (xC x A1 c1 A2 c2).toArray) x) (ho:eV x) (hl:RL 2 iH w lv l) (Q:jK x.eB l) (hn:l.length<=2000):
  Calls prog 301 #[.agg (xC x A1 c1 A2 c2).toArray,lv] w (Xy x.eB 4000 l w):=by
 obtain⟨Al,cl,rfl,ej,ek,cF⟩:=fQ.open_ hl;obtain⟨HX,HO,HL,HT,HC⟩:=Ze hx ho hl Q cF;clear hx ho hl Q cF;have eo:= @run_makeMap prog;refine(callsIn_wide (n:=4)).1 ?_;refine callsIn_of_wp_marks func301 rfl trivial ?_ rfl;simp only[ntmps301,gU,ff,fZ,Nat.reduceAdd,Nat.reduceSub,iq,ir,iX,iA,gQ,fY]
 gi_upto_region 2 with fail
 have bx:=((((fc.new w 25 (xC x A1 c1 A2 c2)).alloc (cB 39 [()])).alloc (.map #[] 0)).alloc (cB 367 (yX x A1 c1 A2 c2 [(),(l.length:Int),.map (some (w+1+1))]))).alloc (cB 363 [.pointer (pB (w+1+1+1))]);have ah:=bL (bL (bL (bL (bL (bS w w) (cB 25 (xC x A1 c1 A2 c2))) (cB 39 [()])) (.map #[] 0)) (cB 367 (yX x A1 c1 A2 c2 [(),(l.length:Int),.map (some (w+1+1))]))) (cB 363 [.pointer (pB (w+1+1+1))]);have br:=(((fc.fW (w.alloc (cB 25 (xC x A1 c1 A2 c2))) 39 [()] (g:=w.heap.size+1) sI).alloc (.map #[] 0)).alloc (cB 367 (yX x A1 c1 A2 c2 [(),(l.length:Int),.map (some (w+1+1))]))).alloc (cB 363 [.pointer (pB (w+1+1+1))]);have bp:=(fc.fW (((w.alloc (cB 25 (xC x A1 c1 A2 c2))).alloc (cB 39 [()])).alloc (.map #[] 0)) 367 (yX x A1 c1 A2 c2 [(),(l.length:Int),.map (some (w+1+1))]) (g:=w.heap.size+1+1+1) sI).alloc (cB 363 [.pointer (pB (w+1+1+1))]);have bj:=fc.fW ((((w.alloc (cB 25 (xC x A1 c1 A2 c2))).alloc (cB 39 [()])).alloc (.map #[] 0)).alloc (cB 367 (yX x A1 c1 A2 c2 [(),(l.length:Int),.map (some (w+1+1))]))) 363 [.pointer (pB (w+1+1+1))] (g:=w.heap.size+1+1+1+1) sI;have aQ:=nO.new ((w.alloc (cB 25 (xC x A1 c1 A2 c2))).alloc (cB 39 [()]));have ay:nO (((((w.alloc (cB 25 (xC x A1 c1 A2 c2))).alloc (cB 39 [()])).alloc (.map #[] 0)).alloc (cB 367 (yX x A1 c1 A2 c2 [(),(l.length:Int),.map (some (w+1+1))]))).alloc (cB 363 [.pointer (pB (w+1+1+1))])) (w+1+1) (fun _=>none):=by have:=aQ.at ((bL (bL bF (cB 367 (yX x A1 c1 A2 c2 [(),(l.length:Int),.map (some (w+1+1))]))) (cB 363 [.pointer (pB (w+1+1+1))])).block _ aQ.lt);simpa using this
 revert bx ah br bp bj ay;show∀(_:fc (((((w.alloc (cB 25 (xC x A1 c1 A2 c2))).alloc (cB 39 [()])).alloc (.map #[] 0)).alloc (cB 367 (yX x A1 c1 A2 c2 [(),(l.length:Int),.map (some (w+1+1))]))).alloc (cB 363 [.pointer (pB (w+1+1+1))])) _ _ _),_;generalize ((((w.alloc (cB 25 (xC x A1 c1 A2 c2))).alloc (cB 39 [()])).alloc (.map #[] 0)).alloc (cB 367 (yX x A1 c1 A2 c2 [(),(l.length:Int),.map (some (w+1+1))]))).alloc (cB 363 [.pointer (pB (w+1+1+1))])=w1;intro bx ah br bp bj ay;clear aQ;have aW:Hid (vr (fun _=>False) x A1 c1 A2 c2 (w+1+1+1) (w+1+1) () w1 [] l (fun _=>none)):=zH ⟨bp,wj.jL _ _ _,ay,id,id,oG,(fun g h=>by cases h),fun k h=>h.elim⟩;clear bp ay;gi_wp2;gi_loopw [20] (fun iv wr=> ∃(i:Nat) (tv:Value) (D:Nat->Prop) (T:List Tr) (f:Int->Option Int),i<=l/\iv=.int .i64 i/\Hid (T=(l.take i).map fun s=>[s])/\Hid (vr D x A1 c1 A2 c2 (w+1+1+1) (w+1+1) tv wr T l f)/\Hid (BH (l.take i) T f)/\Hid (∀k,D k\/tv.ownBlock=some k->w.heap.size+1+1+1+1<k)/\
  fc wr w 25 (xC x A1 c1 A2 c2)/\fc wr (w+1) 39 [()]/\fc wr (w+1+1+1+1) 363 [.pointer (pB (w+1+1+1))]/\Below w w wr) (fun iv _=>l.length-(intOf iv).toNat)
 case atStart=>exact⟨0,_,_,[],_,eC _,rfl,rfl,aW,(fun s h=>by cases h),(fun k h=>h.elim False.elim fun h=>by cases h),bx,br,bj,ah⟩
 case round=>
  obtain⟨i,tv,D,T,f,hi,rfl,J,HJ,aH,ae,bx,br,bj,E⟩:=hrel;clear aW;by_cases I:i<l
  ·obtain⟨⟨z,q⟩,aR⟩:=ec I;obtain⟨b2,o2,rfl,dY,y0,y1⟩:=HC i _ aR;replace y0:=a7 E lE y0;replace y1:=a7 E lE y1;obtain⟨At,ct,rfl,-⟩:=HJ.t.slice;have cg:T.length=i:=by rw[J.out];simp;omega
   have cj:T.length<=1000000000:=oG;obtain⟨dr,bG⟩:=Zb cg aR;have bp:=HJ.ig;have lx:=bx.lt;have lr:=br.lt;have lj:=bj.lt;clear cg aR
   gi_upto_region 5 with fail
   have bs:=fc.new wr 84 [z,q];have au:=bp.alloc (cB 84 [z,q]);have ar:=bj.alloc (cB 84 [z,q]);have L:=bL (bS wr wr) (cB 84 [z,q]);revert bs au ar L;show∀(_:fc (wr.alloc (cB 84 [z,q])) _ _ _),_;generalize wr.alloc (cB 84 [z,q])=j;intro bs au ar L;have aG:=zH (HJ.below L);have dK:=bs.lt;refine wpIn_wide.2 ?_;refine rG (fun wS=>fc wS (w+1+1+1) 367 (yX x A1 c1 A2 c2 [.slice At T ct,(l.length:Int),.map (some (w+1+1))])/\fc wS (w+1+1+1+1) 363 [.pointer (pB (w+1+1+1))]/\fc wS wr 84 [z,q]) [11] (⟨au,ar,bs⟩) fun hS=>?_;refine kL [0,1,2,3,4,5] ?_;refine tO 6 fun K U=>?_;go_simp;have h6:=bL (bS j j).drew (cB 84 [z,q]);have V:fc (j.drew.alloc (cB 84 [z,q])) _ _ _/\fc (j.drew.alloc (cB 84 [z,q])) _ _ _/\fc (j.drew.alloc (cB 84 [z,q])) _ _ _:=⟨hS.1.alloc _,hS.2.1.alloc _,hS.2.2.alloc _⟩;refine U _ _ (V) ?_;have hS:=V;refine tO 7 fun K U=>?_;go_simp;have h7:Below j j (((j.alloc (cB 84 [z,q])).alloc (cB 42 [.slice j 1 1])).drew):=(bL (bL (bS j j) (cB 84 [z,q])) (cB 42 [.slice j 1 1])).drew;have bn:fc (((j.alloc (cB 84 [z,q])).alloc (cB 42 [.slice j 1 1])).drew) j 84 [z,q]:=(fc.new j 84 [z,q]).alloc (cB 42 [.slice j 1 1]);have bu:fc (((j.alloc (cB 84 [z,q])).alloc (cB 42 [.slice j 1 1])).drew) (j+1) 42 [.slice j 1 1]:=fc.fW (j.alloc (cB 84 [z,q])) 42 [.slice j 1 1] (g:=j.heap.size+1) sI;have bY:fc (((j.alloc (cB 84 [z,q])).alloc (cB 42 [.slice j 1 1])).drew) _ _ _/\fc (((j.alloc (cB 84 [z,q])).alloc (cB 42 [.slice j 1 1])).drew) _ _ _/\fc (((j.alloc (cB 84 [z,q])).alloc (cB 42 [.slice j 1 1])).drew) _ _ _:=⟨V.1.alloc (cB 42 [.slice j 1 1]),V.2.1.alloc (cB 42 [.slice j 1 1]),V.2.2.alloc (cB 42 [.slice j 1 1])⟩;refine U _ _ (bY) ?_;clear hS V h6;revert h7 bn bu bY;show∀(_:Below j j (((j.alloc (cB 84 [z,q])).alloc (cB 42 [.slice j 1 1])).drew)),_;generalize ((j.alloc (cB 84 [z,q])).alloc (cB 42 [.slice j 1 1])).drew=w7;intro h7 bn bu hS;have H:=zH (aG.below h7);obtain⟨vs,Z,-⟩:=H.t.own;have en:=bu.lt;refine tO 8 fun K U=>?_;refine vW w7 (.tmp 29) (.tmp 32) 365 rfl 0 42 _ 1 24 underlying365 OY rfl dE dE _ T vs Z rfl [.slice j 1 1] 1 _ rfl bu rfl rfl cj (eC _) ?_;intro g cap w8 az o cH r;have Y: ∀k,k<=w.heap.size+1+1+1+1->some k≠(Value.slice At T ct).ownBlock:=fun k c e=>by have:=ae.out k (.inr e.symm);omega
   have bZ:fc w8 _ _ _/\fc w8 _ _ _/\fc w8 _ _ _:=⟨hS.1.grown r (Y _ oG),hS.2.1.grown r (Y _ oG),hS.2.2.grown r (fun e=>by have:=HJ.out.t.lt _ e.symm;omega)⟩;refine U _ _ (bZ) ?_;have hS:=bZ;refine kL [9,10] ?_;have f6:=hS.1.frozen 6;have c6:=hS.1.c 6;have l6:=hS.1.lt;refine tL 11 fun K U=>?_;go_simp;refine U _ _ ?_;refine tD ?_;have ee:w.heap.size+1+1+1+1<g:=o.elim (fun h=>ae g (.inr h)) fun h=>by have:=h7.size;omega
   have eu:wr.heap.size<j.heap.size:=dK;obtain⟨D',F⟩: ∃D':Nat->Prop,D'=fun k=>D k\/k=j.heap.size:=⟨_,rfl⟩;have aK: ∀k,D k->k<j.heap.size:=fun k c=>aG.lt k (.inl c);have aA:=HJ.t.lt;have bW:wj 42 D' w7 (.slice At T.length ct) T:=H.t.more (fun k h=>by rw[F];exact .inl h) (fun k c h=>by
    rw[F] at h
    rcases h with h|h
    ·exact H.t.nd k c h
    ·have:=aA k c;omega)
   have aw:=bW.push (t:=[(z,q)]) (u:=.slice j 1 1) Z az r (fun k c=>by
    rw[F] at c
    rcases c with h|h
    ·have:=aK k h;have:=h7.size;omega
    ·omega) (OS.reads (lb:=0) ⟨rfl,.inr ⟨j,1,#[z,q],rfl,eC _,bn,by simp,by simp[maxLen],rfl,rfl⟩⟩) (fun k c=>by rw[F];exact .inr (fg c).symm) (fun k c h=>by
    have e:g=k:=fg c;subst e;rw[F] at h
    rcases h with h|h
    ·rcases o with G|G
     ·exact HJ.t.nd _ G h
     ·have:=aK g h;have:=h7.size;omega
    ·rcases o with G|G
     ·have:=aA g G;omega
     ·omega)
   have al:=hS.1.gH 6 (.slice g (T+1) cap);have aj:=hS.2.1.kj (p:=pA (w+1+1+1) 6) dO (.slice g (T+1) cap);have aE:=hS.2.2.kj (p:=pA (w+1+1+1) 6) dO (.slice g (T+1) cap);have aM:=E.trans ((L.trans (h7.mono oG)).mono (by have:=E.size;omega));have ai:=(aM.grown r (by have:=aM.size;omega) (fun k c=>by have:=ae.out k (.inr c);omega)).setCell (p:=pA (w+1+1+1) 6) dO (.slice g (T+1) cap);have aF:=((bx.below (L.trans (h7.mono oG)) lx).grown r (Y _ oG)).kj (p:=pA (w+1+1+1) 6) dO (.slice g (T+1) cap);have aC:=((br.below (L.trans (h7.mono oG)) lr).grown r (Y _ oG)).kj (p:=pA (w+1+1+1) 6) dO (.slice g (T+1) cap);have aB: ¬D' (w+1+1+1):=fun h=>by rw[F] at h;exact h.elim HJ.pd fun h=>by omega
   have cJ: ¬D' (w+1+1):=fun h=>by rw[F] at h;exact h.elim HJ.md fun h=>by omega
   have ao:=zH (vr.mk (A1:=A1) (c1:=c1) (A2:=A2) (c2:=c2) (x:=x) (n:=l.length) (f:=f) (mb:=w.heap.size+1+1) al (aw.at (w':=w8.setCell (pA (w+1+1+1) 6) (.slice g (T+1) cap)) (fun k c=>fX _ _ _ _ _ (fun e=>by
     subst e
     rcases c with h|h
     ·exact aB h
     ·have:g=w.heap.size+1+1+1:=fg h;omega)) sI)
    (H.m.at ((fX _ _ _ _ _ oG).trans (r.block _ H.m.lt (Y _ oG)))) aB cJ oG (fun k c=>by
     have e:g=k:=fg c;omega) (fun k c=>by
     have ak:k≠w.heap.size+1+1+1:=fun e=>aB (e▸c);rw[fX _ _ _ _ _ ak];rw[F] at c
     rcases c with h|h
     ·rw[r.block k (H.out.lt k (.inl h)) (fun e=>H.out.t.nd k e.symm h)];exact H.dl k h
     ·subst h;exact⟨_,bn.grown r (fun e=>by have:=aA _ e.symm;omega),rfl⟩))
   have aX:Hid (∀k,D' k\/(Value.slice g (T+1) cap).ownBlock=some k->w.heap.size+1+1+1+1<k):=zH (fun k c=>by
    rcases c with h|h
    ·rw[F] at h
     rcases h with h|h
     ·exact ae k (.inl h)
     ·omega
    ·have e:g=k:=fg h;omega)
   clear hS bW aw F Z az r o bn bu h7 aM f6 c6 aG H bs au ar L aA aK aB cJ Y bx br bj y0 y1;revert al aj aE ai aF aC ao;generalize w8.setCell (pA (w+1+1+1) 6) (.slice g (T+1) cap)=w9;intro al aj aE ai aF aC ao;obtain⟨W2,dJ,cI,cQ,cA⟩:=nO.put (P:=prog) (ao.m.at (w':=w9.drew) rfl) qe qd z i;have cT:=(gI.drewN (fun k=>k=w.heap.size+1+1) w9 1).trans' (gI.grown cA fun g e=>(fg e).symm);obtain⟨af,C⟩:=Zb cT cI;clear cT cI cA cQ
   gi_upto_region 6 with fail
   refine wpIn_wide.2 ?_;refine rG (fun wS=>fc wS (w+1+1+1) 367 (yX x A1 c1 A2 c2 [.slice g (T+1) cap,(l.length:Int),.map (some (w+1+1))])/\fc wS (w+1+1+1+1) 363 [.pointer (pB (w+1+1+1))]/\fc wS wr 84 [z,q]) [7] (⟨al,aj,aE⟩) fun hS=>?_;refine kL [0,1,2,3,4,5,6] ?_;refine tL 7 fun K U=>?_;go_simp;refine U _ _ ?_;refine tD ?_;have ak: ∀k,k≠w.heap.size+1+1-> ¬(fun k=>k=w.heap.size+1+1) k:=fun k h e=>h e;have dN:=af.ig aF (ak _ oG);have cO:=af.ig aC (ak _ oG);have dH:=af.ig aj (ak _ oG);have cw:=ai.trans (af.low (B:=w.heap.size) (fun k h=>by have:k=w.heap.size+1+1:=h;omega) (by have:=ai.size;omega));have d:=zH (ao.abV C af);have bB:Hid (T++[[(z,q)]]=(l.take (i+1)).map fun s=>[s]):=zH (by rw[iC bG.out,gJ,<-J.out];rfl);have aZ:Hid (BH (l.take (i+1)) (T++[[(z,q)]]) (qQ f z (some (i:Int)))):=zH (by rw[iC bG.out];have:=aH.out.one (z,q);rw[dr.out] at this;exact this);have ax:(T++[[(z,q)]]).length=T.length+1:=sI;clear al aj aE aF aC ai dJ;gi_wp2;rw[<-ax] at d aX;exact⟨⟨i+1,_,D',T++[[(z,q)]],_,I,by go_num,bB,d,aZ,aX,dN,cO,dH,cw⟩,by simp[intOf];omega⟩
  ·obtain rfl:i=l.length:=oG;have aI:Hid (T=l.map fun s=>[s]):=zH (by rw[J.out,fj lE]);have bh:Hid (BH l T f):=zH (by have:=aH.out;rwa [fj lE] at this);obtain⟨d0,d1,d2,d3,d4,d5,-⟩:=bx.iY;have lx:=bx.lt
   gi_upto_region 8 with fail
   gi_wp2;refine⟨trivial,callsIn_wide.2 ((Ky x A1 c1 A2 c2 Al l cl wr).mono ?_)⟩;rintro e wB ⟨rfl,bI,bH,X,cX⟩;have cU:=zH cX;have dM:=E.size;have ew:=X.size;have A:=E.trans (X.mono dM);have dS:=bI.lt;have dQ:=bH.lt;have dx:=br.below X br.lt;obtain⟨dn,dt⟩:=Zb (HJ.below X) HJ.t.lt;have dw:=bj.below X bj.lt;have bO:=zH HJ.lt;have lj:=bj.lt;have aL:=zH ae;have dh:Hid (VX l w x A1 c1 A2 c2 (w+1+1+1+1) (w+1) (w+1+1+1) (w+1+1) tv D T l f (fun k=>k=wr.heap.size\/k=wr.heap.size+1) wB):=zH ⟨A,dw,dn,(fun k h=>by omega),(fun k h=>by
     rcases h with h|h|h|h
     ·have:=aL.out k (.inl h);omega
     ·omega
     ·omega
     ·have:=aL.out k (.inr h);omega),dx,(fun k c h=>by
     have:k<wr.heap.size:=c.elim (bO k) fun h=>by omega
     omega),bh,(fun t Q=>by
     rw[aI.out] at Q;obtain⟨s,hs,rfl⟩:=cy.1 Q;exact jK.one (HT s hs)),(by
     rw[aI.out];exact E2 l),(by rw[aI.out];simp)⟩
   have dU:wr.heap.size+2<=wB.heap.size:=by have:=cU.out;omega
   clear cX bx br bj HJ J aH E X d0 d1 d2 d3 d4 d5;gi_wp2;refine(qL oG (gf:=330) (lb:= #[.pointer (pB (wr+1)),.pointer wr]) rfl (enters_of func330 kR rfl)
    (F5 w (wr+1) wr w x A1 c1 A2 c2 _ l HX HL rfl oG) A.size (fun s O W x h=>by obtain⟨_,_,_,rfl,-⟩:=h;rfl)
    (Tf l w x A1 c1 A2 c2 (w+1+1+1+1) (w+1) (w+1+1+1) (w+1+1) tv) Tf.ab (Tf.bk A.size oG) (fun k=>k=wr.heap.size\/k=wr.heap.size+1) (fun k h=>by omega)
    (fun W N=>⟨A.trans ⟨N.os,N.tape,N.output,N.size,fun k c=>N.block k (by have:=A.size;omega) sI⟩,(fun k h=>by have:=N.size;omega),(N.block _ dQ sI).trans bH,(N.block _ dS sI).trans bI,.inr rfl,.inl rfl⟩)
    ⟨D,T,_,f,dh⟩ ?round ?done)
   case round=>
    intro m l' s O x' W K hI dB hO dL U;obtain⟨a,b,sv,rfl,ha,E⟩:=dB;have aV:=zH (Tf.ab s O O _ _ hI (gI.alloc O W (cB 372 [a,b,sv])) (fun q hq=>⟨.inl hq,bP (hO q hq) sI⟩));have aT:Hid (ju wB w O W (W.alloc (cB 372 [a,b,sv]))):=zH (ju.below ((bS _ W).alloc lE _) (eZ A.size dL) hO);have aY:=zH (fc.new W 372 [a,b,sv]);clear hI;gi_wp2;refine U _ _ aT (fun m l' W2 bU cQ aN=>?_);have bN:=aN _ (rR.ig W 372 [a,b,sv]) aY;obtain⟨D2,R,n2,f2,v⟩:=aN _ (Tf.bk A.size oG s O) aV;clear aV aY aT aN;have d:=zH v;have aJ:=v.j;obtain⟨m0,m1,m2,-⟩:=bN.iY;have e0:=aJ.c 0;have lN:=bN.lt;have ey:=aJ.lt;clear v;gi_wp2;refine⟨trivial,nF,n9 ((QO (fun k=>k=w.heap.size+1+1+1\/k=w.heap.size+1+1\/tv.ownBlock=some k) l D2 x HO A1 c1 A2 c2 _ _ tv _ R n2 f2 d.st (HX.below d.bl lE) d.ok d.tr (by rw[d.out.ll];omega) ⟨.inl rfl,.inr (.inl rfl),fun g N=>.inr (.inr N)⟩ a b sv ha E).mono ?_)⟩;rintro e W3 ⟨D3,T3,n3,f3,rfl,cR,aO,cL,cV,cE,cK,S⟩;have cG: ∀k,(k=w.heap.size+1+1+1\/k=w.heap.size+1+1\/tv.ownBlock=some k)->w.heap.size<=k/\k<wB.heap.size/\ ¬O k:=fun k c=>by
     refine⟨?_,?_,d.nj k (.inl (.inr c))⟩
     ·rcases c with h|h|h
      ·omega
      ·omega
      ·have:=aL.out k (.inr h);omega
     ·rcases c with h|h|h
      ·omega
      ·omega
      ·have:=dt.out k h;omega
    have aS:=zH (ju.step (B:=wB.heap.size) S cG oG bU);have dj:Hid (VX l w x A1 c1 A2 c2 (w+1+1+1+1) (w+1) (w+1+1+1) (w+1+1) tv D3 T3 n3 f3 O W3):=zH ⟨d.bl.trans aS.bl,S.ig aJ (fun h=>(d.jn _ (.inr h)).1 rfl),cR,d.ob,(fun k h=>by
     rcases h with h|h
     ·rcases aO k h with h|h
      ·exact d.jn k (.inl h)
      ·omega
     ·exact d.jn k (.inr h)),S.ig d.r (fun h=>(d.jn _ (.inr h)).2 rfl),(fun k c h=>by
     rcases c with (G|G)|G
     ·rcases aO k G with h3|h3
      ·exact d.nj k (.inl (.inl h3)) h
      ·have:=bU k h;omega
     ·exact d.nj k (.inl (.inr G)) h
     ·exact d.nj k (.inr G) h),cL,cV,cE.trans d.ll,cK.trans d.tl⟩
    clear cR aO cL cV cE cK S cG;gi_wp2;exact⟨aS,D3,T3,n3,f3,dj⟩
   case done=>
    intro D9 s O W hD hI aP;obtain⟨D2,R,n2,f2,v⟩:=hI;have d:=zH v;have dD:=v.bl.size;have dF:=v.bl;have cN:=v.st.ig;have cD:=v.j;have cP:=v.r;obtain⟨dV,dX,rfl,-⟩:=v.st.t.slice;have cj:R.length<=1000000:=by rw[v.tl];omega
    have cY:=cN.lt;have dP:=cD.lt;have dR:=cP.lt;have ag:Hid (∀k,D2 k->k<W.heap.size):=zH (fun k c=>v.st.lt k (.inl c));have be:=fc.new W 39 [()];have ha:=bL (bS W W) (cB 39 [()]);have dI:=(aah.1 aP).1;have cZ:=zH aP;clear v aP
    gi_upto_region 12 with fail
    revert be ha;show∀(_:fc (W.alloc (cB 39 [()])) _ _ _),_;generalize W.alloc (cB 39 [()])=Wa;intro be ha;have e0:=(cD.below ha dP).c 0;have e6:=(cN.below ha cY).c 6;have ez:=bP cY ha.size;gi_wp2;gi_loopw [56] (fun iv wr=> ∃(i:Nat) (ev:Value) (M:List Tr),i<=R/\iv=.int .i64 i/\Hid (M=(R.take i).filter fun t=>0<t.length)/\Hid (wj 44 D2 wr ev M)/\Hid (∀g,ev.ownBlock=some g->W.heap.size<g)/\fc wr W 39 [ev]/\Below W W wr) (fun iv _=>R.length-(intOf iv).toNat)
    case atStart=>exact⟨0,_,[],eC _,rfl,rfl,(wj.jL _ _ _),(fun g h=>by cases h),be,ha⟩
    case round=>
     obtain⟨i,ev,M,hi,rfl,HM,HR,aa,be,E⟩:=hrel;clear e0 e6;obtain⟨Ae,ce,rfl,-⟩:=HR.slice;have le:=be.lt;have e0:=be.c 0;have dG:=E.size;by_cases I:i<R
     ·obtain⟨t,Q⟩:=ec I;obtain⟨gT,u,rfl,dZ,hu,cC,y0⟩:=d.st.t.get Q;obtain⟨Au,cu,rfl,-,-,-⟩:=fQ.open_ hu;replace y0:=a7 E lE y0;obtain⟨HU,aU,J⟩:=Zc (fQ.below hu E lE) cC Q;have eh:gT<wr.heap.size:=oG;have dA:M.length<=1000000000:=by
       have y:M.length<=(R.take i).length:=by rw[HM.out];exact tQ _ _
       have G:(R.take i).length<=i:=by rw[fB];omega
       omega
      clear hu cC Q;by_cases h0:0<t.length
      ·have C:Hid (M++[t]=(R.take (i+1)).filter fun t=>0<t.length):=zH (by rw[iC J.out,nu,<-HM.out];simp[h0]);have bu:=fc.new wr 44 [.slice Au t cu];have du:=be.alloc (cB 44 [.slice Au t cu]);have ah:=E.alloc dG (cB 44 [.slice Au t cu]);have bA:=zH (HR.out.at (w':=wr.alloc (cB 44 [.slice Au t cu])) (fun k c=>((bS wr wr).alloc lE (cB 44 [.slice Au t cu])).block k (c.elim (fun h=>by have:=ag.out k h;omega) fun h=>HR.out.lt k h)) sI);obtain⟨vs,Z,-⟩:=bA.own;have cM:=HR.lt;have dW:=zH cM;clear cM
       gi_upto_region 16 with fail
       refine wpIn_wide.2 ?_;go_wp2_with (at_builtin;refine wpList_plain rfl fun K U=>(vW _ (.tmp 64) (.tmp 67) 37 rfl 0 44 _ 1 24 underlying37 uz rfl dE dE _ M vs Z rfl [.slice Au t cu] 1 _ rfl bu rfl rfl dA (eC _) ?_);intro g cap w8 az o cH r;have aq:=du.grown r (fun e=>by have:=aa.out _ e.symm;omega);have f8:=aq.frozen 0;have c8:w8.cell? W=some (.slice Ae M ce):=aq.cell 0;have l8:=aq.lt;refine U _ _ ?_);gi_wp2;have ef:W.heap.size<g:=o.elim (aa g) fun h=>by simp at h;omega
       have aw:=bA.out.push (t:=t) (u:=.slice Au t.length cu) Z az r (fun k c=>by have:=ag.out k c;simp;omega) (RL.zU HU.out (fun q hq=>by simpa using((bS wr wr).alloc lE (cB 44 [.slice Au t.length cu])).block q (by have:=ag.out q (aU.out q hq);omega)) sI) aU.out (fun k c h=>by have e:g=k:=fg c;have:=ag.out k h;omega);have dC:=aw.at (w':=w8.setCell W (.slice g (M+1) cap)) (fun k c=>fX _ _ _ _ _ (fun e=>by
        rcases c with h|h
        ·have:=ag.out k h;omega
        ·have e2:g=k:=fg h;omega)) sI
       have ax:(M++[t]).length=M.length+1:=sI;exact⟨⟨i+1,.slice g (M++[t]).length cap,M++[t],I,by go_num,C,zH (by rw[ax];exact dC),(fun k c=>by have e:g=k:=fg c;omega),by rw[ax];exact aq.gH 0 _,(ah.grown r sO (fun k c=>by have:=aa.out k c;omega)).setCell (p:=W) lE _⟩,by simp[intOf];omega⟩
      ·have C:Hid (M=(R.take (i+1)).filter fun t=>0<t.length):=zH (by rw[iC J.out,nu,<-HM.out];simp[h0]);have hz:t.length=0:=oG;gi_wp2;exact⟨⟨i+1,_,M,I,by go_num,C,HR,aa,be,E⟩,by simp[intOf];omega⟩
     ·obtain rfl:i=R.length:=oG;have C:Hid (M=R.filter fun t=>0<t.length):=zH (by rw[HM.out,fj lE]);have aD:=cP.below E dR;have c4:=aD.c 0;have f4:=aD.frozen 0;have l4:=aD.lt;have an:Hid ((wr.setCell (pB (w+1)) (.slice Ae M ce)).heap[D9]? =some (.deferred (some []))):=zH ((fX _ _ _ _ _ oG).trans ((E.block D9 dI).trans cZ));have dp:Hid (RL 1 jf (wr.setCell (pB (w+1)) (.slice Ae M ce)) (.slice Ae M ce) M):=zH (wj.reads (HR.at (fun k c=>fX _ _ _ _ _ (fun e=>by
       rcases c with h|h
       ·exact(d.jn k (.inl h)).2 e
       ·have:=aa.out k h;omega)) sI))
      have dz:=(dF.trans (E.mono dD)).setCell (p:=pB (w+1)) dO (.slice Ae M ce);have bJ:jS x.eB.length 4000 M:=⟨fun t Q=>by rw[C.out] at Q;exact d.tr t (mC.1 Q).1,by rw[C.out];have y:=Pt R;have G:=d.ll;omega⟩;have dg:=zH bJ;clear bJ;gi_wp2;refine⟨by simp,.inl ⟨_,_,rfl,run_takeDeferred an,?_⟩⟩;exact⟨_,ia rfl _ _ (w+1) 39 [.slice Ae M ce] _ rfl (pS (aD.gH 0 _) an rfl _) underlying39 rfl kR,⟨_,M,rfl,iK.step dp sI (fun p u h=>Hy an rfl _ p u h),dg,(fun t Q=>by rw[C.out] at Q;have:=(mC.1 Q).2;intro e;subst e;simp at this),by rw[C.out,aaj];exact d.ll,nb dz lE oG an⟩⟩
end
section
open Go.Proofs.Tryz
open Go.RowKit jm ko kN P15
theorem K9{p:Prop}(h:p:=by go_wp2_with fail;refine bodyPost_ret (iw rfl _ _ w 39 [.slice q d'.length r] _ true rfl rfl (g.gH 0 _) underlying39 rfl kR) rfl ⟨_,d',true,rfl,(y.fG dO _).mono oG,E,F,⟨fun _ h e=>h (rX.1 (z (by rw[<-D.out,e];rfl))),fun h=>by cases h⟩,m.setCell (p:=w) lE _⟩):p:=h
variable {l:Tr}
structure xe (x:fS) (A1:Option Addr) (c1:Nat) (A2:Option Addr) (c2:Nat) (lv:Value) (l:Tr) (bud:Int) (xb lb bb ib:Nat) (w:World):Prop where
 fx:fc w xb 25 (xC x A1 c1 A2 c2)
 fl:fc w lb 42 [lv]
 fb:fc w bb 3 [bud]
 fi:fc w ib 336 [.func (.func 297) #[] #[.pointer xb,.pointer bb]]
 rx:iz w (.agg (xC x A1 c1 A2 c2).toArray) x
 rl:RL 2 iH w lv l
def xe.below {x:fS} {A1:Option Addr} {c1:Nat} {A2:Option Addr} {c2:Nat} {lv:Value} {bud:Int} {xb lb bb ib:Nat} {w w':World} (h:xe x A1 c1 A2 c2 lv l bud xb lb bb ib w) (f:Below w w w'):xe x A1 c1 A2 c2 lv l bud xb lb bb ib w':=
 ⟨h.fx.below f h.fx.lt,h.fl.below f h.fl.lt,h.fb.below f h.fb.lt,h.fi.below f h.fi.lt,h.rx.below f lE,fQ.below h.rl f lE⟩
def Hl {n:Nat} (h:jK n l) (O:l.length<=2000):jS n 4000 (l.map fun s=>[s])/\ ∀t∈l.map (fun s=>[s]),t≠[]:=by
 refine⟨⟨fun t I=>?_,?_⟩,fun t I=>?_⟩
 ·obtain⟨s,u,rfl⟩:=cy.1 I;exact jK.one (h s u)
 ·have:yw (l.map fun s=>[s])=2*l.length:=by
   clear h O
   induction l with
   |nil=>rfl
   |cons s l ih=>rw[gN,qM,ih];simp;omega
  omega
 ·obtain⟨s,u,rfl⟩:=cy.1 I;simp
section
variable {x:fS} {l:Tr}
def DM (u:xe x A1 c1 A2 c2 lv l bud xb lb bb ib w) (N:eV x) (n:bud<=9223372036854775807) (dv:Value) (d:Dy) (M:RL 1 jf w dv d) (V:jS x.eB 4000 d) (H: ∀t∈d,t≠[]):
  Calls prog 297 #[.agg #[dv],.pointer xb,.pointer bb] w (aay x.eB 4000 d.flatten w):=by
 obtain⟨A,B,rfl,-⟩:=iK.open_ M;obtain⟨C,Q,J,T,G⟩:=Ze u N M V H;have O:=u.fx;have s:=u.fb;have W:=O.lt;have I:=s.lt;clear u N M V H;go_enter func297,ntmps297;go_upto_region 1 with fail
 have h:=(fc.new w 39 [.slice A d B]).alloc (cB 39 [()]);have L:=fc.fW (w.alloc (cB 39 [.slice A d B])) 39 [()] (g:=w.heap.size+1) sI;have f:=bL (bL (bS w w) (cB 39 [.slice A d B])) (cB 39 [()]);revert h L f;generalize (w.alloc (cB 39 [.slice A d B])).alloc (cB 39 [()])=w1;intro h L f;obtain⟨X,Y,Z,d3,d4,d5,-⟩:=(O.below f W).iY;have S:=(s.below f I).c 0;have e3:=h.c 0;have l3:=h.lt;have l4:=L.lt;have P:=f.size;have ag:=bP W P;have af:=bP I P;go_wp2_with fail;refine(xm _ _ x d 4000 bud _ (C.rx.below f lE) Q (iK.below J f lE) T oG G n).mono ?_;rintro e R ⟨U,d',z,rfl,c,j,i,o,k⟩;have D:=zH o;clear o;obtain⟨q,r,rfl,-⟩:=c.slice;have b:=h.below k l3;have a:=L.below k l4;have aa:=b.lt;have ae:=a.lt;obtain⟨y,E,F⟩:=Zc c j i;have m:=f.trans (k.mono P);have c3:=b.c 0;have c4:=a.c 0;have f3:=b.frozen 0;have f4:=a.frozen 0;clear c j i X Y Z d3 d4 d5 S e3;go_wp2_with fail;have K:=(a.kj (p:=w) dO (.slice q d' r)).gH 0 (.slice q d' r);refine bodyPost_ret (v:=.agg #[.slice q d' r]) (ia rfl _ _ (w+1) 39 [.slice q d' r] _ rfl K underlying39 rfl kR) rfl ⟨_,d',rfl,?_,E,F,D,?_⟩
 ·exact(((y.fG dO _).fG dO _)).mono oG
 ·exact(m.setCell (p:=w) lE _).setCell (p:=pB (w+1)) (iW _) _
def Sw (u:xe x A1 c1 A2 c2 lv l bud xb lb bb ib w) (I:jK x.eB l) (O:l.length<=2000):
  Calls prog 298 #[.pointer lb] w (To x.eB 4000 l true w):=by
 obtain⟨Al,cl,rfl,-⟩:=fQ.open_ u.rl;obtain⟨C,t⟩:=Zb u (Hl I O);have d:=u.fl;have ll:=d.lt;clear u I;go_enter func298,ntmps298;have S:=d.c 0;go_wp2_with fail;have f:=bL (bS w w) (cB 39 [()]);have g:=fc.new w 39 [()];refine(AY _ l _ (fQ.below C.rl f lE) oG).mono ?_;rintro e R ⟨dv,rfl,c,k⟩;have a:=c.slice;rw[fm] at a;obtain⟨A,B,rfl,-⟩:=a;have b:=g.below k sI;have n:=b.lt;have i:=b.c 0;have j:=b.frozen 0;have y:=zH c;have m:=f.trans (k.mono sI);clear c S;go_wp2_with fail;refine bodyPost_ret (iw rfl _ _ w 39 [.slice A l.length B] _ true rfl rfl (b.gH 0 _) underlying39 rfl kR) rfl ⟨_,_,true,rfl,(y.fG (by show w.heap.size<_;simp) _).mono sI,t.1,t.2,⟨fun _ h e=>h (List.map_eq_nil_iff.1 e),fun _=>⟨rfl,rfl⟩⟩,m.setCell (p:=w) lE _⟩
def Sx (u:xe x A1 c1 A2 c2 lv l bud xb lb bb ib w) (N:eV x) (n:bud<=9223372036854775807) (I:jK x.eB l) (O:l.length<=2000):
  Calls prog 300 #[.pointer ib,.pointer xb,.pointer lb] w (To x.eB 4000 l false w):=by
 obtain⟨Al,cl,rfl,-⟩:=fQ.open_ u.rl;obtain⟨Q,t⟩:=Zb N I;clear N I;go_enter func300,ntmps300;go_upto_region 1 with fail
 have f:=bL (bS w w) (cB 39 [()]);have a:=u.below f;have H:=fc.new w 39 [()];revert f a H;generalize w.alloc (cB 39 [()])=w1;intro f a H;have C:=zH a;obtain⟨X,Y,Z,d3,d4,d5,-⟩:=a.fx.iY;have el:=a.fl.c 0;have ei:=a.fi.c 0;have W:=a.fx.lt;have ll:=a.fl.lt;have li:=a.fi.lt;have V:=H.lt;have P:=f.size;clear a;refine rB [5,6] fun hS=>?_;refine kL [0,1,2] ?_;refine tO 3 fun K b=>?_;go_simp;refine(IC x A1 c1 A2 c2 _ l _ (C.below hS).rx Q (C.below hS).rl t O).mono ?_;rintro e R ⟨dv,d,rfl,s,j,i,M,k⟩;have z:Hid (d.flatten.length=0->l.length=0):=zH fun h=>M.symm.trans h;clear M;obtain⟨A,B,rfl,-⟩:=iK.open_ s;have hS:=hS.trans (k.mono hS.size);obtain⟨J,T,G⟩:=Zc s j i;clear s j i;refine b _ _ (hS) ?_;refine tO 4 fun K b=>?_;go_simp;refine(DM (C.below hS) Q n _ d J T G).mono ?_;rintro e w3 ⟨U,d',rfl,c,j,i,o,L⟩;obtain⟨q,r,rfl,-⟩:=c.slice;have S:=hS.size;have hS:=hS.trans (L.mono hS.size);obtain⟨y,E,F,D⟩:=Zd c j i o;clear c j i o;refine b _ _ (hS) ?_;refine tL 5 fun K b=>?_;have g:=H.below hS V;have c03:=g.c 0;have aa:=g.frozen 0;have ae:=g.lt;have m:=f.trans (hS.mono P);go_simp;refine b _ _ ?_;refine tL 6 fun K b=>?_;go_simp;refine b _ _ ?_;refine tD ?_;exact K9
def Sy (u:xe x A1 c1 A2 c2 lv l bud xb lb bb ib w) (N:eV x) (n:bud<=9223372036854775807) (I:jK x.eB l) (O:l.length<=2000):
  Calls prog 302 #[.pointer ib,.pointer lb] w (To x.eB 4000 l false w):=by
 obtain⟨Al,cl,rfl,-⟩:=fQ.open_ u.rl;obtain⟨Q,t⟩:=Zb N (Hl I O);clear N I;go_enter func302,ntmps302;go_upto_region 1 with fail
 have f:=bL (bS w w) (cB 39 [()]);have a:=u.below f;have H:=fc.new w 39 [()];revert f a H;generalize w.alloc (cB 39 [()])=w1;intro f a H;have C:=zH a;obtain⟨X,Y,Z,d3,d4,d5,-⟩:=a.fx.iY;have el:=a.fl.c 0;have ei:=a.fi.c 0;have W:=a.fx.lt;have ll:=a.fl.lt;have li:=a.fi.lt;have V:=H.lt;have P:=f.size;clear a;refine rB [4,5] fun hS=>?_;refine kL [0,1] ?_;refine tO 2 fun K b=>?_;go_simp;refine(AY _ l _ (C.below hS).rl oG).mono ?_;rintro e R ⟨dv,rfl,c,k⟩;obtain⟨d,M⟩:=nR (l.map (fun s=>[s]));have z:Hid (d.flatten.length=0->l.length=0):=zH fun h=>by rw[<-M,List.length_flatten] at h;exact(E2 l).symm.trans h
 rw[M] at c t;obtain⟨A,B,rfl,-⟩:=c.slice;have hS:=hS.trans (k.mono hS.size);obtain⟨J,T,G⟩:=Zc c.reads t.1 t.2;clear c M;refine b _ _ (hS) ?_;refine tO 3 fun K b=>?_;go_simp;refine(DM (C.below hS) Q n _ d J T G).mono ?_;rintro e w3 ⟨U,d',rfl,c,j,i,o,L⟩;obtain⟨q,r,rfl,-⟩:=c.slice;have S:=hS.size;have hS:=hS.trans (L.mono hS.size);obtain⟨y,E,F,D⟩:=Zd c j i o;clear c j i o;refine b _ _ (hS) ?_;refine tL 4 fun K b=>?_;have g:=H.below hS V;have c03:=g.c 0;have aa:=g.frozen 0;have ae:=g.lt;have m:=f.trans (hS.mono P);go_simp;refine b _ _ ?_;refine tL 5 fun K b=>?_;go_simp;refine b _ _ ?_;refine tD ?_;exact K9
def Sz (u:xe x A1 c1 A2 c2 lv l bud xb lb bb ib w) (N:eV x) (n:bud<=9223372036854775807) (I:jK x.eB l) (O:l.length<=2000):
  Calls prog 303 #[.pointer xb,.pointer lb,.pointer ib] w (To x.eB 4000 l false w):=by
 obtain⟨Al,cl,rfl,-⟩:=fQ.open_ u.rl;have Q:=zH N;clear N I;go_enter func303,ntmps303;go_upto_region 1 with fail
 have f:=bL (bS w w) (cB 39 [()]);have a:=u.below f;have H:=fc.new w 39 [()];revert f a H;generalize w.alloc (cB 39 [()])=w1;intro f a H;have C:=zH a;obtain⟨X,Y,Z,d3,d4,d5,-⟩:=a.fx.iY;have el:=a.fl.c 0;have ei:=a.fi.c 0;have W:=a.fx.lt;have ll:=a.fl.lt;have li:=a.fi.lt;have V:=H.lt;have P:=f.size;clear a;go_wp2_with fail;refine(Gs x A1 c1 A2 c2 _ l _ C.rx Q C.rl oG).mono ?_;rintro e R ⟨v,rfl,dv,d,b,rfl,c,j,⟨i,M⟩,k⟩;have z:Hid (b=true->d.flatten.length=0->l.length=0):=zH fun f h=>afm fun O=>by
  have h1:=M f (fun e=>O (by rw[e];rfl))
  rcases d with _|⟨t,d⟩
  ·exact h1 rfl
  ·rw[qm,fa] at h;exact i t (.head _) (rX.1 oG)
 clear M;obtain⟨A,B,rfl,-⟩:=c.slice;have hS:=k.alloc k.size (cB 39 [.slice A d B]);have K:=fc.new R 39 [.slice A d B];have J:=zH (c.alloc (cB 39 [.slice A d B])).reads;obtain⟨T,G⟩:=Zb j i;have s:=(H.below k V).alloc (cB 39 [.slice A d B]);have af:=k.size;clear c j i X Y Z d3 d4 d5 el ei k W ll li;cases b
 ·go_upto_region 3 with fail
  revert hS K J s;show∀(_:Below _ _ (R.alloc (cB 39 [.slice A d B]))),_;generalize R.alloc (cB 39 [.slice A d B])=w4;intro hS K J s;have c02:=s.c 0;have ag:=s.frozen 0;have ah:=s.lt;have m:=f.trans (hS.mono P);go_wp2_with fail;refine bodyPost_ret (iw rfl _ _ w 39 [()] _ false rfl rfl (s.gH 0 _) underlying39 rfl kR) rfl ⟨_,[],false,rfl,OT.jL _ _,jS.jL _ _,(fun t h=>by cases h),⟨nF,fun h=>by cases h⟩,m.setCell (p:=w) lE _⟩
 ·replace z:=zH (z rfl);go_upto_region 4 with fail
  revert hS K J s;show∀(_:Below _ _ (R.alloc (cB 39 [.slice A d B]))),_;generalize R.alloc (cB 39 [.slice A d B])=w4;intro hS K J s;have ei:=(C.below hS).fi.c 0;have e5:=K.c 0;have li:=(C.below hS).fi.lt;have l5:=K.lt;go_wp2_with fail;refine(DM (C.below hS) Q n _ d J T G).mono ?_;rintro e w3 ⟨U,d',rfl,c,j,i,o,L⟩;obtain⟨q,r,rfl,-⟩:=c.slice;have S:=hS.size;have hS:=hS.trans (L.mono hS.size);obtain⟨y,E,F,D⟩:=Zd c j i o;clear c j i o;have g:=H.below hS V;have c03:=g.c 0;have aa:=g.frozen 0;have ae:=g.lt;have m:=f.trans (hS.mono P);exact K9
end
end
section
open Go.Proofs.Tryz
open Go.RowKit Go.Shelf jm ko kN P15
attribute [local go_sem] iO
abbrev fn4 (xb lb ib:Nat):List Value:=[.func (.func 298) #[] #[.pointer lb],.func (.func 300) #[] #[.pointer ib,.pointer xb,.pointer lb],
 .func (.func 302) #[] #[.pointer ib,.pointer lb],.func (.func 303) #[] #[.pointer xb,.pointer lb,.pointer ib]]
structure Hh (n0 n1:Nat) (w0:World) (x:fS) (A1:Option Addr) (c1:Nat) (A2:Option Addr) (c2:Nat) (lv:Value) (l:Tr) (bud:Int) (xb lb bb ib gb vb:Nat) (O:Nat->Prop) (W:World):Prop where
 bl:Below n0 w0 W
 n1:n1<=W
 lt: ∀k,O k->k<W.heap.size
 t:xe x A1 c1 A2 c2 lv l bud xb lb bb ib W
 g:fc W gb 338 (fn4 xb lb ib)
 v:fc W vb 342 [.slice gb 4 4]
 o:O xb/\O lb/\O bb/\O ib/\O gb/\O vb
section
variable {n0 n1:Nat} {x:fS} {l:Tr} {gb vb:Nat} {W':World}
def Hh.step (h:Hh n0 n1 w0 x A1 c1 A2 c2 lv l bud xb lb bb ib gb vb O W) (hn:n0=w0) (hx:iz w0 (.agg (xC x A1 c1 A2 c2).toArray) x) (hl:RL 2 iH w0 lv l) (c:Below n0 W W') (a: ∀k,O k->W'.heap[k]? =W.heap[k]?):Hh n0 n1 w0 x A1 c1 A2 c2 lv l bud xb lb bb ib gb vb O W':=by obtain⟨d,e,f,g,i,j⟩:=h.o;have b:Below w0 w0 W':=hn▸h.bl.trans c;exact⟨h.bl.trans c,eZ h.n1 c.size,fun k v=>bP (h.lt k v) c.size,⟨(a _ d).trans h.t.fx,(a _ e).trans h.t.fl,(a _ f).trans h.t.fb,(a _ g).trans h.t.fi,hx.below b lE,fQ.below hl b lE⟩,(a _ i).trans h.g,(a _ j).trans h.v,h.o⟩
end
def XG (n n1:Nat) (l:Tr):Vi:=fun s O W x=> ∃dv d,x= #[.agg #[dv]]/\nN (fun k=>n1<=k/\nB W k/\ ¬O k) W dv d/\jS n 4000 d/\(∀t∈d,t≠[])/\(l≠[]->d≠[])/\(s=0->d=l.map fun s=>[s])
def JS (J:Jt) (i:Nat):Jt:=fun s O W=>J s O W/\(i=0↔s=0)
def JS.ab {J:Jt} (h:Ms J) (i:Nat):Ms (JS J i):=fun s O a A B hj hs ho=>⟨h s O a A B hj.1 hs ho,hj.2⟩
def GR (n0 n1:Nat) (w0:World) (x:fS) (A1:Option Addr) (c1:Nat) (A2:Option Addr) (c2:Nat) (lv:Value) (l:Tr) (bud:Int) (xb lb bb ib gb vb:Nat) (hx:iz w0 (.agg (xC x A1 c1 A2 c2).toArray) x) (ho:eV x) (hl:RL 2 iH w0 lv l) (ah:n0=w0) (Y:bud<=9223372036854775807) (ht:jK x.eB l) (V:l.length<=2000):
  ac5 (fun s=>0<s) prog 305 #[.pointer vb] n0 (XG x.eB n1 l) (Hh n0 n1 w0 x A1 c1 A2 c2 lv l bud xb lb bb ib gb vb):=by
 intro n ly J O W hn N hJ hY h0;obtain⟨HX,HO,HL,HT,HJ,HY⟩:=Zf hx ho hl ht hJ hY;have aj:n0<=W.heap.size:=by have:=N.bl.size;omega
 have HI:Hid (yv n0 w0 (JS J 0) O w0 W):=zH ⟨⟨0,h0,Iff.rfl⟩,N.bl,N.lt,by have:=N.bl.size;omega⟩;obtain⟨w,M⟩:=Zb N ah;have ak:=ah;have ev:=N.v.c 0;have ai:=N.v.lt;clear hx ho hl ht hJ hY h0 N ah;refine callsIn_of_wp func305 rfl trivial ?_ rfl;simp only[ntmps305,gU,ff,fZ,Nat.reduceAdd,Nat.reduceSub,iq,ir,iX,iA,gQ,fY];gi_wp2;gi_loopw [9] (fun iv wr=> ∃i:Nat,i<=4/\iv=.int .i64 i/\Hid (yv n0 w0 (JS J i) O w0 wr)/\Hid (Hh n0 n1 w0 x A1 c1 A2 c2 lv l bud xb lb bb ib gb vb O wr)) (fun iv _=>4-(intOf iv).toNat)
 case atStart=>exact⟨0,oG,rfl,HI,w⟩
 case round=>
  clear HI w ev ai;obtain⟨i,hi,rfl,HI,w⟩:=hrel;have P:n0<=wr.heap.size:=by have:=HI.out.sz;omega
  have lg:=w.g.lt;obtain⟨aa,ae,af,ag,-⟩:=w.g.iY;have ev:=w.v.c 0;obtain rfl|rfl|rfl|rfl|rfl:i=0\/i=1\/i=2\/i=3\/i=4:=oG
  ·gi_wp2;refine⟨trivial,callsIn_wide.2 ((Sw w.t HT V).mono ?_)⟩;rintro e m ⟨dv,d,b,rfl,u,D,E,C,t⟩;have K:=zH C;clear C;obtain⟨a,c,rfl,-⟩:=u.slice;have A:=nN.of u;have f:=t.alloc t.size (cB 39 [.slice a d c]);have L:=fc.new m 39 [.slice a d c];have z:=A.at (w':=m.alloc (cB 39 [.slice a d c])) (fun k v=>((bS m m).alloc lE (cB 39 [.slice a d c])).block k v.2.lt) sI;have p:=w.lt;have r:Hid (nN (fun k=>n1<=k/\nB (m.alloc (cB 39 [.slice a d c])) k/\ ¬O k) (m.alloc (cB 39 [.slice a d c])) (.slice a d c) d):=zH (z.mono fun k v=>⟨by have:=w.out.n1;omega,by obtain⟨o,h1,X⟩:=v.2;exact⟨o,(((bS m m).alloc lE (cB 39 [.slice a d c])).block k v.2.lt).trans h1,X⟩,fun h=>by have:=p k h;omega⟩);obtain⟨Q,R⟩:=Zb D E;clear u D E A z p
   gi_upto_region 4 with fail
   revert f L r;show∀(_:Below _ _ (m.alloc (cB 39 [.slice a d c]))),_;generalize m.alloc (cB 39 [.slice a d c])=w4;intro f L r;obtain⟨j,y⟩:=Zb (HI.below (JS.ab HJ _) P f) (w.step M HX HL (f.mono P) (fun k v=>f.block k (w.lt k v)));have e5:=L.c 0;have l5:=L.lt;clear t ev aa ae af ag lg;cases b
   ·refine wpIn_wide.2 ?_;go_wp2_with fail;gi_wp2;exact⟨⟨1,oG,rfl,zH (by have h:=K.out;simp at h),y⟩,by simp[intOf]⟩
   ·obtain⟨Z,F,G⟩:=j.j;have I:=zH G;clear G;have S:Hid (Z=0->d=l.map fun s=>[s]):=zH (by exact fun _=>(K.2 (by first|rfl|trivial)).2);obtain⟨fn,tmps,assign,body,hy,hR⟩:=HY (n-1) Z O #[.agg #[.slice a d c]] w4 F ⟨_,d,rfl,r,Q,R,K.1 rfl,S⟩;clear F;gi_wp2;refine hR.mono ?_;rintro e W7 ⟨rfl,B,g,H⟩;have T:Hid (yv n0 w0 (JS J 1) O w0 W7):=zH ⟨⟨_,B,by have:=I.out;omega⟩,j.out.bl.trans g,fun q hq=>bP (j.out.lt q hq) g.size,eZ j.out.sz g.size⟩;have U:=zH (y.step M HX HL g H);clear B g H e5 l5;gi_wp2;exact⟨⟨1,oG,rfl,T,U⟩,by simp[intOf]⟩
  ·gi_wp2;refine⟨trivial,callsIn_wide.2 ((Sx w.t HO Y HT V).mono ?_)⟩;rintro e m ⟨dv,d,b,rfl,u,D,E,C,t⟩;have K:=zH C;clear C;obtain⟨a,c,rfl,-⟩:=u.slice;have A:=nN.of u;have f:=t.alloc t.size (cB 39 [.slice a d c]);have L:=fc.new m 39 [.slice a d c];have z:=A.at (w':=m.alloc (cB 39 [.slice a d c])) (fun k v=>((bS m m).alloc lE (cB 39 [.slice a d c])).block k v.2.lt) sI;have p:=w.lt;have r:Hid (nN (fun k=>n1<=k/\nB (m.alloc (cB 39 [.slice a d c])) k/\ ¬O k) (m.alloc (cB 39 [.slice a d c])) (.slice a d c) d):=zH (z.mono fun k v=>⟨by have:=w.out.n1;omega,by obtain⟨o,h1,X⟩:=v.2;exact⟨o,(((bS m m).alloc lE (cB 39 [.slice a d c])).block k v.2.lt).trans h1,X⟩,fun h=>by have:=p k h;omega⟩);obtain⟨Q,R⟩:=Zb D E;clear u D E A z p
   gi_upto_region 4 with fail
   revert f L r;show∀(_:Below _ _ (m.alloc (cB 39 [.slice a d c]))),_;generalize m.alloc (cB 39 [.slice a d c])=w4;intro f L r;obtain⟨j,y⟩:=Zb (HI.below (JS.ab HJ _) P f) (w.step M HX HL (f.mono P) (fun k v=>f.block k (w.lt k v)));have e5:=L.c 0;have l5:=L.lt;clear t ev aa ae af ag lg;cases b
   ·refine wpIn_wide.2 ?_;go_wp2_with fail;gi_wp2;exact⟨⟨2,oG,rfl,zH (by obtain⟨⟨s,hj,hs⟩,X,h3,h4⟩:=j.out;exact⟨⟨s,hj,oG⟩,X,h3,h4⟩),y⟩,by simp[intOf]⟩
   ·obtain⟨Z,F,G⟩:=j.j;have I:=zH G;clear G;have S:Hid (Z=0->d=l.map fun s=>[s]):=zH (by intro e;exact absurd (I.2 e) oG);obtain⟨fn,tmps,assign,body,hy,hR⟩:=HY (n-1) Z O #[.agg #[.slice a d c]] w4 F ⟨_,d,rfl,r,Q,R,K.1 rfl,S⟩;clear F;gi_wp2;refine hR.mono ?_;rintro e W7 ⟨rfl,B,g,H⟩;have T:Hid (yv n0 w0 (JS J 2) O w0 W7):=zH ⟨⟨_,B,by have:=I.out;omega⟩,j.out.bl.trans g,fun q hq=>bP (j.out.lt q hq) g.size,eZ j.out.sz g.size⟩;have U:=zH (y.step M HX HL g H);clear B g H e5 l5;gi_wp2;exact⟨⟨2,oG,rfl,T,U⟩,by simp[intOf]⟩
  ·gi_wp2;refine⟨trivial,callsIn_wide.2 ((Sy w.t HO Y HT V).mono ?_)⟩;rintro e m ⟨dv,d,b,rfl,u,D,E,C,t⟩;have K:=zH C;clear C;obtain⟨a,c,rfl,-⟩:=u.slice;have A:=nN.of u;have f:=t.alloc t.size (cB 39 [.slice a d c]);have L:=fc.new m 39 [.slice a d c];have z:=A.at (w':=m.alloc (cB 39 [.slice a d c])) (fun k v=>((bS m m).alloc lE (cB 39 [.slice a d c])).block k v.2.lt) sI;have p:=w.lt;have r:Hid (nN (fun k=>n1<=k/\nB (m.alloc (cB 39 [.slice a d c])) k/\ ¬O k) (m.alloc (cB 39 [.slice a d c])) (.slice a d c) d):=zH (z.mono fun k v=>⟨by have:=w.out.n1;omega,by obtain⟨o,h1,X⟩:=v.2;exact⟨o,(((bS m m).alloc lE (cB 39 [.slice a d c])).block k v.2.lt).trans h1,X⟩,fun h=>by have:=p k h;omega⟩);obtain⟨Q,R⟩:=Zb D E;clear u D E A z p
   gi_upto_region 4 with fail
   revert f L r;show∀(_:Below _ _ (m.alloc (cB 39 [.slice a d c]))),_;generalize m.alloc (cB 39 [.slice a d c])=w4;intro f L r;obtain⟨j,y⟩:=Zb (HI.below (JS.ab HJ _) P f) (w.step M HX HL (f.mono P) (fun k v=>f.block k (w.lt k v)));have e5:=L.c 0;have l5:=L.lt;clear t ev aa ae af ag lg;cases b
   ·refine wpIn_wide.2 ?_;go_wp2_with fail;gi_wp2;exact⟨⟨3,oG,rfl,zH (by obtain⟨⟨s,hj,hs⟩,X,h3,h4⟩:=j.out;exact⟨⟨s,hj,oG⟩,X,h3,h4⟩),y⟩,by simp[intOf]⟩
   ·obtain⟨Z,F,G⟩:=j.j;have I:=zH G;clear G;have S:Hid (Z=0->d=l.map fun s=>[s]):=zH (by intro e;exact absurd (I.2 e) oG);obtain⟨fn,tmps,assign,body,hy,hR⟩:=HY (n-1) Z O #[.agg #[.slice a d c]] w4 F ⟨_,d,rfl,r,Q,R,K.1 rfl,S⟩;clear F;gi_wp2;refine hR.mono ?_;rintro e W7 ⟨rfl,B,g,H⟩;have T:Hid (yv n0 w0 (JS J 3) O w0 W7):=zH ⟨⟨_,B,by have:=I.out;omega⟩,j.out.bl.trans g,fun q hq=>bP (j.out.lt q hq) g.size,eZ j.out.sz g.size⟩;have U:=zH (y.step M HX HL g H);clear B g H e5 l5;gi_wp2;exact⟨⟨3,oG,rfl,T,U⟩,by simp[intOf]⟩
  ·gi_wp2;refine⟨trivial,callsIn_wide.2 ((Sz w.t HO Y HT V).mono ?_)⟩;rintro e m ⟨dv,d,b,rfl,u,D,E,C,t⟩;have K:=zH C;clear C;obtain⟨a,c,rfl,-⟩:=u.slice;have A:=nN.of u;have f:=t.alloc t.size (cB 39 [.slice a d c]);have L:=fc.new m 39 [.slice a d c];have z:=A.at (w':=m.alloc (cB 39 [.slice a d c])) (fun k v=>((bS m m).alloc lE (cB 39 [.slice a d c])).block k v.2.lt) sI;have p:=w.lt;have r:Hid (nN (fun k=>n1<=k/\nB (m.alloc (cB 39 [.slice a d c])) k/\ ¬O k) (m.alloc (cB 39 [.slice a d c])) (.slice a d c) d):=zH (z.mono fun k v=>⟨by have:=w.out.n1;omega,by obtain⟨o,h1,X⟩:=v.2;exact⟨o,(((bS m m).alloc lE (cB 39 [.slice a d c])).block k v.2.lt).trans h1,X⟩,fun h=>by have:=p k h;omega⟩);obtain⟨Q,R⟩:=Zb D E;clear u D E A z p
   gi_upto_region 4 with fail
   revert f L r;show∀(_:Below _ _ (m.alloc (cB 39 [.slice a d c]))),_;generalize m.alloc (cB 39 [.slice a d c])=w4;intro f L r;obtain⟨j,y⟩:=Zb (HI.below (JS.ab HJ _) P f) (w.step M HX HL (f.mono P) (fun k v=>f.block k (w.lt k v)));have e5:=L.c 0;have l5:=L.lt;clear t ev aa ae af ag lg;cases b
   ·refine wpIn_wide.2 ?_;go_wp2_with fail;gi_wp2;exact⟨⟨4,oG,rfl,zH (by obtain⟨⟨s,hj,hs⟩,X,h3,h4⟩:=j.out;exact⟨⟨s,hj,oG⟩,X,h3,h4⟩),y⟩,by simp[intOf]⟩
   ·obtain⟨Z,F,G⟩:=j.j;have I:=zH G;clear G;have S:Hid (Z=0->d=l.map fun s=>[s]):=zH (by intro e;exact absurd (I.2 e) oG);obtain⟨fn,tmps,assign,body,hy,hR⟩:=HY (n-1) Z O #[.agg #[.slice a d c]] w4 F ⟨_,d,rfl,r,Q,R,K.1 rfl,S⟩;clear F;gi_wp2;refine hR.mono ?_;rintro e W7 ⟨rfl,B,g,H⟩;have T:Hid (yv n0 w0 (JS J 4) O w0 W7):=zH ⟨⟨_,B,by have:=I.out;omega⟩,j.out.bl.trans g,fun q hq=>bP (j.out.lt q hq) g.size,eZ j.out.sz g.size⟩;have U:=zH (y.step M HX HL g H);clear B g H e5 l5;gi_wp2;exact⟨⟨4,oG,rfl,T,U⟩,by simp[intOf]⟩
  ·gi_wp2;refine bodyPost_end (results_none rfl _ _ _) rfl ?_;obtain⟨s,hj,hs⟩:=HI.j;exact⟨⟨_,rfl⟩,s,O,hj,oG⟩
end
section
open Go.Proofs.Tryz
open Go.RowKit Go.Shelf jm ko kN P15
theorem Rq{p:Prop}(h:p:=by rintro k ⟨o,h1,S⟩;refine T.block k (aah.1 h1).1 fun e=>?_;obtain⟨-,r,j,h4⟩:=l k e.symm;rw[h1] at j;cases j;rw[S] at h4;cases h4):p:=h
attribute [local go_sem] iO
variable {b:World} {d:Dy} {dv:Value}
def JH (x:fS) (A1:Option Addr) (c1:Nat) (A2:Option Addr) (c2:Nat) (Al:Option Addr) (cl:Nat) (l:Tr) (D:Int) (w:World) (hx:iz w (.agg (xC x A1 c1 A2 c2).toArray) x) (a:RL 2 iH w (.slice Al l cl) l):
  Calls prog 275 #[.agg (xC x A1 c1 A2 c2).toArray,.slice Al l cl,D] w fun e w'=>e=.returned (.func (.func 305) #[] #[.pointer (pB (w+5))])/\
   xe x A1 c1 A2 c2 (.slice Al l cl) l D w (w+1) (w+2) (w+3) w'/\fc w' (w+4) 338 (fn4 w (w+1) (w+3))/\fc w' (w+5) 342 [.slice (pB (w+4)) 4 4]/\Below w w w'/\w'.heap.size=w.heap.size+6:=by
 obtain⟨HX,HL⟩:=Zb hx a;clear hx a;go_enter func275,ntmps275;go_wp2;go_ret;have i:=bL (bL (bL (bL (bL (bL (bS w w) (cB 25 (xC x A1 c1 A2 c2))) (cB 42 [.slice Al l cl])) (cB 3 [D])) (cB 336 [.func (.func 297) #[] #[.pointer w,.pointer (pB (w+1+1))]])) (cB 338 (fn4 w (w+1) (w+3)))) (cB 342 [.slice (pB (w+1+1+1+1)) 4 4]);exact⟨rfl,⟨(((((fc.new w _ _).alloc _).alloc _).alloc _).alloc _).alloc _,((((fc.fW _ _ _ sI).alloc _).alloc _).alloc _).alloc _,(((fc.fW _ _ _ sI).alloc _).alloc _).alloc _,((fc.fW _ _ _ sI).alloc _).alloc _,HX.below i lE,fQ.below HL i lE⟩,(fc.fW _ _ _ sI).alloc _,fc.fW _ _ _ sI,i,by simp⟩
structure PV (n:Nat) (w0:World) (xb rb b9 b10 b11:Nat) (xc:List Value) (D:Nat->Prop) (dv:Value) (d:Dy) (z:Int) (f:Bool) (O:Nat->Prop) (W:World):Prop where
 bl:Below w0 w0 W
 bx:fc W xb 25 xc
 br:fc W rb 39 [()]
 d9:fc W b9 39 [dv]
 d10:fc W b10 3 [z]
 d11:fc W b11 4 [f]
 ob: ∀k,O k->w0.heap.size<=k
 nj: ∀k,O k-> ¬D k/\k≠xb/\k≠rb/\k≠b9/\k≠b10/\k≠b11
 dl: ∀k,D k->nB W k/\b11<k
 dy:nN D W dv d
 ok:jS n 4000 d
 ne: ∀t∈d,t≠[]
def Tl (n:Nat) (w0:World) (xb rb b9 b10 b11:Nat) (xc:List Value) (G:Nat->Dy->Int->Bool->Prop):Jt:=fun s O W=> ∃D dv d z f,PV n w0 xb rb b9 b10 b11 xc D dv d z f O W/\G s d z f
section
variable {b9 b10 b11:Nat} {xc:List Value} {G:Nat->Dy->Int->Bool->Prop}
def Tl.ab:Ms (Tl n w0 xb rb b9 b10 b11 xc G):=fun s O j A B c v u=>by
 obtain⟨D,dv,d,z,f,h,m⟩:=c;have a: ∀k,k<A.heap.size-> ¬O k->B.heap[k]? =A.heap[k]? :=fun k a hn=>v.block k a hn;have g:=h.bl.size;have hD: ∀k,D k->B.heap[k]? =A.heap[k]? :=fun k b=>a k (h.dl k b).1.lt fun u=>(h.nj k u).1 b;refine⟨D,dv,d,z,f,⟨h.bl.trans (v.low h.ob g),(a _ h.bx.lt fun u=>(h.nj _ u).2.1 rfl).trans h.bx,(a _ h.br.lt fun u=>(h.nj _ u).2.2.1 rfl).trans h.br,(a _ h.d9.lt fun u=>(h.nj _ u).2.2.2.1 rfl).trans h.d9,(a _ h.d10.lt fun u=>(h.nj _ u).2.2.2.2.1 rfl).trans h.d10,(a _ h.d11.lt fun u=>(h.nj _ u).2.2.2.2.2 rfl).trans h.d11,fun k b=>?_,fun k b=>?_,fun k b=>?_,h.dy.at hD v.size,h.ok,h.ne⟩,m⟩
 ·rcases (u k b).1 with h3|h3
  ·exact h.ob k h3
  ·omega
 ·rcases (u k b).1 with h3|h3
  ·exact h.nj k h3
  ·refine⟨fun i=>by have:=(h.dl k i).1.lt;omega,fun e=>?_,fun e=>?_,fun e=>?_,fun e=>?_,fun e=>?_⟩
   ·have:=h.bx.lt;omega
   ·have:=h.br.lt;omega
   ·have:=h.d9.lt;omega
   ·have:=h.d10.lt;omega
   ·have:=h.d11.lt;omega
 ·refine⟨?_,(h.dl k b).2⟩;unfold nB;rw[hD k b];exact(h.dl k b).1
def Tl.bk (q:w0.heap.size<=B) (s:Nat) (O:Nat->Prop):rR B (Tl n w0 xb rb b9 b10 b11 xc G s O):=fun A C row c T l=>by
 obtain⟨D,dv,d,z,f,h,m⟩:=c;have a: ∀k:Nat,nB A k->C.heap[k]? =A.heap[k]? :=by exact Rq
 have i: ∀{g:Nat} {t:TypeId} {p:List Value},fc A g t p->fc C g t p:=fun h=>(a _ ⟨_,h,rfl⟩).trans h;exact⟨D,dv,d,z,f,⟨rR.below q lE A C row h.bl T l,i h.bx,i h.br,i h.d9,i h.d10,i h.d11,h.ob,h.nj,fun k b=>⟨by unfold nB;rw[a k (h.dl k b).1];exact(h.dl k b).1,(h.dl k b).2⟩,h.dy.at (fun k b=>a k (h.dl k b).1) T.size,h.ok,h.ne⟩,m⟩
end
def rR.day:rR B (fun W=>(∀k,D k->nB W k)/\nN D W dv d):=fun A C row c T l=>by
 have a: ∀k:Nat,nB A k->C.heap[k]? =A.heap[k]? :=by exact Rq
 exact⟨fun k h=>by unfold nB;rw[a k (c.1 k h)];exact c.1 k h,c.2.at (fun k h=>a k (c.1 k h)) T.size⟩
def tx (h:(∀k,D k->nB W k)/\nN D W dv d) (i:Below B W b) (c:W.heap.size<=B):(∀k,D k->nB b k)/\nN D b dv d:=
 ⟨fun k a=>by unfold nB;rw[i.block k (by have:=(h.1 k a).lt;omega)];exact h.1 k a,h.2.at (fun k a=>i.block k (by have:=(h.1 k a).lt;omega)) i.size⟩
def wv {g:Nat} (h:(∀k,D k->nB W k)/\nN D W dv d) (T: ¬D g) (i:Nat) (u:Value):(∀k,D k->nB (W.setCell (pA g i) u) k)/\nN D (W.setCell (pA g i) u) dv d:=
 ⟨fun k a=>by unfold nB;rw[fX W g i u k (fun e=>T (e▸a))];exact h.1 k a,h.2.at (fun k a=>fX W g i u k (fun e=>T (e▸a))) sI⟩
def PV.below {w0:World} {xb rb b9 b10 b11:Nat} {xc:List Value} {z:Int} {f:Bool} {O:Nat->Prop} (h:PV n w0 xb rb b9 b10 b11 xc D dv d z f O W) (i:Below W W b):PV n w0 xb rb b9 b10 b11 xc D dv d z f O b:=by have S:=tx ⟨fun k a=>(h.dl k a).1,h.dy⟩ i lE;exact⟨h.bl.trans (i.mono h.bl.size),h.bx.below i h.bx.lt,h.br.below i h.br.lt,h.d9.below i h.d9.lt,h.d10.below i h.d10.lt,h.d11.below i h.d11.lt,h.ob,h.nj,fun k a=>⟨S.1 k a,(h.dl k a).2⟩,S.2,h.ok,h.ne⟩
structure adR (x:fS) (l:Tr):Prop where
 day:GoD x (l.map fun s=>[s])
 min: ∀d:Dy,jS x.eB 4000 d->(∀t∈d,t≠[])->(l≠[]->d≠[])->me ((l.map fun s=>[s]).map (uA x))<=me (d.map (uA x))
def af1 (x:fS) (l:Tr) (s:Nat) (d:Dy) (z:Int) (f:Bool):Prop:=
 adR x l->(s=0->f=false)/\(0<s->f=true/\(d=l.map fun s=>[s])/\z=me ((l.map fun s=>[s]).map (uA x)))
inductive aaB (x:fS) (l:Tr) (w:World) (e:Ending) (w':World):Prop
 |mk (dv:Value) (d:Dy) (z:Int) (he:e=.returned (.tuple #[.agg #[dv],z])) (hz:0<=z/\z<=18) (hi:nN (fun k=>w.heap.size<=k/\nB w' k) w' dv d) (hd:jS x.eB 4000 d) (hne: ∀t∈d,t≠[]) (hg:adR x l->z=0/\d=l.map fun s=>[s]) (hb:Below w w w')
def IW {l:Tr} (h:jK n l) (hn:(l.map Prod.fst).Nodup):l.length<=n:=by
 have h1:(l.map fun s=>s.1.toNat).Nodup:=by
  have S:((l.map Prod.fst).map Int.toNat).Nodup:=by refine acR.2 (List.Pairwise.imp_of_mem (fun{a b} ha hb hab e=>hab ?_) hn);obtain⟨s,v,rfl⟩:=cy.1 ha;obtain⟨q,hq,rfl⟩:=cy.1 hb;have:=(h s v).1;have:=(h q hq).1;omega
  simpa[kK,Function.comp_def] using S
 have:=wG h1 fun z hz=>by obtain⟨s,v,rfl⟩:=cy.1 hz;have:=(h s v).1;show s.1.toNat<n;omega
 simpa using this
def Jx (x:fS) (A1:Option Addr) (c1:Nat) (A2:Option Addr) (c2:Nat) (sv:Value) (l:Tr) (D:Int) (w:World) (hx:iz w (.agg (xC x A1 c1 A2 c2).toArray) x) (u:eV x) (v:RL 2 iH w sv l) (hn:l.length<=1000000) (aN:D<=9223372036854775807):
  Calls prog 242 #[.agg (xC x A1 c1 A2 c2).toArray,sv,D] w (aaB x l w):=by
 obtain⟨Al,cl,rfl,-⟩:=fQ.open_ v;obtain⟨HX,HO,HL⟩:=Zc hx u v;have hh:=u.head;clear hx u v;refine(callsIn_wide (n:=4)).1 ?_;refine callsIn_of_wp_marks func242 rfl trivial ?_ rfl;simp only[ntmps242,gU,ff,fZ,Nat.reduceAdd,Nat.reduceSub,iq,ir,iX,iA,gQ,fY];gi_wp2;have bx:=(fc.new w 25 (xC x A1 c1 A2 c2)).alloc (cB 39 [()]);have br:=fc.fW (w.alloc (cB 25 (xC x A1 c1 A2 c2))) 39 [()] (g:=w.heap.size+1) sI;have i:=bL (bL (bS w w) (cB 25 (xC x A1 c1 A2 c2))) (cB 39 [()]);refine⟨trivial,callsIn_wide.2 ((KC x A1 c1 A2 c2 _ l _ (HX.below i lE) HO (fQ.below HL i lE) hn).mono ?_)⟩;rintro e w1 ⟨z,rfl,⟨bW,aY⟩,hz,F⟩;have bG:Hid (adR x l->z=0):=zH fun g=>aY (by simpa using g.day.Ik) fun s v=>g.day.tr [s] (cy.2 ⟨s,v,rfl⟩);clear aY;replace bx:=bx.below F bx.lt;replace br:=br.below F br.lt;have F:=i.trans (F.mono i.size);have lx:=bx.lt;have lr:=br.lt;have e1:=br.c 0;have f1:=br.frozen 0;clear i;by_cases az:z=0
 ·subst az;obtain⟨ht,aU⟩:=hz rfl;have bJ:l.length<=2000:=eZ (IW ht aU) hh.2.1;have HT:=zH ht;clear hz ht aU
  gi_upto_region 5 with fail
  have b9:=((fc.new w1 39 [()]).alloc (cB 3 [Zo])).alloc (cB 4 [false]);have b10:=(fc.fW (w1.alloc (cB 39 [()])) 3 [Zo] (g:=w1.heap.size+1) sI).alloc (cB 4 [false]);have b11:=fc.fW ((w1.alloc (cB 39 [()])).alloc (cB 3 [Zo])) 4 [false] (g:=w1.heap.size+1+1) sI;have h4:=bL (bL (bL (bS w1 w1) (cB 39 [()])) (cB 3 [Zo])) (cB 4 [false]);revert b9 b10 b11 h4;show∀(_:fc (((w1.alloc (cB 39 [()])).alloc (cB 3 [Zo])).alloc (cB 4 [false])) _ _ _),_;generalize ((w1.alloc (cB 39 [()])).alloc (cB 3 [Zo])).alloc (cB 4 [false])=Q;intro b9 b10 b11 h4;have ag:=bx.below h4 lx;have aq:=br.below h4 lr;obtain⟨d0,d1,R,d3,d4,d5,-⟩:=ag.iY;have ae:=F.trans (h4.mono F.size);have cL:=b11.lt;have cg:=ag.lt;have cE:=F.size;clear e1 f1 bx br;gi_wp2;refine⟨trivial,callsIn_wide.2 ((JH x A1 c1 A2 c2 Al cl l D Q (HX.below ae lE) (fQ.below HL ae lE)).mono ?_)⟩;rintro e U ⟨rfl,hT,T,hv,P,aX⟩;have cA:=zH aX;have cK:Q.heap.size+6<=U.heap.size:=oG;have f:=ae.trans (P.mono ae.size);have bI:=T.lt;have bU:=hv.lt;have bB:=zH hT;have aZ:Hid (PV x.eB w w (w+1) w1 (w1+1) (w1+1+1) (xC x A1 c1 A2 c2) (fun _=>False) () [] 0 false (fun k=>Q.heap.size<=k/\k<Q.heap.size+6) U):=zH ⟨f,ag.below P cg,aq.below P aq.lt,b9.below P b9.lt,b10.below P b10.lt,b11.below P b11.lt,(fun k h=>by have:=ae.size;omega),(fun k h=>⟨id,oG,oG,oG,oG,oG⟩),(fun k h=>h.elim),nN.jL _ _,jS.jL _ _,(fun t h=>by cases h)⟩;clear hT aX b9 b10 b11 ag aq d0 d1 R d3 d4 d5;gi_wp2;refine(Sg oG (gf:=305) (lb:= #[.pointer (pB (Q+5))]) rfl (enters_of func305 kR rfl)
   (GR w U w x A1 c1 A2 c2 _ l D Q (Q+1) (Q+2) (Q+3) (Q+4) (Q+5) HX HO HL rfl aN HT bJ) f.size (fun s O W x h=>by obtain⟨_,_,rfl,-⟩:=h;rfl)
   (Tl x.eB w w (w+1) w1 (w1+1) (w1+1+1) (xC x A1 c1 A2 c2) (af1 x l)) Tl.ab (Tl.bk f.size) (fun k=>Q.heap.size<=k/\k<Q.heap.size+6) (fun k h=>by omega)
   (fun W I=>by have ah:Below U U W:=⟨I.os,I.tape,I.output,I.size,fun k a=>I.block k a sI⟩;exact⟨f.trans (ah.mono f.size),I.size,(fun k h=>by have:=I.size;omega),bB.below ah,T.below ah bI,hv.below ah bU,⟨oG,oG⟩,⟨oG,oG⟩,⟨oG,oG⟩,⟨oG,oG⟩,⟨oG,oG⟩,⟨oG,oG⟩⟩)
   ⟨_,_,_,_,_,aZ,fun _=>⟨fun _=>rfl,fun h=>absurd h oG⟩⟩ ?round ?done)
  case round=>
   intro m l' s O x' W K hI bH hO bO hK;obtain⟨dv,d,rfl,ax,aP,aR,aQ,aS⟩:=bH;have af:=zH (And.intro aQ aS);clear aQ aS;obtain⟨y,E,rfl⟩:=ax.slice;have aI:=zH (Tl.ab s O O _ _ hI (gI.alloc O W (cB 39 [.slice y d E])) (fun q hq=>⟨.inl hq,bP (hO q hq) sI⟩));have aD:Hid (ju U w O W (W.alloc (cB 39 [.slice y d E]))):=zH (ju.below ((bS _ W).alloc lE _) (eZ f.size bO) hO);obtain⟨aJ,aH,X,al⟩:=Zd (fc.new W 39 [.slice y d E]) (tx ⟨fun k a=>a.2.1,ax⟩ ((bS W W).alloc lE (cB 39 [.slice y d E])) lE) aP aR;clear hI ax aP aR;gi_wp2;refine hK _ _ aD (fun m l' W2 aL cH ai=>?_);have bN:=ai _ (rR.ig W 39 [.slice y d E]) aJ;have aK:=ai _ rR.day aH;obtain⟨D2,au,R,z2,f2,M,L⟩:=ai _ (Tl.bk f.size s O) aI;have C:=zH L;clear L;obtain⟨c,aE⟩:=Zb M aK;clear aI aJ aD ai aH M aK;obtain⟨q0,q1,q2,q3,q4,q5,-⟩:=c.bx.iY;have y0:=bN.c 0;have lN:=bN.lt;have bZ:=c.bx.lt;have cI:=c.bl.size;gi_wp2;refine⟨trivial,nF,n9 ((zY _ _ x d 4000 _ (HX.below c.bl lE) HO aE.2.reads X oG).mono ?_)⟩;rintro e W3 ⟨r,rfl,⟨-,aW⟩,N⟩;have bA:=zH aW;clear aW;obtain⟨Y,aF⟩:=Zb (c.below N) (tx aE N lE);have aC:Hid (ju U w O W2 W3):=zH (ju.below N oG aL);replace bN:=bN.below N lN;have aM:=N.size;clear q0 q1 q2 q3 q4 q5 y0 bZ N;by_cases ay:r=0
   ·subst ay;obtain⟨q0,q1,q2,q3,q4,q5,-⟩:=Y.bx.iY;have y0:=bN.c 0;have bY:=bN.lt;have cN:=Y.bx.lt
    gi_upto_region 8 with fail
    gi_wp2;refine⟨trivial,nF,n9 ((xI _ _ x d 4000 _ (HX.below Y.bl lE) HO aF.2.reads X oG).mono ?_)⟩;rintro e W4 ⟨rfl,G⟩;obtain⟨H,aj⟩:=nR (me (d.map (uA x)));rw[aj];have HCC:=zH aj;have ao:Hid (adR x l->(f2=false->s=0)/\(0<s->f2=true/\z2<=H)):=zH fun g=>by obtain⟨g1,g2⟩:=C g;refine⟨(fun h=>Nat.eq_zero_of_not_pos fun v=>by rw[(g2 v).1] at h;cases h),fun v=>⟨(g2 v).1,?_⟩⟩;rw[(g2 v).2.2,<-aj];exact g.min d X al af.1
    obtain⟨b,aG,ak⟩:=Zc (Y.below G) (tx aF G lE) (aC.trans (ju.below (B:=U.heap.size) G oG (fun k a=>bP (aL k a) aM)));replace bN:=bN.below G bY;have y0:=bN.c 0;have cM:=bN.lt;obtain⟨y9,-⟩:=b.d9.iY;obtain⟨cO,-⟩:=b.d10.iY;obtain⟨cj,-⟩:=b.d11.iY;have g9:=b.d9.frozen 0;have cC:=b.d10.frozen 0;have cD:=b.d11.frozen 0;have z9:=b.d9.lt;have cP:=b.d10.lt;have cw:=b.d11.lt;clear aj G q0 q1 q2 q3 q4 q5
    gi_upto_region 9 with fail
    cases f2
    ·refine yn kR ?_;go_wp2_with fail;unfold oB;gi_wp2;have j9:=((b.d9.gH 0 (.slice y d E)).kj (p:=pB (w1+1)) dO H).kj (p:=pB (w1+1+1)) dO true;have aA:=((b.d10.kj (p:=w1) dO (.slice y d E)).gH 0 H).kj (p:=pB (w1+1+1)) dO true;have aB:=((b.d11.kj (p:=w1) dO (.slice y d E)).kj (p:=pB (w1+1)) dO H).gH 0 true;have jx:=((b.bx.kj (p:=w1) dO (.slice y d E)).kj (p:=pB (w1+1)) dO H).kj (p:=pB (w1+1+1)) dO true;have jr:=((b.br.kj (p:=w1) dO (.slice y d E)).kj (p:=pB (w1+1)) dO H).kj (p:=pB (w1+1+1)) dO true;have J: ∀k,k<U.heap.size-> ¬(U.heap.size<=k/\nB W k/\ ¬O k):=fun k h S=>by omega
     have aa:=wv (wv (wv aG (g:=w1.heap.size) (J _ oG) 0 (.slice y d E)) (g:=w1.heap.size+1) (J _ oG) 0 H) (g:=w1.heap.size+1+1) (J _ oG) 0 true;have j:=b.nj;exact⟨ak.trans ((ju.set _ 0 _ oG (fun h=>(j _ h).2.2.2.1 rfl)).trans ((ju.set _ 0 _ oG (fun h=>(j _ h).2.2.2.2.1 rfl)).trans (ju.set _ 0 _ oG (fun h=>(j _ h).2.2.2.2.2 rfl)))),_,_,d,H,true,
      ⟨((b.bl.setCell (p:=w1) dO _).setCell (p:=pB (w1+1)) dO _).setCell (p:=pB (w1+1+1)) dO _,jx,jr,j9,aA,aB,b.ob,fun k a=>⟨fun h=>h.2.2 a,(j k a).2⟩,fun k a=>⟨aa.1 k a,oG⟩,aa.2,X,al⟩,fun g=>⟨fun h=>oG,fun _=>⟨rfl,af.2 ((ao g).1 (by first|rfl|trivial)),by rw[<-HCC.out,af.out.2 ((ao.out g).1 (by first|rfl|trivial))]⟩⟩⟩
    ·by_cases cF:H<z2
     ·have bh:Hid (adR x l->False):=zH fun g=>by
       rcases kV s with h0|h0
       ·have:=(C g).1 h0;cases this
       ·have:=((ao g).2 h0).2;omega
      refine yn kR ?_;go_wp2_with fail;unfold oB;gi_wp2;have j9:=((b.d9.gH 0 (.slice y d E)).kj (p:=pB (w1+1)) dO H).kj (p:=pB (w1+1+1)) dO true;have aA:=((b.d10.kj (p:=w1) dO (.slice y d E)).gH 0 H).kj (p:=pB (w1+1+1)) dO true;have aB:=((b.d11.kj (p:=w1) dO (.slice y d E)).kj (p:=pB (w1+1)) dO H).gH 0 true;have jx:=((b.bx.kj (p:=w1) dO (.slice y d E)).kj (p:=pB (w1+1)) dO H).kj (p:=pB (w1+1+1)) dO true;have jr:=((b.br.kj (p:=w1) dO (.slice y d E)).kj (p:=pB (w1+1)) dO H).kj (p:=pB (w1+1+1)) dO true;have J: ∀k,k<U.heap.size-> ¬(U.heap.size<=k/\nB W k/\ ¬O k):=fun k h S=>by omega
      have aa:=wv (wv (wv aG (g:=w1.heap.size) (J _ oG) 0 (.slice y d E)) (g:=w1.heap.size+1) (J _ oG) 0 H) (g:=w1.heap.size+1+1) (J _ oG) 0 true;have j:=b.nj;exact⟨ak.trans ((ju.set _ 0 _ oG (fun h=>(j _ h).2.2.2.1 rfl)).trans ((ju.set _ 0 _ oG (fun h=>(j _ h).2.2.2.2.1 rfl)).trans (ju.set _ 0 _ oG (fun h=>(j _ h).2.2.2.2.2 rfl)))),_,_,d,H,true,
       ⟨((b.bl.setCell (p:=w1) dO _).setCell (p:=pB (w1+1)) dO _).setCell (p:=pB (w1+1+1)) dO _,jx,jr,j9,aA,aB,b.ob,fun k a=>⟨fun h=>h.2.2 a,(j k a).2⟩,fun k a=>⟨aa.1 k a,oG⟩,aa.2,X,al⟩,fun g=>(bh g).elim⟩
     ·refine yn kR ?_;go_wp2_with fail;unfold oB;gi_wp2;exact⟨ak,D2,au,R,z2,true,b,fun g=>⟨fun h=>oG,fun _=>by
       rcases kV s with h0|h0
       ·have:=(C g).1 h0;cases this
       ·exact(C g).2 h0⟩⟩
   ·have cG:(r !=0)=true:=by simpa using ay
    gi_wp2;exact⟨aC,D2,au,R,z2,f2,Y,fun g=>⟨fun h=>oG,fun _=>by
     rcases kV s with h0|h0
     ·exact absurd (bA (by rw[af.out.2 h0];exact g.day)) ay
     ·exact(C g).2 h0⟩⟩
  case done=>
   intro D9 s O W hD hI aO hF;obtain⟨D2,au,R,z2,f2,M,L⟩:=hI;have C:Hid (adR x l->f2=true/\R=l.map fun s=>[s]):=zH fun g=>⟨((L g).2 hF).1,((L g).2 hF).2.1⟩;clear L;obtain⟨V,Z,rfl⟩:=M.dy.slice;have c:=zH M;obtain⟨y9,-⟩:=c.d9.iY;obtain⟨cj,-⟩:=c.d11.iY;obtain⟨yr,-⟩:=c.br.iY;have gr:=c.br.frozen 0;have z9:=c.d9.lt;have cw:=c.d11.lt;have zr:=c.br.lt;clear M;cases f2
   ·have A:Hid ((W.setCell (pB (w+1)) ()).heap[D9]? =some (.deferred (some []))):=zH ((fX _ _ _ _ _ oG).trans aO);have aw:=(c.bl.setCell (p:=pB (w+1)) dO ());have ar:=c.br.gH 0 ();gi_wp2;refine⟨by simp,.inl ⟨_,_,rfl,run_takeDeferred A,?_⟩⟩;exact⟨_,iw rfl _ _ (w+1) 39 [()] _ (.int .i64 14) rfl rfl (pS ar A rfl _) underlying39 rfl kR,⟨_,[],14,rfl,oG,nN.jL _ _,jS.jL _ _,(fun t h=>by cases h),(fun g=>by cases (C g).1),nb aw lE oG A⟩⟩
   ·have aT:=wv ⟨fun k a=>(c.dl k a).1,c.dy⟩ (g:=w.heap.size+1) (fun h=>by have:=(c.dl _ h).2;omega) 0 (.slice V R Z);have an:=zH aT;clear aT;have A:Hid ((W.setCell (pB (w+1)) (.slice V R Z)).heap[D9]? =some (.deferred (some []))):=zH ((fX _ _ _ _ _ oG).trans aO);have aw:=(c.bl.setCell (p:=pB (w+1)) dO (.slice V R Z));have ar:=c.br.gH 0 (.slice V R Z);gi_wp2;refine⟨by simp,.inl ⟨_,_,rfl,run_takeDeferred A,?_⟩⟩;have aV: ∀k,D2 k->k≠D9:=fun k a e=>by subst e;obtain⟨o,h1,S⟩:=an.1 k a;rw[A.out] at h1;cases h1;cases S
    exact⟨_,iw rfl _ _ (w+1) 39 [.slice V R.length Z] _ Zo rfl rfl (pS ar A rfl _) underlying39 rfl kR,⟨_,R,0,rfl,oG,(an.2.at (fun k a=>World.putObj_heap_other (aV k a)) sI).mono (fun k a=>⟨by have:=(c.dl k a).2;omega,by unfold nB;rw[World.putObj_heap_other (aV k a)];exact an.1 k a⟩),c.ok,c.ne,(fun g=>⟨rfl,(C g).2⟩),nb aw lE oG A⟩⟩
 ·have cJ:(z !=0)=true:=by simpa using az
  gi_wp2;exact⟨_,iw rfl _ _ (w+1) 39 [()] _ z rfl rfl (br.gH 0 _) underlying39 rfl kR,⟨_,[],z,rfl,bW,nN.jL _ _,jS.jL _ _,(fun t h=>by cases h),(fun g=>absurd (bG g) az),F.setCell (p:=pB (w+1)) dO _⟩⟩
end
end Go.Proofs.YtgimnjldndkalaaGreatDoor
