/- Of the proof of TopGreat: The walks of a tour's length, of a day's cost and stops. -/
import Derived.Test.YtgimnjldndkalaaGreatDoorF40
import Derived.Test.YtgimnjldndkalaaGreatDoorF12
set_option linter.all false
set_option maxRecDepth 100000
namespace Go.Proofs.YtgimnjldndkalaaGreatDoor
section
open Go.Proofs.Tryz
open Go.RowKit jm ko kN
def iz.agg {w:World} {v:Value} {x:fS} (h:iz w v x): ∃A1 c1 A2 c2,v=.agg #[x.days,x.mm,x.cap,x.len,.slice A1 x.eB c1,.slice A2 x.gn c2]:=by obtain⟨b,dv,a,⟨A1,c1,o,-⟩,⟨A2,c2,p,-⟩⟩:=h;subst o p;exact⟨A1,c1,A2,c2,a⟩
def qE (u s:Value) (x:fS) (t:Tr) (w:World) (m:iz w u x) (r:eV x) (l:RL 2 iH w s t) (q:t.length<=1000000) (h:jK x.eB t):
  Calls prog 143 #[u,.agg #[s]] w fun e w'=>e=.returned (Mc x.gn (t.map Prod.fst))/\Below w w w':=by
 obtain⟨A1,c1,A2,c2,rfl⟩:=m.agg;obtain⟨A,c,rfl,o,p,-⟩:=fQ.open_ l;obtain⟨B,z,n,y⟩:=Zd m l r h;clear m l r h;go_enter func143,ntmps143;go_wp2_with fail;have i:=(fc.new w 25 [x.days,x.mm,x.cap,x.len,.slice A1 x.eB c1,.slice A2 x.gn c2]).alloc (cB 44 [.slice A t c]);have j:=fc.fW (w.alloc (cB 25 [x.days,x.mm,x.cap,x.len,.slice A1 x.eB c1,.slice A2 x.gn c2])) 44 [.slice A t c] (g:=w.heap.size+1) sI;have a:Below w w ((w.alloc (cB 25 [x.days,x.mm,x.cap,x.len,.slice A1 x.eB c1,.slice A2 x.gn c2])).alloc (cB 44 [.slice A t c])):=bL (bL bF _) _;revert i j a;generalize (w.alloc (cB 25 [x.days,x.mm,x.cap,x.len,.slice A1 x.eB c1,.slice A2 x.gn c2])).alloc (cB 44 [.slice A t c])=w1;intro i j a;have J:=i.lt;have L:=j.lt;obtain⟨C,D,E,F,G,H⟩:=i.jI;have I:=j.c 0;refine rB [] fun hS=>?_;refine kL [0,1] ?_;refine tO 2 fun K f=>?_;go_simp;refine(rD _ t _ (fQ.below z (a.trans (hS.mono a.size)) lE) q).mono ?_;rintro e N ⟨M,rfl,v,b⟩;refine f _ _ (hS.trans (b.mono hS.size)) ?_;refine tO 3 fun K f=>?_;go_simp;refine(US _ _ x _ _ (B.out.below (a.trans ((hS.trans (b.mono hS.size)).mono a.size)) lE) v.reads n.out.V4 (by simpa using q) (y.out.eB (by have:=n.out.head;omega))).mono ?_;rintro e O ⟨rfl,k⟩;have d:=(hS.trans (b.mono hS.size)).trans (k.mono (eZ hS.size b.size));refine f _ _ (d) ?_;refine tO 4 fun K f=>?_;go_simp;refine f _ _ (d) ?_;refine tD ?_;go_wp2_with fail;go_ret;exact⟨rfl,a.trans (d.mono a.size)⟩
def uA (x:fS) (t:Tr):Int:=Mc x.gn (t.map Prod.fst)
def xI (H dv:Value) (x:fS) (d:Dy) (K:Nat) (w:World) (E:iz w H x) (G:eV x) (p:RL 1 jf w dv d) (J:jS x.eB K d) (T:K<=1000000):
  Calls prog 92 #[H,.agg #[dv]] w fun e w'=>e=.returned (me (d.map (uA x)))/\Below w w w':=by
 obtain⟨A1,c1,A2,c2,rfl⟩:=E.agg;obtain⟨A,c,rfl,N,O,B⟩:=iK.open_ p;obtain⟨R,I,h,L⟩:=Zd E B G J;clear E p G J B;go_enter func92,ntmps92;go_wp2_with fail;go_loopw [5,11] (fun U m wr=> ∃i:Nat,i<=d/\m=.int .i64 i/\U=.int .i64 (me ((d.map (uA x)).take i))/\
  fc wr w 25 [x.days,x.mm,x.cap,x.len,.slice A1 x.eB c1,.slice A2 x.gn c2]/\Below w w wr) (fun _ m _=>d.length-(intOf m).toNat)
 case atStart=>exact⟨0,eC _,rfl,rfl,(fc.new w _ _).alloc _,bL (bL bF _) _⟩
 case round=>
  obtain⟨i,Q,rfl,rfl,l,a⟩:=hrel;have D:=l.lt;by_cases k:i<d
  ·obtain⟨t,f⟩:=ec k;obtain⟨b,o,rfl,P,V,g,y⟩:=I i _ f;obtain⟨r,F⟩:=L.get f;obtain⟨s,c3,rfl,-⟩:=fQ.open_ g;replace y:=a7 a lE y;have u:Hid (me ((d.map (uA x)).take (i+1))=wrap64 (me ((d.map (uA x)).take i)+uA x t)):=zH (wQ (by rw[fh,f];rfl));obtain⟨v,M⟩:=Zb g r;obtain⟨W,X,Y,Z,d4,d5⟩:=l.jI;clear f g r;generalize me ((d.map (uA x)).take i)=z at*;go_wp2_with fail;have j:=bL (bS wr wr) (cB 44 [.slice s t c3]);refine(qE _ _ x t _ (R.below (a.trans (j.mono a.size)) lE) h (fQ.below v (a.trans (j.mono a.size)) lE) oG M).mono ?_;rintro e w2 ⟨rfl,C⟩;have n:=j.trans (C.mono j.size);rw[show Mc x.gn (t.map Prod.fst)=uA x t from rfl];generalize uA x t=q at*;go_wp2_with fail;go_roundw
   case rel=>exact⟨i+1,oG,by go_num,by rw[u.out],l.below n D,a.trans (n.mono a.size)⟩
   case measure=>exact mI
  ·obtain rfl:i=d.length:=oG;rw[fj sI];obtain⟨z,f⟩:=nR (me (d.map (uA x)));rw[f];have S:=zH f;clear f;go_wp2_with fail;go_ret;exact⟨by rw[S.out];rfl,a⟩
def Bw (dv:Value) (d:Dy) (K:Nat) (w:World) (p:RL 1 jf w dv d) (J:yw d<=K) (T:K<=1000000):
  Calls prog 137 #[.agg #[dv]] w fun e w'=> ∃E,e=.returned E/\OS w w' E d.flatten/\Below w w w':=by
 obtain⟨A,c,rfl,N,O,B⟩:=iK.open_ p;have I:=zH B;clear p B;go_enter func137,ntmps137;go_wp2_with fail;go_loopw [3,9] (fun E m wr=> ∃i:Nat,i<=d/\m=.int .i64 i/\Hid (OS w wr E (d.take i).flatten)/\Below w w wr) (fun _ m _=>d.length-(intOf m).toNat)
 case atStart=>exact⟨0,eC _,rfl,(OS.jL _ _),bL bF _⟩
 case round=>
  obtain⟨i,Q,rfl,h,a⟩:=hrel;by_cases k:i<d
  ·obtain⟨t,f⟩:=ec k;obtain⟨b,o,rfl,P,V,g,y⟩:=I i _ f;obtain⟨s,c3,rfl,-⟩:=fQ.open_ g;replace y:=a7 a lE y;have M:=a.size;have l:=vB (d.take (i+1));have n:=uB d (i+1);have u:Hid ((d.take (i+1)).flatten=(d.take i).flatten++t):=zH (by rw[iC f,aat];simp);have r:(d.take i).flatten.length+t.length<=1000000000:=by rw[u.out,fa] at l;omega
   have v:=zH (fQ.rs (fQ.below g (a.alloc a.size (cB 44 [.slice s t c3])) lE));obtain⟨L,H⟩:=nR ((d.take i).flatten);rw[H] at h u r;clear f g H l n;obtain⟨F,G,rfl,-⟩:=h.slice;go_wp2_with (at_builtin;refine nL _ rfl (.tmp 13) (.tmp 15) 42 rfl w 84 _ 2 16 underlying42 nU rfl dE dE _ L _ (h.alloc _) rfl s t c3 (t.flatMap gV) rfl v (mK t) r sO ?_;intro q R D C;have j:=C.below sO);go_roundw
   case rel=>refine⟨i+1,oG,by go_num,zH ?_,(a.alloc a.size _).trans j⟩;rw[u.out];unfold OS;rw[fa,fU];exact D
   case measure=>exact mI
  ·obtain rfl:i=d.length:=oG;have x:=h.out;rw[gh] at x;obtain⟨F,G,rfl,-⟩:=x.slice;go_wp2_with fail;go_ret;exact⟨_,rfl,x,a⟩
def AY (E:Value) (l:Tr) (w:World) (K:RL 2 iH w E l) (hn:l.length<=1000000):
  Calls prog 299 #[E] w fun e w'=> ∃dv,e=.returned (.agg #[dv])/\OT w w' dv (l.map fun s=>[s])/\Below w w w':=by
 obtain⟨A,c,rfl,N,O,B⟩:=fQ.open_ K;have I:=zH B;clear K B;go_enter func299,ntmps299;go_wp2_with fail;go_loopw [8] (fun m wr=> ∃(i:Nat) (J:Value),i<=l/\m=.int .i64 i/\fc wr w 39 [()]/\fc wr (w+1) 39 [J]/\Hid (OT (w+1+1) wr J ((l.map fun s=>[s]).take i))/\Below w w wr) (fun m _=>l.length-(intOf m).toNat)
 case atStart=>exact⟨0,_,eC _,rfl,(fc.new w _ _).alloc _,fc.fW _ _ _ sI,(OT.jL _ _),bL (bL bF _) _⟩
 case round=>
  obtain⟨i,J,Q,rfl,d,n,h,a⟩:=hrel;have z1:=d.lt;have z2:=n.lt;by_cases k:i<l
  ·obtain⟨⟨z,q⟩,f⟩:=ec k;obtain⟨b,o,rfl,P,S,T⟩:=I i _ f;replace S:=a7 a lE S;replace T:=a7 a lE T;have M:=a.size;have u:Hid ((l.map fun s=>[s]).take (i+1)=(l.map fun s=>[s]).take i++[[(z,q)]]):=zH (iC (by rw[fh,f];rfl));obtain⟨L,H⟩:=nR ((l.map fun s=>[s]).take i);rw[H] at h u;have r:L.length<=1000000000:=by rw[<-H,fB];omega
   clear f H;obtain⟨F,G,rfl,-⟩:=h.slice;have c1:=n.c 0;have U:=fc.fW (wr.alloc (cB 84 [z,q])) 84 [z,q] (g:=wr.heap.size+1) sI;have V:OS (w+1+1) ((wr.alloc (cB 84 [z,q])).alloc (cB 84 [z,q])) (.slice (pB (wr+1)) 1 1) [(z,q)]:=
    ⟨rfl,.inr ⟨wr.heap.size+1,1,#[z,q],rfl,oG,U,by simp,by simp[maxLen],rfl,rfl⟩⟩
   go_wp2_with (at_builtin;refine yA _ rfl (.tmp 13) (.tmp 17) rfl (w+1+1) _ L ((h.alloc _).alloc _) rfl _ [(z,q)] V rfl sI r sO ?_;intro g cap R D W X C Y;have j:=C.below sO;have t:=((n.alloc _).alloc _).below j oG;have f1:=t.frozen 0;have c2:R.cell? (pB (w+1))=some (.slice F L G):=t.cell 0);go_roundw
   case rel=>
    refine⟨i+1,_,oG,by go_num,(((d.alloc _).alloc _).below j oG).kj (p:=pB (w+1)) dO _,t.gH 0 _,zH ?_,?_⟩
    ·rw[u.out];exact D.fG dO _
    ·exact(((a.alloc a.size _).alloc sO _).trans (j.mono oG)).setCell (p:=pB (w+1)) (iW _) _
   case measure=>exact mI
  ·obtain rfl:i=l.length:=oG;have x:=h.out;rw[fj sI] at x;have y:=x.slice;rw[fm] at y;obtain⟨F,G,rfl,-⟩:=y;have c1:=n.c 0;have c0:=d.c 0;have Z:=d.frozen 0;go_wp2;refine bodyPost_ret (v:=.agg #[.slice F l G]) (ia rfl _ _ w 39 [.slice F l G] _ rfl (d.gH 0 _) underlying39 rfl kR) rfl ⟨_,rfl,OT.mono (x.fG dO _) oG,?_⟩;exact a.setCell (p:=w) lE _
theorem Ri{p:Prop}(h:p:=by
 go_wp2_with fail;go_ret
 exact⟨_,rfl,nF,fun g=>by have:=m.out g;omega,a.alloc a.size _⟩):p:=h
abbrev SI (x:fS) (A1:Option Addr) (c1:Nat) (A2:Option Addr) (c2:Nat) (tv:Value):List Value:=(yX x A1 c1 A2 c2 [tv])
def VZ (n:Nat) (t:Tr):Prop:=jK n t/\t≠[]
def GoS (n:Nat) (t:Tr):Prop:= ∃z q:Int,t=[(z,q)]/\(0<=z/\z<n)/\(1<=q/\q<=2147483648)
def GoS.all {n:Nat} {t:Tr} (h:GoS n t) {s:vg} (a:s∈t):(0<=s.1/\s.1<n)/\(1<=s.2/\s.2<=2147483648):=by obtain⟨z,q,rfl,E,F⟩:=h;cases nw.1 a;exact⟨E,F⟩
inductive Nt (n:Nat) (t:Tr) (w:World) (e:Ending) (w':World):Prop
 |mk (b:Bool) (he:e=.returned b) (h:b=true->VZ n t) (hg:GoS n t->b=true) (hb:Below w w w')
def GZ (x:fS) (A1:Option Addr) (c1:Nat) (A2:Option Addr) (c2:Nat) (k:Value) (t:Tr) (w:World) (j:RL 2 iH w k t):
  Calls prog 219 #[.agg #[x.days,x.mm,x.cap,x.len,.slice A1 x.eB c1,.slice A2 x.gn c2,k]] w (Nt x.eB t w):=by
 obtain⟨A,c,rfl,E,F,G⟩:=fQ.open_ j;have J:=zH G;clear j G;go_enter func219,ntmps219;go_wp2_with fail;go_loopw [9] (fun C wr=> ∃i:Nat,i<=t/\C=.int .i64 i/\Hid (jK x.eB (t.take i))/\fc wr w 253 (SI x A1 c1 A2 c2 (.slice A t c))/\Below w w wr) (fun C _=>t.length-(intOf C).toNat)
 case atStart=>exact⟨0,eC _,rfl,(jK.jL _),fc.new w _ _,bL bF _⟩
 case round=>
  obtain⟨i,U,rfl,f,d,a⟩:=hrel;have N:=d.lt;have L:=d.c 4;have D:=d.c 6;by_cases B:i<t
  ·obtain⟨⟨z,q⟩,n⟩:=ec B;obtain⟨b,o,rfl,T,H,I⟩:=J i _ n;replace H:=a7 a lE H;replace I:=a7 a lE I;have r:Hid (xd x.eB.length (z,q)->jK x.eB.length (t.take (i+1))):=zH (fun h=>by rw[iC n];exact f.append (jK.one h));have m:Hid (GoS x.eB t->(0<=z/\z<x.eB)/\(1<=q/\q<=2147483648)):=zH fun g=>g.all (a8 n);clear n;by_cases P:z<0
   ·exact Ri
   ·have s:0<=z:=oG;by_cases Q:(x.eB.length:Int)<=z
    ·exact Ri
    ·have u:z<(x.eB.length:Int):=oG;by_cases R:q<1
     ·exact Ri
     ·have M:1<=q:=oG;by_cases S:2147483648<q
      ·exact Ri
      ·have v:q<=2147483648:=oG;go_wp2_with fail;go_roundw
       case rel=>exact⟨i+1,oG,by go_num,(r ⟨⟨s,u⟩,by show 0<=q;omega,v⟩),d.alloc _,a.alloc a.size _⟩
       case measure=>exact mI
  ·obtain rfl:i=t.length:=oG;have y:=f.out;rw[gh] at y;have p:=zH y;clear y;by_cases l:t.length=0
   ·go_wp2_with fail;go_ret
    exact⟨_,rfl,(fun h=>by simp at h),fun⟨_,_,e,_⟩=>by rw[e] at l;simp at l,a⟩
   ·have O:0<t.length:=oG;have K:Hid (t≠[]):=zH (fun e=>l (by rw[e];rfl));go_wp2_with fail;go_ret;exact⟨_,rfl,fun _=>⟨p,K⟩,fun _=>rfl,a⟩
def GX (x:fS) (A1:Option Addr) (c1:Nat) (A2:Option Addr) (c2:Nat) (k:Value) (t:Tr) (w:World) (j:RL 2 iH w k t):
  Calls prog 221 #[.agg #[x.days,x.mm,x.cap,x.len,.slice A1 x.eB c1,.slice A2 x.gn c2,k]] w fun e w'=>e=.returned (.bool (decide (me (t.map Prod.snd)<=x.cap)))/\Below w w w':=by
 have m:=zH j;obtain⟨A,c,rfl,-⟩:=fQ.open_ j;clear j;go_enter func221,ntmps221;go_wp2_with fail;have d:=fc.new w 253 (SI x A1 c1 A2 c2 (.slice A t c));have a:=bL (bS w w) (cB 253 (yX x A1 c1 A2 c2 [.slice A t c]));revert d a;generalize (w.alloc (cB 253 (yX x A1 c1 A2 c2 [.slice A t c])))=w1;intro d a;have v:=d.lt;have u:=d.c 2;have D:=d.c 6;refine rB [] fun hS=>?_;refine kL [0,1,3,4,5] ?_;refine tO 2 fun K f=>?_;go_simp;refine(C4 _ t _ (fQ.below m (a.trans (hS.mono a.size)) lE)).mono ?_;rintro e y ⟨z,rfl,h,g⟩;have n:=zH h;clear h;have b:=hS.trans (g.mono hS.size);refine f _ _ (b) ?_;refine tO 6 fun K f=>?_;go_simp;refine f _ _ (b) ?_;refine tO 7 fun K f=>?_;go_simp;refine f _ _ (b) ?_;refine tD ?_;go_wp2_with fail;go_ret;exact⟨by rw[<-n.out];rfl,a.trans (b.mono a.size)⟩
def GY (x:fS) (A1:Option Addr) (c1:Nat) (A2:Option Addr) (c2:Nat) (k:Value) (t:Tr) (w:World) (j:RL 2 iH w k t) (p:iz w (.agg #[x.days,x.mm,x.cap,x.len,.slice A1 x.eB c1,.slice A2 x.gn c2]) x) (o:eV x) (l:t.length<=1000000) (i:jK x.eB t):
  Calls prog 222 #[.agg #[x.days,x.mm,x.cap,x.len,.slice A1 x.eB c1,.slice A2 x.gn c2,k]] w fun e w'=>e=.returned (.bool (decide (Mc x.gn (t.map Prod.fst)<=x.len)))/\Below w w w':=by
 obtain⟨m,s,q,r⟩:=Zd j p o i;obtain⟨A,c,rfl,-⟩:=fQ.open_ j;clear j p o i;go_enter func222,ntmps222;go_wp2_with fail;have d:=fc.new w 253 (SI x A1 c1 A2 c2 (.slice A t c));have a:=bL (bS w w) (cB 253 (yX x A1 c1 A2 c2 [.slice A t c]));revert d a;generalize (w.alloc (cB 253 (yX x A1 c1 A2 c2 [.slice A t c])))=w1;intro d a;have v:=d.lt;have B:=d.c 0;have C:=d.c 1;have u:=d.c 2;have E:=d.c 3;have L:=d.c 4;have F:=d.c 5;have D:=d.c 6;refine rB [] fun hS=>?_;refine kL [0,1,2,3,5,6,7] ?_;refine tO 4 fun K f=>?_;go_simp;refine(qE _ _ x t _ (s.below (a.trans (hS.mono a.size)) lE) q (fQ.below m (a.trans (hS.mono a.size)) lE) l r).mono ?_;rintro e y ⟨rfl,g⟩;have b:=hS.trans (g.mono hS.size);obtain⟨z,h⟩:=nR (Mc x.gn (t.map Prod.fst));rw[h];have n:=zH h;clear h;refine f _ _ (b) ?_;refine tO 8 fun K f=>?_;go_simp;refine f _ _ (b) ?_;refine tO 9 fun K f=>?_;go_simp;refine f _ _ (b) ?_;refine tD ?_;go_wp2_with fail;go_ret;exact⟨by rw[n.out];rfl,a.trans (b.mono a.size)⟩
end
end Go.Proofs.YtgimnjldndkalaaGreatDoor
