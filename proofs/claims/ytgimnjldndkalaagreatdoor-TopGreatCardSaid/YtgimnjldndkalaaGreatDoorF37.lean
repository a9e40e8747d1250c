/- Of the proof of TopGreat: Small laws of the layers that print. -/
import Derived.Test.YtgimnjldndkalaaGreatDoorF42
import Derived.Test.YtgimnjldndkalaaGreatDoorF12
import Derived.Test.YtgimnjldndkalaaGreatDoorF7
set_option linter.all false
set_option maxHeartbeats 8000000
set_option maxRecDepth 100000
namespace Go.Proofs.YtgimnjldndkalaaGreatDoor
variable {n:Nat}
section
open Go.RowKit ue jm uf
def SE (c:UInt8):Value:=.int .u8 (c.toNat:Nat)
def Jr {s k:Nat} (a:k<n):(jV s n)[k]? =some (if s/2^k%2=1 then 49 else 48):=by unfold jV;rw[fh,oH a];rfl
def kX.jh {w:World} {lb:Nat} {v:Value} {L:kW} (h:w.ownsRow lb 9 1 v n (L.map kI)):kX w v L:=by have a:=h.1;rw[fm,jR] at a;subst a;exact RS.jh h
theorem gx.Dj {w:World} {r:List Int} {A:Option Addr} {c:Nat} (h1:r.length<=c) (h2:c<=9223372036854775807) (h: ∀j z,r[j]? =some z-> ∃b1 o1,A=some ⟨b1,o1,none⟩/\b1<w.heap.size/\w.cell? ⟨b1,o1+j,none⟩=some (.int .i64 z)):gx w .i64 (.slice A r.length c) r:=by
 refine⟨A,c,rfl,h1,by simpa[maxLen] using h2,by simp,fun hn=> ?_⟩;obtain⟨z,hz⟩:=ec hn;obtain⟨b,o,hA,hb,-⟩:=h 0 z hz;refine⟨b,o,hA,hb,fun j u hu=> ?_⟩;rw[fh] at hu;obtain⟨z,hz,rfl⟩:=mP.1 hu;obtain⟨b',o',hA',-,hc⟩:=h j z hz;rw[hA] at hA';obtain⟨rfl,rfl⟩:b=b'/\o=o':=by simpa using hA'
 exact hc
def NB (s:ByteArray):kI s.data.toList=.string s:=by unfold kI;simp
structure Xx (y:fS):Prop where
 wf:y.wf
 may:may y=true
 Ik:y.eB.length<=6
 text:(na y).length<=200000
 lines: ∀l∈iR y,l.length<=8
def sR (l:List UInt8): ∃s:ByteArray,kI l=.string s/\s.toList=l/\s.data.toList=l:=⟨⟨l.toArray⟩,rfl,by rw[mR],rfl⟩
end
section
open ue jm uf ko kN
variable {a b d h m s w:Int}
def py (n m:Int):Int:=(if n<0 then -(n+1) else n)%m
def tc (n:Int) (h:0<m):0<=py n m/\py n m<m:=⟨vf _ oG,rQ _ h⟩
def acH (s h:Int):kc:=⟨2,0,[],1,s,s/2,2,h⟩
def zx (d s h a b:Int):fS:=⟨d,1,2147483648,2147483648,[acH s h],[[0,a],[b,0]]⟩
def aeT (o:1<=d/\d<=64) (i:1<=s/\s<=2147483648) (k:0<=h/\h<=1024) (n:0<=a/\a<1073741824) (p:0<=b/\b<1073741824):iF (zx d s h a b) (acH s h) a b:=by
 refine⟨⟨?_,?_⟩,rfl,rfl,⟨rfl,rfl,rfl,o⟩,⟨rfl,rfl,rfl,i,rfl,k⟩,n,p⟩
 ·have f:jT (acH s h) d=true:=by unfold jT acH;rw[if_neg sI,if_pos rfl];simp only[xW,Du,qH,eR,lF,id,kF,a6,hU,oj,beq_iff_eq,decide_eq_true_eq,fZ,and_self,and_true];exact⟨oG,i,oG,.inr trivial,k⟩
  unfold jm.may;simp only[a6,oj,decide_eq_true_eq];refine⟨⟨⟨⟨⟨⟨?_,by simp[zx]⟩,?_⟩,?_⟩,?_⟩,?_⟩,?_⟩
  ·show 1<=d/\d<=64;omega
  ·show 0<=(1:Int)/\(1:Int)<=2147483648;omega
  ·show 0<=(2147483648:Int)/\(2147483648:Int)<=2147483648;omega
  ·show 0<=(2147483648:Int)/\(2147483648:Int)<=2147483648;omega
  ·show([acH s h].all fun c=>jT c d)=true;simp[f]
  ·show pq [[0,a],[b,0]] 2=true;simp only[pq,mU,vP,eR,lF,kF,a6,oj,decide_eq_true_eq];refine⟨rfl,⟨⟨rfl,rfl⟩,?_⟩,⟨rfl,rfl⟩,?_⟩ <;>omega
 ·refine⟨?_,?_,?_,?_,fun c l=>?_,fun r g z m=>?_⟩
  ·show tq d;unfold tq;omega
  ·show tq 1;unfold tq;omega
  ·show tq 2147483648;unfold tq;omega
  ·show tq 2147483648;unfold tq;omega
  ·cases nw.1 l;have e: ∀z:Int,0<=z->z<=2147483648->tq z:=fun z f j=>⟨oG,oG⟩;exact⟨e 2 dE dE,e 0 dE dE,by simp[acH],e 1 dE dE,e s oG oG,e (s/2) oG oG,e 2 dE dE,e h oG oG⟩
  ·have g:r∈[[0,a],[b,0]]:=g;simp only[fC,iy,or_false] at g;unfold tq
   rcases g with rfl|rfl <;>simp only[fC,iy,or_false] at m <;>omega
def acM (e:iF (zx d s h a b) (acH s h) a b): ∀l∈iR (zx d s h a b),l.length<=8/\ ∀w∈l,w.length<=1000:=by
 intro l i;obtain⟨p,q,t,u,v,x⟩:=e.ok.wf;have y:=oO p;have A:=oO q;have B:=oO t;have C:=oO u;have D:=oO (n:=((zx d s h a b).eB.length:Int)) (by unfold tq;rw[e.len];omega);have o:=e.hd;unfold iR lh at i;simp only[fO,fC,iy,or_false,cy] at i
 rcases i with (rfl|rfl|rfl)|⟨c,f,rfl⟩|rfl|⟨r,k,rfl⟩
 ·exact⟨by decide,by decide⟩
 ·refine⟨by simp,fun w g=>?_⟩;simp only[fC,iy,or_false] at g
  rcases g with rfl|rfl|rfl|rfl|rfl|rfl|rfl|rfl <;>first|decide|omega
 ·refine⟨by simp,fun w g=>?_⟩;simp only[fC,iy,or_false] at g
  rcases g with rfl|rfl <;>first|decide|omega
 ·refine⟨?_,(FZ oG (v c f) (e.ok.Kp f)).2⟩;rw[kq,if_neg (by rw[e.all c f];omega)];simp
 ·exact⟨by decide,by decide⟩
 ·have j:=e.ok.gn.2 r k;have:=e.len;refine⟨by rw[fm];omega,fun w g=>?_⟩;obtain⟨z,m,rfl⟩:=cy.1 g;have:=oO (x r k z m);omega
def aeS (e:iF (zx d s h a b) (acH s h) a b):Xx (zx d s h a b):=by
 refine⟨e.ok.wf,e.ok.may,by rw[e.len];omega,?_,fun l i=>(acM e l i).1⟩;have g:=CI kx 8009 (iR (zx d s h a b)) fun l i=>by have f:=acM e l i;have j:=Ob f.2;have c:=kg f.1 (ij 1001);omega
 have o:(iR (zx d s h a b)).length=7:=rfl;unfold na;omega
def afr (i:1<=s):w<=s*ix w s:=by
 have f:=sF w s;have j:=rQ w (show 0<s by omega);unfold ix;split
 ·omega
 ·rw[vd];omega
def aeR (i:1<=s) (h:w<=s*m):ix w s<=m:=by
 have f:=sF w s;have c:=vf w (show s≠0 by omega);have j:=rQ w (show 0<s by omega);have a:w/s<=m:=afH oG (by rw[TT];exact h);unfold ix;split
 ·exact a
 ·rename_i o;have b:w/s≠m:=fun e=>by rw[e] at f;omega
  omega
def ad1 {c:kc} {n:Int} {k:Nat} (i:1<=c.size) (o:1<=n) (m:(k:Int)<=n) (e:0<k->c.size*((k:Int)-1)<gw c n) (d:gw c n<=c.size*k\/n<=k):dd c n=k:=by
 have g:0<=gw c n:=by unfold gw;omega
 unfold dd;generalize gw c n=W at*;split
 ·rename_i b;subst b
  rcases kV k with rfl|h
  ·rfl
  ·have:=e h;have:0<=c.size*((k:Int)-1):=eS oG oG;omega
 ·rename_i b;have p:=afr (w:=W) i;have a:0<k:=by
   rcases kV k with rfl|h
   ·rcases d with h|h
    ·simp at h;omega
    ·simp at h;omega
   ·exact h
  have f:=e a;have j:(k:Int)<=ix W c.size:=by
   by_cases l:ix W c.size<=(k:Int)-1
   ·have:=ng l (show 0<=c.size by omega);omega
   ·omega
  rcases d with h|h
  ·have:=aeR i h;omega
  ·omega
end
section
open Go.Proofs.Tryz
open Go.RowKit ue jm uf
theorem Re{p:Prop}(h:p:=by
 go_roundw
 case rel=>exact⟨i+1,oG,by go_num,l.trans g,zH (by rw[c.out,gJ];exact j)⟩
 case measure=>exact mI):p:=h
def Nb:(prog.info? 5).map (fun i=>(i.zero,i.size,i.bytes))=some (some (.int .u8 0),1,1):=kR
def GC {w:World} {lb:Nat} {v:Value} {n:Nat} {L:List UInt8} (h:w.ownsRow lb 5 1 v n (L.map SE)) (z:0<L.length):
  (convert 109 9 v).run prog w=.ok (.string ⟨L.toArray⟩) w:=by
 have d:=h.1;rw[fm,jR] at d;subst d;obtain⟨A,c,rfl,-,-,-,e⟩:=RS.jh h;obtain⟨b,o,rfl,-,f⟩:=e z;refine run_convert_bytes_back w 109 9 5 (pA b o) c L underlying109 underlying5 underlying9 (fun j g=>?_);have a:((pA b o):Addr).add j=(pA b (o+j)):=by unfold Addr.add;split <;>simp_all
 rw[a,f j (SE L[j]) (by rw[fh,fp g];rfl)];rfl
def Ov (s n:Nat) (w:World) (G:s<18446744073709551616) (z:1<=n) (L:n<=64):
  Calls prog 32 #[.int .u64 (s:Int),(n:Int)] w fun e w'=> ∃t:ByteArray,e=.returned (.string t)/\Hid (t=⟨(jV s n).toArray⟩)/\Below w w w':=by
 have D:decide ((n:Int)<1)=false:=decide_eq_false oG;have E:decide ((n:Int)>64)=false:=decide_eq_false oG;have A:=oV s n;go_enter func32,ntmps32;go_wp2_with fail;refine(Cq s G _).mono ?_;rintro e w1 ⟨rfl,f,d⟩;clear D E;have v:=f.lt;go_wp2_with fail;go_loopw [5,7] (fun H y wr=> ∃i:Nat,i<=n/\y=.int .i64 i/\Below w1 w1 wr/\Hid (wr.ownsRow w1 5 1 H i (((jV s n).take i).map SE))) (fun _ y _=>n-(intOf y).toNat)
 case atStart=>exact⟨0,eC _,rfl,bS _ _,(gL _ _ _ _)⟩
 case round=>
  obtain⟨i,M,rfl,l,q⟩:=hrel;by_cases u:i<n
  ·have r:=Jr (s:=s) u;have k:=((f.below l v).cell i).trans (by rw[fh,lJ.vz s i oG]);have c:=zH (iC r);have p:=q.out;have o:i<=1000000000:=oG;have b:=l.size;obtain⟨B,C,rfl,-⟩:=RS.jh q;by_cases a:s/2^i%2=1
   ·rw[a] at k;rw[if_pos a] at c;have K:wr.cell? (pA w i)=some (.int .i64 1):=k;clear a r k;go_wp2_with (at_builtin;refine kD _ rfl (.tmp 21) (.tmp 28) 109 rfl w1 5 _ 1 1 underlying109 Nb rfl dE dE _ _ _ p rfl [.int .u8 49] _ rfl rfl rfl o b ?_;intro I J j g x);exact Re
   ·have m:s/2^i%2=0:=oG;rw[m] at k;rw[if_neg a] at c;have K:wr.cell? (pA w i)=some (.int .i64 0):=k;clear a r k m;go_wp2_with (at_builtin;refine kD _ rfl (.tmp 21) (.tmp 28) 109 rfl w1 5 _ 1 1 underlying109 Nb rfl dE dE _ _ _ p rfl [.int .u8 48] _ rfl rfl rfl o b ?_;intro I J j g x);exact Re
  ·obtain rfl:i=n:=oG;have h:=q.out;rw[fj oG] at h;have F:=GC h oG;obtain⟨B,C,rfl,-⟩:=RS.jh h;clear h;go_wp2_with fail;go_ret;exact⟨_,rfl,rfl,d.trans (l.mono d.size)⟩
def Jb (n:Int) (w:World) (b: -9223372036854775808<=n) (C:n<=9223372036854775807):
  Calls prog 31 #[n] w fun e w'=> ∃s:ByteArray,e=.returned (.string s)/\Hid (s=⟨(iN n).toArray⟩)/\Below w w w':=
 (Gr n w b C).mono fun _ _ ⟨c,a⟩=>⟨_,c,rfl,a⟩
def yh (l:List Int) (v:Value) (w:World) (R:l.length<=1000) (F: ∀z∈l,-9223372036854775808<=z/\z<=9223372036854775807) (E:gx w .i64 v l):
  Calls prog 30 #[v] w fun e w'=> ∃u,e=.returned u/\kX w' u (l.map iN)/\Below w w w':=by
 obtain⟨A,c,rfl,C,P,D⟩:=E.open_;obtain⟨HCC,H⟩:=Zb D F;clear E D F;go_enter func30,ntmps30;go_wp2_with fail;go_loopw [3,4] (fun K B wr=> ∃i:Nat,i<=l/\B=.int .i64 i/\Below w w wr/\Hid (wr.ownsRow w 9 1 K i ((l.take i).map fun z=>kI (iN z)))) (fun _ B _=>l.length-(intOf B).toNat)
 case atStart=>exact⟨0,eC _,rfl,bS _ _,(gL _ _ _ _)⟩
 case round=>
  obtain⟨i,Q,rfl,a,m⟩:=hrel;by_cases s:i<l
  ·obtain⟨z,k⟩:=ec s;obtain⟨b,o,rfl,I,y⟩:=HCC i z k;have U:=a7 a lE y;have j:=H z (a8 k);have p:=zH (iC k);obtain⟨N,O,rfl,-⟩:=RS.jh m;clear k y;go_wp2_with fail;refine(Jb z _ j.1 j.2).mono ?_;rintro e M ⟨L,rfl,n,d⟩;have x:=jq m d lE;have r:i<=1000000000:=oG;have f:w.heap.size<=M.heap.size:=eZ a.size d.size;go_wp2_with (at_builtin;refine kD _ rfl (.tmp 11) (.tmp 17) 76 rfl w 9 _ 1 16 underlying76 M8 rfl dE dE _ _ _ x rfl [.string L] _ rfl rfl rfl r f ?_;intro S T h q J);go_roundw
   case rel=>refine⟨i+1,oG,by go_num,(a.trans (d.mono a.size)).trans q,zH ?_⟩;rw[p.out,gJ];rw[n.out] at h;exact h
   case measure=>exact mI
  ·obtain rfl:i=l.length:=oG;have t:=m.out;rw[gh] at t;have g:wr.ownsRow w 9 1 u3 l.length ((l.map iN).map kI):=by rw[kK];exact t
   have G:=zH (kX.jh g);clear t g;go_wp2_with fail;go_ret;exact⟨_,rfl,G,a⟩
theorem Rf{p:Prop}(h:p:=by
 have m:(aa++(⟨#[10]⟩:ByteArray)).size<=100000000:=by rw[k9 d.out];have:=AR x (3+(i+1));omega
 go_wp2_with fail;go_roundw
 case rel=>exact⟨i+1,_,oG,by go_num,rfl,d,m,f.drew⟩
 case measure=>exact mI):p:=h
def pT (a b:ByteArray) (h:a.size+b.size<=n): ∃T:ByteArray,Hid (T=a++b)/\T.size<=n:=⟨_,rfl,by rw[nA];exact h⟩
def k9 {s:ByteArray} {l:List UInt8} (h:s.data.toList=l):s.size=l.length:=by rw[<-h];exact(kC s).symm
def Mb {c:kc} {k:Nat} (b:c.wf) (d:n<=64) (hp:c.jC.length<=64):(jw 32 (oY c n k)).length<=70000:=by
 have h:=D0 32 1000 (oY c n k) fun x hx=>by
  unfold oY at hx;simp only[fC,cy] at hx
  rcases hx with rfl|rfl|⟨s,-,rfl⟩
  ·decide
  ·have:=oO b.2.1;omega
  ·rw[oV];omega
 have a:(oY c n k).length<=66:=by unfold oY;have:=Es k c.jC;simp;omega
 have:=kg a (ij 1001);omega
def Jm (v:Value) (x:fS) (w:World) (hx:iz w v x) (dJ:x.wf) (hm:may x=true) (hc:x.eB.length<=900) (eu:(na x).length<=100000000):
  Calls prog 8 #[v] w fun e w'=>e=.returned (kI (na x))/\Below w w w':=by
 obtain⟨cv,dv,rfl,cD,cE⟩:=hx;obtain⟨A,c,rfl,eH,eI,af⟩:=cD.open_;obtain⟨A1,c1,rfl,eJ,eK,aD⟩:=cE.open_;obtain⟨cX,dr,dx⟩:=Zc af aD dJ;obtain⟨⟨p1,p2⟩,-,p3,p4,p5,p6,p7,p8⟩:=AE hm;obtain⟨cZ,dg⟩:=Zb p6 p8;have aQ:=(fc.new w 25 [x.days,x.mm,x.cap,x.len,.slice A x.eB c,.slice A1 x.gn c1]);have ae:=jX (bS w w) (cB 25 [x.days,x.mm,x.cap,x.len,.slice A x.eB c,.slice A1 x.gn c1]);obtain⟨d0,d1,d2,d3,d4,d5⟩:=aQ.jI;have cN:gx ((w.alloc (cB 25 [x.days,x.mm,x.cap,x.len,.slice A x.eB c,.slice A1 x.gn c1])).alloc (cB 3 [x.days,x.mm,x.cap,x.len,x.eB.length])) .i64 (.slice (pB (w+1)) 5 5) [x.days,x.mm,x.cap,x.len,(x.eB.length:Int)]:=
  (fc.newAt _ 3 ([x.days,x.mm,x.cap,x.len,(x.eB.length:Int)].map (.int .i64)) (g:=w.heap.size+1) sI).gx rfl dE (by simp[maxLen])
 have ax:=ae.alloc ae.size (cB 3 [x.days,x.mm,x.cap,x.len,x.eB.length]);have aR:=aQ.alloc (cB 3 [x.days,x.mm,x.cap,x.len,x.eB.length]);have eD:=zH p7;clear cD cE af aD p6 p7 p8 hm;go_enter func8,ntmps8;go_wp2_with fail;refine(yh [x.days,x.mm,x.cap,x.len,(x.eB.length:Int)] _ _ sI (fun z hz=>by simp only[fC,iy,or_false] at hz;rcases hz with rfl|rfl|rfl|rfl|rfl <;>omega) cN).mono ?_;rintro e w2 ⟨u,rfl,hu,aT⟩;obtain⟨Au,cu,rfl,g1,g2,C⟩:=hu.open_;obtain⟨b,o,rfl,eG,y0⟩:=C 0 _ rfl;obtain⟨L,N,h,-,y1⟩:=C 1 _ rfl;obtain⟨rfl,rfl⟩:b=L/\o=N:=by simpa using h
 obtain⟨L,N,h,-,y2⟩:=C 2 _ rfl;obtain⟨rfl,rfl⟩:b=L/\o=N:=by simpa using h
 obtain⟨L,N,h,-,y3⟩:=C 3 _ rfl;obtain⟨rfl,rfl⟩:b=L/\o=N:=by simpa using h
 obtain⟨L,N,h,-,y4⟩:=C 4 _ rfl;obtain⟨rfl,rfl⟩:b=L/\o=N:=by simpa using h
 rw[eW] at y0;have e5:([x.days,x.mm,x.cap,x.len,(x.eB.length:Int)].map iN).length=5:=rfl;rw[e5] at g1;simp only[e5];have D:=kB ax aT;have cw:=aR.below aT aR.lt;obtain⟨s0,cO,-,aU⟩:=sR (iN x.days);have z0:s0.size<=21:=by rw[k9 aU];exact oO (by unfold tq;omega)
 change w2.cell? _=some (kI (iN x.days)) at y0;rw[cO] at y0;obtain⟨s1,ao,-,aV⟩:=sR (iN x.mm);have z1:s1.size<=21:=by rw[k9 aV];exact oO (by unfold tq;omega)
 change w2.cell? _=some (kI (iN x.mm)) at y1;rw[ao] at y1;obtain⟨s2,cP,-,aW⟩:=sR (iN x.cap);have z2:s2.size<=21:=by rw[k9 aW];exact oO (by unfold tq;omega)
 change w2.cell? _=some (kI (iN x.cap)) at y2;rw[cP] at y2;obtain⟨s3,bh,-,aX⟩:=sR (iN x.len);have z3:s3.size<=21:=by rw[k9 aX];exact oO (by unfold tq;omega)
 change w2.cell? _=some (kI (iN x.len)) at y3;rw[bh] at y3;obtain⟨s4,m,-,aY⟩:=sR (iN (x.eB.length:Int));have z4:s4.size<=21:=by rw[k9 aY];exact oO (by unfold tq;omega)
 change w2.cell? _=some (kI (iN (x.eB.length:Int))) at y4;rw[m] at y4;obtain⟨T1,aE,dL⟩:=pT (⟨#[116,114,97,110,116,101,114,32,49,10,100,97,121,115,32]⟩:ByteArray) s0 (n:=50) (by show 15+_<=_;omega);obtain⟨T2,aF,dM⟩:=pT T1 (⟨#[32,118,101,104,105,99,108,101,115,32]⟩:ByteArray) (n:=100) (by show _+10<=_;omega);obtain⟨T3,aG,dN⟩:=pT T2 s1 (n:=150) oG;obtain⟨T4,aH,dP⟩:=pT T3 (⟨#[32,99,97,112,97,99,105,116,121,32]⟩:ByteArray) (n:=200) (by show _+10<=_;omega);obtain⟨T5,aI,dQ⟩:=pT T4 s2 (n:=250) oG;obtain⟨T6,aJ,dR⟩:=pT T5 (⟨#[32,108,101,110,103,116,104,32]⟩:ByteArray) (n:=300) (by show _+8<=_;omega);obtain⟨T7,aK,dS⟩:=pT T6 s3 (n:=350) oG;obtain⟨T8,aL,dU⟩:=pT T7 (⟨#[10,99,117,115,116,111,109,101,114,115,32]⟩:ByteArray) (n:=400) (by show _+11<=_;omega);obtain⟨T9,aM,dV⟩:=pT T8 s4 (n:=450) oG;obtain⟨cg,O,ew⟩:=pT T9 (⟨#[10]⟩:ByteArray) (n:=500) (by show _+1<=_;omega);have du:Hid (cg.data.toList=DX x 3):=zH (by rw[O.out,gC,aM.out,gC,aL.out,gC,aK.out,gC,aJ.out,gC,aI.out,gC,aH.out,gC,aG.out,gC,aF.out,gC,aE.out,gC,aU,aV,aW,aX,aY,QC]);have q:=zH cw;clear cN ax aR C hu aT d0 d1 d2 d3 d4 d5 aU aV aW aX aY cO ao cP bh m cw aQ ae;go_wp2_with fail;refine rB [] fun hS=>?_;refine kL [0,1,2] ?_;have HCC:=aE;refine xw 3 hS ?_;have HCC:=aF;refine xw 4 hS ?_;refine kL [5,6,7] ?_;have HCC:=aG;refine xw 8 hS ?_;have HCC:=aH;refine xw 9 hS ?_;refine kL [10,11,12] ?_;have HCC:=aI;refine xw 13 hS ?_;have HCC:=aJ;refine xw 14 hS ?_;refine kL [15,16,17] ?_;have HCC:=aK;refine xw 18 hS ?_;have HCC:=aL;refine xw 19 hS ?_;refine kL [20,21,22] ?_;have HCC:=aM;refine xw 23 hS ?_;have HCC:=O;refine xw 24 hS ?_;refine kL [25] ?_;refine tD ?_;clear y0 y1 y2 y3 y4 z0 z1 z2 z3 z4 aE aF aG aH aI aJ aK aL aM O dL dM dN dP dQ dR dS dU dV;obtain⟨ez,ey⟩:=Zb (q.drew) (D.drew);go_wp2_with fail;go_loopw [4,5] (fun sv iv wr=> ∃(i:Nat) (s:ByteArray),i<=x.eB/\iv=.int .i64 i/\sv=.string s/\Hid (s.data.toList=DX x (3+i))/\s.size<=100000000/\Below w2 w2 wr) (fun _ iv _=>x.eB.length-(intOf iv).toNat)
 case atStart=>exact⟨0,cg,eC _,rfl,rfl,du,oG,bF.drew⟩
 case round=>
  obtain⟨i,s,hi,rfl,rfl,HT,hs,a⟩:=hrel;have H:=q.below a q.lt;obtain⟨d0,d1,d2,d3,d4,d5⟩:=H.jI;clear d0 d1 d2 d3 d5;by_cases dD:i<x.eB
  ·obtain⟨cu,C⟩:=ec dD;obtain⟨b,o,rfl,hb,pv,aZ,q0,q1,q2,q3,q4,q5,q6,q7⟩:=cX i cu C;have B:Below w w wr:=D.trans (a.mono D.size);have x0:=a7 B lE q0;have x1:=a7 B lE q1;have x2:=a7 B lE q2;have x3:=a7 B lE q3;have x4:=a7 B lE q4;have x5:=a7 B lE q5;have x6:=a7 B lE q6;have x7:=a7 B lE q7;have ai:=a8 C;obtain⟨aN,bA,G,eE⟩:=Zd (dx.2.2.2.2.1 cu ai) (cZ cu ai) (TQ C) aZ;obtain⟨Ap,cp,rfl,eL,eM,cI⟩:=aZ.open_;have dh:=zH cI;have dG:=EH bA;obtain⟨M,cH⟩: ∃M:Nat,x.days=(M:Int):=⟨x.days.toNat,oG⟩;have aB:x.days.toNat=M:=oG;obtain⟨cY,bG⟩:=Zb cH aB;have aA:M<=64:=oG;have dF:1<=M:=oG;obtain⟨wo,dK⟩:=nE (wr:World);subst dK;have bc:=fc.new wo 47 [cu.kind,cu.iL,.slice Ap cu.jC cp,cu.jU,cu.size,cu.start,cu.lR,cu.hold];obtain⟨k0,k1,k2,k3,k4,k5,k6,k7⟩:=bc.xG;have en:=jX (bS wo wo) (cB 47 [cu.kind,cu.iL,.slice Ap cu.jC cp,cu.jU,cu.size,cu.start,cu.lR,cu.hold]);have ag:=a.alloc a.size (cB 47 [cu.kind,cu.iL,.slice Ap cu.jC cp,cu.jU,cu.size,cu.start,cu.lR,cu.hold]);have eF:=zH (IH G);obtain⟨v1,v2,-,v4,v5,v6,v7,v8⟩:=aN.out;unfold tq at v1 v2 v4 v5 v6 v7 v8;clear C q0 q1 q2 q3 q4 q5 q6 q7 aZ ai cI cH aB;by_cases hk:cu.kind=1
   ·have dC:(cu.kind==1)=true:=by rw[hk];rfl
    have aq:=zH (JM (days:=x.days) hk);clear hk;go_wp2_with fail;refine(Jb cu.iL _ v2.1 v2.2).mono ?_;rintro e w4 ⟨td,rfl,P,I⟩;have J:td.data.toList=iN cu.iL:=by rw[P.out]
    have eO:td.size<=21:=by rw[k9 J];exact oO ⟨v2.1,v2.2⟩
    have f:=kB ag I;have au:=bc.below I bc.lt;have bY:Hid ((s++(⟨#[118,105,115,105,116,32]⟩:ByteArray)++td).data.toList=DX x (3+i)++jw 32 (oY cu M 0)):=zH (by rw[gC,gC,J,HT.out,JO,eT]);have ao:(s++(⟨#[118,105,115,105,116,32]⟩:ByteArray)++td).size<=100100000:=by rw[nA,nA];have:(⟨#[118,105,115,105,116,32]⟩:ByteArray).size=6:=rfl;omega
    clear k0 k1 k2 k3 k4 k5 k6 k7 I J;go_wp2_with fail;go_loopw [4,7] (fun sv kv wr=> ∃(k:Nat) (s:ByteArray),k<=cu.jC/\kv=.int .i64 k/\sv=.string s/\Hid (s.data.toList=DX x (3+i)++jw 32 (oY cu M k))/\s.size<=100100000/\Below w4 w4 wr) (fun _ kv _=>cu.jC.length-(intOf kv).toNat)
    case atStart=>exact⟨0,_,eC _,rfl,rfl,bY,ao,bS _ _⟩
    case round=>
     clear bY ao;obtain⟨k,s3,hk,rfl,rfl,bZ,bh,l⟩:=hrel;have cj:=au.below l au.lt;have m2:=cj.c 2;have l5:=cj.lt;by_cases cG:k<cu.jC
     ·obtain⟨p,hp⟩:=ec cG;obtain⟨b3,o3,rfl,dz,cC⟩:=dh k p hp;have ay:Below w w wr:=D.trans ((f.trans (l.mono f.size)).mono D.size);have m3:=a7 ay lE cC;have aS:=q.below (f.trans (l.mono f.size)) q.lt;have m4:=aS.c 0;have l4:=aS.lt;have l3:=bP dz ay.size;have dH:=aN.2.2.1 p (a8 hp);have dt:=zH (JN (n:=M) hp);have dn:Hid (∀W:World,Calls prog 32 #[.int .u64 (p:Int),x.days] W fun e w'=> ∃t:ByteArray,e=.returned (.string t)/\Hid (t=⟨(jV p M).toArray⟩)/\Below W W w'):=zH (fun W=>by rw[cY.out];exact Ov p M W dH dF aA);obtain⟨P1,bH,eN⟩:=pT s3 (⟨#[32]⟩:ByteArray) (n:=100100001) (by show _+1<=_;omega);have M2:=zH m2;clear hp cC aS H;go_wp2_with fail;refine rB [] fun hS=>?_;refine kL [0] ?_;have HCC:=bH;refine xw 1 hS ?_;refine kL [2,3,4,5,6,7,8] ?_;refine tO 9 fun K hK=>?_;go_simp;refine(dn _).mono ?_;rintro e w6 ⟨tp,rfl,dw,dA⟩;have aw:Below wr wr w6:=hS.trans (dA.mono hS.size);refine hK _ _ aw ?_;have cT:tp.data.toList=jV p M:=by rw[dw.out]
      have eQ:tp.size<=64:=by rw[k9 cT,oV];omega
      obtain⟨P2,cA⟩:=nE (P1++tp:ByteArray);have bI:=zH cA;clear cA;have HCC:=bI;refine xw 10 aw ?_;refine tk 11 aw ?_;refine tD ?_;have d:Hid (P2.data.toList=DX x (3+i)++jw 32 (oY cu M (k+1))):=zH (by rw[bI.out,gC,bH.out,gC,cT,bZ.out,dt.out];simp);have m:P2.size<=100100000:=by rw[k9 d.out,fa];have:=Mb (n:=M) (k:=k+1) aN aA dG;have:=AR x (3+i);omega
      clear m2 m3 m4;go_wp2_with fail;go_roundw
      case rel=>exact⟨k+1,P2,oG,by go_num,rfl,d,m,l.trans (aw.mono l.size)⟩
      case measure=>exact mI
     ·obtain rfl:k=cu.jC.length:=oG;have d:Hid ((s3++(⟨#[10]⟩:ByteArray)).data.toList=DX x (3+(i+1))):=zH (by rw[gC,bZ.out,<-nm,qK G.out,aq.out,bG.out];simp);have m:(s3++(⟨#[10]⟩:ByteArray)).size<=100000000:=by rw[k9 d.out];have:=AR x (3+(i+1));omega
      go_wp2_with fail;go_roundw
      case rel=>exact⟨i+1,_,oG,by go_num,rfl,d,m,f.trans (l.mono f.size)⟩
      case measure=>exact mI
   ·have dC:(cu.kind==1)=false:=by rw[beq_eq_false_iff_ne];exact hk
    obtain⟨aq,dp⟩:=Zb (O6 (days:=x.days) hk) (O8 hk bA);have aC:gx ((wo.alloc (cB 47 [cu.kind,cu.iL,.slice Ap cu.jC cp,cu.jU,cu.size,cu.start,cu.lR,cu.hold])).alloc (cB 3 [cu.jU,cu.size,cu.start,cu.hold])) .i64 (.slice (pB (wo+1)) 4 4) [cu.jU,cu.size,cu.start,cu.hold]:=
     (fc.newAt _ 3 ([cu.jU,cu.size,cu.start,cu.hold].map (.int .i64)) (g:=wo.heap.size+1) sI).gx rfl dE (by simp[maxLen])
    have ah:=ag.alloc ag.size (cB 3 [cu.jU,cu.size,cu.start,cu.hold]);have aP:=bc.alloc (cB 3 [cu.jU,cu.size,cu.start,cu.hold]);clear hk;go_wp2_with fail;refine(yh [cu.jU,cu.size,cu.start,cu.hold] _ _ sI (fun z hz=>by simp only[fC,iy,or_false] at hz;rcases hz with rfl|rfl|rfl|rfl <;>assumption) aC).mono ?_;rintro e w4 ⟨u4,rfl,cU,I⟩;obtain⟨Ae,ce,rfl,j1,j2,F⟩:=cU.open_;obtain⟨b4,o4,rfl,eo,y0⟩:=F 0 _ rfl;obtain⟨L,N,h,-,y1⟩:=F 1 _ rfl;obtain⟨rfl,rfl⟩:b4=L/\o4=N:=by simpa using h
    obtain⟨L,N,h,-,y2⟩:=F 2 _ rfl;obtain⟨rfl,rfl⟩:b4=L/\o4=N:=by simpa using h
    obtain⟨L,N,h,-,y3⟩:=F 3 _ rfl;obtain⟨rfl,rfl⟩:b4=L/\o4=N:=by simpa using h
    rw[eW] at y0;have e4:([cu.jU,cu.size,cu.start,cu.hold].map iN).length=4:=rfl;rw[e4] at j1;simp only[e4];have f:=ah.trans (I.mono ah.size);have au:=aP.below I aP.lt;have m6:=au.c 6;obtain⟨r0,cJ,-,aj⟩:=sR (iN cu.jU);have z0:r0.size<=21:=by rw[k9 aj];exact oO v4
    change w4.cell? _=some (kI (iN cu.jU)) at y0;rw[cJ] at y0;have bJ:=zH aj;obtain⟨r1,cK,-,ak⟩:=sR (iN cu.size);have z1:r1.size<=21:=by rw[k9 ak];exact oO v5
    change w4.cell? _=some (kI (iN cu.size)) at y1;rw[cK] at y1;have bO:=zH ak;obtain⟨r2,cL,-,al⟩:=sR (iN cu.start);have z2:r2.size<=21:=by rw[k9 al];exact oO v6
    change w4.cell? _=some (kI (iN cu.start)) at y2;rw[cL] at y2;have bU:=zH al;obtain⟨r3,cM,-,an⟩:=sR (iN cu.hold);have z3:r3.size<=21:=by rw[k9 an];exact oO v8
    change w4.cell? _=some (kI (iN cu.hold)) at y3;rw[cM] at y3;obtain⟨bW,eA⟩:=Zb an m6;clear k0 k1 k2 k3 k4 k5 k6 k7 aC ah aP F cU I cJ cK cL cM aj ak al an H
    rcases dp with hru|hru
    ·have dI:(cu.lR==2)=false:=by rw[hru];rfl
     have aO:Hid (kx (kq x.days cu)=[116,97,110,107,32]++iN cu.jU++[32]++iN cu.size++[32]++iN cu.start++[32]++FC++[32]++iN cu.hold++[10]):=zH (by rw[aq.out,hru];rfl);clear hru;obtain⟨U1,Q,dW⟩:=pT s (⟨#[116,97,110,107,32]⟩:ByteArray) (n:=100000030) (by show _+5<=_;omega);obtain⟨U2,R,dX⟩:=pT U1 r0 (n:=100000060) oG;obtain⟨U3,S,dY⟩:=pT U2 (⟨#[32]⟩:ByteArray) (n:=100000090) (by show _+1<=_;omega);obtain⟨U4,T,dZ⟩:=pT U3 r1 (n:=100000120) oG;obtain⟨U5,U,ee⟩:=pT U4 (⟨#[32]⟩:ByteArray) (n:=100000150) (by show _+1<=_;omega);obtain⟨U6,V,ef⟩:=pT U5 r2 (n:=100000180) oG;obtain⟨U7,X,eh⟩:=pT U6 (⟨#[32]⟩:ByteArray) (n:=100000210) (by show _+1<=_;omega);obtain⟨U8,Y,ej⟩:=pT U7 (⟨#[102,105,108,108]⟩:ByteArray) (n:=100000240) (by show _+4<=_;omega);obtain⟨U9,Z,ek⟩:=pT U8 (⟨#[32]⟩:ByteArray) (n:=100000270) (by show _+1<=_;omega);obtain⟨aa,E,cV⟩:=pT U9 r3 (n:=100000300) oG;go_wp2_with fail;refine rB [] fun hS=>?_;refine kL [0] ?_;have HCC:=Q;refine xw 1 hS ?_;refine kL [2,3,4] ?_;have HCC:=R;refine xw 5 hS ?_;have HCC:=S;refine xw 6 hS ?_;refine kL [7,8,9] ?_;have HCC:=T;refine xw 10 hS ?_;have HCC:=U;refine xw 11 hS ?_;refine kL [12,13,14] ?_;have HCC:=V;refine xw 15 hS ?_;have HCC:=X;refine xw 16 hS ?_;refine kL [17] ?_;have HCC:=Y;refine xw 18 hS ?_;have HCC:=Z;refine xw 19 hS ?_;refine kL [20,21,22] ?_;have HCC:=E;refine xw 23 hS ?_;refine kL [24] ?_;refine tD ?_;have d:Hid ((aa++(⟨#[10]⟩:ByteArray)).data.toList=DX x (3+(i+1))):=zH (by rw[<-nm,qK G.out,aO.out,gC,E.out,gC,Z.out,gC,Y.out,gC,X.out,gC,V.out,gC,U.out,gC,T.out,gC,S.out,gC,R.out,gC,Q.out,gC,bJ.out,bO.out,bU.out,bW.out,HT.out];simp[FC]);exact Rf
    ·have dI:(cu.lR==2)=true:=by rw[hru];rfl
     have aO:Hid (kx (kq x.days cu)=[116,97,110,107,32]++iN cu.jU++[32]++iN cu.size++[32]++iN cu.start++[32]++Pm++[32]++iN cu.hold++[10]):=zH (by rw[aq.out,hru];rfl);clear hru;obtain⟨U1,Q,dW⟩:=pT s (⟨#[116,97,110,107,32]⟩:ByteArray) (n:=100000030) (by show _+5<=_;omega);obtain⟨U2,R,dX⟩:=pT U1 r0 (n:=100000060) oG;obtain⟨U3,S,dY⟩:=pT U2 (⟨#[32]⟩:ByteArray) (n:=100000090) (by show _+1<=_;omega);obtain⟨U4,T,dZ⟩:=pT U3 r1 (n:=100000120) oG;obtain⟨U5,U,ee⟩:=pT U4 (⟨#[32]⟩:ByteArray) (n:=100000150) (by show _+1<=_;omega);obtain⟨U6,V,ef⟩:=pT U5 r2 (n:=100000180) oG;obtain⟨U7,X,eh⟩:=pT U6 (⟨#[32]⟩:ByteArray) (n:=100000210) (by show _+1<=_;omega);obtain⟨U8,Y,ej⟩:=pT U7 (⟨#[97,110,121]⟩:ByteArray) (n:=100000240) (by show _+3<=_;omega);obtain⟨U9,Z,ek⟩:=pT U8 (⟨#[32]⟩:ByteArray) (n:=100000270) (by show _+1<=_;omega);obtain⟨aa,E,cV⟩:=pT U9 r3 (n:=100000300) oG;go_wp2_with fail;refine rB [] fun hS=>?_;refine kL [0] ?_;have HCC:=Q;refine xw 1 hS ?_;refine kL [2,3,4] ?_;have HCC:=R;refine xw 5 hS ?_;have HCC:=S;refine xw 6 hS ?_;refine kL [7,8,9] ?_;have HCC:=T;refine xw 10 hS ?_;have HCC:=U;refine xw 11 hS ?_;refine kL [12,13,14] ?_;have HCC:=V;refine xw 15 hS ?_;have HCC:=X;refine xw 16 hS ?_;refine kL [17] ?_;have HCC:=Y;refine xw 18 hS ?_;have HCC:=Z;refine xw 19 hS ?_;refine kL [20,21,22] ?_;have HCC:=E;refine xw 23 hS ?_;refine kL [24] ?_;refine tD ?_;have d:Hid ((aa++(⟨#[10]⟩:ByteArray)).data.toList=DX x (3+(i+1))):=zH (by rw[<-nm,qK G.out,aO.out,gC,E.out,gC,Z.out,gC,Y.out,gC,X.out,gC,V.out,gC,U.out,gC,T.out,gC,S.out,gC,R.out,gC,Q.out,gC,bJ.out,bO.out,bU.out,bW.out,HT.out];simp[Pm]);exact Rf
  ·obtain rfl:i=x.eB.length:=oG;have P:Hid ((s++(⟨#[100,105,115,116,97,110,99,101,115,10]⟩:ByteArray)).data.toList=DX x (3+x.eB.length+1)):=zH (by rw[gC,HT.out,Qo]);have cQ:(s++(⟨#[100,105,115,116,97,110,99,101,115,10]⟩:ByteArray)).size<=100000000:=by rw[k9 P.out];have:=AR x (3+x.eB.length+1);omega
   clear H;go_wp2_with fail;clear d4;go_loopw [4,10] (fun sv jv wr=> ∃(j:Nat) (s:ByteArray),j<=x.gn/\jv=.int .i64 j/\sv=.string s/\Hid (s.data.toList=DX x (3+x.eB.length+1+j))/\s.size<=100000000/\Below w2 w2 wr) (fun _ jv _=>x.gn.length-(intOf jv).toNat)
   case atStart=>exact⟨0,_,eC _,rfl,rfl,P,cQ,a⟩
   case round=>
    clear P cQ a HT hs;obtain⟨j,s,hj,rfl,rfl,HT,hs,a⟩:=hrel;have H:=q.below a q.lt;obtain⟨d0,d1,d2,d3,d4,d5⟩:=H.jI;clear d0 d1 d2 d3 d4 H;by_cases cF:j<x.gn
    ·obtain⟨r,hr⟩:=ec cF;obtain⟨b,o,rfl,hb,A2,c2,q0,q1,q2,q3⟩:=dr j r hr;have B:Below w w wr:=D.trans (a.mono D.size);have x0:=a7 B lE q0;obtain⟨ar,G⟩:=Zb (dg r (a8 hr)) (Wm hr);have dj:Hid (gx wr .i64 (.slice A2 r c2) r):=zH (gx.below (gx.Dj q1 q2 q3) B lE);clear hr q0 q3;go_wp2_with fail;refine(yh r _ _ (by rw[ar.out.1];omega) (fun z hz=>by have:=ar.out.2 z hz;omega) dj.out).mono ?_;rintro e wA ⟨u,rfl,hu,dB⟩;go_wp2_with fail;refine(Oo (r.map iN) _ _ hu (by rw[fm,ar.out.1];omega) (fun y hy=>?_)).mono ?_
     ·obtain⟨z,hz,rfl⟩:=cy.1 hy;have:=ar.out.2 z hz;have:=oO (n:=z) (by unfold tq;omega);omega
     rintro e wB ⟨rfl,rfl⟩;obtain⟨tl,cR,-,J⟩:=sR (kx (r.map iN));rw[cR];have eP:tl.size<=100000000:=by rw[k9 J];have:=IH G;omega
     have d:Hid ((s++tl).data.toList=DX x (3+x.eB.length+1+(j+1))):=zH (by rw[gC,HT.out,J,<-nm,qK G.out]);have m:(s++tl).size<=100000000:=by rw[k9 d.out];have:=AR x (3+x.eB.length+1+(j+1));omega
     clear cR J;go_wp2_with fail;go_roundw
     case rel=>exact⟨j+1,_,oG,by go_num,rfl,d,m,a.trans (dB.mono a.size)⟩
     case measure=>exact mI
    ·obtain rfl:j=x.gn.length:=oG;have az:kI (na x)=.string s:=by rw[<-UL x,<-HT.out];exact NB s
     have bB:=zH az;clear az;go_wp2_with fail;go_ret;rw[bB.out];exact⟨rfl,D.trans (a.mono D.size)⟩
end
end Go.Proofs.YtgimnjldndkalaaGreatDoor
