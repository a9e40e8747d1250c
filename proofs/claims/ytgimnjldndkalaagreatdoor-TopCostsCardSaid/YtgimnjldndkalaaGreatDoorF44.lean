/- Of the proof of TopCosts: Small laws of the layers that print. -/
import Derived.Test.YtgimnjldndkalaaGreatDoorF38
import Derived.Test.YtgimnjldndkalaaGreatDoorF8
import Derived.Test.YtgimnjldndkalaaGreatDoorF17
set_option linter.all false
set_option maxHeartbeats 8000000
set_option maxRecDepth 100000
namespace Go.Proofs.YtgimnjldndkalaaGreatDoor
variable {n:Nat}
section
open Go.RowKit ue jm uf
variable {v:Value} {w:World}
def SE (c:UInt8):Value:=.int .u8 (c.toNat:Nat)
def Jr {s k:Nat} (a:k<n):(jV s n)[k]? =some (if s/2^k%2=1 then 49 else 48):=by unfold jV;rw[fh,oH a];rfl
def kX.jh {lb:Nat} {L:kW} (h:w.ownsRow lb 9 1 v n (L.map kI)):kX w v L:=by have a:=h.1;rw[fm,jR] at a;subst a;exact RS.jh h
theorem gx.Dj {w:World} {r:List Int} {A:Option Addr} {c:Nat} (h1:r.length<=c) (h2:c<=9223372036854775807) (h: ∀j z,r[j]? =some z-> ∃b1 o1,A=some ⟨b1,o1,none⟩/\b1<w.heap.size/\w.cell? ⟨b1,o1+j,none⟩=some (.int .i64 z)):gx w .i64 (.slice A r.length c) r:=by
 refine⟨A,c,rfl,h1,by simpa[maxLen] using h2,by simp,fun hn=> ?_⟩;obtain⟨z,hz⟩:=ec hn;obtain⟨b,o,hA,hb,-⟩:=h 0 z hz;refine⟨b,o,hA,hb,fun j u hu=> ?_⟩;rw[fh] at hu;obtain⟨z,hz,rfl⟩:=mP.1 hu;obtain⟨b',o',hA',-,hc⟩:=h j z hz;rw[hA] at hA';obtain⟨rfl,rfl⟩:b=b'/\o=o':=by simpa using hA'
 exact hc
def NB (s:ByteArray):kI s.data.toList=.string s:=by unfold kI;simp
def iz.shape {x:fS} (h:iz w v x): ∃A c A1 c1,v=.agg #[x.days,x.mm,x.cap,x.len,.slice A x.eB c,.slice A1 x.gn c1]:=by obtain⟨d,e,rfl,a,b⟩:=h;obtain⟨A,c,rfl,-⟩:=a.open_;obtain⟨A1,c1,rfl,-⟩:=b.open_;exact⟨A,c,A1,c1,rfl⟩
structure Xx (y:fS):Prop where
 wf:y.wf
 may:may y=true
 Ik:y.eB.length<=6
 text:(na y).length<=200000
 lines: ∀l∈iR y,l.length<=8
def NU (c:kc) (days:Int):(qA c days).jC.length<=4:=by
 unfold qA;split
 ·simp
 ·show(nP c.jC days).length<=4;unfold nP;split
  ·simp
  ·rw[fm];exact Es _ _
def CM (x:fS): ∀l∈iR (nC x),l.length<=8/\ ∀w∈l,w.length<=1000:=by
 intro l a;have g:=Ir x;have i:=tz x;obtain⟨k,m,o,p,A,B⟩:=g;have q:=oO k;have s:=oO m;have t:=oO o;have u:=oO p;have v:=oO (n:=((nC x).eB.length:Int)) (by unfold tq;omega);have h:=lQ x.days 1 7 oG;unfold iR lh at a;simp only[fO,fC,iy,or_false,fq] at a
 rcases a with (rfl|rfl|rfl)|⟨c,e,rfl⟩|rfl|⟨r,d,rfl⟩
 ·exact⟨by decide,by decide⟩
 ·refine⟨by simp,fun w b=>?_⟩;simp only[fC,iy,or_false] at b
  rcases b with rfl|rfl|rfl|rfl|rfl|rfl|rfl|rfl <;>first|decide|omega
 ·refine⟨by simp,fun w b=>?_⟩;simp only[fC,iy,or_false] at b
  rcases b with rfl|rfl <;>first|decide|omega
 ·obtain⟨y,-,rfl⟩:=fq.1 e;have f:(nC x).days=mQ x.days 1 7:=rfl;refine⟨?_,(FZ (by rw[f];omega) (Iq _ _) (by rw[f];exact ER y h.1 h.2)).2⟩;have:=NU y (mQ x.days 1 7);unfold kq;split
  ·simp;omega
  ·simp
 ·exact⟨by decide,by decide⟩
 ·refine⟨by rw[fm,CL x r d];omega,fun w b=>?_⟩;obtain⟨z,j,rfl⟩:=fq.1 b;have:=vF x r d z j;have:=oO (n:=z) (by unfold tq;omega);omega
def NQ (x:fS):Xx (nC x):=by
 refine⟨Ir x,NW x,tz x,?_,fun l a=>(CM x l a).1⟩;have h:=CI kx 8009 (iR (nC x)) fun l a=>by have b:=CM x l a;have d:=Ob b.2;have e:=kg b.1 (ij 1001);omega
 have i:=tz x;have f:=xP x;have c:(iR (nC x)).length<=17:=by unfold iR lh;simp;omega
 have:=kg c (ij 8009);unfold na;omega
def sR (l:List UInt8): ∃s:ByteArray,kI l=.string s/\s.toList=l/\s.data.toList=l:=⟨⟨l.toArray⟩,rfl,by rw[mR],rfl⟩
end
section
open Go.Proofs.Tryz
open Go.RowKit ue jm uf
theorem Re{p:Prop}(h:p:=by
 go_roundw
 case rel=>exact⟨i+1,oG,by go_num,l.trans g,zH (by rw[c.out,gJ];exact j)⟩
 case measure=>exact mI):p:=h
def Nb:(prog.info? 5).map (fun i=>(i.zero,i.size,i.bytes))=some (some (.int .u8 0),1,1):=kR
def GC {w:World} {lb:Nat} {v:Value} {n:Nat} {L:List UInt8} (h:w.ownsRow lb 5 1 v n (L.map SE)) (z:0<L.length):
  (convert 109 9 v).run prog w=.ok (.string ⟨L.toArray⟩) w:=by
 have d:=h.1;rw[fm,jR] at d;subst d;obtain⟨A,c,rfl,-,-,-,e⟩:=RS.jh h;obtain⟨b,o,rfl,-,f⟩:=e z;refine run_convert_bytes_back w 109 9 5 (pA b o) c L underlying109 underlying5 underlying9 (fun j g=>?_);have a:((pA b o):Addr).add j=(pA b (o+j)):=by unfold Addr.add;split <;>simp_all
 rw[a,f j (SE L[j]) (by rw[fh,fp g];rfl)];rfl
def Ov (s n:Nat) (w:World) (G:s<18446744073709551616) (z:1<=n) (L:n<=64):
  Calls prog 32 #[.int .u64 (s:Int),(n:Int)] w fun e w'=> ∃t:ByteArray,e=.returned (.string t)/\Hid (t=⟨(jV s n).toArray⟩)/\Below w w w':=by
 have D:decide ((n:Int)<1)=false:=decide_eq_false oG;have E:decide ((n:Int)>64)=false:=decide_eq_false oG;have A:=oV s n;go_enter func32,ntmps32;go_wp2_with fail;refine(Cq s G _).mono ?_;rintro e w1 ⟨rfl,f,d⟩;clear D E;have v:=f.lt;go_wp2_with fail;go_loopw [5,7] (fun H y wr=> ∃i:Nat,i<=n/\y=.int .i64 i/\Below w1 w1 wr/\Hid (wr.ownsRow w1 5 1 H i (((jV s n).take i).map SE))) (fun _ y _=>n-(intOf y).toNat)
 case atStart=>exact⟨0,eC _,rfl,bS _ _,(gL _ _ _ _)⟩
 case round=>
  obtain⟨i,M,rfl,l,q⟩:=hrel;by_cases u:i<n
  ·have r:=Jr (s:=s) u;have k:=((f.below l v).cell i).trans (by rw[fh,lJ.vz s i oG]);have c:=zH (iC r);have p:=q.out;have o:i<=1000000000:=oG;have b:=l.size;obtain⟨B,C,rfl,-⟩:=RS.jh q;by_cases a:s/2^i%2=1
   ·rw[a] at k;rw[if_pos a] at c;have K:wr.cell? (pA w i)=some (.int .i64 1):=k;clear a r k;go_wp2_with (at_builtin;refine kD _ rfl (.tmp 21) (.tmp 28) 109 rfl w1 5 _ 1 1 underlying109 Nb rfl dE dE _ _ _ p rfl [.int .u8 49] _ rfl rfl rfl o b ?_;intro I J j g x);exact Re
   ·have m:s/2^i%2=0:=oG;rw[m] at k;rw[if_neg a] at c;have K:wr.cell? (pA w i)=some (.int .i64 0):=k;clear a r k m;go_wp2_with (at_builtin;refine kD _ rfl (.tmp 21) (.tmp 28) 109 rfl w1 5 _ 1 1 underlying109 Nb rfl dE dE _ _ _ p rfl [.int .u8 48] _ rfl rfl rfl o b ?_;intro I J j g x);exact Re
  ·obtain rfl:i=n:=oG;have h:=q.out;rw[fj oG] at h;have F:=GC h oG;obtain⟨B,C,rfl,-⟩:=RS.jh h;clear h;go_wp2_with fail;go_ret;exact⟨_,rfl,rfl,d.trans (l.mono d.size)⟩
def Jb (n:Int) (w:World) (b: -9223372036854775808<=n) (C:n<=9223372036854775807):
  Calls prog 31 #[n] w fun e w'=> ∃s:ByteArray,e=.returned (.string s)/\Hid (s=⟨(iN n).toArray⟩)/\Below w w w':=
 (Gr n w b C).mono fun _ _ ⟨c,a⟩=>⟨_,c,rfl,a⟩
def yh (l:List Int) (v:Value) (w:World) (R:l.length<=1000) (F: ∀z∈l,-9223372036854775808<=z/\z<=9223372036854775807) (E:gx w .i64 v l):
  Calls prog 30 #[v] w fun e w'=> ∃u,e=.returned u/\kX w' u (l.map iN)/\Below w w w':=by
 obtain⟨A,c,rfl,C,P,D⟩:=E.open_;obtain⟨HCC,H⟩:=Zb D F;clear E D F;go_enter func30,ntmps30;go_wp2_with fail;go_loopw [3,4] (fun K B wr=> ∃i:Nat,i<=l/\B=.int .i64 i/\Below w w wr/\Hid (wr.ownsRow w 9 1 K i ((l.take i).map fun z=>kI (iN z)))) (fun _ B _=>l.length-(intOf B).toNat)
 case atStart=>exact⟨0,eC _,rfl,bS _ _,(gL _ _ _ _)⟩
 case round=>
  obtain⟨i,Q,rfl,a,m⟩:=hrel;by_cases s:i<l
  ·obtain⟨z,k⟩:=ec s;obtain⟨b,o,rfl,I,y⟩:=HCC i z k;have U:=a7 a lE y;have j:=H z (a8 k);have p:=zH (iC k);obtain⟨N,O,rfl,-⟩:=RS.jh m;clear k y;go_wp2_with fail;refine(Jb z _ j.1 j.2).mono ?_;rintro e M ⟨L,rfl,n,d⟩;have x:=jq m d lE;have r:i<=1000000000:=oG;have f:w.heap.size<=M.heap.size:=eZ a.size d.size;go_wp2_with (at_builtin;refine kD _ rfl (.tmp 11) (.tmp 17) 76 rfl w 9 _ 1 16 underlying76 M8 rfl dE dE _ _ _ x rfl [.string L] _ rfl rfl rfl r f ?_;intro S T h q J);go_roundw
   case rel=>refine⟨i+1,oG,by go_num,(a.trans (d.mono a.size)).trans q,zH ?_⟩;rw[p.out,gJ];rw[n.out] at h;exact h
   case measure=>exact mI
  ·obtain rfl:i=l.length:=oG;have t:=m.out;rw[gh] at t;have g:wr.ownsRow w 9 1 u3 l.length ((l.map iN).map kI):=by rw[kK];exact t
   have G:=zH (kX.jh g);clear t g;go_wp2_with fail;go_ret;exact⟨_,rfl,G,a⟩
theorem Rf{p:Prop}(h:p:=by
 have q:(ae++(⟨#[10]⟩:ByteArray)).size<=100000000:=by rw[k9 f.out];have:=AR x (3+(i+1));omega
 go_wp2_with fail;go_roundw
 case rel=>exact⟨i+1,_,oG,by go_num,rfl,f,q,h.drew⟩
 case measure=>exact mI):p:=h
def pT (a b:ByteArray) (h:a.size+b.size<=n): ∃T:ByteArray,Hid (T=a++b)/\T.size<=n:=⟨_,rfl,by rw[nA];exact h⟩
def k9 {s:ByteArray} {l:List UInt8} (h:s.data.toList=l):s.size=l.length:=by rw[<-h];exact(kC s).symm
def Mb {c:kc} {k:Nat} (b:c.wf) (d:n<=64) (hp:c.jC.length<=64):(jw 32 (oY c n k)).length<=70000:=by
 have h:=wE 32 1000 (oY c n k) fun x hx=>by
  unfold oY at hx;simp only[fC,fq] at hx
  rcases hx with rfl|rfl|⟨s,-,rfl⟩
  ·decide
  ·have:=oO b.2.1;omega
  ·rw[oV];omega
 have a:(oY c n k).length<=66:=by unfold oY;have:=Es k c.jC;simp;omega
 have:=kg a (ij 1001);omega
def Jm (v:Value) (x:fS) (w:World) (hx:iz w v x) (dQ:x.wf) (hm:may x=true) (hc:x.eB.length<=900) (eG:(na x).length<=100000000):
  Calls prog 8 #[v] w fun e w'=>e=.returned (kI (na x))/\Below w w w':=by
 obtain⟨cv,dv,rfl,cK,cM⟩:=hx;obtain⟨A,c,rfl,eP,eQ,ag⟩:=cK.open_;obtain⟨A1,c1,rfl,eR,eS,aK⟩:=cM.open_;obtain⟨dn,dA,dF⟩:=Zc ag aK dQ;obtain⟨⟨p1,p2⟩,-,p3,p4,p5,p6,p7,p8⟩:=AE hm;obtain⟨dq,dr⟩:=Zb p6 p8;have aX:=(fc.new w 25 [x.days,x.mm,x.cap,x.len,.slice A x.eB c,.slice A1 x.gn c1]);have af:=jX (bS w w) (cB 25 [x.days,x.mm,x.cap,x.len,.slice A x.eB c,.slice A1 x.gn c1]);obtain⟨d0,d1,d2,d3,d4,d5⟩:=aX.jI;have cX:gx ((w.alloc (cB 25 [x.days,x.mm,x.cap,x.len,.slice A x.eB c,.slice A1 x.gn c1])).alloc (cB 3 [x.days,x.mm,x.cap,x.len,x.eB.length])) .i64 (.slice (pB (w+1)) 5 5) [x.days,x.mm,x.cap,x.len,(x.eB.length:Int)]:=
  (fc.newAt _ 3 ([x.days,x.mm,x.cap,x.len,(x.eB.length:Int)].map (.int .i64)) (g:=w.heap.size+1) sI).gx rfl dE (by simp[maxLen])
 have aE:=af.alloc af.size (cB 3 [x.days,x.mm,x.cap,x.len,x.eB.length]);have aY:=aX.alloc (cB 3 [x.days,x.mm,x.cap,x.len,x.eB.length]);have eL:=zH p7;clear cK cM ag aK p6 p7 p8 hm;go_enter func8,ntmps8;go_wp2_with fail;refine(yh [x.days,x.mm,x.cap,x.len,(x.eB.length:Int)] _ _ sI (fun z hz=>by simp only[fC,iy,or_false] at hz;rcases hz with rfl|rfl|rfl|rfl|rfl <;>omega) cX).mono ?_;rintro e w2 ⟨u,rfl,hu,bh⟩;obtain⟨Au,a,rfl,g1,g2,D⟩:=hu.open_;obtain⟨b,o,rfl,eO,y0⟩:=D 0 _ rfl;obtain⟨M,O,l,-,y1⟩:=D 1 _ rfl;obtain⟨rfl,rfl⟩:b=M/\o=O:=by simpa using l
 obtain⟨M,O,l,-,y2⟩:=D 2 _ rfl;obtain⟨rfl,rfl⟩:b=M/\o=O:=by simpa using l
 obtain⟨M,O,l,-,y3⟩:=D 3 _ rfl;obtain⟨rfl,rfl⟩:b=M/\o=O:=by simpa using l
 obtain⟨M,O,l,-,y4⟩:=D 4 _ rfl;obtain⟨rfl,rfl⟩:b=M/\o=O:=by simpa using l
 rw[gv] at y0;have e5:([x.days,x.mm,x.cap,x.len,(x.eB.length:Int)].map iN).length=5:=rfl;rw[e5] at g1;simp only[e5];have E:=kB aE bh;have cH:=aY.below bh aY.lt;obtain⟨s0,cY,-,bB⟩:=sR (iN x.days);have z0:s0.size<=21:=by rw[k9 bB];exact oO (by unfold tq;omega)
 change w2.cell? _=some (kI (iN x.days)) at y0;rw[cY] at y0;obtain⟨s1,az,-,bE⟩:=sR (iN x.mm);have z1:s1.size<=21:=by rw[k9 bE];exact oO (by unfold tq;omega)
 change w2.cell? _=some (kI (iN x.mm)) at y1;rw[az] at y1;obtain⟨s2,cZ,-,bG⟩:=sR (iN x.cap);have z2:s2.size<=21:=by rw[k9 bG];exact oO (by unfold tq;omega)
 change w2.cell? _=some (kI (iN x.cap)) at y2;rw[cZ] at y2;obtain⟨s3,bO,-,bH⟩:=sR (iN x.len);have z3:s3.size<=21:=by rw[k9 bH];exact oO (by unfold tq;omega)
 change w2.cell? _=some (kI (iN x.len)) at y3;rw[bO] at y3;obtain⟨s4,q,-,bI⟩:=sR (iN (x.eB.length:Int));have z4:s4.size<=21:=by rw[k9 bI];exact oO (by unfold tq;omega)
 change w2.cell? _=some (kI (iN (x.eB.length:Int))) at y4;rw[q] at y4;obtain⟨T1,aL,dS⟩:=pT (⟨#[116,114,97,110,116,101,114,32,49,10,100,97,121,115,32]⟩:ByteArray) s0 (n:=50) (by show 15+_<=_;omega);obtain⟨T2,aM,dU⟩:=pT T1 (⟨#[32,118,101,104,105,99,108,101,115,32]⟩:ByteArray) (n:=100) (by show _+10<=_;omega);obtain⟨T3,aN,dV⟩:=pT T2 s1 (n:=150) oG;obtain⟨T4,aO,dW⟩:=pT T3 (⟨#[32,99,97,112,97,99,105,116,121,32]⟩:ByteArray) (n:=200) (by show _+10<=_;omega);obtain⟨T5,aP,dX⟩:=pT T4 s2 (n:=250) oG;obtain⟨T6,aQ,dY⟩:=pT T5 (⟨#[32,108,101,110,103,116,104,32]⟩:ByteArray) (n:=300) (by show _+8<=_;omega);obtain⟨T7,aR,dZ⟩:=pT T6 s3 (n:=350) oG;obtain⟨T8,aS,ef⟩:=pT T7 (⟨#[10,99,117,115,116,111,109,101,114,115,32]⟩:ByteArray) (n:=400) (by show _+11<=_;omega);obtain⟨T9,aT,eh⟩:=pT T8 s4 (n:=450) oG;obtain⟨cF,P,eH⟩:=pT T9 (⟨#[10]⟩:ByteArray) (n:=500) (by show _+1<=_;omega);have dC:Hid (cF.data.toList=DX x 3):=zH (by rw[P.out,gC,aT.out,gC,aS.out,gC,aR.out,gC,aQ.out,gC,aP.out,gC,aO.out,gC,aN.out,gC,aM.out,gC,aL.out,gC,bB,bE,bG,bH,bI,QC]);have B:=zH cH;clear cX aE aY D hu bh d0 d1 d2 d3 d4 d5 bB bE bG bH bI cY az cZ bO q cH aX af;go_wp2_with fail;refine rB [] fun hS=>?_;refine kL [0,1,2] ?_;have HCC:=aL;refine xw 3 hS ?_;have HCC:=aM;refine xw 4 hS ?_;refine kL [5,6,7] ?_;have HCC:=aN;refine xw 8 hS ?_;have HCC:=aO;refine xw 9 hS ?_;refine kL [10,11,12] ?_;have HCC:=aP;refine xw 13 hS ?_;have HCC:=aQ;refine xw 14 hS ?_;refine kL [15,16,17] ?_;have HCC:=aR;refine xw 18 hS ?_;have HCC:=aS;refine xw 19 hS ?_;refine kL [20,21,22] ?_;have HCC:=aT;refine xw 23 hS ?_;have HCC:=P;refine xw 24 hS ?_;refine kL [25] ?_;refine tD ?_;clear y0 y1 y2 y3 y4 z0 z1 z2 z3 z4 aL aM aN aO aP aQ aR aS aT P dS dU dV dW dX dY dZ ef eh;obtain⟨eJ,eI⟩:=Zb (B.drew) (E.drew);go_wp2_with fail;go_loopw [4,5] (fun sv iv wr=> ∃(i:Nat) (s:ByteArray),i<=x.eB/\iv=.int .i64 i/\sv=.string s/\Hid (s.data.toList=DX x (3+i))/\s.size<=100000000/\Below w2 w2 wr) (fun _ iv _=>x.eB.length-(intOf iv).toNat)
 case atStart=>exact⟨0,cF,eC _,rfl,rfl,dC,oG,bF.drew⟩
 case round=>
  obtain⟨i,s,hi,rfl,rfl,HT,hs,d⟩:=hrel;have I:=B.below d B.lt;obtain⟨d0,d1,d2,d3,d4,d5⟩:=I.jI;clear d0 d1 d2 d3 d5;by_cases dK:i<x.eB
  ·obtain⟨a,D⟩:=ec dK;obtain⟨b,o,rfl,hb,pv,bJ,q0,q1,q2,q3,q4,q5,q6,q7⟩:=dn i a D;have C:Below w w wr:=E.trans (d.mono E.size);have x0:=a7 C lE q0;have x1:=a7 C lE q1;have x2:=a7 C lE q2;have x3:=a7 C lE q3;have x4:=a7 C lE q4;have x5:=a7 C lE q5;have x6:=a7 C lE q6;have x7:=a7 C lE q7;have aj:=a8 D;obtain⟨aU,bU,H,eM⟩:=Zd (dF.2.2.2.2.1 a aj) (dq a aj) (TQ D) bJ;obtain⟨Ap,cp,rfl,eT,eU,cQ⟩:=bJ.open_;have dt:=zH cQ;have dM:=EH bU;obtain⟨N,cP⟩: ∃N:Nat,x.days=(N:Int):=⟨x.days.toNat,oG⟩;have aI:x.days.toNat=N:=oG;obtain⟨dp,bY⟩:=Zb cP aI;have aH:N<=64:=oG;have dL:1<=N:=oG;obtain⟨wo,dR⟩:=nE (wr:World);subst dR;have bc:=fc.new wo 47 [a.kind,a.iL,.slice Ap a.jC cp,a.jU,a.size,a.start,a.lR,a.hold];obtain⟨k0,k1,k2,k3,k4,k5,k6,k7⟩:=bc.xG;have eE:=jX (bS wo wo) (cB 47 [a.kind,a.iL,.slice Ap a.jC cp,a.jU,a.size,a.start,a.lR,a.hold]);have ah:=d.alloc d.size (cB 47 [a.kind,a.iL,.slice Ap a.jC cp,a.jU,a.size,a.start,a.lR,a.hold]);have eN:=zH (IH H);obtain⟨v1,v2,-,v4,v5,v6,v7,v8⟩:=aU.out;unfold tq at v1 v2 v4 v5 v6 v7 v8;clear D q0 q1 q2 q3 q4 q5 q6 q7 bJ aj cQ cP aI;by_cases hk:a.kind=1
   ·have dJ:(a.kind==1)=true:=by rw[hk];rfl
    have aA:=zH (JM (days:=x.days) hk);clear hk;go_wp2_with fail;refine(Jb a.iL _ v2.1 v2.2).mono ?_;rintro e w4 ⟨td,rfl,Q,J⟩;have L:td.data.toList=iN a.iL:=by rw[Q.out]
    have eW:td.size<=21:=by rw[k9 L];exact oO ⟨v2.1,v2.2⟩
    have h:=kB ah J;have aC:=bc.below J bc.lt;have cD:Hid ((s++(⟨#[118,105,115,105,116,32]⟩:ByteArray)++td).data.toList=DX x (3+i)++jw 32 (oY a N 0)):=zH (by rw[gC,gC,L,HT.out,JO,gD]);have az:(s++(⟨#[118,105,115,105,116,32]⟩:ByteArray)++td).size<=100100000:=by rw[nA,nA];have:(⟨#[118,105,115,105,116,32]⟩:ByteArray).size=6:=rfl;omega
    clear k0 k1 k2 k3 k4 k5 k6 k7 J L;go_wp2_with fail;go_loopw [4,7] (fun sv kv wr=> ∃(k:Nat) (s:ByteArray),k<=a.jC/\kv=.int .i64 k/\sv=.string s/\Hid (s.data.toList=DX x (3+i)++jw 32 (oY a N k))/\s.size<=100100000/\Below w4 w4 wr) (fun _ kv _=>a.jC.length-(intOf kv).toNat)
    case atStart=>exact⟨0,_,eC _,rfl,rfl,cD,az,bS _ _⟩
    case round=>
     clear cD az;obtain⟨k,s3,hk,rfl,rfl,cE,bO,m⟩:=hrel;have cG:=aC.below m aC.lt;have m2:=cG.c 2;have l5:=cG.lt;by_cases cO:k<a.jC
     ·obtain⟨p,hp⟩:=ec cO;obtain⟨b3,o3,rfl,dG,cJ⟩:=dt k p hp;have aF:Below w w wr:=E.trans ((h.trans (m.mono h.size)).mono E.size);have m3:=a7 aF lE cJ;have aZ:=B.below (h.trans (m.mono h.size)) B.lt;have m4:=aZ.c 0;have l4:=aZ.lt;have l3:=bP dG aF.size;have dN:=aU.2.2.1 p (a8 hp);have dB:=zH (JN (n:=N) hp);have dx:Hid (∀W:World,Calls prog 32 #[.int .u64 (p:Int),x.days] W fun e w'=> ∃t:ByteArray,e=.returned (.string t)/\Hid (t=⟨(jV p N).toArray⟩)/\Below W W w'):=zH (fun W=>by rw[dp.out];exact Ov p N W dN dL aH);obtain⟨P1,bZ,eV⟩:=pT s3 (⟨#[32]⟩:ByteArray) (n:=100100001) (by show _+1<=_;omega);have M2:=zH m2;clear hp cJ aZ I;go_wp2_with fail;refine rB [] fun hS=>?_;refine kL [0] ?_;have HCC:=bZ;refine xw 1 hS ?_;refine kL [2,3,4,5,6,7,8] ?_;refine tO 9 fun K hK=>?_;go_simp;refine(dx _).mono ?_;rintro e w6 ⟨tp,rfl,dD,dH⟩;have aD:Below wr wr w6:=hS.trans (dH.mono hS.size);refine hK _ _ aD ?_;have di:tp.data.toList=jV p N:=by rw[dD.out]
      have eY:tp.size<=64:=by rw[k9 di,oV];omega
      obtain⟨P2,cI⟩:=nE (P1++tp:ByteArray);have cg:=zH cI;clear cI;have HCC:=cg;refine xw 10 aD ?_;refine tk 11 aD ?_;refine tD ?_;have f:Hid (P2.data.toList=DX x (3+i)++jw 32 (oY a N (k+1))):=zH (by rw[cg.out,gC,bZ.out,gC,di,cE.out,dB.out];simp);have q:P2.size<=100100000:=by rw[k9 f.out,fa];have:=Mb (n:=N) (k:=k+1) aU aH dM;have:=AR x (3+i);omega
      clear m2 m3 m4;go_wp2_with fail;go_roundw
      case rel=>exact⟨k+1,P2,oG,by go_num,rfl,f,q,m.trans (aD.mono m.size)⟩
      case measure=>exact mI
     ·obtain rfl:k=a.jC.length:=oG;have f:Hid ((s3++(⟨#[10]⟩:ByteArray)).data.toList=DX x (3+(i+1))):=zH (by rw[gC,cE.out,<-mf,qK H.out,aA.out,bY.out];simp);have q:(s3++(⟨#[10]⟩:ByteArray)).size<=100000000:=by rw[k9 f.out];have:=AR x (3+(i+1));omega
      go_wp2_with fail;go_roundw
      case rel=>exact⟨i+1,_,oG,by go_num,rfl,f,q,h.trans (m.mono h.size)⟩
      case measure=>exact mI
   ·have dJ:(a.kind==1)=false:=by rw[beq_eq_false_iff_ne];exact hk
    obtain⟨aA,dz⟩:=Zb (O6 (days:=x.days) hk) (O8 hk bU);have aJ:gx ((wo.alloc (cB 47 [a.kind,a.iL,.slice Ap a.jC cp,a.jU,a.size,a.start,a.lR,a.hold])).alloc (cB 3 [a.jU,a.size,a.start,a.hold])) .i64 (.slice (pB (wo+1)) 4 4) [a.jU,a.size,a.start,a.hold]:=
     (fc.newAt _ 3 ([a.jU,a.size,a.start,a.hold].map (.int .i64)) (g:=wo.heap.size+1) sI).gx rfl dE (by simp[maxLen])
    have ai:=ah.alloc ah.size (cB 3 [a.jU,a.size,a.start,a.hold]);have aW:=bc.alloc (cB 3 [a.jU,a.size,a.start,a.hold]);clear hk;go_wp2_with fail;refine(yh [a.jU,a.size,a.start,a.hold] _ _ sI (fun z hz=>by simp only[fC,iy,or_false] at hz;rcases hz with rfl|rfl|rfl|rfl <;>assumption) aJ).mono ?_;rintro e w4 ⟨u4,rfl,dj,J⟩;obtain⟨Ae,ce,rfl,j1,j2,G⟩:=dj.open_;obtain⟨b4,o4,rfl,eF,y0⟩:=G 0 _ rfl;obtain⟨M,O,l,-,y1⟩:=G 1 _ rfl;obtain⟨rfl,rfl⟩:b4=M/\o4=O:=by simpa using l
    obtain⟨M,O,l,-,y2⟩:=G 2 _ rfl;obtain⟨rfl,rfl⟩:b4=M/\o4=O:=by simpa using l
    obtain⟨M,O,l,-,y3⟩:=G 3 _ rfl;obtain⟨rfl,rfl⟩:b4=M/\o4=O:=by simpa using l
    rw[gv] at y0;have e4:([a.jU,a.size,a.start,a.hold].map iN).length=4:=rfl;rw[e4] at j1;simp only[e4];have h:=ai.trans (J.mono ai.size);have aC:=aW.below J aW.lt;have m6:=aC.c 6;obtain⟨r0,cR,-,ak⟩:=sR (iN a.jU);have z0:r0.size<=21:=by rw[k9 ak];exact oO v4
    change w4.cell? _=some (kI (iN a.jU)) at y0;rw[cR] at y0;have cj:=zH ak;obtain⟨r1,cT,-,aq⟩:=sR (iN a.size);have z1:r1.size<=21:=by rw[k9 aq];exact oO v5
    change w4.cell? _=some (kI (iN a.size)) at y1;rw[cT] at y1;have cw:=zH aq;obtain⟨r2,cU,-,aw⟩:=sR (iN a.start);have z2:r2.size<=21:=by rw[k9 aw];exact oO v6
    change w4.cell? _=some (kI (iN a.start)) at y2;rw[cU] at y2;have cA:=zH aw;obtain⟨r3,cV,-,ay⟩:=sR (iN a.hold);have z3:r3.size<=21:=by rw[k9 ay];exact oO v8
    change w4.cell? _=some (kI (iN a.hold)) at y3;rw[cV] at y3;obtain⟨cC,eK⟩:=Zb ay m6;clear k0 k1 k2 k3 k4 k5 k6 k7 aJ ai aW G dj J cR cT cU cV ak aq aw ay I
    rcases dz with hru|hru
    ·have dP:(a.lR==2)=false:=by rw[hru];rfl
     have aV:Hid (kx (kq x.days a)=[116,97,110,107,32]++iN a.jU++[32]++iN a.size++[32]++iN a.start++[32]++FC++[32]++iN a.hold++[10]):=zH (by rw[aA.out,hru];rfl);clear hru;obtain⟨U1,R,ek⟩:=pT s (⟨#[116,97,110,107,32]⟩:ByteArray) (n:=100000030) (by show _+5<=_;omega);obtain⟨U2,S,en⟩:=pT U1 r0 (n:=100000060) oG;obtain⟨U3,T,eo⟩:=pT U2 (⟨#[32]⟩:ByteArray) (n:=100000090) (by show _+1<=_;omega);obtain⟨U4,U,eu⟩:=pT U3 r1 (n:=100000120) oG;obtain⟨U5,V,ew⟩:=pT U4 (⟨#[32]⟩:ByteArray) (n:=100000150) (by show _+1<=_;omega);obtain⟨U6,X,ey⟩:=pT U5 r2 (n:=100000180) oG;obtain⟨U7,Y,ez⟩:=pT U6 (⟨#[32]⟩:ByteArray) (n:=100000210) (by show _+1<=_;omega);obtain⟨U8,Z,eA⟩:=pT U7 (⟨#[102,105,108,108]⟩:ByteArray) (n:=100000240) (by show _+4<=_;omega);obtain⟨U9,aa,eD⟩:=pT U8 (⟨#[32]⟩:ByteArray) (n:=100000270) (by show _+1<=_;omega);obtain⟨ae,F,dm⟩:=pT U9 r3 (n:=100000300) oG;go_wp2_with fail;refine rB [] fun hS=>?_;refine kL [0] ?_;have HCC:=R;refine xw 1 hS ?_;refine kL [2,3,4] ?_;have HCC:=S;refine xw 5 hS ?_;have HCC:=T;refine xw 6 hS ?_;refine kL [7,8,9] ?_;have HCC:=U;refine xw 10 hS ?_;have HCC:=V;refine xw 11 hS ?_;refine kL [12,13,14] ?_;have HCC:=X;refine xw 15 hS ?_;have HCC:=Y;refine xw 16 hS ?_;refine kL [17] ?_;have HCC:=Z;refine xw 18 hS ?_;have HCC:=aa;refine xw 19 hS ?_;refine kL [20,21,22] ?_;have HCC:=F;refine xw 23 hS ?_;refine kL [24] ?_;refine tD ?_;have f:Hid ((ae++(⟨#[10]⟩:ByteArray)).data.toList=DX x (3+(i+1))):=zH (by rw[<-mf,qK H.out,aV.out,gC,F.out,gC,aa.out,gC,Z.out,gC,Y.out,gC,X.out,gC,V.out,gC,U.out,gC,T.out,gC,S.out,gC,R.out,gC,cj.out,cw.out,cA.out,cC.out,HT.out];simp[FC]);exact Rf
    ·have dP:(a.lR==2)=true:=by rw[hru];rfl
     have aV:Hid (kx (kq x.days a)=[116,97,110,107,32]++iN a.jU++[32]++iN a.size++[32]++iN a.start++[32]++Pm++[32]++iN a.hold++[10]):=zH (by rw[aA.out,hru];rfl);clear hru;obtain⟨U1,R,ek⟩:=pT s (⟨#[116,97,110,107,32]⟩:ByteArray) (n:=100000030) (by show _+5<=_;omega);obtain⟨U2,S,en⟩:=pT U1 r0 (n:=100000060) oG;obtain⟨U3,T,eo⟩:=pT U2 (⟨#[32]⟩:ByteArray) (n:=100000090) (by show _+1<=_;omega);obtain⟨U4,U,eu⟩:=pT U3 r1 (n:=100000120) oG;obtain⟨U5,V,ew⟩:=pT U4 (⟨#[32]⟩:ByteArray) (n:=100000150) (by show _+1<=_;omega);obtain⟨U6,X,ey⟩:=pT U5 r2 (n:=100000180) oG;obtain⟨U7,Y,ez⟩:=pT U6 (⟨#[32]⟩:ByteArray) (n:=100000210) (by show _+1<=_;omega);obtain⟨U8,Z,eA⟩:=pT U7 (⟨#[97,110,121]⟩:ByteArray) (n:=100000240) (by show _+3<=_;omega);obtain⟨U9,aa,eD⟩:=pT U8 (⟨#[32]⟩:ByteArray) (n:=100000270) (by show _+1<=_;omega);obtain⟨ae,F,dm⟩:=pT U9 r3 (n:=100000300) oG;go_wp2_with fail;refine rB [] fun hS=>?_;refine kL [0] ?_;have HCC:=R;refine xw 1 hS ?_;refine kL [2,3,4] ?_;have HCC:=S;refine xw 5 hS ?_;have HCC:=T;refine xw 6 hS ?_;refine kL [7,8,9] ?_;have HCC:=U;refine xw 10 hS ?_;have HCC:=V;refine xw 11 hS ?_;refine kL [12,13,14] ?_;have HCC:=X;refine xw 15 hS ?_;have HCC:=Y;refine xw 16 hS ?_;refine kL [17] ?_;have HCC:=Z;refine xw 18 hS ?_;have HCC:=aa;refine xw 19 hS ?_;refine kL [20,21,22] ?_;have HCC:=F;refine xw 23 hS ?_;refine kL [24] ?_;refine tD ?_;have f:Hid ((ae++(⟨#[10]⟩:ByteArray)).data.toList=DX x (3+(i+1))):=zH (by rw[<-mf,qK H.out,aV.out,gC,F.out,gC,aa.out,gC,Z.out,gC,Y.out,gC,X.out,gC,V.out,gC,U.out,gC,T.out,gC,S.out,gC,R.out,gC,cj.out,cw.out,cA.out,cC.out,HT.out];simp[Pm]);exact Rf
  ·obtain rfl:i=x.eB.length:=oG;have Q:Hid ((s++(⟨#[100,105,115,116,97,110,99,101,115,10]⟩:ByteArray)).data.toList=DX x (3+x.eB.length+1)):=zH (by rw[gC,HT.out,Qo]);have dg:(s++(⟨#[100,105,115,116,97,110,99,101,115,10]⟩:ByteArray)).size<=100000000:=by rw[k9 Q.out];have:=AR x (3+x.eB.length+1);omega
   clear I;go_wp2_with fail;clear d4;go_loopw [4,10] (fun sv jv wr=> ∃(j:Nat) (s:ByteArray),j<=x.gn/\jv=.int .i64 j/\sv=.string s/\Hid (s.data.toList=DX x (3+x.eB.length+1+j))/\s.size<=100000000/\Below w2 w2 wr) (fun _ jv _=>x.gn.length-(intOf jv).toNat)
   case atStart=>exact⟨0,_,eC _,rfl,rfl,Q,dg,d⟩
   case round=>
    clear Q dg d HT hs;obtain⟨j,s,hj,rfl,rfl,HT,hs,d⟩:=hrel;have I:=B.below d B.lt;obtain⟨d0,d1,d2,d3,d4,d5⟩:=I.jI;clear d0 d1 d2 d3 d4 I;by_cases cN:j<x.gn
    ·obtain⟨r,hr⟩:=ec cN;obtain⟨b,o,rfl,hb,A2,c2,q0,q1,q2,q3⟩:=dA j r hr;have C:Below w w wr:=E.trans (d.mono E.size);have x0:=a7 C lE q0;obtain⟨aB,H⟩:=Zb (dr r (a8 hr)) (Wm hr);have dw:Hid (gx wr .i64 (.slice A2 r c2) r):=zH (gx.below (gx.Dj q1 q2 q3) C lE);clear hr q0 q3;go_wp2_with fail;refine(yh r _ _ (by rw[aB.out.1];omega) (fun z hz=>by have:=aB.out.2 z hz;omega) dw.out).mono ?_;rintro e wA ⟨u,rfl,hu,dI⟩;go_wp2_with fail;refine(Oo (r.map iN) _ _ hu (by rw[fm,aB.out.1];omega) (fun y hy=>?_)).mono ?_
     ·obtain⟨z,hz,rfl⟩:=fq.1 hy;have:=aB.out.2 z hz;have:=oO (n:=z) (by unfold tq;omega);omega
     rintro e wB ⟨rfl,rfl⟩;obtain⟨tl,dh,-,L⟩:=sR (kx (r.map iN));rw[dh];have eX:tl.size<=100000000:=by rw[k9 L];have:=IH H;omega
     have f:Hid ((s++tl).data.toList=DX x (3+x.eB.length+1+(j+1))):=zH (by rw[gC,HT.out,L,<-mf,qK H.out]);have q:(s++tl).size<=100000000:=by rw[k9 f.out];have:=AR x (3+x.eB.length+1+(j+1));omega
     clear dh L;go_wp2_with fail;go_roundw
     case rel=>exact⟨j+1,_,oG,by go_num,rfl,f,q,d.trans (dI.mono d.size)⟩
     case measure=>exact mI
    ·obtain rfl:j=x.gn.length:=oG;have aG:kI (na x)=.string s:=by rw[<-UL x,<-HT.out];exact NB s
     have bW:=zH aG;clear aG;go_wp2_with fail;go_ret;rw[bW.out];exact⟨rfl,E.trans (d.mono E.size)⟩
end
end Go.Proofs.YtgimnjldndkalaaGreatDoor
