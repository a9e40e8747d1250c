/- Of the proof of TopGreat: What is told of the customer: how often it must be visited, how much must be brought, its price. -/
import Derived.Test.YtgimnjldndkalaaGreatDoorF24
import Derived.Test.YtgimnjldndkalaaGreatDoorF27
import Derived.Test.YtgimnjldndkalaaGreatDoorF28
import Derived.Test.YtgimnjldndkalaaGreatDoorF12
set_option linter.all false
set_option maxHeartbeats 4000000
set_option maxRecDepth 100000
namespace Go.Proofs.YtgimnjldndkalaaGreatDoor
section
open Go.Proofs.Tryz
open Go.RowKit jm ko Et kN
abbrev sN:Value:= .slice none 0 0
abbrev boC (x:fS) (A1:Option Addr) (c1:Nat) (A2:Option Addr) (c2:Nat) (ov iv cv:Value):List Value:=[.int .i64 x.days,.int .i64 x.mm,.int .i64 x.cap,.int .i64 x.len,.slice A1 x.eB.length c1,.slice A2 x.gn.length c2,ov,iv,cv]
section
variable {x:fS} {c:kc} {a b:Int} (hx:iF x c a b) (g o:Nat) (c1:Nat) (A2:Option Addr) (c2:Nat) (dm:Int) (A0:Option Addr) (n0 c0:Nat)
include hx
theorem iF.cc:c.jU=1∧(1≤c.size∧c.size≤2147483648)∧(0≤c.start∧c.start≤c.size):=⟨hx.ct.2.1,hx.ct.2.2.2.1,hx.start⟩
theorem TV (ov iv cv:Value) (rb:Nat) (w:World) (hr:fc w rb 191 (boC x (some ⟨g,o,none⟩) c1 A2 c2 ov iv cv)) (hm:qk w g o dm A0 n0 c0 c):
  Calls Tryz.prog 160 #[.pointer (some ⟨rb,0,none⟩),.int .i64 0] w fun e w'=>e= .returned (.int .i64 (dd c x.days))∧Below w.heap.size w w':=by
 obtain⟨k0,k1,k2,k3,k4,k5,k6,k7,k8,-⟩:=hr.iY;have hlt:=hr.lt;obtain⟨hgl,y0,y1,y2,y3,y4,y5,y6,y7⟩:=hm;have hl1:0 <x.eB.length:=by rw[hx.len];decide
 have HF:=jA fun W=>acs dm A0 n0 c0 c.hold c x.days x.cap W ⟨hx.ct.2.1,hx.ct.2.2.2.1,by have:=hx.start;have:=hx.ct;omega⟩ (by have:=hx.hd;have:=hx.ct;omega) (by have:=hx.hd;omega);obtain⟨F,hF⟩: ∃F,dd c x.days=F:=⟨_,rfl⟩;rw[hF] at HF⊢;clear hr hF;go_enter Tryz.func160,Tryz.ntmps160;go_wp2_with fail;refine rB [] fun hS=> ?_;refine tk 0 hS ?_;refine tk 1 hS ?_;refine tk 2 hS ?_;refine tk 3 hS ?_;refine tk 4 hS ?_;refine tk 5 hS ?_;refine tk 6 hS ?_;refine tk 7 hS ?_;refine tk 8 hS ?_;refine tk 9 hS ?_;refine tk 10 hS ?_;refine tk 11 hS ?_;refine tk 12 hS ?_;refine tk 13 hS ?_;refine tk 14 hS ?_;refine tk 15 hS ?_;refine tk 16 hS ?_;refine tk 17 hS ?_;refine tO 18 fun K hK=> ?_;go_simp;refine(HF.out _).mono ?_;rintro e w2 ⟨rfl,hb2⟩;have hS:=hS.trans (hb2.mono hS.size);refine hK.out _ _ (hS) ?_;clear hK K;refine tk 19 hS ?_;refine tD ?_;go_wp2_with fail;go_ret;exact⟨rfl,hS⟩
theorem aep (ov iv cv:Value) (rb:Nat) (w:World) (hr:fc w rb 191 (boC x (some ⟨g,o,none⟩) c1 A2 c2 ov iv cv)) (hm:qk w g o dm A0 n0 c0 c):
  Calls Tryz.prog 162 #[.pointer (some ⟨rb,0,none⟩),.int .i64 0] w fun e w'=>e= .returned (.int .i64 (max (x.days - c.start) 0))∧Below w.heap.size w w':=by
 obtain⟨k0,k1,k2,k3,k4,k5,k6,k7,k8,-⟩:=hr.iY;have hlt:=hr.lt;have HM:=jA hm;obtain⟨hgl,y0,y1,y2,y3,y4,y5,y6,y7⟩:=hm;have hl1:0 <x.eB.length:=by rw[hx.len];decide
 have HF:=jA fun W=>ac1 dm A0 n0 c0 c.size c.start c.hold x.days W (by have:=hx.start;have:=hx.ct;omega) (by have:=hx.hd;omega);obtain⟨F,hF⟩: ∃F,max (x.days - c.start) 0=F:=⟨_,rfl⟩;rw[hF] at HF⊢;clear hF;go_enter Tryz.func162,Tryz.ntmps162;go_upto_region 2 with fail
 have hb:=bL (bS w.heap.size w) (.cells (pL dm A0 n0 c0 c.size c.start c.hold).toArray 47);have bx:=fc.new w 47 (pL dm A0 n0 c0 c.size c.start c.hold);have hr2:=hr.below hb hlt;clear k0 k1 k2 k3 k4 k5 k6 k7 k8 hlt hr y0 y1 y2 y3 y4 y5 y6 y7;revert hb bx hr2;generalize w.alloc (.cells (pL dm A0 n0 c0 c.size c.start c.hold).toArray 47)=W;intro hb bx hr2;obtain⟨k0,k1,k2,k3,k4,k5,k6,k7,k8,-⟩:=hr2.iY;obtain⟨x0,x1,x2,x3,x4,x5,x6,x7,-⟩:=bx.iY;have hlt:=hr2.lt;have hlx:=bx.lt;go_wp2_with fail;refine rB [] fun hS=> ?_;refine tk 0 hS ?_;refine tk 1 hS ?_;refine tk 2 hS ?_;refine tk 3 hS ?_;refine tk 4 hS ?_;refine tk 5 hS ?_;refine tO 6 fun K hK=> ?_;go_simp;refine(HF.out _).mono ?_;rintro e w2 ⟨rfl,hb2⟩;have hS:=hS.trans (hb2.mono hS.size);refine hK.out _ _ (hS) ?_;clear hK K;refine tk 7 hS ?_;refine tD ?_;go_wp2_with fail;go_ret;exact⟨rfl,hb.trans (hS.mono hb.size)⟩
theorem aem (ov iv:Value) (gc oc:Nat) (cc:Nat) (rb:Nat) (w:World) (hr:fc w rb 191 (boC x (some ⟨g,o,none⟩) c1 A2 c2 ov iv (.slice (some ⟨gc,oc,none⟩) 1 cc))) (hm:qk w g o dm A0 n0 c0 c) (hc:w.cell? ⟨gc,oc,none⟩=some (.int .i64 a)) (hgc:gc <w.heap.size):
  Calls Tryz.prog 168 #[.pointer (some ⟨rb,0,none⟩),.int .i64 0] w fun e w'=>e= .returned (.int .i64 (a*dd c x.days))∧Below w.heap.size w w':=by
 obtain⟨k0,k1,k2,k3,k4,k5,k6,k7,k8,-⟩:=hr.iY;have hlt:=hr.lt;have HF:=jA fun W (h:Below w.heap.size w W)=>TV hx g o c1 A2 c2 dm A0 n0 c0 ov iv (.slice (some ⟨gc,oc,none⟩) 1 cc) rb W (hr.below h hlt) (hm.below h (ij _));have hfb:0≤dd c x.days∧dd c x.days≤64:=by have h0:=aaM (m:=gw c x.days) (by unfold gw;omega) hx.ct.2.2.2.1.1;have:=hx.hd;unfold dd;split <;>omega
 have hmul:0≤a*dd c x.days∧a*dd c x.days≤1073741824*64:=⟨eS hx.ab.1.1 hfb.1,eX (by have:=hx.ab;omega) hfb.2 hfb.1 (by decide)⟩;obtain⟨F,hF⟩: ∃F,dd c x.days=F:=⟨_,rfl⟩;rw[hF] at HF hmul⊢;clear hr hF hm hfb;go_enter Tryz.func168,Tryz.ntmps168;go_wp2_with fail;refine rB [] fun hS=> ?_;refine tk 0 hS ?_;refine tk 1 hS ?_;refine tk 2 hS ?_;refine tk 3 hS ?_;refine tk 4 hS ?_;refine tk 5 hS ?_;refine tk 6 hS ?_;refine tk 7 hS ?_;refine tk 8 hS ?_;refine tO 9 fun K hK=> ?_;go_simp;refine(HF.out _ hS).mono ?_;rintro e w2 ⟨rfl,hb2⟩;have hS:=hS.trans (hb2.mono hS.size);refine hK.out _ _ (hS) ?_;clear hK K;refine tk 10 hS ?_;refine tk 11 hS ?_;refine tD ?_;go_wp2_with fail;go_ret;exact⟨Je (by show IntKind.i64.wrap (a*F)=a*F;rw[jB];omega),hS⟩
end
end
section
open Go.Proofs.Tryz
open Go.RowKit jm ko Et kN
section
variable {x:fS} {c:kc} {a b:Int} (hx:iF x c a b) (g o:Nat) (c1:Nat) (A2:Option Addr) (c2:Nat) (dm:Int) (A0:Option Addr) (n0 c0:Nat)
include hx
theorem adW (A1:Option Addr) (q p:Nat) (f d:Int) (w:World) (j:fc w q 3 (i2 (a-d) (b-f))) (m:fc w p 3 (i2 f d)) (M:(0<=f/\f<=b)/\(0<=d/\d<=a)):
  Calls prog 165 #[.agg (xC x A1 c1 A2 c2).toArray,prV q p,Zo] w fun e w'=>e=.returned (b-f+d:)/\Below w w w':=by
 obtain⟨W,hW,⟨i,g,-⟩,c,-⟩:=sk w [(25,xC x A1 c1 A2 c2),(103,[.slice q 2 2,.slice p 2 2])];simp only[Hk] at hW;have N:0<x.eB.length:=by rw[hx.len];decide
 have l:(0:Int)<x.eB.length:=oG;have n: ¬x.eB=[]:=by rw[hx.cu];simp
 have o:IntKind.i64.wrap 1=1:=by rw[jB];rfl
 have y:=hx.ab;obtain⟨z0,k⟩:=nR (a-d);obtain⟨z1,h⟩:=nR (b-f);have r:0<=z1/\z1<=1073741824:=oG;rw[k,h] at j;rw[h];have A:=(j.below c j.lt).c 1;have s:=(m.below c m.lt).c 1;have u:=bP j.lt c.size;have t:=bP m.lt c.size;have P:=i.c 4;have B:=g.c 0;have C:=g.c 1;have z:=i.lt;have v:=g.lt;clear k h;go_enter func165,ntmps165;go_wp2_with fail;clear hW;refine rB [] fun hS=>?_;refine kL [0,1,2,3,4,5,6,7,8,9,10,11,12,13] ?_;refine tD ?_;go_wp2_with fail;go_ret;exact⟨Je (by show IntKind.i64.wrap (z1+d)=z1+d;rw[jB];omega),c.trans (hS.mono c.size)⟩
theorem adT (cv:Value) (q p:Nat) (f d:Int) (Z:Nat) (w:World) (O:fc w Z 191 (boC x (pA g o) c1 A2 c2 (.slice q 2 2) (.slice p 2 2) cv)) (U:qk w g o dm A0 n0 c0 c) (j:fc w q 3 (i2 (a-d) (b-f))) (m:fc w p 3 (i2 f d)) (M:(0<=f/\f<=b)/\(0<=d/\d<=a)):
  Calls prog 129 #[.pointer Z,Zo] w fun e w'=>e=.returned (dd c x.days*(b-f+d)+c.hold*fe c.start x.days.toNat:)/\Below w w w':=by
 obtain⟨X,k1,Y,k3,P,k5,k6,k7,k8,-⟩:=O.iY;have D:=O.lt;have HM:=zH U;obtain⟨C,y0,y1,y2,y3,y4,y5,y6,y7⟩:=U;have N:0<x.eB.length:=by rw[hx.len];decide
 have L:=hx.hd;obtain⟨n,I⟩: ∃n:Nat,x.days=n:=⟨x.days.toNat,oG⟩;have i:1<=n/\n<=64:=oG;have v:=zH fun W (h:Below w w W)=>adW hx c1 A2 c2 (pA g o) q p f d W (j.below h j.lt) (m.below h m.lt) M;have y:=hx.ab;obtain⟨π,hπ⟩:=nR (b-f+d);have hπb:0<=π/\π<=2147483648:=oG;rw[hπ] at v|-
 have u:=zH fun pv W hp=>adS dm A0 n0 c0 c n x.cap π pv W hx.cc hx.ct.2.2.2.2.2 (by have:=hx.hd;have:=hx.ct;omega) i hp hπb;have R:x.days.toNat=n:=oG;rw[R];obtain⟨F,H⟩:=nR (dd c x.days*π+c.hold*fe c.start n);rw[I] at H;rw[H] at u;rw[I,H];have E:=zH I;clear H hπ R O I j m M L y;go_enter func129,ntmps129;go_wp2_with fail;refine rB [] fun hS=>?_;refine kL [0,1,2,3,4,5,6,7,8,11,12,13,14,15] ?_;refine tO 9 fun K r=>?_;go_simp;refine(v _ hS).mono ?_;rintro e Q ⟨rfl,z⟩;have hS:=hS.trans (z.mono hS.size);refine r _ _ (hS) ?_;refine tO 10 fun K r=>?_;go_simp;have hS:=hS.alloc hS.size (cB 3 [.int .i64 π]);have G:=fc.new Q 3 [.int .i64 π];refine r _ _ (hS) ?_;clear z;revert hS G;generalize Q.alloc (cB 3 [.int .i64 π])=V;intro hS G;refine tO 16 fun K r=>?_;go_simp;rw[E.out];refine(LM V Q 0 1 π (G.c 0) G.lt n i.1 i.2).mono ?_;rintro e w3 ⟨rfl,B,A⟩;have k:Hid (gx w3 .i64 (.slice V n n) (List.replicate n π)):=zH (fc.gx (l:=List.replicate n π) (by rw[adm];exact B) sI lE (by simp[maxLen];omega));have hS:=hS.trans (A.mono hS.size);clear B A;rw[<-E.out];refine r _ _ (hS) ?_;refine kL [17] ?_;refine tD ?_;revert k;generalize V.heap.size=gp;intro k;have t:=zH hS;have s:=hS.size;have S:=bP C s;have T:=bP D s;replace y0:=a7 hS lE y0;replace y1:=a7 hS lE y1;replace y2:=a7 hS lE y2;replace y3:=a7 hS lE y3;replace y4:=a7 hS lE y4;replace y5:=a7 hS lE y5;replace y6:=a7 hS lE y6;replace y7:=a7 hS lE y7;replace X:=a7 hS lE X;replace Y:=a7 hS lE Y;replace P:=a7 hS lE P;clear hS k1 k3 k5 k6 k7 k8 C D s;go_wp2_with fail;refine rB [] fun hS=>?_;refine kL [0,1,2,3,4,5,6,7,8,9,10,11,12,13,14,15,16,17,18] ?_;refine tO 19 fun K r=>?_;go_simp;rw[E.out];refine(u _ _ (k.below hS lE)).mono ?_;rintro e w5 ⟨rfl,J⟩;have hS:=hS.trans (J.mono hS.size);rw[<-E.out];refine r _ _ (hS) ?_;refine kL [20] ?_;refine tD ?_;go_wp2_with fail;go_ret;exact⟨rfl,t.trans (hS.mono t.size)⟩
end
end
section
open Go.Proofs.Tryz
open Go.RowKit jm ko Et kN
section
variable {x:fS} {c:kc} {a b:Int} (hx:iF x c a b) (A1:Option Addr) (c1:Nat) (A2:Option Addr) (c2:Nat)
include hx
theorem ace (F rb:Nat) (hF:F=162∨F=129∨F=168) (z:Int) (w:World) (hz:0≤z∧z≤4611686018427387904)
  (hcall: ∀W,Below w.heap.size w W→Calls Tryz.prog F #[.pointer (some ⟨rb,0,none⟩),.int .i64 0] W fun e W'=>e= .returned (.int .i64 z)∧Below W.heap.size W W'):
  Calls Tryz.prog 128 #[.agg (xC x A1 c1 A2 c2).toArray,.func (.func F) #[.pointer (some ⟨rb,0,none⟩)] #[]] w fun e w'=>e= .returned (.int .i64 z)∧Below w.heap.size w w':=by
 obtain⟨W,hW⟩: ∃W,w.alloc (.cells (xC x A1 c1 A2 c2).toArray 25)=W:=⟨_,rfl⟩;have hb:Below w.heap.size w W:=by rw[←hW];exact bL (bS _ _) _
 have bx:fc W w.heap.size 25 (xC x A1 c1 A2 c2):=by rw[←hW];exact fc.new _ _ _
 have k4:=bx.c 4;have hlt:=bx.lt;have HC:=jA hcall;have HL:=jA hx.len;clear hcall;go_enter Tryz.func128,Tryz.ntmps128;go_wp2_with fail;clear hW k4 bx hlt;go_loopw [5,10] (fun sv iv wr=> ∃i:Nat,i≤x.eB.length∧iv= .int .i64 i∧Hid (sv= .int .i64 (if i=0 then 0 else z))∧Below w.heap.size w wr) (fun _ iv _=>x.eB.length - (intOf iv).toNat)
 case atStart=>exact⟨0,eC _,rfl,jA rfl,hb⟩
 case round=>
  clear hb;obtain⟨i,hi,rfl,HS,hb⟩:=hrel;by_cases hlt:i <x.eB.length
  ·obtain rfl:i=0:=by have:=HL.out;omega
   obtain rfl:=HS.out;rw[if_pos rfl]
   rcases hF with rfl|rfl|rfl
   all_goals
    go_wp2_with fail;refine(HC.out wr hb).mono ?_;rintro e w3 ⟨rfl,hb3⟩;go_wp2_with fail;refine(M4 0 z w3 (by omega) (by omega)).mono ?_;rintro e w4 ⟨rfl,rfl⟩;rw[show Em 0 z=z by unfold Em;omega];go_wp2_with fail;go_roundw
    case rel=>exact⟨1,hlt,by go_num,jA rfl,hb.trans (hb3.mono hb.size)⟩
    case measure=>exact mI
  ·obtain rfl:i=x.eB.length:=by omega
   obtain rfl:=HS.out;rw[if_neg (by have:=HL.out;omega)];go_wp2_with fail;go_ret;exact⟨rfl,hb⟩
variable (g o:Nat) (dm:Int) (A0:Option Addr) (n0 c0:Nat)
theorem iF.fb:0≤dd c x.days∧dd c x.days≤64:=by have h0:=aaM (m:=gw c x.days) (by unfold gw;omega) hx.ct.2.2.2.1.1;have:=hx.hd;unfold dd;split <;>omega
theorem iF.least:max (dd c x.days) (ix (max (x.days - c.start) 0) x.cap)=dd c x.days:=by
 have hd:=hx.hd;have hc:=hx.ct;have hs:=hx.start;obtain⟨m,hm⟩: ∃m,max (x.days - c.start) 0=m:=⟨_,rfl⟩;have hw:gw c x.days=m:=by unfold gw;rw[hc.2.1,Int.one_mul,hm]
 have hm2:0≤m∧m≤x.days:=by omega
 have e1:ix m x.cap=if m=0 then 0 else 1:=by unfold ix;rw[Int.emod_eq_of_lt hm2.1 (by omega),Int.ediv_eq_zero_of_lt hm2.1 (by omega)];split <;>omega
 have e2:m≠0→1≤ix m c.size:=fun h0=>by
  unfold ix;have h1:=sF m c.size;have h2:=aap hm2.1 (show 0≤c.size by omega);split
  ·rename_i hz;rw[hz] at h1
   rcases Int.lt_or_le 0 (m/c.size) with h|h
   ·omega
   ·have:m/c.size=0:=by omega
    rw[this] at h1;omega
  ·omega
 rw[hm,e1];unfold dd;rw[hw];split
 ·rfl
 ·have:=e2 (by assumption);omega
theorem adU (hA:A1=some ⟨g,o,none⟩) (w:World) (hm:qk w g o dm A0 n0 c0 c):
  Calls Tryz.prog 126 #[.agg (xC x A1 c1 A2 c2).toArray] w fun e w'=>e= .returned (.int .i64 (dd c x.days))∧Below w.heap.size w w':=by
 subst hA;have HLE:=jA hx.least;have hfb:=hx.fb;have hhd:=hx.hd;have HM:=jA hm;have hmb:0≤max (x.days - c.start) 0∧max (x.days - c.start) 0≤64:=by have:=hx.start;omega
 have HFO:=jA fun rb W hr h=>TV hx g o c1 A2 c2 dm A0 n0 c0 sN sN sN rb W hr h;have HMU:=jA fun rb W hr h=>aep hx g o c1 A2 c2 dm A0 n0 c0 sN sN sN rb W hr h;have HSU:=jA fun rb W h=>ace hx (some ⟨g,o,none⟩) c1 A2 c2 162 rb (.inl rfl) (max (x.days - c.start) 0) W (by omega) h;obtain⟨F,hF⟩: ∃F,dd c x.days=F:=⟨_,rfl⟩;obtain⟨M,hM⟩: ∃M,max (x.days - c.start) 0=M:=⟨_,rfl⟩;rw[hF] at HLE HFO hfb⊢;rw[hM] at HLE HMU HSU hmb;have HL:=jA hx.len;have hcap:0 <x.cap∧x.cap≤2147483648:=by omega
 clear hm hF hM hhd;obtain⟨W,hW⟩: ∃W,w.alloc (.cells (xC x (some ⟨g,o,none⟩) c1 A2 c2).toArray 25)=W:=⟨_,rfl⟩;have hb:Below w.heap.size w W:=by rw[←hW];exact bL (bS _ _) _
 have bx:fc W w.heap.size 25 (xC x (some ⟨g,o,none⟩) c1 A2 c2):=by rw[←hW];exact fc.new _ _ _
 obtain⟨k0,k1,k2,k3,k4,k5,-⟩:=bx.iY;have hlt:=bx.lt;go_enter Tryz.func126,Tryz.ntmps126;go_upto_region 2 with fail
 clear hW;obtain⟨rb,hrb⟩: ∃rb,rb=W.heap.size:=⟨_,rfl⟩;have br:=fc.new W 191 (boC x (some ⟨g,o,none⟩) c1 A2 c2 sN sN sN);have bx2:=bx.alloc (.cells (boC x (some ⟨g,o,none⟩) c1 A2 c2 sN sN sN).toArray 191);have hb2:=hb.alloc hb.size (.cells (boC x (some ⟨g,o,none⟩) c1 A2 c2 sN sN sN).toArray 191);rw[←hrb] at br⊢;clear k0 k1 k2 k3 k4 k5 hlt bx hb hrb;revert br bx2 hb2;generalize W.alloc (.cells (boC x (some ⟨g,o,none⟩) c1 A2 c2 sN sN sN).toArray 191)=W2;intro br bx hb;have k4:=bx.c 4;have hlt:=bx.lt;go_wp2_with fail;clear k4 hlt;go_loopw [4,14] (fun mv iv wr=> ∃i:Nat,i≤x.eB.length∧iv= .int .i64 i∧Hid (mv= .int .i64 (if i=0 then 0 else F))∧fc wr rb 191 (boC x (some ⟨g,o,none⟩) c1 A2 c2 sN sN sN)∧fc wr w.heap.size 25 (xC x (some ⟨g,o,none⟩) c1 A2 c2)∧Below w.heap.size w wr) (fun _ iv _=>x.eB.length - (intOf iv).toNat)
 case atStart=>exact⟨0,eC _,rfl,jA rfl,br,bx,hb⟩
 case round=>
  clear br bx hb;obtain⟨i,hi,rfl,HS,br,bx,hb⟩:=hrel;have lr:=br.lt;have lx:=bx.lt;by_cases hlt:i <x.eB.length
  ·obtain rfl:i=0:=by have:=HL.out;omega
   obtain rfl:=HS.out;rw[if_pos rfl];go_wp2_with fail;refine(HFO.out rb wr br (HM.out.below hb (ij _))).mono ?_;rintro e w3 ⟨rfl,hb3⟩;have br3:=br.below hb3 lr;have bx3:=bx.below hb3 lx;have hb4:=hb.trans (hb3.mono hb.size);have hF0: ¬F <0:=by omega
   go_wp2_with fail;all_goals
    go_roundw
    case rel=>exact⟨1,hlt,by go_num,jA (by rw[show(if (1:Nat)=0 then(0:Int) else F)=F from rfl];congr 1;first|omega|(split <;>omega)),br3,bx3,hb4⟩
    case measure=>exact mI
  ·obtain rfl:i=x.eB.length:=by omega
   obtain rfl:=HS.out;rw[if_neg (by have:=HL.out;omega)];obtain⟨k0,k1,k2,k3,k4,k5,-⟩:=bx.iY;have hcd:decide (0 <x.cap)=true:=decide_eq_true hcap.1;go_wp2_with fail;refine rB [] fun hS=> ?_;refine tk 0 hS ?_;refine tk 1 hS ?_;refine tk 2 hS ?_;refine tk 4 hS ?_;refine tk 5 hS ?_;refine tO 3 fun K hK=> ?_;go_simp;refine(HSU.out rb _ (fun V hV=>HMU.out rb V (br.below (hS.trans (hV.mono hS.size)) lr) (HM.out.below ((hb.trans (hS.mono hb.size)).trans (hV.mono (eZ hb.size hS.size))) (ij _)))).mono ?_;rintro e w3 ⟨rfl,hb3⟩;have hS:=hS.trans (hb3.mono hS.size);refine hK.out _ _ (hS) ?_;clear hK K;refine tO 6 fun K hK=> ?_;go_simp;refine(ado M x.cap _ hmb.1 (by omega) (by omega) (by omega)).mono ?_;rintro e w4 ⟨rfl,rfl⟩;obtain⟨C,hC⟩: ∃C,ix M x.cap=C:=⟨_,rfl⟩;rw[hC] at HLE⊢;clear hC;refine hK.out _ _ (hS) ?_;clear hK K;refine tk 7 hS ?_;refine tk 8 hS ?_;refine tk 9 hS ?_;refine tk 10 hS ?_;refine tk 11 hS ?_;refine tD ?_;have hb5:=hb.trans (hS.mono hb.size);go_wp2_with fail;all_goals go_ret
   all_goals exact⟨Je (by have:=HLE.out;omega),hb5⟩
end
end
section
open Go.Proofs.Tryz
open Go.RowKit jm ko Et kN
theorem afF{p:Prop}(h:p:=by
 go_enter Tryz.func125,Tryz.ntmps125;go_wp2_with fail
 go_ret2
 exact⟨rfl,rfl⟩):p:=h
theorem aed (p q:Int) (w:World) (hp:0≤p∧p≤4294967296) (hq:0≤q∧q≤64):
  Calls Tryz.prog 125 #[.int .i64 p,.int .i64 q] w fun e w'=>e= .returned (.tuple #[.int .i64 (p*q),.bool true])∧w'=w:=by
 have hm:0≤p*q∧p*q≤4294967296*64:=⟨eS hp.1 hq.1,eX hp.2 hq.2 hq.1 (by decide)⟩;by_cases h0:p=0
 ·subst h0;rw[Int.zero_mul];exact afF
 ·by_cases h1:q=0
  ·subst h1;rw[Int.mul_zero];exact afF
  ·have n1:(p==0)=false:=by rw[beq_eq_false_iff_ne];exact h0
   have n2:(q==0)=false:=by rw[beq_eq_false_iff_ne];exact h1
   have n3:(p== -9223372036854775808)=false:=by rw[beq_eq_false_iff_ne];omega
   have hd:p*q/q=p:=Int.mul_ediv_cancel _ h1;have hw:wrap64 (p*q)=p*q:=by unfold wrap64;omega
   have n4: ¬q=0:=h1;exact afF
section
variable {x:fS} {c:kc} {a b:Int} (hx:iF x c a b) (g o:Nat) (c1:Nat) (A2:Option Addr) (c2:Nat) (dm:Int) (A0:Option Addr) (n0 c0:Nat)
include hx
theorem iF.val:0≤pe x c a b∧pe x c a b≤281474976710656:=by have hfb:=hx.fb;have hab:=hx.ab;have hkb:=LA x.days.toNat c.start (by have:=hx.start;have:=hx.ct;omega);have hct:=hx.ct;have hd:=hx.hd;have h1:0≤dd c x.days*(a+b)∧dd c x.days*(a+b)≤64*2147483648:=⟨eS hfb.1 (by omega),eX hfb.2 (by omega) (by omega) (by decide)⟩;have h2:0≤c.hold*fe c.start x.days.toNat∧c.hold*fe c.start x.days.toNat≤1024*137438953472:=⟨eS hct.2.2.2.2.2.1 hkb.1,eX hct.2.2.2.2.2.2 (by omega) hkb.1 (by decide)⟩;unfold pe;omega
theorem acf (pv:Value) (w:World) (hm:qk w g o dm A0 n0 c0 c) (hp:PrM a b w pv):
  Calls Tryz.prog 81 #[.agg (xC x (some ⟨g,o,none⟩) c1 A2 c2).toArray,pv] w fun e w'=>e= .returned (.int .i64 (pe x c a b))∧Below w.heap.size w w':=by
 obtain⟨go,gi,i0,i1,rfl,bo,bi,hi⟩:=hp;have hab:=hx.ab;have hfb:=hx.fb;have hv:=hx.val;have HM:=jA hm;have HBO:=jA bo;have HBI:=jA bi;have HLE:=jA fun W h=>adU hx (some ⟨g,o,none⟩) c1 A2 c2 g o dm A0 n0 c0 rfl W h;have HTI:=jA fun W=>aed (a - i1+i0) (dd c x.days) W (by omega) hfb;have HAL:=jA fun rb W hr h1 h2 h3=>adT hx g o c1 A2 c2 dm A0 n0 c0 sN go gi i0 i1 rb W hr h1 h2 h3 hi;have hsum:dd c x.days*(b - i0+i1)+c.hold*fe c.start x.days.toNat+(a - i1+i0)*dd c x.days=pe x c a b:=by
  unfold pe;have e:dd c x.days*(a+b)=dd c x.days*(b - i0+i1)+dd c x.days*(a - i1+i0):=by rw[←vd];congr 1;omega
  rw[e,TT (a - i1+i0)];generalize dd c x.days*(b - i0+i1)=u1;generalize dd c x.days*(a - i1+i0)=u2;omega
 have hd1:0≤(a - i1+i0)*dd c x.days:=eS (by omega) hfb.1;have hd2:0≤dd c x.days*(b - i0+i1)+c.hold*fe c.start x.days.toNat:=by have h1:0≤dd c x.days*(b - i0+i1):=eS hfb.1 (by omega);have h2:0≤c.hold*fe c.start x.days.toNat:=eS hx.ct.2.2.2.2.2.1 (LC _ _);omega
 obtain⟨F,hF⟩: ∃F,dd c x.days=F:=⟨_,rfl⟩;obtain⟨P,hP⟩: ∃P,F*(b - i0+i1)+c.hold*fe c.start x.days.toNat=P:=⟨_,rfl⟩;obtain⟨Q,hQ⟩: ∃Q,(a - i1+i0)*F=Q:=⟨_,rfl⟩;obtain⟨V,hV⟩: ∃V,pe x c a b=V:=⟨_,rfl⟩;obtain⟨dl,hdl⟩: ∃z,a - i1+i0=z:=⟨_,rfl⟩;rw[hF] at HLE HTI HAL hsum hd1 hd2 hfb;rw[hP] at HAL hsum hd2;rw[hQ] at HTI hsum hd1;rw[hV] at hsum hv⊢;rw[hdl] at HTI;have HDL:=jA hdl;have hdlb:0≤dl∧dl≤4294967296:=by omega
 have HSU:=jA fun rb W h=>ace hx (some ⟨g,o,none⟩) c1 A2 c2 129 rb (.inr (.inl rfl)) P W (by omega) h;have HV:=jA hsum;clear hm hF hP hQ hV hdl hsum;obtain⟨oz,ho⟩: ∃z,a - i1=z:=⟨_,rfl⟩;rw[ho] at bo HDL HAL;obtain⟨W,hW,⟨bx,bq,-⟩,hb,-⟩:=sk w [(25,xC x (some ⟨g,o,none⟩) c1 A2 c2),(103,[.slice (some ⟨go,0,none⟩) 2 2,.slice (some ⟨gi,0,none⟩) 2 2])];simp only[Hk] at hW;obtain⟨k0,k1,k2,k3,k4,k5,-⟩:=bx.iY;have q0:=bq.c 0;have q1:=bq.c 1;have hlx:=bx.lt;have hlq:=bq.lt;go_enter Tryz.func81,Tryz.ntmps81;go_upto_region 2 with fail
 clear hW;obtain⟨rb,hrb⟩: ∃rb,rb=W.heap.size:=⟨_,rfl⟩;have br:=fc.new W 191 (boC x (some ⟨g,o,none⟩) c1 A2 c2 (.slice (some ⟨go,0,none⟩) 2 2) (.slice (some ⟨gi,0,none⟩) 2 2) sN);have ha:=bL (bS W.heap.size W) (.cells (boC x (some ⟨g,o,none⟩) c1 A2 c2 (.slice (some ⟨go,0,none⟩) 2 2) (.slice (some ⟨gi,0,none⟩) 2 2) sN).toArray 191);rw[←hrb] at br⊢;have bx2:=bx.below ha hlx;have bq2:=bq.below ha hlq;have hb2:=hb.trans (ha.mono hb.size);clear k0 k1 k2 k3 k4 k5 q0 q1 hlx hlq bx bq hb ha hrb;revert br bx2 bq2 hb2;generalize W.alloc (.cells (boC x (some ⟨g,o,none⟩) c1 A2 c2 (.slice (some ⟨go,0,none⟩) 2 2) (.slice (some ⟨gi,0,none⟩) 2 2) sN).toArray 191)=W2;intro br bx bq hb;obtain⟨k0,k1,k2,k3,k4,k5,-⟩:=bx.iY;have q0:=bq.c 0;have q1:=bq.c 1;have hlx:=bx.lt;have hlq:=bq.lt;have hlr:=br.lt;have bo2:=HBO.out.below hb HBO.out.lt;rw[ho] at bo2;have bi2:=HBI.out.below hb HBI.out.lt;have o0:=bo2.c 0;have j0:=bi2.c 0;have lo:=bo2.lt;have li:=bi2.lt;have hzb:0≤oz∧oz≤1073741824:=by omega
 have hwd:IntKind.i64.wrap (oz+i0)=dl:=by rw[HDL.out,jB];omega
 refine rB [] fun hS=> ?_;refine tk 0 hS ?_;refine tk 1 hS ?_;refine tk 2 hS ?_;refine tk 3 hS ?_;refine tk 4 hS ?_;refine tk 5 hS ?_;refine tk 6 hS ?_;refine tk 7 hS ?_;refine tk 8 hS ?_;refine tk 9 hS ?_;refine tO 10 fun K hK=> ?_;go_simp;refine(HLE.out _ (HM.out.below (hb.trans (hS.mono hb.size)) (ij _))).mono ?_;rintro e w3 ⟨rfl,hb3⟩;have hS:=hS.trans (hb3.mono hS.size);refine hK.out _ _ (hS) ?_;clear hK K;refine tO 11 fun K hK=> ?_;go_simp;refine(HTI.out _).mono ?_;rintro e w4 ⟨rfl,rfl⟩;refine hK.out _ _ (hS) ?_;clear hK K;refine tk 12 hS ?_;refine tk 13 hS ?_;refine tk 14 hS ?_;refine tk 15 hS ?_;refine tk 16 hS ?_;refine tD ?_;have bx5:=bx.below hS hlx;have br5:=br.below hS hlr;have bo5:=bo2.below hS lo;have bi5:=bi2.below hS li;have hb5:=hb.trans (hS.mono hb.size);clear hS k0 k1 k2 k3 k4 k5 q0 q1 hlx hlq hlr o0 j0 lo li hwd;obtain⟨k0,k1,k2,k3,k4,k5,-⟩:=bx5.iY;have hlx:=bx5.lt;go_wp2_with fail;refine(HSU.out rb _ fun V hV=>HAL.out rb V (br5.below hV br5.lt) (HM.out.below (hb5.trans (hV.mono hb5.size)) (ij _)) (bo5.below hV bo5.lt) (bi5.below hV bi5.lt)).mono ?_;rintro e w6 ⟨rfl,hb6⟩;go_wp2_with fail;refine(M4 P Q w6 (by have:=HV.out;omega) (by have:=HV.out;omega)).mono ?_;rintro e w7 ⟨rfl,rfl⟩;rw[show Em P Q=V by unfold Em;have:=HV.out;omega];go_wp2_with fail;go_ret;exact⟨rfl,hb5.trans (hb6.mono hb5.size)⟩
end
end
section
open Go.Proofs.Tryz
open Go.RowKit jm ko Et kN
theorem PrM.aeU {a b:Int} {W W':World} {pv:Value} {g:Nat} {t:TypeId} {cs:List Value} (h:PrM a b W pv) (hb:fc W g t cs) (ht:t≠3) (hg:W.grownBy W' (some g)):PrM a b W' pv:=by
 obtain⟨go,gi,i0,i1,e,h1,h2,h3⟩:=h;have hne: ∀{k:Nat} {cs':List Value},fc W k 3 cs'→some g≠some k:=fun h e=>by cases e;unfold fc at h hb;rw[h] at hb;cases hb;exact ht rfl
 exact⟨go,gi,i0,i1,e,h1.grown hg (hne h1).symm,h2.grown hg (hne h2).symm,h3⟩
theorem ads (s:Int) (w:World):Calls Tryz.prog 80 #[.int .i64 s] w fun e w'=> ∃st:Int,e= .returned (.pointer (some ⟨w.heap.size,0,none⟩))∧fc w' w.heap.size 188 [.int .u64 st]∧Below w.heap.size w w':=by go_enter Tryz.func80,Tryz.ntmps80;go_wp2;go_ret;exact⟨_,rfl,fc.new _ _ _,bL (bS _ _) _⟩
theorem sr (b:Nat) (st n:Int) (w:World) (hb:fc w b 188 [.int .u64 st]) (hn:1≤n∧n≤9223372036854775807):
  Calls Tryz.prog 82 #[.pointer (some ⟨b,0,none⟩),.int .i64 n] w fun e w'=> ∃k:Int,e= .returned (.int .i64 k)∧(0≤k∧k <n)∧w.grownBy w' (some b)∧ ∃st',fc w' b 188 [.int .u64 st']:=by
 refine(EA b st n w hb hn.2).mono ?_;rintro e w' ⟨k,rfl,h1,-,h⟩
 rcases h with rfl|⟨st',rfl⟩
 ·exact⟨k,rfl,h1 hn.1,nG _ _,st,hb⟩
 ·exact⟨k,rfl,h1 hn.1,grownBy_setCell' w _ _,st',hb.gH 0 _⟩
section
variable {x:fS} {c:kc} {a b:Int} (hx:iF x c a b) (g o:Nat) (c1:Nat) (A2:Option Addr) (c2:Nat) (dm:Int) (A0:Option Addr) (n0 c0:Nat)
include hx
theorem iF.cheap:toL x.gn x.eB.length x.eB.length=[a]:=by rw[hx.len];show [aaE x.gn ((0:Nat):Int) 2]=[a];congr 1;show aaE x.gn 0 2=a;rw[aaE,if_pos (by decide),aaE,if_neg (by decide),aaE];show min (sm x.gn 0 1) (sm x.gn 0 1)=a;rw[Int.min_self,hx.V4.1]
theorem aen (w:World) (hm:qk w g o dm A0 n0 c0 c) (hr:iz w (.agg (xC x (some ⟨g,o,none⟩) c1 A2 c2).toArray) x):
  Calls Tryz.prog 131 #[.agg (xC x (some ⟨g,o,none⟩) c1 A2 c2).toArray] w fun e w'=>e= .returned (.int .i64 (a*dd c x.days))∧Below w.heap.size w w':=by
 have hfb:=hx.fb;have hab:=hx.ab;have hmul:0≤a*dd c x.days∧a*dd c x.days≤1073741824*64:=⟨eS hab.1.1 hfb.1,eX (by omega) hfb.2 hfb.1 (by decide)⟩;have HAR:=jA fun gc oc cc rb W hr h1 h2 h3=>aem hx g o c1 A2 c2 dm A0 n0 c0 sN sN gc oc cc rb W hr h1 h2 h3;have HM:=jA hm;have HR:=jA hr;have HCH:=jA hx.cheap;have hl:=hx.len;have HCP:=jA fun W h=>aer (.agg (xC x (some ⟨g,o,none⟩) c1 A2 c2).toArray) x W h (by omega);obtain⟨P,hP⟩: ∃P,a*dd c x.days=P:=⟨_,rfl⟩;rw[hP] at HAR hmul⊢;have HSU:=jA fun rb W h=>ace hx (some ⟨g,o,none⟩) c1 A2 c2 168 rb (.inr (.inr rfl)) P W (by omega) h;clear hm hr hP hl;obtain⟨W,hW⟩: ∃W,w.alloc (.cells (xC x (some ⟨g,o,none⟩) c1 A2 c2).toArray 25)=W:=⟨_,rfl⟩;have hb:Below w.heap.size w W:=by rw[←hW];exact bL (bS _ _) _
 have bx:fc W w.heap.size 25 (xC x (some ⟨g,o,none⟩) c1 A2 c2):=by rw[←hW];exact fc.new _ _ _
 obtain⟨k0,k1,k2,k3,k4,k5,-⟩:=bx.iY;have hlt:=bx.lt;go_enter Tryz.func131,Tryz.ntmps131;go_upto_region 2 with fail
 clear hW;obtain⟨rb,hrb⟩: ∃rb,rb=W.heap.size:=⟨_,rfl⟩;have br:=fc.new W 191 (boC x (some ⟨g,o,none⟩) c1 A2 c2 sN sN sN);have ha:=bL (bS W.heap.size W) (.cells (boC x (some ⟨g,o,none⟩) c1 A2 c2 sN sN sN).toArray 191);rw[←hrb] at br⊢;have bx2:=bx.below ha hlt;have hb2:=hb.trans (ha.mono hb.size);have hrw:w.heap.size <rb:=by omega
 clear k0 k1 k2 k3 k4 k5 hlt bx hb ha hrb;revert br bx2 hb2;generalize W.alloc (.cells (boC x (some ⟨g,o,none⟩) c1 A2 c2 sN sN sN).toArray 191)=W2;intro br bx hb;obtain⟨k0,k1,k2,k3,k4,k5,-⟩:=bx.iY;have hlx:=bx.lt;have hlr:=br.lt;go_wp2_with fail;refine(HCP.out W2 (HR.out.below hb (ij _))).mono ?_;rintro e w3 ⟨tv,fv,rfl,ht,hf,hown,hb3⟩;rw[HCH.out] at ht;obtain⟨Af,cf,rfl,-⟩:=hf.open_;obtain⟨At,ct,rfl,-,-,htc⟩:=ht.open_;obtain⟨gc,oc,rfl,hgc,hcc⟩:=htc 0 a rfl;have hgn:=hown gc rfl;have hgr:gc≠rb:=by omega
 have br3:=br.below hb3 hlr;have bx3:=bx.below hb3 hlx;have hb4:=hb.trans (hb3.mono hb.size);have f8:=br3.frozen 8;have c8:=br3.c 8;have hlr3:=br3.lt;clear k0 k1 k2 k3 k4 k5 htc ht hf hlx hlr;obtain⟨N,hN⟩: ∃N,(yT x.gn x.eB.length x.eB.length).length=N:=⟨_,rfl⟩;rw[hN];clear hN;go_upto_region 3 with fail
 have br4:=br3.gH 8 (.slice (some ⟨gc,oc,none⟩) 1 ct);have bx4:=bx3.kj (p:=⟨rb,8,none⟩) (by show w.heap.size≠rb;omega) (.slice (some ⟨gc,oc,none⟩) 1 ct);have hb5:=hb4.setCell (p:=⟨rb,8,none⟩) (by show w.heap.size≤rb;omega) (.slice (some ⟨gc,oc,none⟩) 1 ct);have hc4:(w3.setCell ⟨rb,8,none⟩ (.slice (some ⟨gc,oc,none⟩) 1 ct)).cell? ⟨gc,oc,none⟩=some (.int .i64 a):=by rw[oD (fX w3 rb 8 _ gc hgr)];exact hcc
 clear br3 bx3 hb4 f8 c8 hcc;revert br4 bx4 hb5 hc4;generalize w3.setCell ⟨rb,8,none⟩ (.slice (some ⟨gc,oc,none⟩) 1 ct)=w4;intro br bx hb hc;obtain⟨k0,k1,k2,k3,k4,k5,-⟩:=bx.iY;have hlx:=bx.lt;have hlr:=br.lt;have hgl:=aag w4 _ hc;go_wp2_with fail;refine(HSU.out rb w4 fun V hV=>HAR.out gc oc ct rb V (br.below hV hlr) (HM.out.below (hb.trans (hV.mono hb.size)) (ij _)) (a7 hV (ij _) hc) (bP hgl hV.size)).mono ?_;rintro e w5 ⟨rfl,hb6⟩;go_wp2_with fail;go_ret;exact⟨rfl,hb.trans (hb6.mono hb.size)⟩
theorem aeo (pv:Value) (w:World) (hm:qk w g o dm A0 n0 c0 c) (hr:iz w (.agg (xC x (some ⟨g,o,none⟩) c1 A2 c2).toArray) x) (hp:PrM a b w pv):
  Calls Tryz.prog 84 #[.agg (xC x (some ⟨g,o,none⟩) c1 A2 c2).toArray,pv] w fun e w'=>e= .returned (.int .i64 (pe x c a b))∧Below w.heap.size w w':=by
 have HP:=jA hp;obtain⟨go,gi,i0,i1,rfl,-⟩:=hp;have HM:=jA hm;have HR:=jA hr;have HV:=jA fun W h1 h2=>acf hx g o c1 A2 c2 dm A0 n0 c0 (prV go gi) W h1 h2;have HB:=jA fun W h1 h2=>aen hx g o c1 A2 c2 dm A0 n0 c0 W h1 h2;have hle:a*dd c x.days≤pe x c a b:=by
  have hfb:=hx.fb;have hab:=hx.ab;have h1:a*dd c x.days≤dd c x.days*(a+b):=by rw[TT];exact ng (by omega) hfb.1
  have h2:0≤c.hold*fe c.start x.days.toNat:=eS hx.ct.2.2.2.2.2.1 (LC _ _);unfold pe;omega
 obtain⟨V,hV⟩: ∃V,pe x c a b=V:=⟨_,rfl⟩;obtain⟨P,hP⟩: ∃P,a*dd c x.days=P:=⟨_,rfl⟩;rw[hV] at HV hle⊢;rw[hP] at HB hle;clear hm hr hV hP;obtain⟨W,hW,⟨bx,bq,-⟩,hb,-⟩:=sk w [(25,xC x (some ⟨g,o,none⟩) c1 A2 c2),(103,[.slice (some ⟨go,0,none⟩) 2 2,.slice (some ⟨gi,0,none⟩) 2 2])];simp only[Hk] at hW;obtain⟨k0,k1,k2,k3,k4,k5,-⟩:=bx.iY;have q0:=bq.c 0;have q1:=bq.c 1;have hlx:=bx.lt;have hlq:=bq.lt;have hPM:=jA fun V (h:Below w.heap.size w V)=>(show PrM a b V (prV go gi) from HP.out.below h);go_enter Tryz.func84,Tryz.ntmps84;go_upto_region 1 with fail
 clear hW;refine rB [] fun hS=> ?_;refine tk 0 hS ?_;refine tk 1 hS ?_;refine tk 3 hS ?_;refine tO 2 fun K hK=> ?_;go_simp;refine(HV.out _ (HM.out.below (hb.trans (hS.mono hb.size)) (ij _)) (hPM.out _ (hb.trans (hS.mono hb.size)))).mono ?_;rintro e w3 ⟨rfl,hb3⟩;have hS:=hS.trans (hb3.mono hS.size);refine hK.out _ _ (hS) ?_;clear hK K;refine tO 4 fun K hK=> ?_;go_simp;refine(HB.out _ (HM.out.below (hb.trans (hS.mono hb.size)) (ij _)) (HR.out.below (hb.trans (hS.mono hb.size)) (ij _))).mono ?_;rintro e w4 ⟨rfl,hb4⟩;have hS:=hS.trans (hb4.mono hS.size);refine hK.out _ _ (hS) ?_;clear hK K;refine tO 5 fun K hK=> ?_;have hnl: ¬V <P:=by omega
 go_simp;refine hK.out _ _ (hS) ?_;clear hK K;refine tk 6 hS ?_;refine tD ?_;go_wp2_with fail;go_ret;exact⟨Je (by first|omega|(split <;>omega)),hb.trans (hS.mono hb.size)⟩
end
end
section
open Go.Proofs.Tryz
open Go.RowKit jm ko Et kN
structure adn (x:fS) (a b:Int) (g o:Nat) (c1:Nat) (A2:Option Addr) (c2:Nat) (w:World) (sb tb:Nat) (W:World):Prop where
 bx:fc W w.heap.size 25 (xC x (some ⟨g,o,none⟩) c1 A2 c2)
 br:fc W (w.heap.size+1) 103 [sN,sN]
 st: ∃st,fc W sb 188 [.int .u64 st]
 pr: ∃go gi,fc W tb 103 [.slice (some ⟨go,0,none⟩) 2 2,.slice (some ⟨gi,0,none⟩) 2 2]∧PrM a b W (prV go gi)
 ne:w.heap.size+2≤sb∧w.heap.size+2≤tb∧sb≠tb
 bl:Below w.heap.size w W
theorem adn.below {x:fS} {a b:Int} {g o c1:Nat} {A2:Option Addr} {c2:Nat} {w W W':World} {sb tb:Nat} (h:adn x a b g o c1 A2 c2 w sb tb W) (hb:Below W.heap.size W W'):adn x a b g o c1 A2 c2 w sb tb W':=by obtain⟨st,h1⟩:=h.st;obtain⟨go,gi,h2,h3⟩:=h.pr;exact⟨h.bx.below hb h.bx.lt,h.br.below hb h.br.lt,⟨st,h1.below hb h1.lt⟩,⟨go,gi,h2.below hb h2.lt,h3.below hb⟩,h.ne,h.bl.trans (hb.mono h.bl.size)⟩
theorem adn.draw {x:fS} {a b:Int} {g o c1:Nat} {A2:Option Addr} {c2:Nat} {w W W':World} {sb tb:Nat} (h:adn x a b g o c1 A2 c2 w sb tb W) (hg:W.grownBy W' (some sb)) (hs: ∃st,fc W' sb 188 [.int .u64 st]):adn x a b g o c1 A2 c2 w sb tb W':=by obtain⟨st,h1⟩:=h.st;obtain⟨go,gi,h2,h3⟩:=h.pr;have hn:=h.ne;exact⟨h.bx.grown hg (by simp;omega),h.br.grown hg (by simp;omega),hs,⟨go,gi,h2.grown hg (by simp;omega),h3.aeU h1 (by decide) hg⟩,h.ne,h.bl.grown hg h.bl.size (fun k e=>by cases e;omega)⟩
section
variable {x:fS} {c:kc} {a b:Int} (hx:iF x c a b) (g o:Nat) (c1:Nat) (A2:Option Addr) (c2:Nat) (dm:Int) (A0:Option Addr) (n0 c0:Nat)
include hx
theorem adY (sd bud:Int) (w:World) (hm:qk w g o dm A0 n0 c0 c) (hr:iz w (.agg (xC x (some ⟨g,o,none⟩) c1 A2 c2).toArray) x):
  Calls Tryz.prog 50 #[.agg (xC x (some ⟨g,o,none⟩) c1 A2 c2).toArray,.int .i64 sd,.int .i64 bud] w fun e w'=> ∃u,e= .returned (.tuple #[u,.int .i64 (pe x c a b)])∧Below w.heap.size w w':=by
 have HM:=jA hm;have HR:=jA hr;have HL:=jA hx.len;have hA:=hx.V4;have HFI:=jA fun W h=>aeu x hx.len (some ⟨g,o,none⟩) c1 A2 c2 a b hA.1 hA.2.1 hx.ab W h;have HLO:=jA fun pv pl by_ W h1 h2 h3=>aeC x hx.len (some ⟨g,o,none⟩) c1 A2 c2 a b hA.1 hA.2.1 hx.ab pv pl by_ W h1 h2 h3;have HV:=jA fun pv W h1 h2=>acf hx g o c1 A2 c2 dm A0 n0 c0 pv W h1 h2;have HB:=jA fun pv W h1 h2 h3=>aeo hx g o c1 A2 c2 dm A0 n0 c0 pv W h1 h2 h3;have HAB:=jA hx.ab;obtain⟨V,hV⟩: ∃V,pe x c a b=V:=⟨_,rfl⟩;rw[hV] at HV HB⊢;clear hm hr hV hA;obtain⟨W,hW,⟨bx,br,-⟩,hb,-⟩:=sk w [(25,xC x (some ⟨g,o,none⟩) c1 A2 c2),(103,[sN,sN])];simp only[Hk] at hW;obtain⟨k0,k1,k2,k3,k4,k5,-⟩:=bx.iY;have hlx:=bx.lt;have hlr:=br.lt;go_enter Tryz.func50,Tryz.ntmps50;go_wp2_with fail;clear hW;refine(HFI.out W (HR.out.below hb (ij _))).mono ?_;rintro e w2 ⟨pv,rfl,hp,hb2⟩;obtain⟨go,gi,i0,i1,rfl,hpm⟩:=hp;have HP:Hid (PrM a b w2 (prV go gi)):=jA ⟨go,gi,i0,i1,rfl,hpm⟩;have bx2:=bx.below hb2 hlx;have br2:=br.below hb2 hlr;have hbb:=hb.trans (hb2.mono hb.size);have hs2:=hb2.size;clear k0 k1 k2 k3 k4 k5 hpm;go_wp2_with fail;refine(ads sd w2).mono ?_;rintro e w3 ⟨st,rfl,bs,hb3⟩;obtain⟨sb,hsb⟩: ∃k,k=w2.heap.size:=⟨_,rfl⟩;rw[←hsb] at bs hs2⊢;have bx3:=bx2.below hb3 bx2.lt;have br3:=br2.below hb3 br2.lt;have hb4:=hbb.trans (hb3.mono hbb.size);have HP3:=jA (HP.out.below hb3);have hlr3:=br3.lt;have hlr2:=br2.lt;have hls:=bs.lt;go_upto_region 2 with fail
 rw[←hsb];clear hb2 hb3;obtain⟨tb,htb⟩: ∃k,k=w3.heap.size:=⟨_,rfl⟩;have hbt:=bL (bS w3.heap.size w3) (.cells #[.slice (some ⟨go,0,none⟩) 2 2,.slice (some ⟨gi,0,none⟩) 2 2] 103);have bt:=fc.new w3 103 [.slice (some ⟨go,0,none⟩) 2 2,.slice (some ⟨gi,0,none⟩) 2 2];have CS:=jA (show adn x a b g o c1 A2 c2 w sb tb _ from⟨bx3.below hbt bx3.lt,br3.below hbt br3.lt,⟨st,bs.below hbt hls⟩,⟨go,gi,by rw[htb];exact bt,HP3.out.below hbt⟩,⟨by have:=hb.size;omega,by omega,by omega⟩,hb4.trans (hbt.mono hb4.size)⟩);have HP4:=jA (HP3.out.below hbt);rw[←htb] at bt⊢;clear bx3 br3 bx2 br2 hbb bs HP HP3 hb hbt hlr3 hlr2 hls hlx hlr bx br hs2 hb4 htb hsb;revert bt CS HP4;generalize w3.alloc (.cells #[.slice (some ⟨go,0,none⟩) 2 2,.slice (some ⟨gi,0,none⟩) 2 2] 103)=w4;intro bt CS HP4;have bx:=CS.out.bx;obtain⟨k0,k1,k2,k3,k4,k5,-⟩:=bx.iY;have t0:=bt.c 0;have t1:=bt.c 1;have hlx:=bx.lt;have hlt:=bt.lt;go_wp2_with fail;refine(HV.out (prV go gi) w4 (HM.out.below CS.out.bl (ij _)) HP4.out).mono ?_;rintro e w5 ⟨rfl,hb5⟩;have CS5:=jA (CS.out.below hb5);clear k0 k1 k2 k3 k4 k5 t0 t1 hlx hlt bx bt CS HP4 hb5;go_wp2_with fail;refine(uh _ _ _ _).mono ?_;rintro e w6 ⟨rfl,rfl⟩;obtain⟨N,hN⟩: ∃N,kO bud 0 1000=N:=⟨_,rfl⟩;have hNb:N≤1000:=by unfold kO at hN;omega
 rw[hN];clear hN;go_wp2_with fail;go_loopw [10,24] (fun mv iv wr=> ∃i:Nat,mv= .int .i64 V∧iv= .int .i64 i∧Hid (adn x a b g o c1 A2 c2 w sb tb wr)) (fun _ iv _=>(N - intOf iv).toNat)
 case atStart=>exact⟨0,rfl,rfl,CS5⟩
 case round=>
  obtain⟨i,rfl,rfl,HC⟩:=hrel;by_cases hlt:(i:Int) <N
  ·obtain⟨go2,gi2,bt,hp⟩:=HC.out.pr;have HPc:=jA hp;obtain⟨st2,hst⟩:=HC.out.st;have bx:=HC.out.bx;obtain⟨k0,k1,k2,k3,k4,k5,-⟩:=bx.iY;have t0:=bt.c 0;have t1:=bt.c 1;have hlx:=bx.lt;have hlt2:=bt.lt;have hls:=hst.lt;clear bx bt hp;have hw2:wrap64 ((x.eB.length:Int)+1)=2:=by rw[HL.out];exact qO _ (by omega)
   go_wp2_with fail;refine(sr sb st2 _ wr hst (by omega)).mono ?_;rintro e w7 ⟨pl,rfl,hpl,hg7,st7,hs7⟩;obtain⟨pl,rfl⟩:=fw hpl.1;have C7:=jA (HC.out.draw hg7 ⟨st7,hs7⟩);clear k0 k1 k2 k3 k4 k5 t0 t1 hlx hlt2 hls hg7 hst HC HPc hw2;obtain⟨go2,gi2,bt,hp⟩:=C7.out.pr;have HPc:=jA hp;obtain⟨gog,gig,i0,i1,hpe,-,bi,hbd⟩:=hp;cases hpe;have bx:=C7.out.bx;obtain⟨k0,k1,k2,k3,k4,k5,-⟩:=bx.iY;have t0:=bt.c 0;have t1:=bt.c 1;have hlx:=bx.lt;have hlt2:=bt.lt;have hls:=hs7.lt;have hlg:=bi.lt;have hab:=HAB.out;obtain⟨z,hz,hzb⟩: ∃z,w7.cell? ⟨gi2,pl,none⟩=some (.int .i64 z)∧0≤z∧z≤1073741824:=by
    obtain rfl|rfl:pl=0∨pl=1:=by omega
    ·exact⟨i0,bi.c 0,by omega⟩
    ·exact⟨i1,bi.c 1,by omega⟩
   clear bi;have hp2:pl <2:=by omega
   have hwz:wrap64 (z+1)=z+1:=qO _ (by omega);go_wp2_with fail;refine(sr sb st7 _ w7 hs7 (by omega)).mono ?_;rintro e w8 ⟨k,rfl,hk,hg8,st8,hs8⟩;have C8:=jA (C7.out.draw hg8 ⟨st8,hs8⟩);have hps8:=jA (HPc.out.aeU hs7 (by decide) hg8);have hbt8:=bt.grown hg8 (by have:=C7.out.ne;simp;omega);clear k0 k1 k2 k3 k4 k5 t0 t1 hlx hlt2 hls hg8 hs7 C7 HPc bx bt hlg hz hwz;have bx:=C8.out.bx;obtain⟨k0,k1,k2,k3,k4,k5,-⟩:=bx.iY;have t0:=hbt8.c 0;have t1:=hbt8.c 1;have hlx:=bx.lt;have hlt2:=hbt8.lt;have hls:=hs8.lt;go_wp2_with fail;refine(HLO.out (prV go2 gi2) pl k w8 hp2 hps8.out (HR.out.below C8.out.bl (ij _))).mono ?_;rintro e w9 ⟨pv',rfl,hp9,hb9⟩;have C9:=jA (C8.out.below hb9);have HP9:=jA hp9;obtain⟨go3,gi3,-,-,rfl,-⟩:=hp9;clear k0 k1 k2 k3 k4 k5 t0 t1 hlx hlt2 hls hs8 C8 bx hbt8 hps8;go_upto_region 8 with fail
   have hbt:=bL (bS w9.heap.size w9) (.cells #[.slice (some ⟨go3,0,none⟩) 2 2,.slice (some ⟨gi3,0,none⟩) 2 2] 103);have bt:=fc.new w9 103 [.slice (some ⟨go3,0,none⟩) 2 2,.slice (some ⟨gi3,0,none⟩) 2 2];have CA:=jA (C9.out.below hbt);have HPA:=jA (HP9.out.below hbt);obtain⟨qb,hqb⟩: ∃k,k=w9.heap.size:=⟨_,rfl⟩;rw[←hqb] at bt⊢;clear C9 HP9 hbt hqb;revert bt CA HPA;generalize w9.alloc (.cells #[.slice (some ⟨go3,0,none⟩) 2 2,.slice (some ⟨gi3,0,none⟩) 2 2] 103)=wa;intro CA HPA bt;have bx:=CA.out.bx;obtain⟨k0,k1,k2,k3,k4,k5,-⟩:=bx.iY;have t0:=bt.c 0;have t1:=bt.c 1;have hlx:=bx.lt;have hlt2:=bt.lt;go_wp2_with fail;refine(HV.out (prV go3 gi3) wa (HM.out.below CA.out.bl (ij _)) HPA.out).mono ?_;rintro e wb ⟨rfl,hbb⟩;have CB:=jA (CA.out.below hbb);clear k0 k1 k2 k3 k4 k5 t0 t1 hlx hlt2 bx bt CA HPA hbb;have hVV: ¬V>V:=by omega
   go_wp2_with fail;go_roundw
   case rel=>exact⟨i+1,rfl,by go_num,CB⟩
   case measure=>exact mI
  ·go_upto_region 12 with fail
   obtain⟨go2,gi2,bt,hp⟩:=HC.out.pr;have HPc:=jA hp;have bx:=HC.out.bx;have hlx:=bx.lt;have hlt2:=bt.lt;have br:=HC.out.br;have hlr:=br.lt;have hbl:=HC.out.bl;have hne:=HC.out.ne;obtain⟨k0,k1,k2,k3,k4,k5,-⟩:=bx.iY;have t0:=bt.c 0;have t1:=bt.c 1;refine rB [4,5] fun hS=> ?_;refine tk 0 hS ?_;refine tk 1 hS ?_;refine tk 2 hS ?_;refine tO 3 fun K hK=> ?_;go_simp;refine(HB.out (prV go2 gi2) _ (HM.out.below (hbl.trans (hS.mono hbl.size)) (ij _)) (HR.out.below (hbl.trans (hS.mono hbl.size)) (ij _)) (HPc.out.below hS)).mono ?_;rintro e w3 ⟨rfl,hb3⟩;have hS:=hS.trans (hb3.mono hS.size);refine hK.out _ _ (hS) ?_;clear hK K;refine tL 4 fun K hK=> ?_;refine gY _ 103 (.tmp 6) (.tmp 54) rfl (w.heap.size+1) 103 _ [.slice (some ⟨go2,0,none⟩) 2 2,.slice (some ⟨gi2,0,none⟩) 2 2] (br.below hS hlr) rfl rfl np rfl rfl ?_;intro w9 b9 hg9 hz9;refine hK.out _ _ ?_;clear hK K;refine tL 5 fun K hK=> ?_;go_simp;refine hK.out _ _ ?_;clear hK K;refine tD ?_;go_wp2_with fail;refine bodyPost_ret (iw rfl _ _ (w.heap.size+1) 103 [.slice (some ⟨go2,0,none⟩) 2 2,.slice (some ⟨gi2,0,none⟩) 2 2] _ (.int .i64 V) rfl rfl b9 Tryz.underlying103 rfl np) rfl ⟨⟨_,rfl⟩,(hbl.trans (hS.mono hbl.size)).grown hg9 (by have:=hS.size;have:=hbl.size;omega) (fun k e=>by cases e;omega)⟩
end
end
end Go.Proofs.YtgimnjldndkalaaGreatDoor
