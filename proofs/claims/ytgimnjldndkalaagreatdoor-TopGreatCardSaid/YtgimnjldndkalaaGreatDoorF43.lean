/- Of the proof of TopGreat: slices.Clone of stops: a list of the call's own. -/
import Derived.Test.YtgimnjldndkalaaGreatDoorF8
import Derived.Test.YtgimnjldndkalaaGreatDoorF10
set_option linter.all false
set_option maxHeartbeats 2000000
set_option maxRecDepth 100000
namespace Go.Proofs.YtgimnjldndkalaaGreatDoor
section
open Go.Proofs.Tryz
open Go.RowKit jm ko kN
def GB (A:Option Addr) (n c:Nat) (w:World):(binOp .eql 42 (.slice A n c) ()).run prog w=.ok (.bool A.isNone) w:=by simp only[binOp];simp[run_equal_slice_nil w 42 84 A n c underlying42]
def uH (m:Value) (t:Tr) (w:World) (f:RL 2 iH w m t) (D:t.length<=1000000):
  Calls prog 280 #[m] w fun e w'=> ∃l,e=.returned l/\OS w w' l t/\Below w w w':=by
 have j:=zH f;have E:=fun(A:Option Addr) (n c:Nat) (w:World)=>GB A n c w;obtain⟨A,c,rfl,B,C,h⟩:=fQ.open_ f;cases A with
 |none=>
  have r:t=[]:=by
   cases t with
   |nil=>rfl
   |cons s t=>obtain⟨b,o,u,-⟩:=h 0 s rfl;cases u
  subst r;clear f h j;go_enter func280,ntmps280;go_wp2_with fail;go_ret;exact⟨_,rfl,OS.jL _ _,bS _ _⟩
 |some p=>
  obtain⟨F,H,G⟩:=p;clear f h;have v:OS w (w.alloc (cB 84 [])) (.slice w 0 0) []:=⟨rfl,.inr ⟨w,0,#[],rfl,lE,fc.new w 84 [],lE,by simp[maxLen],rfl,rfl⟩⟩;have a:=bL (bS w w) (cB 84 []);have q:=zH (fQ.rs (fQ.below j a lE));go_enter func280,ntmps280;go_wp2_with (at_builtin;refine nL _ rfl (.tmp 5) (.tmp 6) 42 rfl w 84 _ 2 16 underlying42 nU rfl dE dE _ 0 _ v rfl _ t c (t.flatMap gV) rfl q (mK t) oG sI ?_;intro x y d i;have g:=i.below sI);have k:OS w y x t:=by rw[gW] at d;exact d
  obtain⟨z,c5,rfl,-⟩:=k.slice;go_ret;exact⟨_,rfl,k,a.trans g⟩
end
section
open Go.Proofs.Tryz
open Go.RowKit jm
theorem ae3{p:Prop}(h:p:=by
 go_wp2_with fail;go_roundw
 case rel=>exact⟨i+1,by omega,by go_num,by rw[HN.out];congr 1;omega,by congr 1;omega,trivial⟩
 case measure=>exact mI):p:=h
section
variable (dm:Int) (A0:Option Addr) (n0 c0:Nat) (size start hold:Int)
theorem adx (there cap:Int) (w:World) (hs:1≤size∧size≤2147483648) (ht:0≤there∧there≤4611686018427387904) (hc:size≤cap∧cap≤2147483648):
  Calls Tryz.prog 269 #[.agg (pL dm A0 n0 c0 size start hold).toArray,.int .i64 there,.int .i64 cap] w fun e w'=>e= .returned (.int .i64 (max (size - there) 0))∧Below w.heap.size w w':=by
 have hb:=bL (bS w.heap.size w) (.cells (pL dm A0 n0 c0 size start hold).toArray 47);have bx:=fc.new w 47 (pL dm A0 n0 c0 size start hold);have x4:=bx.c 4;have x6:=bx.c 6;have h2:decide (cap <0)=false:=decide_eq_false (by omega);by_cases h:size - there <1
 ·have e1:max (size - there) 0=0:=by omega
  rw[e1];have h1:decide (size - there <1)=true:=decide_eq_true h;go_enter Tryz.func269,Tryz.ntmps269;go_wp2_with fail;go_ret;exact⟨rfl,hb⟩
 ·have e1:max (size - there) 0=size - there:=by omega
  rw[e1];have h1:decide (size - there <1)=false:=decide_eq_false h;have h3:decide (size - there≤cap)=true:=decide_eq_true (by omega);go_enter Tryz.func269,Tryz.ntmps269;go_wp2_with fail;go_ret;exact⟨rfl,hb⟩
theorem ac1 (n:Int) (w:World) (hs:0≤start∧start≤2147483648) (hn:0≤n∧n≤64):
  Calls Tryz.prog 207 #[.agg (pL dm A0 n0 c0 size start hold).toArray,.int .i64 n] w fun e w'=>e= .returned (.int .i64 (max (n - start) 0))∧Below w.heap.size w w':=by
 have hb:=bL (bS w.heap.size w) (.cells (pL dm A0 n0 c0 size start hold).toArray 47);have bx:=fc.new w 47 (pL dm A0 n0 c0 size start hold);have x3:=bx.c 3;have x5:=bx.c 5;go_enter Tryz.func207,Tryz.ntmps207;go_wp2_with fail;all_goals go_ret
 all_goals exact⟨Je (by omega),hb⟩
theorem aeA (n:Nat) (w:World) (hs:0≤start∧start≤2147483648) (hh:0≤hold∧hold≤1024) (hn:n≤64):
  Calls Tryz.prog 212 #[.agg (pL dm A0 n0 c0 size start hold).toArray,.int .i64 (n:Int)] w fun e w'=>e= .returned (.int .i64 (hold*fe start n))∧Below w.heap.size w w':=by
 obtain⟨W,hW⟩: ∃W,w.alloc (.cells (pL dm A0 n0 c0 size start hold).toArray 47)=W:=⟨_,rfl⟩;have hb:Below w.heap.size w W:=by rw[←hW];exact bL (bS _ _) _
 have bx:fc W w.heap.size 47 (pL dm A0 n0 c0 size start hold):=by rw[←hW];exact fc.new _ _ _
 have HS:=jA hs;have HH:=jA hh;go_enter Tryz.func212,Tryz.ntmps212;go_wp2_with fail;clear hW;have x5:=bx.c 5;have hlt:=bx.lt;refine rB [] fun hS=> ?_;refine tk 0 hS ?_;refine tk 1 hS ?_;refine tk 2 hS ?_;refine tk 3 hS ?_;refine tD ?_;go_wp2_with fail;go_loopw [5,6,10] (fun sv tv iv wr=> ∃i:Nat,i≤n∧iv= .int .i64 i∧sv= .int .i64 (fe start i)∧tv= .int .i64 (start - i)∧wr=W.drew) (fun _ _ iv _=>n - (intOf iv).toNat)
 case atStart=>exact⟨0,eC _,rfl,rfl,by simp,rfl⟩
 case round=>
  obtain⟨i,hi,rfl,rfl,rfl,rfl⟩:=hrel;have x3:=bx.drew.c 3;have x7:=bx.drew.c 7;have HK:=jA (LA i start hs.2);by_cases hlt2:i <n
  ·have HN:=jA (acw i start);obtain⟨k,hk⟩: ∃k,fe start i=k:=⟨_,rfl⟩;rw[hk] at HK HN⊢;have hkb:=HK.out;by_cases h0:start - i - 1 <0
   ·exact ae3
   ·exact ae3
  ·obtain rfl:i=n:=by omega
   obtain⟨k,hk⟩: ∃k,fe start i=k:=⟨_,rfl⟩;rw[hk] at HK⊢;have hkb:=HK.out;have hmul:0≤hold*k∧hold*k≤1024*137438953472:=⟨eS hh.1 hkb.1,eX hh.2 (by omega) hkb.1 (by decide)⟩;go_wp2_with fail;go_ret;exact⟨by rw[hk];rfl,hb.drew⟩
theorem acs (c:kc) (n:Int) (cap:Int) (w:World) (hc:c.jU=1∧(1≤c.size∧c.size≤2147483648)∧(0≤c.start∧c.start≤2147483648)) (hp:c.size≤cap∧cap≤2147483648) (hn:0≤n∧n≤64):
  Calls Tryz.prog 206 #[.agg (pL dm A0 n0 c0 c.size c.start hold).toArray,.int .i64 n,.int .i64 cap] w fun e w'=>e= .returned (.int .i64 (dd c n))∧Below w.heap.size w w':=by
 obtain⟨h1,h2,h3⟩:=hc;obtain⟨Z,hZ⟩: ∃z,dd c n=z:=⟨_,rfl⟩;rw[hZ];have HZ:Hid (Z=if max (n - c.start) 0=0 then 0 else min (ix (max (n - c.start) 0) c.size) n):=jA (by rw[←hZ];unfold dd gw;rw[h1,Int.one_mul]);clear hZ h1;generalize c.size=size at*;generalize c.start=start at*;obtain⟨W,hW⟩: ∃W,w.alloc (.cells (pL dm A0 n0 c0 size start hold).toArray 47)=W:=⟨_,rfl⟩;have hb:Below w.heap.size w W:=by rw[←hW];exact bL (bS _ _) _
 have bx:fc W w.heap.size 47 (pL dm A0 n0 c0 size start hold):=by rw[←hW];exact fc.new _ _ _
 have hlt:=bx.lt;obtain⟨x0,x1,x2,x3,x4,x5,x6,x7,-⟩:=bx.iY;go_enter Tryz.func206,Tryz.ntmps206;go_wp2_with fail;refine(ac1 dm A0 n0 c0 size start hold n W h3 hn).mono ?_;rintro e w2 ⟨rfl,hb2⟩;obtain⟨m,hm⟩: ∃m,max (n - start) 0=m:=⟨_,rfl⟩;rw[hm] at HZ⊢;have hm2:0≤m∧m≤64:=by omega
 clear hm x0 x1 x2 x3 x4 x5 x6 x7;have hbb:=hb.trans (hb2.mono hb.size);have x4:=(bx.below hb2 hlt).c 4;by_cases h0:m=0
 ·have e0:(m==0)=true:=by simp[h0]
  go_wp2_with fail;go_ret
  exact⟨by rw[HZ.out,if_pos h0];rfl,hbb⟩
 ·have e0:(m==0)=false:=by simp[h0]
  have e1:decide (size <1)=false:=decide_eq_false (by omega);go_wp2_with fail
  case' inr=>obtain rfl:size=cap:=by omega
  all_goals
   refine(ado m _ w2 hm2.1 (by omega) (by omega) (by omega)).mono ?_;rintro e w3 ⟨rfl,rfl⟩;have hc0:=aaM hm2.1 h2.1;obtain⟨k,hk⟩: ∃k,ix m size=k:=⟨_,rfl⟩;rw[hk] at HZ hc0⊢;clear hk;go_wp2_with fail;all_goals go_ret
   all_goals exact⟨Je (by have:=HZ.out;rw[if_neg h0] at this;omega),hbb⟩
end
end
section
open Go.Proofs.Tryz
open Go.RowKit jm ko Et kN
theorem ae5{p:Prop}(h:p:=by
 go_wp2_with fail;go_roundw
 case rel=>exact⟨i+1,s2,H,by go_num,R,Q,C,G⟩
 case measure=>exact mI):p:=h
abbrev NG (a0 a1:Int) (A0:Option Addr) (n0 c0:Nat) (jU size start lR hold:Int):List Value:=[a0,a1,.slice A0 n0 c0,jU,size,start,lR,hold]
def LR (l m:Int) (k:Option Addr) (r c0:Nat) (d size a j f:Int) (v:Value) (q:List Int) (w:World) (hr:gx w .i64 v q) (hq:q.length<=1000)
  (hs:0<=a/\a<=size) (hz:size<=2147483648) (ae:0<=d/\d<=2147483648):
  Calls prog 185 #[.agg (NG l m k r c0 d size a j f).toArray,v] w fun e w'=> ∃z:Int,e=.returned z/\((z=0->pX d size a q=0)/\(j≠1->z=pX d size a q))/\Below w w w':=by
 obtain⟨A,c,rfl,h1,h2,hc⟩:=hr.open_;obtain⟨HC,HR⟩:=Zb hc hr;clear hr hc;have D:=bL (bS w w) (cB 47 (NG l m k r c0 d size a j f));have O:=fc.new w 47 (NG l m k r c0 d size a j f);go_enter func185,ntmps185;go_wp2_with fail;refine(Bs l m k r c0 d size a j f _ q _ (HR.below D lE) hq hs hz ae).mono ?_;rintro e w1 ⟨u,rfl,hu,F⟩;obtain⟨Au,cu,rfl,-⟩:=hu.open_;obtain⟨E,Y⟩:=nR (pX d size a q);rw[Y];have P:=zH Y;clear Y;have x:=D.trans (F.mono sI);replace O:=O.below F sI;have x6:=O.cell 6;have xs:=O.iY;simp only[df,fK,im,Nat.reduceAdd] at x6 xs;obtain⟨x0,x1,x2,x3,X,x5,-,x7,-⟩:=xs;clear hu F D;by_cases t:E=0
 ·have Z:(E !=0)=false:=by simp[t]
  by_cases B:j=1
  ·have aa:(j !=1)=false:=by simp[B]
   go_wp2_with fail;refine(Jq l m k r c0 d size a 1 f w1).mono ?_;rintro e w2 ⟨rfl,rfl⟩;have S:=bL (bL x (cB 47 [l,m,.slice k r c0,d,size,a,.int .i64 1,f])) (cB 3 [a]);have K:=x.size;have M:=fc.fW (w1.alloc (cB 47 [l,m,.slice k r c0,d,size,a,.int .i64 1,f])) 3 [a] (g:=w1.heap.size+1) sI;have L:=(fc.new w1 47 [l,m,.slice k r c0,d,size,a,.int .i64 1,f]).alloc (cB 3 [a]);have N:=(O.alloc (cB 47 [l,m,.slice k r c0,d,size,a,.int .i64 1,f])).alloc (cB 3 [a]);go_wp2_with fail;go_loopw [28] (fun iv wr=> ∃(i:Nat) (V:Int),i<=q/\iv=.int .i64 i/\fc wr (w1+1) 3 [V]/\fc wr w1 47 [l,m,.slice k r c0,d,size,a,.int .i64 1,f]/\fc wr w 47 (NG l m k r c0 d size a j f)/\Below w w wr) (fun iv _=>q.length-(intOf iv).toNat)
   case atStart=>exact⟨0,a,eC _,rfl,M,L,N,S⟩
   case round=>
    clear M L N S x0 x1 x2 x3 X x5 x6 x7 O x;obtain⟨i,V,hi,rfl,M,L,N,x⟩:=hrel;by_cases H:i<q
    ·obtain⟨z,U⟩: ∃z,q[i]? =some z:=⟨_,fp H⟩;obtain⟨b,o,rfl,ah,y⟩:=HC i z U;replace y:=a7 x lE y;have X:=N.c 4;clear U;go_wp2_with fail;refine(Ie z V d (w1+1) w1 wr M oG (L.cell 3)).mono ?_;rintro e W ⟨rfl,nd,n⟩;obtain⟨s,I⟩:=nR (wrap64 (V+z));obtain⟨s2,J⟩:=nR (wrap64 (s-d));rw[I,J] at n;rw[I,J];have R:fc W (w1+1) 3 [s2]:=by rw[n];exact M.gH 0 _
     have Q:fc W w1 47 [l,m,.slice k r c0,d,size,a,.int .i64 1,f]:=by rw[n];exact L.kj (p:=pB (w1+1)) dO _
     have C:fc W w 47 (NG l m k r c0 d size a j f):=by rw[n];exact N.kj (p:=pB (w1+1)) dO _
     have G:Below w w W:=by rw[n];exact yC (x.setCell (p:=pB (w1+1)) dO _) nd
     clear n I J M L N x X;have X:=C.c 4;by_cases T:z>0
     ·have ag:decide (z>0)=true:=decide_eq_true T;by_cases K:s=size
      ·have af:(s !=size)=false:=by simp[K]
       exact ae5
      ·have af:(s !=size)=true:=by simp[K]
       go_wp2_with fail;go_ret
       exact⟨9,rfl,⟨fun h=>oG,fun h=>absurd B h⟩,G⟩
     ·have ag:decide (z>0)=false:=decide_eq_false T;exact ae5
    ·go_wp2_with fail;go_ret
     exact⟨0,rfl,⟨fun _=>P.trans t,fun h=>absurd B h⟩,x⟩
  ·have aa:(j !=1)=true:=by simp[B]
   go_wp2_with fail;go_ret
   exact⟨0,rfl,⟨fun _=>P.trans t,fun _=>(P.trans t).symm⟩,x⟩
 ·have Z:(E !=0)=true:=by simp[t]
  go_wp2_with fail;go_ret
  exact⟨E,rfl,⟨fun h=>P.trans h,fun _=>P.symm⟩,x⟩
end
section
open Go.Proofs.Tryz
open Go.RowKit jm ko Et kN
def tu (f:Int→Int) (s:Int):Nat→Int
 |0=>s
 |i+1=>tu f s i+(f (tu f s i) - 1)
def Kb (f:Int→Int) (s:Int):Nat→List Int
 |0=>[]
 |i+1=>Kb f s i++[f (tu f s i)]
theorem BR (f:Int→Int) (s:Int): ∀i,(Kb f s i).length=i
 |0=>rfl
 |i+1=>by rw[Kb,fa,BR f s i];rfl
theorem aek {f:Int→Int} (hf: ∀t,0≤f t∧f t≤2147483648) {s:Int} (hs:0≤s∧s≤2147483648): ∀i:Nat,-(i:Int)≤tu f s i∧tu f s i≤2147483648*(i+1)
 |0=>by rw[tu];omega
 |i+1=>by have:=aek hf hs i;have:=hf (tu f s i);rw[tu];omega
section
variable (dm:Int) (A0:Option Addr) (n0 c0:Nat) (size start hold:Int)
theorem adA (f:Int→Int) (hf: ∀t,0≤f t∧f t≤2147483648) (F cb pb:Nat) (hF:F=292∨F=293) (n:Nat) (w:World) (hs:0≤start∧start≤size) (hz:size≤2147483648) (hn:n≤64)
  (hcall: ∀(t:Int) (W:World),Below w.heap.size w W→(-64≤t∧t≤1099511627776)→Calls Tryz.prog F #[.int .i64 t,.pointer (some ⟨cb,0,none⟩),.pointer (some ⟨pb,0,none⟩)] W fun e W'=>e= .returned (.int .i64 (f t))∧Below W.heap.size W W'):
  Calls Tryz.prog 291 #[.agg (pL dm A0 n0 c0 size start hold).toArray,.int .i64 (n:Int),.func (.func F) #[] #[.pointer (some ⟨cb,0,none⟩),.pointer (some ⟨pb,0,none⟩)]] w fun e w'=>
   ∃lv,e= .returned (.tuple #[lv,.bool (decide (pX 1 size start (Kb f start n)=0))])∧OI w.heap.size w' lv (Kb f start n)∧Below w.heap.size w w':=by
 obtain⟨W,hW⟩: ∃W,w.alloc (.cells (pL dm A0 n0 c0 size start hold).toArray 47)=W:=⟨_,rfl⟩;have hb:Below w.heap.size w W:=by rw[←hW];exact bL (bS _ _) _
 have bx:fc W w.heap.size 47 (pL dm A0 n0 c0 size start hold):=by rw[←hW];exact fc.new _ _ _
 have HCALL:=jA hcall;have HFB:=jA hf;have HB:=jA fun i=>aek hf (s:=start) (by omega) i;have hlt:=bx.lt;have x5:=bx.c 5;clear hf hcall;go_enter Tryz.func291,Tryz.ntmps291;go_wp2_with fail;clear hW x5;go_loopw [8,9,14] (fun lv tv iv wr=> ∃i:Nat,i≤n∧iv= .int .i64 i∧Hid (OI (w.heap.size+1) wr lv (Kb f start i))∧tv= .int .i64 (tu f start i)∧fc wr w.heap.size 47 (pL dm A0 n0 c0 size start hold)∧Below w.heap.size w wr) (fun _ _ iv _=>n - (intOf iv).toNat)
 case atStart=>exact⟨0,eC _,rfl,jA (OI.jL _ _),rfl,bx,hb⟩
 case round=>
  clear bx hb hlt;obtain⟨i,hi,rfl,HO,rfl,bx,hb⟩:=hrel;have hlt:=bx.lt;have hsz:=hb.size;obtain⟨Al,cl,rfl,-⟩:=HO.out.slice;by_cases hlt2:i <n
  ·have hbd:=HB.out i;have HT:Hid (tu f start (i+1)=tu f start i+(f (tu f start i) - 1)):=jA rfl;have HQ:Hid (Kb f start (i+1)=Kb f start i++[f (tu f start i)]):=jA rfl;have hln:=BR f start i;have hfb:=HFB.out (tu f start i);have HC2:=jA (fun W h=>HCALL.out (tu f start i) W h (by omega));obtain⟨t,ht⟩: ∃t,tu f start i=t:=⟨_,rfl⟩;obtain⟨L,hL⟩: ∃L,Kb f start i=L:=⟨_,rfl⟩;rw[ht] at HT HQ hbd hfb HC2⊢;rw[hL] at HO HQ hln⊢;obtain⟨z,hzz⟩: ∃z,f t=z:=⟨_,rfl⟩;rw[hzz] at HT HQ hfb HC2;have hl1:L.length≤1000000000:=by omega
   clear ht hL hzz hln
   rcases hF with rfl|rfl
   all_goals
    go_wp2_with fail;refine(HC2.out wr hb).mono ?_;rintro e w3 ⟨rfl,hb3⟩;have HO3:=jA (HO.out.below hb3 (ij _));have bx3:=bx.below hb3 hlt;have hb4:=hb.trans (hb3.mono hsz);have hlt3:=bx3.lt;have TP:=hb4.size;go_wp2_with (at_builtin;refine qu _ rfl (.tmp 19) (.tmp 21) rfl (w.heap.size+1) _ L HO3.out rfl z rfl rfl hl1 (by omega) ?_;intro g cap w5 ho5 hg5 hg6 hk5 hz5;have bx5:=bx3.below (hk5.below (by omega)) (by omega);have x3:=bx5.c 3);have hb5:=hb4.trans ((hk5.below (by omega)).mono (by omega));go_roundw
    case rel=>exact⟨i+1,hlt2,by go_num,jA (by rw[HQ.out];exact ho5),by rw[HT.out],bx5,hb5⟩
    case measure=>exact mI
  ·obtain rfl:i=n:=by omega
   have hln:=BR f start i;obtain⟨L,hL⟩: ∃L,Kb f start i=L:=⟨_,rfl⟩;rw[hL] at HO hln⊢;have hL2:=jA hL;obtain⟨x0,x1,x2,x3,x4,x5,x6,x7,-⟩:=bx.iY;have hl1:L.length≤1000:=by omega
   clear hL hln;go_wp2_with fail;refine(LR 2 dm A0 n0 c0 1 size start 2 hold _ L wr HO.out.reads hl1 hs hz (by omega)).mono ?_;rintro e w3 ⟨E,rfl,⟨-,hE⟩,hb3⟩;have HE:=jA (hE (by decide));have hb4:=hb.trans (hb3.mono hsz);have HO3:=jA (HO.out.below hb3 (ij _));clear hE x0 x1 x2 x3 x4 x5 x6 x7;go_wp2_with fail
   go_ret2
   exact⟨_,by rw[hL2.out,←HE.out];rfl,by rw[hL2.out];exact HO3.out.mono (by omega),hb4⟩
theorem ad0 (t cap:Int) (cb pb:Nat) (w:World) (hc:fc w cb 47 (pL dm A0 n0 c0 size start hold)) (hp:fc w pb 3 [.int .i64 cap]) (hs:1≤size∧size≤2147483648) (hcap:size≤cap∧cap≤2147483648) (ht: -64≤t∧t≤1099511627776):
  Calls Tryz.prog 292 #[.int .i64 t,.pointer (some ⟨cb,0,none⟩),.pointer (some ⟨pb,0,none⟩)] w fun e w'=>e= .returned (.int .i64 (max (size - max t 0) 0))∧Below w.heap.size w w':=by
 obtain⟨x0,x1,x2,x3,x4,x5,x6,x7,-⟩:=hc.iY;have y0:=hp.c 0;have l1:=hc.lt;have l2:=hp.lt;clear hc hp;go_enter Tryz.func292,Tryz.ntmps292;go_wp2_with fail;all_goals
  refine(adx dm A0 n0 c0 size start hold _ cap w hs (by omega) hcap).mono ?_;rintro e w2 ⟨rfl,hb2⟩;go_wp2_with fail;go_ret;exact⟨Je (by omega),hb2⟩
theorem aeB (t cap:Int) (cb pb:Nat) (w:World) (hc:fc w cb 47 (pL dm A0 n0 c0 size start hold)) (hp:fc w pb 3 [.int .i64 cap]) (hs:1≤size∧size≤2147483648) (hcap:size≤cap∧cap≤2147483648) (ht: -64≤t∧t≤1099511627776):
  Calls Tryz.prog 293 #[.int .i64 t,.pointer (some ⟨cb,0,none⟩),.pointer (some ⟨pb,0,none⟩)] w fun e w'=>e= .returned (.int .i64 (if 1≤t then 0 else max (size - max t 0) 0))∧Below w.heap.size w w':=by
 obtain⟨x0,x1,x2,x3,x4,x5,x6,x7,-⟩:=hc.iY;have y0:=hp.c 0;have l1:=hc.lt;have l2:=hp.lt;clear hc hp;go_enter Tryz.func293,Tryz.ntmps293;by_cases h1:1≤t
 ·go_wp2_with fail;go_ret
  exact⟨Je (by first|omega|(split <;>omega)),bS _ _⟩
 ·go_wp2_with fail;all_goals
   refine(adx dm A0 n0 c0 size start hold _ cap w hs (by omega) hcap).mono ?_;rintro e w2 ⟨rfl,hb2⟩;go_wp2_with fail;go_ret;exact⟨Je (by first|omega|(split <;>omega)),hb2⟩
end
end
section
open Go.Proofs.Tryz
open Go.RowKit jm ko Et kN
def adJ (f:Int->Int):Int->Nat->List Int
 |_,0=>[]
 |s,n+1=>f s::adJ f (s+(f s-1)) n
theorem ac3 (f:Int->Int): ∀(n:Nat) (s:Int),tu f s (n+1)=tu f (s+(f s-1)) n
 |0,s=>rfl
 |n+1,s=>by rw[tu,ac3 f n s];rfl
theorem ac2 (f:Int->Int): ∀(n:Nat) (s:Int),adJ f s (n+1)=adJ f s n++[f (tu f s n)]
 |0,s=>rfl
 |n+1,s=>by rw[adJ,ac2 f n,ac3];rfl
theorem afk (f:Int->Int) (s:Int): ∀n:Nat,Kb f s n=adJ f s n
 |0=>rfl
 |n+1=>by rw[Kb,ac2,afk f s n]
theorem adr {size:Int} (i:1<=size/\size<=2147483648): ∀(n:Nat) (s:Int),0<=s/\s<=size->Uf (adJ (fun t=>max (size-max t 0) 0) s n)=true/\(oA 1 size s (adJ (fun t=>max (size-max t 0) 0) s n)).isSome=true
 |0,s,_=>⟨rfl,rfl⟩
 |n+1,s,h=>by
  obtain⟨p,z⟩:=adr i n (size-1) oG;have e:max (size-max s 0) 0=size-s:=oG;have a:s+(size-s-1)=size-1:=oG;have b:s+(size-s)-1=size-1:=oG;rw[adJ];simp only[e,a];refine⟨?_,?_⟩
  ·unfold Uf at p|-
   rw[eR,p];simp;omega
  ·rw[oA,if_neg oG,b];simpa using z
section
variable (dm:Int) (A0:Option Addr) (n0 c0:Nat) (size start hold:Int)
theorem aeX (n:Nat) (cap:Int) (w:World) (i:1<=size/\size<=2147483648) (g:0<=start/\start<=size) (b:size<=cap/\cap<=2147483648) (y:n<=64):
  Calls prog 273 #[.agg (pL dm A0 n0 c0 size start hold).toArray,(n:Int),cap] w fun e w'=>
   ∃f q,e=.returned (.tuple #[f,.bool (decide (pX 1 size start q=0))])/\q.length=n/\OI w w' f q/\Below w w w':=by
 obtain⟨W,hW,⟨l,o,-⟩,d,x⟩:=sk w [(47,pL dm A0 n0 c0 size start hold),(3,[cap])];simp only[Hk] at hW;have A: ∀(u:Fn) (first cap:Array Value) (w:World),(Instr.makeFunc u first cap).run prog w=.ok (.func u first cap) w:=fun _ _ _ _=>rfl;obtain⟨I,J,K,L,M,N,O,P,-⟩:=l.iY;have D:=l.lt;have E:=o.lt;have r:=zH fun(t:Int) (V:World) (h:Below W W V) (C: -64<=t/\t<=1099511627776)=>aeB dm A0 n0 c0 size start hold t cap _ _ V (l.below h D) (o.below h E) i b C;go_enter func273,ntmps273;go_wp2_with fail;refine(adA dm A0 n0 c0 size start hold (fun t=>if 1<=t then 0 else max (size-max t 0) 0) (fun t=>by split <;>omega) _ _ _ (.inr rfl) n W g i.2 y r).mono ?_;rintro e H ⟨f,rfl,c,m⟩;have a:=BR (fun t=>if 1<=t then 0 else max (size-max t 0) 0) start n;obtain⟨q,k⟩: ∃q,Kb (fun t=>if 1<=t then 0 else max (size-max t 0) 0) start n=q:=⟨_,rfl⟩;rw[k] at c a|-
 obtain⟨F,G,rfl,-⟩:=c.slice;obtain⟨j,s⟩:=Zb c a;obtain⟨B,p⟩:=nR (decide (pX 1 size start q=0));have v:=zH p;rw[p];clear c a k p hW;go_wp2_with fail
 go_ret2
 exact⟨_,q,by rw[v.out];rfl,s,j.mono d.size,d.trans (m.mono d.size)⟩
theorem aes (n:Nat) (cap:Int) (w:World) (i:1<=size/\size<=2147483648) (g:0<=start/\start<=size) (b:size<=cap/\cap<=2147483648) (y:n<=64):
  Calls prog 271 #[.agg (pL dm A0 n0 c0 size start hold).toArray,(n:Int),cap] w fun e w'=>
   ∃f q,e=.returned (.tuple #[f,true])/\q.length=n/\pX 1 size start q=0/\OI w w' f q/\Below w w w':=by
 obtain⟨W,hW,⟨l,o,-⟩,d,x⟩:=sk w [(47,pL dm A0 n0 c0 size start hold),(3,[cap])];simp only[Hk] at hW;have A: ∀(u:Fn) (first cap:Array Value) (w:World),(Instr.makeFunc u first cap).run prog w=.ok (.func u first cap) w:=fun _ _ _ _=>rfl;obtain⟨I,J,K,L,M,N,O,P,-⟩:=l.iY;have D:=l.lt;have E:=o.lt;have r:=zH fun(t:Int) (V:World) (h:Below W W V) (C: -64<=t/\t<=1099511627776)=>ad0 dm A0 n0 c0 size start hold t cap _ _ V (l.below h D) (o.below h E) i b C;go_enter func271,ntmps271;go_wp2_with fail;refine(adA dm A0 n0 c0 size start hold (fun t=>max (size-max t 0) 0) (fun t=>by omega) _ _ _ (.inl rfl) n W g i.2 y r).mono ?_;rintro e H ⟨f,rfl,c,m⟩;have a:=BR (fun t=>max (size-max t 0) 0) start n;have v:pX 1 size start (Kb (fun t=>max (size-max t 0) 0) start n)=0:=by rw[afk];obtain⟨p,z⟩:=adr i n start g;unfold pX;rw[p,z];rfl
 obtain⟨q,k⟩: ∃q,Kb (fun t=>max (size-max t 0) 0) start n=q:=⟨_,rfl⟩;rw[k] at c a v|-
 obtain⟨F,G,rfl,-⟩:=c.slice;obtain⟨j,s,B⟩:=Zc c a v;rw[decide_eq_true v];clear c a k v hW;go_wp2_with fail
 go_ret2
 exact⟨_,q,rfl,s,B,j.mono d.size,d.trans (m.mono d.size)⟩
end
theorem aal (v:Value) (q:List Int) (w:World) (k:gx w .i64 v q) (y:q.length<=1000):
  Calls prog 272 #[v] w fun e w'=> ∃f,e=.returned f/\OV w w' f (gg q)/\Below w w w':=by
 obtain⟨A,c,rfl,-,-,D⟩:=k.open_;have r:=zH D;clear k D;go_enter func272,ntmps272;go_wp2_with fail;go_loopw [3,8] (fun f C wr=> ∃i:Nat,i<=q/\C=.int .i64 i/\Hid (OV w wr f (gg (q.take i)))/\Below w w wr) (fun _ C _=>q.length-(intOf C).toNat)
 case atStart=>exact⟨0,eC _,rfl,(OV.jL _ _),bS _ _⟩
 case round=>
  obtain⟨i,M,rfl,j,d⟩:=hrel;have x:=d.size;obtain⟨F,G,rfl,-⟩:=j.slice;by_cases a:i<q
  ·obtain⟨z,B⟩:=ec a;obtain⟨b,o,rfl,H,E⟩:=r i z B;replace E:=a7 d lE E;have n:=zH (aeJ B);have l:(gg (q.take i)).length<=1000000000:=by have:=px (q.take i) 0;rw[fB] at this;unfold gg;omega
   obtain⟨L,h⟩:=nR (gg (q.take i));rw[h] at j n l|-
   clear B h;by_cases m:0<z
   ·have p:decide (z>0)=true:=decide_eq_true m;go_wp2_with (at_builtin;refine Tq _ rfl (.tmp 15) (.tmp 19) rfl w _ L j rfl _ _ rfl rfl l oG ?_;intro g cap N u I J t K);go_roundw
    case rel=>exact⟨i+1,a,by go_num,zH (by rw[n.out,if_pos m];exact u),d.trans ((t.below oG).mono oG)⟩
    case measure=>exact mI
   ·have p:decide (z>0)=false:=decide_eq_false m;go_wp2_with fail;go_roundw
    case rel=>exact⟨i+1,a,by go_num,zH (by rw[n.out,if_neg m,mz];exact j),d⟩
    case measure=>exact mI
  ·obtain rfl:i=q.length:=oG;rw[gh] at j|-
   obtain⟨L,h⟩:=nR (gg q);rw[h] at j|-
   have s:=zH h;clear h;go_wp2_with fail;go_ret;exact⟨_,rfl,by rw[s.out];exact j,d⟩
end
end Go.Proofs.YtgimnjldndkalaaGreatDoor
