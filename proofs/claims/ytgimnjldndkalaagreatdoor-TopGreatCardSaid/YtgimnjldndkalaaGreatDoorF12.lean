/- Of the proof of TopGreat: The walk of what makes an instance that may be of any. -/
import Derived.Deep.DeepCutAuto
import Derived.Test.YtgimnjldndkalaaGreatDoorF11
set_option linter.all false
set_option maxHeartbeats 2000000
set_option maxRecDepth 100000
namespace Go.Proofs.YtgimnjldndkalaaGreatDoor
section
open Go.Proofs.Tryz
open Go.RowKit jm
def XE:(prog.info? 47).map (fun i=>(i.zero,i.size,i.bytes))=some (some (.agg #[Zo,Zo,(),Zo,Zo,Zo,Zo,Zo]),8,80):=kR
def US (v X:Value) (x:fS) (l:List Int) (w:World) (W:iz w v x) (U:gx w .i64 X l) (S:Kd x.gn) (hn:l.length<=1000000) (T: ∀z∈l,0<=z/\z<=1000000000):
  Calls prog 187 #[v,X] w fun e w'=>e=.returned (Mc x.gn l)/\Below w w w':=by
 have Z:=zH W;obtain⟨cv,dv,rfl,s,u⟩:=W;obtain⟨N,Q,rfl,-⟩:=s.open_;obtain⟨O,R,rfl,-⟩:=u.open_;obtain⟨A,c,rfl,af,ag,g⟩:=U.open_;obtain⟨Y,HZ,P⟩:=Zc g T S;clear s u g T S U;generalize t:Value.slice N x.eB Q=cv at*;generalize y:Value.slice O x.gn R=dv at*;cases l with
 |nil=>
  subst t y;simp only[fZ];go_enter func187,ntmps187;go_wp2;go_ret;exact⟨rfl,bF.alloc lE _⟩
 |cons c0 t0=>
  have D:Mc x.gn (c0::t0)=sc x.gn 0 (c0::t0):=rfl;have V:0<(c0::t0).length:=sI;generalize c0::t0=l at*;have G:=zH D;have L:((l.length:Int)==0)=false:=by rw[beq_eq_false_iff_ne];omega
  have C:(l.length==0)=false:=by rw[beq_eq_false_iff_ne];omega
  clear D;subst t y;go_enter func187,ntmps187;go_wp2_with fail;clear L C;go_loopw [5,6,14] (fun sv av M wr=> ∃(k:Nat) (f a:Int),k<=l/\M=.int .i64 k/\sv=.int .i64 f/\av=.int .i64 a/\0<=f/\f<=k*2147483648/\
    Hid (Mc x.gn l=f+sc x.gn a (l.drop k))/\fc wr w 25 [x.days,x.mm,x.cap,x.len,.slice N x.eB Q,.slice O x.gn R]/\Below w w wr) (fun _ _ M _=>l.length-(intOf M).toNat)
  case atStart=>exact⟨0,0,0,eC _,rfl,rfl,rfl,oG,oG,by show _=_;rw[G.out];simp,fc.new _ _ _,bF.alloc lE _⟩
  case round=>
   obtain⟨k,f,a,hk,rfl,rfl,rfl,aa,ae,E,m,d⟩:=hrel;have hz:=m.lt;have r:=zH (Z.below d lE);obtain⟨x0,x1,x2,x3,x4,x5⟩:=m.jI;by_cases K:k<l
   ·obtain⟨z,j⟩:=ec K;obtain⟨b,o,rfl,hb,B⟩:=Y k z j;replace B:=(d.cell (p:=pA b (o+k)) hb).trans B;obtain⟨ah,ai⟩:=HZ z (a8 j);have n:=E.out;rw[oh j,sc] at n;have F:=zH n;have J:=P a (z+1);obtain⟨H,I⟩:=J;clear E j n;go_wp2_with fail;refine(pk _ x a (z+1) _ r).mono ?_;rintro e w1 ⟨rfl,i⟩;generalize sm x.gn a (z+1)=q at*;go_wp2;go_roundw
    case rel=>exact⟨k+1,f+q,z+1,oG,by go_num,rfl,rfl,oG,by push_cast;omega,by have h:=F.out;show _=_;omega,m.below i hz,d.trans (i.mono oG)⟩
    case measure=>exact mI
   ·have n:=E.out;rw[iE oG,sc] at n;have F:=zH n;obtain⟨H,I⟩:=P a 0;clear E n;go_wp2_with fail;refine(pk _ x a 0 _ r).mono ?_;rintro e w1 ⟨rfl,i⟩;generalize sm x.gn a 0=q at*;go_wp2;go_ret;exact⟨oC F.symm,d.trans (i.mono oG)⟩
theorem Ay{p:Prop}(h:p:=by simp only[gK,fJ,fI];with_reducible rfl):p:=h
theorem ae1{p:Prop}(h:p:=by intro wS hSw;obtain⟨b,d⟩:=hSw;exact(pk _ x _ _ _ (y.below b lE)).mono fun e w' ⟨q,M⟩=>⟨q,b.trans (M.mono b.size),d.below M d.lt⟩):p:=h
theorem ae2{p:Prop}(h:p:=by
 intro w hSw
 (try dsimp only at hSw)
 obtain⟨b,d⟩:=hSw;obtain⟨F,G,H,I,J,K⟩:=d.jI;go_simp;try with_reducible rfl):p:=h
def toL (D:List (List Int)) (n k:Nat):List Int:=(List.range k).map fun(i:Nat)=>aaE D (i:Int) (n+1)
def yT (D:List (List Int)) (n k:Nat):List Int:=(List.range k).map fun(i:Nat)=>eY D (i:Int) (n+1)
def afi (D:List (List Int)) (n k:Nat):toL D n (k+1)=toL D n k++[aaE D k (n+1)]:=by simp[toL,aeL]
def ad2 (D:List (List Int)) (n k:Nat):yT D n (k+1)=yT D n k++[eY D k (n+1)]:=by simp[yT,aeL]
def afw (D:List (List Int)) (n k:Nat):(toL D n k).length=k:=by simp[toL]
def aev (D:List (List Int)) (n k:Nat):(yT D n k).length=k:=by simp[yT]
def aer (v:Value) (x:fS) (w:World) (hx:iz w v x) (hn:x.eB.length<=1000000):
  Calls prog 167 #[v] w fun e w'=> ∃tv fv,e=.returned (.tuple #[tv,fv])/\gx w' .i64 tv (toL x.gn x.eB x.eB)/\gx w' .i64 fv (yT x.gn x.eB x.eB)/\(∀g,tv.ownBlock=some g->w.heap.size<=g)/\Below w w w':=by
 have HX:=zH hx;obtain⟨cv,dv,rfl,⟨Ac,cc,rfl,-⟩,⟨Ad,cd,rfl,-⟩⟩:=hx;go_enter func167,ntmps167;go_wp2_with fail;go_loopw [4,5,14] (fun cv lv iv wr=> ∃k:Nat,k<=x.eB/\iv=.int .i64 k/\wr.ownsRow (w+1) 3 1 cv (toL x.gn x.eB k).length ((toL x.gn x.eB k).map (Value.int .i64))/\
   wr.ownsRow (w+1) 3 1 lv (yT x.gn x.eB k).length ((yT x.gn x.eB k).map (Value.int .i64))/\(∀g,lv.ownBlock=some g->cv.ownBlock≠some g)/\
   fc wr w 25 [x.days,x.mm,x.cap,x.len,.slice Ac x.eB cc,.slice Ad x.gn cd]/\Below w w wr) (fun _ _ iv _=>x.eB.length-(intOf iv).toNat)
 case atStart=>exact⟨0,eC _,rfl,gL _ _ _ _,gL _ _ _ _,fun g h=>by simp[Value.ownBlock] at h,fc.newAt w _ _ rfl,jX bF _⟩
 case round=>
  obtain⟨k,hk,rfl,c,a,W,O,n⟩:=hrel;by_cases aE:k<x.eB
  ·have y:=zH (HX.below n lE);have hz:=O.lt;obtain⟨ah,ai,s⟩:=Zc c a W;clear c a W;go_wp2_with fail;refine adQ (fun wS=>Below wr wr wS/\fc wS w 25 [x.days,x.mm,x.cap,x.len,.slice Ac x.eB cc,.slice Ad x.gn cd]) 8 (listed:= #[false,false,false,false,false,false,false,false]) kR ?_ kR kR ?_
   ·exact⟨bF.drew,O.drew⟩
   refine pc 0 19 (tm':=?_) (v:=?_) rfl rfl kR kR kR (listed':= #[true,false,false,false,false,false,false,false]) kR jF (aaL rfl) ?_ ?_ ?_;rotate_left 2
   ·exact ae2
   ·exact Ay
   refine pc 1 20 (tm':=?_) (v:=?_) rfl rfl kR kR kR (listed':= #[true,true,false,false,false,false,false,false]) kR jF (aaL rfl) ?_ ?_ ?_;rotate_left 2
   ·intro w hSw
    (try dsimp only at hSw)
    go_simp;try with_reducible rfl
   ·exact Ay
   refine aao 2 21 (tm':=?_) (v:=.int .i64 (sm x.gn 0 ((k:Int)+1))) (f:=?_) (args:=?_) rfl rfl kR kR kR (listed':= #[true,true,true,false,false,false,false,false]) kR jF (aaL rfl) ?_ ?_ ?_ ?_;rotate_left 3
   ·intro w;go_simp;first|with_reducible rfl|(constructor <;>with_reducible rfl)
   ·exact ae1
   ·exact Ay
   refine pc 3 22 (tm':=?_) (v:=?_) rfl rfl kR kR kR (listed':= #[true,true,true,true,false,false,false,false]) kR jF (aaL rfl) ?_ ?_ ?_;rotate_left 2
   ·exact ae2
   ·exact Ay
   refine pc 4 23 (tm':=?_) (v:=?_) rfl rfl kR kR kR (listed':= #[true,true,true,true,true,false,false,false]) kR jF (aaL rfl) ?_ ?_ ?_;rotate_left 2
   ·intro w hSw
    (try dsimp only at hSw)
    go_simp;try with_reducible rfl
   ·exact Ay
   refine aao 5 24 (tm':=?_) (v:=.int .i64 (sm x.gn ((k:Int)+1) 0)) (f:=?_) (args:=?_) rfl rfl kR kR kR (listed':= #[true,true,true,true,true,true,false,false]) kR jF (aaL rfl) ?_ ?_ ?_ ?_;rotate_left 3
   ·intro w;go_simp;first|with_reducible rfl|(constructor <;>with_reducible rfl)
   ·exact ae1
   ·exact Ay
   refine pc 6 8 (tm':=?_) (v:=?_) rfl rfl kR kR kR (listed':= #[true,true,true,true,true,true,true,false]) kR jF (aaL rfl) ?_ ?_ ?_;rotate_left 2
   ·intro w hSw
    (try dsimp only at hSw)
    go_simp;try with_reducible rfl
   ·exact Ay
   refine pc 7 9 (tm':=?_) (v:=?_) rfl rfl kR kR kR (listed':= #[true,true,true,true,true,true,true,true]) kR jF (aaL rfl) ?_ ?_ ?_;rotate_left 2
   ·intro w hSw
    (try dsimp only at hSw)
    go_simp;try with_reducible rfl
   ·exact Ay
   refine adM kR ?_;intro wf hSf;obtain⟨N,E⟩:=hSf;obtain⟨F,G,H,I,J,K⟩:=E.jI;go_wp2_with fail;clear F G H I J K;go_loopw [8,9,29] (fun au Z ov wi=> ∃j:Nat,j<=x.eB.length+1/\ov=.int .i64 j/\au=.int .i64 (aaE x.gn k j)/\Z=.int .i64 (eY x.gn k j)/\
     fc wi w 25 [x.days,x.mm,x.cap,x.len,.slice Ac x.eB cc,.slice Ad x.gn cd]/\Below wr wr wi) (fun _ _ ov _=>x.eB.length+1-(intOf ov).toNat)
   case atStart=>exact⟨0,eC _,rfl,rfl,rfl,E,N⟩
   case round=>
    clear E N;obtain⟨j,hj,rfl,rfl,rfl,o,i⟩:=hrel;by_cases aD:j<x.eB.length+1
    ·by_cases m:(j:Int)=(k:Int)+1
     ·obtain⟨H1,H2⟩:=Zb (acB x.gn k j m) (L1 x.gn k j m);obtain rfl:j=k+1:=oG;clear m;have ak:((((k+1:Nat):Int)) !=(k:Int)+1)=false:=sI;have aA:((k:Int)+1 !=(k:Int)+1)=false:=sI;go_wp2;go_roundw
      case rel=>exact⟨k+1+1,oG,by go_num,by rw[H1.out],by rw[H2.out],o,i⟩
      case measure=>exact mI
     ·obtain⟨H1,H2⟩:=Zb (aak x.gn k j m) (GF x.gn k j m);have ak:((j:Int) !=(k:Int)+1)=true:=by rw[bne_iff_ne];exact m
      have L:=zH (y.below i lE);clear m;have z:(aaE x.gn k j<=sm x.gn j (k+1)/\min (aaE x.gn k j) (sm x.gn j (k+1))=aaE x.gn k j)\/(sm x.gn j (k+1)<aaE x.gn k j/\min (aaE x.gn k j) (sm x.gn j (k+1))=sm x.gn j (k+1)):=oG;have A:(eY x.gn k j<=sm x.gn (k+1) j/\min (eY x.gn k j) (sm x.gn (k+1) j)=eY x.gn k j)\/(sm x.gn (k+1) j<eY x.gn k j/\min (eY x.gn k j) (sm x.gn (k+1) j)=sm x.gn (k+1) j):=oG
      rcases z with ⟨z,B⟩|⟨z,B⟩
      all_goals
       have aa:=zH (H1.trans B);clear B H1
       rcases A with ⟨A,C⟩|⟨A,C⟩
       all_goals
        have ae:=zH (H2.trans C);clear C H2;obtain⟨F,G,H,I,J,K⟩:=o.jI;go_wp2_with fail;refine(pk _ x j ((k:Int)+1) _ L).mono ?_;rintro e w1 ⟨rfl,l⟩;have D:=o.below l o.lt;have aj:=zH (L.below l lE);clear F G H I J K;obtain⟨F,G,H,I,J,K⟩:=D.jI;go_wp2_with fail;refine(pk _ x ((k:Int)+1) j _ aj).mono ?_;rintro e w2 ⟨rfl,p⟩;clear F G H I J K;go_wp2;go_roundw
        case rel=>exact⟨j+1,oG,by go_num,by rw[aa.out],by rw[ae.out],D.below p D.lt,(i.trans (l.mono i.size)).trans (p.mono (eZ i.size l.size))⟩
        case measure=>exact mI
    ·obtain rfl:j=x.eB.length+1:=oG;have Y:=o.lt;obtain⟨t,u⟩:=Zb (afi x.gn x.eB k) (ad2 x.gn x.eB k);have S:=afw x.gn x.eB k;have T:=aev x.gn x.eB k;have c:=ah.out;have a:=ai.out;replace c:=jq c i lE;replace a:=jq a i lE;obtain⟨af,ag⟩:=Zb S T;have U:(toL x.gn x.eB k).length<=1000000000:=oG;have V:(yT x.gn x.eB k).length<=1000000000:=oG;clear S T;generalize toL x.gn x.eB k=TL at c t U af;generalize yT x.gn x.eB k=FL at a u V ag;generalize aaE x.gn k (x.eB+1)=mt at t|-
     generalize eY x.gn k (x.eB+1)=mf at u|-
     go_wp2_with (first
      |(at_builtin;refine sC _ rfl (.tmp 48) (.tmp 50) 26 rfl (w+1) 3 _ 1 8 underlying26 QF rfl dE dE _ _ _ c rfl [mt] _ rfl rfl rfl U Y ?_;intro g1 aw w1 al X aB ay Q l ao;have r:=acW a Q (s);have ar:w.heap.size+1<=w1.heap.size:=eZ Y (pF ao))
      |(at_builtin;refine sC w1 rfl (.tmp 52) (.tmp 54) 26 rfl (w+1) 3 _ 1 8 underlying26 QF rfl dE dE _ _ _ r rfl [mf] _ rfl rfl rfl V ar ?_;intro g2 ax w2 an aq aC az R p aF))
     go_roundw
     case rel=>
      refine⟨k+1,oG,by go_num,?_,?_,?_,?_,?_⟩
      ·rw[t.out];have h:=acW al R (fun g P=>by
        obtain rfl:g1=g:=by simpa[Value.ownBlock] using P
        intro q
        rcases X with h|h
        ·exact s _ q h
        ·have:=(r.lt _ q).2;have:=(a.lt _ q).2;omega)
       simpa using h
      ·rw[u.out];simpa using an
      ·intro g P q;obtain rfl:g2=g:=by simpa[Value.ownBlock] using P
       obtain rfl:g1=g2:=by simpa[Value.ownBlock] using q
       rcases aq with h|h
       ·rcases X with h'|h'
        ·exact s _ h h'
        ·have:=(a.lt _ h).2;omega
       ·omega
      ·exact(o.below l oG).below p oG
      ·exact n.trans ((i.mono n.size).trans ((l.trans p).mono oG))
     case measure=>exact mI
  ·obtain rfl:k=x.eB.length:=oG;go_wp2
   go_ret2
   exact⟨_,_,rfl,RS.jh c,RS.jh a,fun g P=>agc (iB c g P).1,n⟩
end
end Go.Proofs.YtgimnjldndkalaaGreatDoor
