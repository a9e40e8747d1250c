/- Of the proof of TopGreat: The walks of what makes an instance that may be of any: a customer. -/
import Derived.Deep.RegionHeld3
import Derived.Test.YtgimnjldndkalaaGreatDoorF10
set_option linter.all false
set_option maxHeartbeats 1000000
set_option maxRecDepth 100000
namespace Go.Proofs.YtgimnjldndkalaaGreatDoor


section
open Go.Proofs.Tryz
open Go.RowKit jm
theorem KZ{p:Prop}(h:p:=by go_enter func24,ntmps24;go_wp2;go_ret;exact⟨oC H.symm,bF.alloc lE _⟩):p:=h
variable {D:List (List Int)} {i j:Nat} {r:List Int}
def Ho {z:Int} (a:D[i]? =some r) (b:r[j]? =some z):sm D i j=z:=by rw[sm,if_neg oG,gu,gu,a];simp[b]
def Ey {a b:Int} (h:a<0\/b<0\/(D.length:Int)<=a):sm D a b=0:=by
 rw[sm];split
 ·rfl
 ·rw[hX (l:=D) oG];simp
def Ez (a:D[i]? =some r) (b:r.length<=j):sm D i j=0:=by rw[sm,if_neg oG,gu,gu,a];simp[hX b]
def ze (v:Value) (x:fS) (a b:Int) (w:World) (u:iz w v x):
  Calls prog 24 #[v,a,b] w fun e w'=>e=.returned (sm x.gn a b)/\Below w w w':=by
 obtain⟨E,dv,rfl,-,g⟩:=u;obtain⟨A1,c1,rfl,n,q,c⟩:=g.open_;clear g;obtain⟨days,A,cap,y,k,D⟩:=x;simp only at n c|-
 by_cases m:a<0\/b<0\/(D.length:Int)<=a
 ·have H:=zH (Ey m);clear c;have h:a<0\/(0<=a/\b<0/\a<D)\/(0<=a/\0<=b/\(D.length:Int)<=a)\/(0<=a/\b<0/\(D.length:Int)<=a):=oG
  rcases h with h1|⟨h1,h2,h⟩|⟨h1,h2,h⟩|⟨h1,h2,h⟩
  all_goals
   clear m;exact KZ
 ·obtain⟨i,rfl⟩:=fw (show 0<=a by omega);obtain⟨j,rfl⟩:=fw (show 0<=b by omega);obtain⟨r,f⟩:=ec (l:=D) (i:=i) oG;have J:=fP f;obtain⟨B,L,rfl,I,A2,c2,K,F,G,d⟩:=c i r f;clear c m;by_cases s:j<r
  ·obtain⟨z,o⟩:=ec s;obtain⟨C,M,rfl,p,t⟩:=d j z o;have H:=zH (Ho f o);clear f o d;exact KZ
  ·have H:=zH (Ez (j:=j) f oG);clear f d;exact KZ
end
section
open Go.Proofs.Tryz
open Go.RowKit jm
theorem K4{p:Prop}(h:p:=by go_enter func205,ntmps205;go_wp2;go_ret;exact⟨oC H.symm,bF.alloc lE _⟩):p:=h
def pk (v:Value) (x:fS) (a b:Int) (w:World) (u:iz w v x):
  Calls prog 205 #[v,a,b] w fun e w'=>e=.returned (sm x.gn a b)/\Below w w w':=by
 obtain⟨E,dv,rfl,-,g⟩:=u;obtain⟨A1,c1,rfl,n,q,c⟩:=g.open_;clear g;obtain⟨days,A,cap,y,k,D⟩:=x;simp only at n c|-
 by_cases m:a<0\/b<0\/(D.length:Int)<=a
 ·have H:=zH (Ey m);clear c;have h:a<0\/(0<=a/\b<0/\a<D)\/(0<=a/\0<=b/\(D.length:Int)<=a)\/(0<=a/\b<0/\(D.length:Int)<=a):=oG
  rcases h with h1|⟨h1,h2,h⟩|⟨h1,h2,h⟩|⟨h1,h2,h⟩
  all_goals
   clear m;exact K4
 ·obtain⟨i,rfl⟩:=fw (show 0<=a by omega);obtain⟨j,rfl⟩:=fw (show 0<=b by omega);obtain⟨r,f⟩:=ec (l:=D) (i:=i) oG;have J:=fP f;obtain⟨B,L,rfl,I,A2,c2,K,F,G,d⟩:=c i r f;clear c m;by_cases s:j<r
  ·obtain⟨z,o⟩:=ec s;obtain⟨C,M,rfl,p,t⟩:=d j z o;have H:=zH (Ho f o);clear f o d;exact K4
  ·have H:=zH (Ez (j:=j) f oG);clear f d;exact K4
def ad9 (v:Value) (x:fS) (c:Int) (w:World) (M:iz w v x) (L:Kd x.gn) (hn:x.eB.length<=1000000) (h0:0<=c) (h1:c<=1000000):
  Calls prog 37 #[v,c] w fun e w'=>e=.returned (.tuple #[(aaE x.gn c (x.eB+1)),(eY x.gn c (x.eB+1))])/\Below w w w':=by
 obtain⟨Q,t⟩:=Zb M L;obtain⟨cv,dv,rfl,⟨N,R,rfl,-⟩,⟨O,S,rfl,-⟩⟩:=M;clear L;go_enter func37,ntmps37;go_wp2_with fail;go_loopw [6,7,8] (fun tv T H wr=> ∃k:Nat,k<=x.eB.length+1/\H=.int .i64 k/\tv=.int .i64 (kp x.gn c k)/\T=.int .i64 (fs x.gn c k)/\
   fc wr w 25 [x.days,x.mm,x.cap,x.len,.slice N x.eB R,.slice O x.gn S]/\Below w w wr) (fun _ _ H _=>x.eB.length+1-(intOf H).toNat)
 case atStart=>exact⟨0,eC _,rfl,rfl,rfl,fc.newAt w _ _ rfl,jX bF _⟩
 case round=>
  obtain⟨k,hk,rfl,rfl,rfl,j,d⟩:=hrel;obtain⟨q0,q1,q2,q3,q4,q5⟩:=j.jI;by_cases V:k<x.eB.length+1
  ·have o:=zH (Q.below d lE);by_cases f:(k:Int)=c+1
   ·have l:Hid (kp x.gn c (k+1)=kp x.gn c k):=by show _=_;rw[kp,kp,if_neg oG,if_neg oG,acB _ _ _ f]
    have m:Hid (fs x.gn c (k+1)=fs x.gn c k):=by show _=_;rw[fs,fs,if_neg oG,if_neg oG,L1 _ _ _ f]
    have U:((k:Int)==c+1)=true:=by rw[beq_iff_eq];exact f
    generalize kp x.gn c k=I at*;generalize fs x.gn c k=C at*;have P:=zH f;clear f;go_wp2;go_roundw
    case rel=>exact⟨k+1,oG,by go_num,by rw[l.out],by rw[m.out],j,d⟩
    case measure=>exact mI
   ·have U:((k:Int)==c+1)=false:=by rw[beq_eq_false_iff_ne];exact f
    obtain⟨a,p⟩:=nE (sm x.gn k (c+1));obtain⟨b,g⟩:=nE (sm x.gn (c+1) k);have q:=t k (c+1);have s:=t (c+1) k;have G:=adw x.gn c t k;have F:=acA x.gn c t k;rw[<-p] at q;rw[<-g] at s;have l:(kp x.gn c k<0/\kp x.gn c (k+1)=a)\/(0<=kp x.gn c k/\a<kp x.gn c k/\kp x.gn c (k+1)=a)\/(0<=kp x.gn c k/\kp x.gn c k<=a/\kp x.gn c (k+1)=kp x.gn c k):=by
     by_cases h:k=0
     ·subst h;refine .inl ⟨by simp[kp],?_⟩;rw[kp,if_neg oG,aeD,p];rfl
     ·rw[kp,kp,if_neg h,if_neg oG,aak _ _ _ f,<-p];omega
    have m:(fs x.gn c k<0/\fs x.gn c (k+1)=b)\/(0<=fs x.gn c k/\b<fs x.gn c k/\fs x.gn c (k+1)=b)\/(0<=fs x.gn c k/\fs x.gn c k<=b/\fs x.gn c (k+1)=fs x.gn c k):=by
     by_cases h:k=0
     ·subst h;refine .inl ⟨by simp[fs],?_⟩;rw[fs,if_neg oG,adv,g];rfl
     ·rw[fs,fs,if_neg h,if_neg oG,GF _ _ _ f,<-g];omega
    obtain⟨z,A⟩:=Zb p g;clear p g f G F;generalize kp x.gn c k=I at*;generalize fs x.gn c k=C at*
    rcases l with ⟨J,u⟩|⟨J,D,u⟩|⟨J,D,u⟩
    all_goals
     have l:=zH u;clear u
     rcases m with ⟨K,y⟩|⟨K,E,y⟩|⟨K,E,y⟩
     all_goals
      have m:=zH y;clear y;go_wp2_with fail;refine(ze _ x k (c+1) _ o).mono ?_;rintro e w1 ⟨rfl,i⟩;rw[<-z.out];have n:=j.below i j.lt;have B:=zH (o.below i lE);obtain⟨W,X,Y,Z,r4,r5⟩:=n.jI;go_wp2_with fail;refine(ze _ x (c+1) k _ B).mono ?_;rintro e w2 ⟨rfl,r⟩;rw[<-A.out];clear W X Y Z r4 r5;go_wp2;go_roundw
      case rel=>exact⟨k+1,oG,by go_num,by rw[l.out],by rw[m.out],n.below r n.lt,(d.trans (i.mono d.size)).trans (r.mono (eZ d.size i.size))⟩
      case measure=>exact mI
  ·obtain rfl:k=x.eB.length+1:=oG;have l:Hid (kp x.gn c (x.eB.length+1)=aaE x.gn c (x.eB.length+1)):=by show _=_;rw[kp,if_neg oG]
   have m:Hid (fs x.gn c (x.eB.length+1)=eY x.gn c (x.eB.length+1)):=by show _=_;rw[fs,if_neg oG]
   generalize kp x.gn c (x.eB+1)=I at*;generalize fs x.gn c (x.eB+1)=C at*;go_wp2
   go_ret2
   refine⟨?_,d⟩;show Ending.returned (.tuple #[I,C])=_;rw[l.out,m.out]
end
end Go.Proofs.YtgimnjldndkalaaGreatDoor
