/- Of the proof of TopGreat: The walks of the reference's sets of days. -/
import Derived.BigQuiet
import Derived.WalkLawsBesides
import Derived.Test.YtgimnjldndkalaaGreatDoorF5
set_option linter.all false
set_option maxHeartbeats 2000000
set_option maxRecDepth 100000
namespace Go.Proofs.YtgimnjldndkalaaGreatDoor
section
open Go.Proofs.Tryz
open Go.RowKit
def QF:(prog.info? 3).map (fun i=>(i.zero,i.size,i.bytes))=some (some (.int .i64 0),1,8):=kR
def Cq (s:Nat) (n:s<18446744073709551616) (w:World):
  Calls prog 56 #[.int .u64 s] w fun e w'=>e=.returned (.slice w 64 64)/\
   fc w' w 3 ((lJ.bits s).map (.int .i64))/\Below w w w':=by
 have i:=fun W=>pM (P:=prog) underlying26 QF 64 64 rfl oG W;go_enter func56,ntmps56;go_wp2;go_loopw [0,4] (fun o dv wr=> ∃k:Nat,k<=64/\o=.int .u64 ((s/2^k:Nat):Int)/\dv=.int .i64 k/\fc wr w 3 (((lJ.bits s).take k).map (.int .i64)++kE (64-k))/\Below w w wr) (fun _ dv _=>64-(intOf dv).toNat)
 case atStart=>exact⟨0,oG,by simp,rfl,by simpa using fc.new w _ (kE 64),bF.alloc lE _⟩
 case round=>
  clear i;obtain⟨k,u,rfl,rfl,a,b⟩:=hrel;by_cases h:k<64
  ·have j:=CF (lJ.sq s) h;have d:=a.gH k ((s/2^k%2:Nat):Int);rw[CG (lJ.sq s) (lJ.vz s k h)] at d;have f:=zH d;have g:Below w w (wr.setCell (pA w k) ((s/2^k%2:Nat):Int)):=b.setCell (p:=pA w k) lE _;have r:wr.cell? (pA w k)=some (.int .i64 0):=(a.cell k).trans j;have t:=a.frozen k;have m:s/2^k<18446744073709551616:=G8 (PE _ _) n;clear j d;have c:s/2^(k+1)=s/2^k/2:=by rw[js,mN]
   generalize s/2^k=q at m f g c;have l:=zH c;clear c;go_wp2;go_roundw
   case rel=>exact⟨k+1,oG,by rw[l.out];rfl,by go_num,f,g⟩
   case measure=>exact mI
  ·obtain rfl:k=64:=oG;go_wp2;go_ret;refine⟨rfl,?_,b⟩;have:=a
   rwa [fj (by rw[lJ.sq];omega),show kE (64-64)=[] from rfl,mz] at this
def aaF (q:Nat) (h:q<18446744073709551616):(bits BinOp.and IntKind.u64 (q:Int) 1==1)=decide (q%2=1):=by rw[and_one_u64 _ oG oG,BE];simp;omega
def CD (s:Nat) (p:s<18446744073709551616) (d:Int) (w:World):
  Calls prog 263 #[.int .u64 s,d] w fun e w'=>e=.returned (.bool (lJ.has s d))/\w=w':=by
 by_cases a:0<=d/\d<64
 ·obtain⟨k,rfl⟩:=fw a.1;obtain⟨c,g⟩:=a;go_enter func263,ntmps263;go_wp2;go_ret;refine⟨ji ?_,rfl⟩;have e:((s:Int)/2^k)=((s/2^k:Nat):Int):=sI;have f:s/2^k<18446744073709551616:=G8 (PE _ _) p;rw[e,aaF _ f,lJ.has,gu,decide_eq_true (show 0<=(k:Int) by omega),decide_eq_true (show(k:Int)<=63 by omega)];simp
 ·have b:lJ.has s d=false:=by simp[lJ.has];omega
  rw[b];clear b;by_cases c:0<=d;all_goals
   go_enter func263,ntmps263;go_wp2;go_ret;exact⟨rfl,rfl⟩
def Nx (s:Nat) (p:s<18446744073709551616) (d:Int) (w:World):
  Calls prog 262 #[.func (.func 263) #[.int .u64 s] #[],d] w fun e w'=> ∃v,e=.returned v/\gx w' .i64 v (lJ.days s d)/\Below w w w':=by
 go_enter func262,ntmps262;obtain⟨m,u⟩: ∃m:Nat,(d=m\/(d<0/\m=0)):=by
  by_cases h:0<=d
  ·exact⟨d.toNat,.inl oG⟩
  ·exact⟨0,.inr ⟨oG,rfl⟩⟩
 have l:d<=m:=oG;have f:=lJ.DN s d m oG;have c:64<=m->lJ.days s d=lJ.BT s d m:=fun h=>by
  rcases u with rfl|⟨_,rfl⟩
  ·rw[f,lJ.NK];exact lJ.DN s _ 64 oG
  ·omega
 obtain⟨g,j⟩:=nE d;rw[<-j] at f c l;obtain⟨A,o,z,x⟩:=Zd f c l j;clear f j c l
 rcases u with rfl|⟨hd,u⟩
 rotate_left;have y:=zH (show(0:Int)=m by omega);clear u;rotate_left;have y:=zH (show(m:Int)=m from rfl);all_goals
  go_wp2;go_loopw [5,6] (fun v dv wr=> ∃k:Nat,m<=k/\(k<=64\/k=m)/\dv=.int .i64 k/\
    wr.ownsRow (w) 3 1 v (lJ.BT s g k).length ((lJ.BT s g k).map (Value.int .i64))/\Below w w wr) (fun _ dv _=>64-(intOf dv).toNat)
  case atStart=>exact⟨m,lE,.inr rfl,by first|rfl|(rw[y.out]),by rw[A.out];exact gL _ _ _ _,bS _ _⟩
  case round=>
   obtain⟨k,I,E,rfl,b,a⟩:=hrel;clear y;by_cases t:k<64
   ·have H:=lJ.SH s g k;have q:=zH (lJ.Pe s g k (by have:=z.out;omega));have r:lJ.has s k=true\/lJ.has s k=false:=by cases lJ.has s k <;>simp
    generalize lJ.BT s g k=L at H b q
    rcases r with hq|hq
    ·rw[hq] at q;have B:L.length<=1000000000:=oG;have i:=a.size;go_wp2_with (first
      |(go_at_call 263;refine(CD s p _ _).mono ?_;rintro e w' ⟨rfl,rfl⟩;try simp only[hq])
      |(at_builtin;refine kD wr rfl _ _ 26 rfl (w) 3 _ 1 8 underlying26 QF rfl dE dE _ _ _ b rfl [k] _ rfl rfl rfl B i ?_;intro K w1 n C J))
     go_roundw
     case rel=>
      refine⟨k+1,oG,oG,by go_num,?_,?_⟩
      ·rw[q.out];simpa using n
      ·exact a.trans C
     case measure=>exact mI
    ·rw[hq] at q;go_wp2_with (go_at_call 263;refine(CD s p _ _).mono ?_;rintro e w' ⟨rfl,rfl⟩;try simp only[hq]);go_roundw
     case rel=>refine⟨k+1,oG,oG,by go_num,?_,a⟩;rw[q.out];simpa using b
     case measure=>exact mI
   ·have D:lJ.days s g=lJ.BT s g k:=by
     by_cases G:k<=64
     ·obtain rfl:k=64:=oG;rfl
     ·obtain rfl:k=m:=oG;exact o oG
    have F:=zH D;clear D;go_wp2;go_ret;refine⟨_,rfl,?_,a⟩;rw[<-x.out,F.out];exact RS.jh b
def EJ (s:Nat) (p:s<18446744073709551616) (d:Int) (w:World):
  Calls prog 235 #[.int .u64 s,d] w fun e w'=>e=.returned (lJ.next s d)/\Below w w w':=by
 go_enter func235,ntmps235;have k:lJ.next s d=(lJ.days s d).headD (-1):=rfl;have i:=zH k;clear k;go_wp2_with fail;refine(Nx s p _ _).mono ?_;rintro e w1 ⟨v,rfl,j,a⟩;generalize lJ.days s d=l at j i;obtain⟨A,c,rfl,g,m,f⟩:=j.open_;cases l with
 |nil=>
  simp only[fZ] at g;have h:([]:List Int).length=0:=rfl;rw[h] at j|-
  clear f h;go_wp2;go_ret;exact⟨oC (by rw[i.out];rfl),a⟩
 |cons z r=>
  obtain⟨b,o,rfl,q,E⟩:=f 0 z rfl;have h:(z::r).length=r.length+1:=rfl;rw[eW] at E;have t:0<(z::r).length:=sI;clear f h;generalize (z::r).length=n at t g;go_wp2;go_ret;exact⟨oC (by rw[i.out];rfl),a⟩
open Go.RowKit jm
theorem acy{p:Prop}(h:p:=by
 go_wp2_with (go_at_call 120;refine(oP _ _ _ _).mono ?_;rintro e w' ⟨rfl,rfl⟩);all_goals
  go_ret;exact⟨rfl,bF.alloc lE _⟩):p:=h
def oP (n b a:Int) (w:World):
  Calls prog 120 #[n,b,a] w fun e w'=>e=.returned (.bool (gP n b a))/\w=w':=by
 by_cases h:b<=n
 ·have H:=zH (show gP n b a=decide (n<=a) by simp[gP,h]);go_enter func120,ntmps120;go_wp2;go_ret;exact⟨ji H.symm,rfl⟩
 ·have H:=zH (show gP n b a=false by simp[gP,h]);go_enter func120,ntmps120;go_wp2;go_ret;exact⟨ji H.symm,rfl⟩
def A8 (k d r s t u h days:Int) (a:Value) (w:World):
  Calls prog 196 #[.agg #[k,d,a,r,s,t,u,h,days]] w fun e w'=>e=.returned (.bool (gP d 1 2147483648))/\Below w w w':=by
 go_enter func196,ntmps196;exact acy
def JL (k d r s t u h days:Int) (a:Value) (w:World):
  Calls prog 199 #[.agg #[k,d,a,r,s,t,u,h,days]] w fun e w'=>e=.returned (.bool (gP r 0 2147483648))/\Below w w w':=by
 go_enter func199,ntmps199;exact acy
def Fu (k d r s t u h days:Int) (a:Value) (w:World):
  Calls prog 200 #[.agg #[k,d,a,r,s,t,u,h,days]] w fun e w'=>e=.returned (.bool (gP s 1 2147483648))/\Below w w w':=by
 go_enter func200,ntmps200;exact acy
def Bv (k d r s t u h days:Int) (a:Value) (w:World):
  Calls prog 201 #[.agg #[k,d,a,r,s,t,u,h,days]] w fun e w'=>e=.returned (.bool (gP t 0 s))/\Below w w w':=by
 go_enter func201,ntmps201;exact acy
def EV (k d r s t u h days:Int) (a:Value) (w:World):
  Calls prog 203 #[.agg #[k,d,a,r,s,t,u,h,days]] w fun e w'=>e=.returned (.bool (gP h 0 1024))/\Below w w w':=by
 go_enter func203,ntmps203;exact acy
def zq (k d r s t u h days:Int) (a:Value) (w:World):
  Calls prog 198 #[.agg #[k,d,a,r,s,t,u,h,days]] w fun e w'=>e=.returned (.bool (r==0&&s==0&&t==0&&u==0&&h==0))/\Below w w w':=by
 go_enter func198,ntmps198;go_wp2;all_goals
  go_ret;exact⟨ji (by simp[*]),bF.alloc lE _⟩
def Fm (k d r s t u h days:Int) (a:Value) (w:World):
  Calls prog 202 #[.agg #[k,d,a,r,s,t,u,h,days]] w fun e w'=>e=.returned (.bool (u==1||u==2))/\Below w w w':=by
 go_enter func202,ntmps202;go_wp2;all_goals
  go_ret;exact⟨ji (by simp[*]),bF.alloc lE _⟩
def vj (k d r s t u h days:Int) (z:Value) (l:List Nat) (w:World) (v:lu w z l):
  Calls prog 204 #[.agg #[k,d,z,r,s,t,u,h,days]] w fun e w'=>e=.returned (.bool (decide (l.length=0)&&d==0))/\Below w w w':=by
 obtain⟨A,c,rfl,B,C,a⟩:=v.open_;clear a v;generalize l.length=n at*;go_enter func204,ntmps204;go_wp2;all_goals
  go_ret;refine⟨ji ?_,bF.alloc lE _⟩;first|(simp[*];done)|(simp[*];omega)
def xp (k d r s t u h days:Int) (z:Value) (l:List Nat) (w:World) (v:lu w z l) (E: ∀s∈l,s<18446744073709551616):
  Calls prog 197 #[.agg #[.int .i64 k,.int .i64 d,z,.int .i64 r,.int .i64 s,.int .i64 t,.int .i64 u,.int .i64 h,.int .i64 days]] w fun e w'=>e=.returned (.bool (kl l days))/\Below w w w':=by
 obtain⟨A,c,rfl,B,C,a⟩:=v.open_;go_enter func197,ntmps197;go_wp2;go_loopw [9] (fun i wr=> ∃j:Nat,j<=l/\i=.int .i64 j/\Hid (l.all (fun p=>decide (lJ.next p days<0))=(l.drop j).all (fun p=>decide (lJ.next p days<0)))/\
   fc wr w 184 [k,d,.slice A l c,r,s,t,u,h,days]/\Below w w wr) (fun i _=>l.length-(intOf i).toNat)
 case atStart=>exact⟨0,eC _,rfl,rfl,fc.new _ _ _,bF.alloc lE _⟩
 case round=>
  obtain⟨j,N,rfl,H,g,f⟩:=hrel;have K:=g.lt;have L:=g.c 2;have M:=g.c 8;by_cases D:j<l
  ·obtain⟨p,q⟩:=ec D;obtain⟨b,o,rfl,I,F⟩:=a j p q;have J:=(f.cell (p:=pA b (o+j)) I).trans F;have y:=E p (a8 q);have m:=H.out;rw[oh q,eR] at m;clear H a v q F;by_cases G:lJ.next p days<0
   ·rw[decide_eq_true G,kh] at m;have x:=zH m;clear m;go_wp2_with (go_at_call 235;refine(EJ _ y _ _).mono ?_;rintro e w1 ⟨rfl,n⟩);go_roundw
    case rel=>exact⟨j+1,oG,by go_num,x,g.below n K,f.trans (n.mono oG)⟩
    case measure=>exact mI
   ·rw[decide_eq_false G,qN] at m;have x:=zH m;clear m;go_wp2_with (go_at_call 235;refine(EJ _ y _ _).mono ?_;rintro e w1 ⟨rfl,n⟩);go_ret;exact⟨ji (by rw[kl,x.out,qN]),f.trans (n.mono oG)⟩
  ·have m:=H.out;rw[iE oG] at m;have x:=zH m;clear m H a v;go_wp2_with (go_at_call 120;refine(oP _ _ _ _).mono ?_;rintro e w' ⟨rfl,rfl⟩);go_ret;exact⟨ji (by rw[kl,x.out];rfl),f⟩
def Lg (w:World):
  Calls prog 155 #[.int .i64 1] w fun e w'=>e=.returned (.slice w 3 3)/\
   fc w' w 182 [.func (.func 196) #[] #[],.func (.func 197) #[] #[],.func (.func 198) #[] #[]]/\Below w w w':=by
 go_enter func155,ntmps155;go_wp2;go_ret;exact⟨rfl,fc.new _ _ _,bF.alloc lE _⟩
def Lh (w:World):
  Calls prog 155 #[.int .i64 2] w fun e w'=>e=.returned (.slice w 6 6)/\
   fc w' w 182 [.func (.func 199) #[] #[],.func (.func 200) #[] #[],.func (.func 201) #[] #[],
    .func (.func 202) #[] #[],.func (.func 203) #[] #[],.func (.func 204) #[] #[]]/\Below w w w':=by
 go_enter func155,ntmps155;go_wp2;go_ret;exact⟨rfl,fc.new _ _ _,bF.alloc lE _⟩
def Lf (k:Int) (a:k≠1) (b:k≠2) (w:World):
  Calls prog 155 #[k] w fun e w'=>e=.returned ()/\w=w':=by
 go_enter func155,ntmps155;go_wp2;go_ret;exact⟨rfl,rfl⟩
open Go.RowKit jm
theorem Q5{p:Prop}(h:p:=by
 go_roundw
 case rel=>exact⟨n,by rw[z.out];omega,by rw[z.out];first|rfl|go_num,o,c.below a K,m.below a E,f.trans (a.mono oG)⟩
 case measure=>simp[intOf]):p:=h
abbrev Pk (k d:Int) (pv:Value) (r s t u h days:Int):List Value:=[k,d,pv,r,s,t,u,h,days]
def F0 (d r s t u h days:Int) (x:Value) (l:List Nat) (w:World) (J:lu w x l) (G: ∀s∈l,s<18446744073709551616):
  Calls prog 121 #[.agg (Pk 1 d x r s t u h days).toArray] w fun e w'=>e=.returned (.bool ([gP d 1 2147483648,kl l days,(r==0&&s==0&&t==0&&u==0&&h==0)].all id))/\Below w w w':=by
 obtain⟨L,A⟩:=nR ([gP d 1 2147483648,kl l days,(r==0&&s==0&&t==0&&u==0&&h==0)].all id);rw[A];go_enter func121,ntmps121;go_wp2_with fail;refine(Lg _).mono ?_;rintro e w1 ⟨rfl,m,a⟩;have c:=(fc.new w 184 (Pk 1 d x r s t u h days)).below a sI;have q:fc w1 (w+1) 182 [.func (.func 196) #[] #[],.func (.func 197) #[] #[],.func (.func 198) #[] #[]]:=by simpa using m
 have p:Below w w w1:=(bF.alloc lE _).trans (a.mono sI);have I:=zH A.symm;clear m a A;go_wp2_with fail;go_loopw [12] (fun i wr=> ∃j:Nat,j<=3/\i=.int .i64 j/\Hid (L=([gP d 1 2147483648,kl l days,(r==0&&s==0&&t==0&&u==0&&h==0)].drop j).all id)/\fc wr w 184 (Pk 1 d x r s t u h days)/\fc wr (w+1) 182 [.func (.func 196) #[] #[],.func (.func 197) #[] #[],.func (.func 198) #[] #[]]/\Below w w wr) (fun i _=>3-(intOf i).toNat)
 case atStart=>exact⟨0,eC _,rfl,I,c,q,p⟩
 case round=>
  clear c q p;obtain⟨j,M,rfl,H,c,m,f⟩:=hrel;have K:=c.lt;have E:=m.lt;have B:=c.iY;have C:=m.iY;simp only[im,Nat.reduceAdd] at B C;have v:lu wr x l:=J.below f lE;have y:Hid (j<3-> ∃b,[gP d 1 2147483648,kl l days,(r==0&&s==0&&t==0&&u==0&&h==0)].drop j=b::[gP d 1 2147483648,kl l days,(r==0&&s==0&&t==0&&u==0&&h==0)].drop (j+1)):=zH fun h=>⟨_,qW h⟩;obtain⟨n,F⟩:=nE (j+1);have z:=zH F;clear F;have D:j=0\/j=1\/j=2\/j=3:=oG
  rcases D with rfl|rfl|rfl|rfl
  rotate_right 1
  ·have o:=zH (show L=true by rw[H.out];rfl);clear H y;go_wp2;go_ret;exact⟨ji o.symm,f⟩
  all_goals
   obtain⟨b,g⟩:=y dE;have k:=(List.cons.inj (show _::_=b::_ from g)).1;cases b
   ·have o:=zH (show L=false by rw[H.out,g];rfl);clear H y g;go_wp2_with (first|(go_at_call 196;refine(A8 _ _ _ _ _ _ _ _ _ _).mono ?_;rintro e w1 ⟨rfl,a⟩;rw[k])|(go_at_call 197;refine(xp _ _ _ _ _ _ _ _ _ l _ v G).mono ?_;rintro e w1 ⟨rfl,a⟩;rw[k])|(go_at_call 198;refine(zq _ _ _ _ _ _ _ _ _ _).mono ?_;rintro e w1 ⟨rfl,a⟩;rw[k]));go_ret;exact⟨ji o.symm,f.trans (a.mono oG)⟩
   ·have o:=zH (show L=([gP d 1 2147483648,kl l days,(r==0&&s==0&&t==0&&u==0&&h==0)].drop n).all id by rw[H.out,g,z.out];rfl);clear H y g;go_wp2_with (first|(go_at_call 196;refine(A8 _ _ _ _ _ _ _ _ _ _).mono ?_;rintro e w1 ⟨rfl,a⟩;rw[k])|(go_at_call 197;refine(xp _ _ _ _ _ _ _ _ _ l _ v G).mono ?_;rintro e w1 ⟨rfl,a⟩;rw[k])|(go_at_call 198;refine(zq _ _ _ _ _ _ _ _ _ _).mono ?_;rintro e w1 ⟨rfl,a⟩;rw[k]));exact Q5
def F1 (d r s t u h days:Int) (x:Value) (l:List Nat) (w:World) (J:lu w x l) (G: ∀s∈l,s<18446744073709551616):
  Calls prog 121 #[.agg (Pk 2 d x r s t u h days).toArray] w fun e w'=>e=.returned (.bool ([gP r 0 2147483648,gP s 1 2147483648,gP t 0 s,(u==1||u==2),gP h 0 1024,(decide (l.length=0)&&d==0)].all id))/\Below w w w':=by
 obtain⟨L,A⟩: ∃L,[gP r 0 2147483648,gP s 1 2147483648,gP t 0 s,(u==1||u==2),gP h 0 1024,(decide (l.length=0)&&d==0)].all id=L:=⟨_,rfl⟩;rw[A];go_enter func121,ntmps121;go_wp2_with fail;refine(Lh _).mono ?_;rintro e w1 ⟨rfl,m,a⟩;have c:=(fc.new w 184 (Pk 2 d x r s t u h days)).below a sI;have q:fc w1 (w+1) 182 [.func (.func 199) #[] #[],.func (.func 200) #[] #[],.func (.func 201) #[] #[],.func (.func 202) #[] #[],.func (.func 203) #[] #[],.func (.func 204) #[] #[]]:=by simpa using m
 have p:Below w w w1:=(bF.alloc lE _).trans (a.mono sI);have I:=zH A.symm;clear m a A;go_wp2_with fail;go_loopw [12] (fun i wr=> ∃j:Nat,j<=6/\i=.int .i64 j/\Hid (L=([gP r 0 2147483648,gP s 1 2147483648,gP t 0 s,(u==1||u==2),gP h 0 1024,(decide (l.length=0)&&d==0)].drop j).all id)/\fc wr w 184 (Pk 2 d x r s t u h days)/\fc wr (w+1) 182 [.func (.func 199) #[] #[],.func (.func 200) #[] #[],.func (.func 201) #[] #[],.func (.func 202) #[] #[],.func (.func 203) #[] #[],.func (.func 204) #[] #[]]/\Below w w wr) (fun i _=>6-(intOf i).toNat)
 case atStart=>exact⟨0,eC _,rfl,I,c,q,p⟩
 case round=>
  clear c q p;obtain⟨j,M,rfl,H,c,m,f⟩:=hrel;have K:=c.lt;have E:=m.lt;have B:=c.iY;have C:=m.iY;simp only[im,Nat.reduceAdd] at B C;have v:lu wr x l:=J.below f lE;have y:Hid (j<6-> ∃b,[gP r 0 2147483648,gP s 1 2147483648,gP t 0 s,(u==1||u==2),gP h 0 1024,(decide (l.length=0)&&d==0)].drop j=b::[gP r 0 2147483648,gP s 1 2147483648,gP t 0 s,(u==1||u==2),gP h 0 1024,(decide (l.length=0)&&d==0)].drop (j+1)):=zH fun h=>⟨_,qW h⟩;obtain⟨n,F⟩:=nE (j+1);have z:=zH F;clear F;have D:j=0\/j=1\/j=2\/j=3\/j=4\/j=5\/j=6:=oG
  rcases D with rfl|rfl|rfl|rfl|rfl|rfl|rfl
  rotate_right 1
  ·have o:=zH (show L=true by rw[H.out];rfl);clear H y;go_wp2;go_ret;exact⟨ji o.symm,f⟩
  all_goals
   obtain⟨b,g⟩:=y dE;have k:=(List.cons.inj (show _::_=b::_ from g)).1;cases b
   ·have o:=zH (show L=false by rw[H.out,g];rfl);clear H y g;go_wp2_with (first|(go_at_call 199;refine(JL _ _ _ _ _ _ _ _ _ _).mono ?_;rintro e w1 ⟨rfl,a⟩;rw[k])|(go_at_call 200;refine(Fu _ _ _ _ _ _ _ _ _ _).mono ?_;rintro e w1 ⟨rfl,a⟩;rw[k])|(go_at_call 201;refine(Bv _ _ _ _ _ _ _ _ _ _).mono ?_;rintro e w1 ⟨rfl,a⟩;rw[k])|(go_at_call 202;refine(Fm _ _ _ _ _ _ _ _ _ _).mono ?_;rintro e w1 ⟨rfl,a⟩;rw[k])|(go_at_call 203;refine(EV _ _ _ _ _ _ _ _ _ _).mono ?_;rintro e w1 ⟨rfl,a⟩;rw[k])|(go_at_call 204;refine(vj _ _ _ _ _ _ _ _ _ l _ v).mono ?_;rintro e w1 ⟨rfl,a⟩;rw[k]));go_ret;exact⟨ji o.symm,f.trans (a.mono oG)⟩
   ·have o:=zH (show L=([gP r 0 2147483648,gP s 1 2147483648,gP t 0 s,(u==1||u==2),gP h 0 1024,(decide (l.length=0)&&d==0)].drop n).all id by rw[H.out,g,z.out];rfl);clear H y g;go_wp2_with (first|(go_at_call 199;refine(JL _ _ _ _ _ _ _ _ _ _).mono ?_;rintro e w1 ⟨rfl,a⟩;rw[k])|(go_at_call 200;refine(Fu _ _ _ _ _ _ _ _ _ _).mono ?_;rintro e w1 ⟨rfl,a⟩;rw[k])|(go_at_call 201;refine(Bv _ _ _ _ _ _ _ _ _ _).mono ?_;rintro e w1 ⟨rfl,a⟩;rw[k])|(go_at_call 202;refine(Fm _ _ _ _ _ _ _ _ _ _).mono ?_;rintro e w1 ⟨rfl,a⟩;rw[k])|(go_at_call 203;refine(EV _ _ _ _ _ _ _ _ _ _).mono ?_;rintro e w1 ⟨rfl,a⟩;rw[k])|(go_at_call 204;refine(vj _ _ _ _ _ _ _ _ _ l _ v).mono ?_;rintro e w1 ⟨rfl,a⟩;rw[k]));exact Q5
def vh (x:kc) (days:Int) (b:Value) (w:World) (m:lu w b x.jC) (a: ∀s∈x.jC,s<18446744073709551616):
  Calls prog 121 #[.agg #[x.kind,x.iL,b,x.jU,x.size,x.start,x.lR,x.hold,days]] w
   fun e w'=>e=.returned (.bool (jT x days))/\Below w w w':=by
 obtain⟨k,d,l,r,s,t,u,h⟩:=x;by_cases c:k=1
 ·subst c;exact(F0 d r s t u h days b l w m a).mono fun e w' ⟨j,g⟩=>⟨j,g⟩
 ·by_cases f:k=2
  ·subst f;exact(F1 d r s t u h days b l w m a).mono fun e w' ⟨j,g⟩=>⟨j,g⟩
  ·have H:=zH (show jT ⟨k,d,l,r,s,t,u,h⟩ days=false by rw[jT,if_neg c,if_neg f]);go_enter func121,ntmps121;go_wp2_with fail;refine(Lf k c f _).mono ?_;rintro e w1 ⟨rfl,rfl⟩;go_wp2_with fail
   go_loop [12] (fun i=>i=.int .i64 0) (fun _=>0)
   case atStart=>exact rfl
   case round=>subst hrel;go_wp2;go_ret;exact⟨ji H.symm,bF.alloc lE _⟩
theorem rS.open_ {w:World} {v:Value} {L:List (List Int)} (h:rS w v L): ∃A c,v=.slice A L.length c/\L.length<=c/\c<=9223372036854775807/\
  ∀i r,L[i]? =some r-> ∃b o,A=some ⟨b,o,none⟩/\b<w.heap.size/\ ∃A1 c1,w.cell? ⟨b,o+i,none⟩=some (.slice A1 r.length c1)/\r.length<=c1/\c1<=9223372036854775807/\
   ∀j z,r[j]? =some z-> ∃b1 o1,A1=some ⟨b1,o1,none⟩/\b1<w.heap.size/\w.cell? ⟨b1,o1+j,none⟩=some (.int .i64 z):=by
 obtain⟨A,c,hv,h1,h2,h3⟩:=h;refine⟨A,c,hv,h1,by simpa[maxLen] using h2,fun i r hr=> ?_⟩;obtain⟨b,o,hA,hb,hc⟩:=h3 (by have:=fP hr;omega);obtain⟨rv,hrv,hcell⟩:=hc i r hr;obtain⟨A1,c1,rfl,g1,g2,g3⟩:=hrv.open_;exact⟨b,o,hA,hb,A1,c1,hcell,g1,g2,g3⟩
theorem Ba (dv:Value) (D:List (List Int)) (n:Nat) (hn:n<=2000000) (w:World) (hd:rS w dv D):
  Calls prog 122 #[dv,n] w fun e w'=>e=.returned (.bool (pq D n))/\w=w':=by
 obtain⟨A,c,rfl,hc1,hc2,hcell⟩:=hd.open_;clear hd;by_cases hl:D.length=n
 ·have H0:=zH (show pq D n=mU n 0 D by rw[pq,decide_eq_true hl,kh]);subst hl;go_enter func122,ntmps122;go_wp2_with fail
  go_loop [15] (fun i=> ∃j:Nat,j<=D.length/\i=.int .i64 j/\Hid (mU D.length 0 D=mU D.length j (D.drop j))) (fun i=>D.length-(intOf i).toNat)
  case atStart=>exact⟨0,eC _,rfl,rfl⟩
  case round=>
   obtain⟨j,hj,rfl,H⟩:=hrel;by_cases hlt:j<D.length
   ·obtain⟨r,hr⟩:=ec hlt;obtain⟨b,o,rfl,hb,A1,c1,hk,g1,g2,g3⟩:=hcell j r hr;have hd:=H.out;rw[oh hr,mU] at hd;clear H hcell hr;by_cases hrl:r.length=D.length
    ·obtain⟨z,hz⟩:=ec (l:=r) (i:=j) oG;obtain⟨b1,o1,rfl,hb1,hk1⟩:=g3 j z hz;by_cases hz0:z=0
     ·have hd2:mU D.length 0 D=(r.all (fun d=>gP d 0 2147483648)&&mU D.length (j+1) (D.drop (j+1))):=by rw[hd,vP,decide_eq_true hrl,hz];simp[hz0]
      have HD:=zH hd2;have HRL:=zH hrl;rw[hrl] at hk;have G3:=zH g3;subst hz0;clear hd hd2 hrl hz g3;go_wp2_with fail
      go_loop [33] (fun i=> ∃m:Nat,m<=D.length/\i=.int .i64 m/\Hid (r.all (fun d=>gP d 0 2147483648)=(r.drop m).all (fun d=>gP d 0 2147483648))) (fun i=>D.length-(intOf i).toNat)
      case atStart=>exact⟨0,eC _,rfl,rfl⟩
      case round=>
       obtain⟨m,hm,rfl,H⟩:=hrel;by_cases hlm:m<D.length
       ·obtain⟨y,hy⟩:=ec (l:=r) (i:=m) (by have:=HRL.out;omega);obtain⟨b2,o2,he,hb2,hk2⟩:=G3.out m y hy;injection he with he
        injection he with he1 he2
        subst he1;subst he2;have hd:=H.out;rw[oh hy,eR] at hd;clear H hy
        rcases jO (gP y 0 2147483648) with hB|hB
        ·rw[hB,kh] at hd;have HE:=zH hd;clear hd;go_wp2_with (go_at_call 120;refine(oP _ _ _ _).mono ?_;rintro e w' ⟨rfl,rfl⟩;try rw[hB])
         go_round
         case rel=>exact⟨m+1,oG,by go_num,HE⟩
         case measure=>exact mI
        ·rw[hB,qN] at hd;have HE:=zH hd;clear hd;go_wp2_with (go_at_call 120;refine(oP _ _ _ _).mono ?_;rintro e w' ⟨rfl,rfl⟩;try rw[hB]);go_ret;exact⟨ji (by rw[H0.out,HD.out,HE.out];rfl),rfl⟩
       ·have hd:=H.out;rw[iE (by have:=HRL.out;omega)] at hd;have HE:=zH hd;clear hd H;go_wp2
        go_round
        case rel=>exact⟨j+1,oG,by go_num,by have:=HD.out;rw[HE.out] at this;exact this⟩
        case measure=>exact mI
     ·have hd2:mU D.length 0 D=false:=by rw[hd,vP,decide_eq_true hrl,hz];simp[hz0]
      have HD:=zH hd2;have HRL:=zH hrl;rw[hrl] at hk;clear hd hd2 hrl hz g3;go_wp2_with fail;go_ret;exact⟨ji (by rw[H0.out,HD.out]),rfl⟩
    ·have hd2:mU D.length 0 D=false:=by rw[hd,vP,decide_eq_false hrl];simp
     have HD:=zH hd2;clear hd hd2 g3;go_wp2_with fail;go_ret;exact⟨ji (by rw[H0.out,HD.out]),rfl⟩
   ·have hd:=H.out;rw[iE oG] at hd;have HD:=zH hd;clear hd H hcell;go_wp2_with fail;go_ret;exact⟨ji (by rw[H0.out,HD.out];rfl),rfl⟩
 ·have H:=zH (show pq D n=false by rw[pq,decide_eq_false hl,qN]);go_enter func122,ntmps122;go_wp2;go_ret;exact⟨ji H.out.symm,rfl⟩
theorem Q6{p:Prop}(h:p:=by have p:=zH (show [gP h 0 2147483648,gP cap 0 2147483648,gP g 0 2147483648].all id=false by rw[m];simp only[rp,sX,eR,id];rw[hC,qN]);clear m;go_wp2_with (go_at_call 120;refine(oP _ _ _ _).mono ?_;rintro e w' ⟨rfl,rfl⟩;try rw[hC]);go_ret;exact⟨oC (AD (by rw[F.out,p.out];rfl)).symm,d⟩):p:=h
theorem Q7{p:Prop}(h:p:=by clear l q B;obtain⟨days,h,cap,g,a,f⟩:=x;go_enter func78,ntmps78;go_wp2_with (go_at_call 120;refine(oP _ _ _ _).mono ?_;rintro e w' ⟨rfl,rfl⟩;try rw[hB]);go_ret;exact⟨oC (AD H).symm,bF.alloc lE _⟩):p:=h
def qp.open_ {w:World} {v:Value} {L:List kc} (h:qp w v L): ∃A c,v=.slice A L c/\L.length<=c/\c<=9223372036854775807/\
  ∀i x,L[i]? =some x-> ∃b o,A=some ⟨b,o,none⟩/\b<w.heap.size/\ ∃M,lu w M x.jC/\
   w.cell? (pA b (o+i*8))=some x.kind/\w.cell? (pA b (o+i*8+1))=some x.iL/\w.cell? (pA b (o+i*8+2))=some M/\
   w.cell? (pA b (o+i*8+3))=some x.jU/\w.cell? (pA b (o+i*8+4))=some x.size/\w.cell? (pA b (o+i*8+5))=some x.start/\
   w.cell? (pA b (o+i*8+6))=some x.lR/\w.cell? (pA b (o+i*8+7))=some x.hold:=by
 obtain⟨A,c,j,a,d,e⟩:=h;refine⟨A,c,j,a,by simpa[maxLen] using d,fun i x z=>?_⟩;obtain⟨b,o,f,O,g⟩:=e (by have:=fP z;omega);exact⟨b,o,f,O,g i x z⟩
def MR (v:Value) (x:fS) (w:World) (z:iz w v x) (S:x.wf) (hn:x.eB.length<=1000000):
  Calls prog 78 #[v] w fun e w'=>e=.returned (Od x)/\Below w w w':=by
 obtain⟨cv,dv,rfl,I,E⟩:=z;obtain⟨A,c,rfl,af,ag,l⟩:=I.open_;obtain⟨A1,c1,rfl,ah,ai,-⟩:=E.open_;obtain⟨-,-,-,-,q,-⟩:=S;have B:=zH E;clear I E
 rcases jO (gP x.days 1 64) with hB|hB
 rotate_left
 ·have H:=zH (show may x=false by rw[may,hB];simp);exact Q7
 by_cases N:x.eB.length<=2000;rotate_left
 ·have H:=zH (show may x=false by rw[may,decide_eq_false N];simp);exact Q7
 have F:=zH (show may x=([gP x.mm 0 2147483648,gP x.cap 0 2147483648,gP x.len 0 2147483648].all id&&(x.eB.all (fun c=>jT c x.days)&&pq x.gn (x.eB+1))) by rw[may,hB,decide_eq_true N];simp[vZ]);have P:decide ((2000:Int)<(x.eB.length:Int))=false:=by simp;omega
 clear N;obtain⟨days,h,cap,g,a,f⟩:=x;go_enter func78,ntmps78;go_wp2_with (go_at_call 120;refine(oP _ _ _ _).mono ?_;rintro e w' ⟨rfl,rfl⟩;try rw[hB]);clear P;go_loopw [25] (fun i wr=> ∃j:Nat,j<=3/\i=.int .i64 j/\Hid ([gP h 0 2147483648,gP cap 0 2147483648,gP g 0 2147483648].all id=([gP h 0 2147483648,gP cap 0 2147483648,gP g 0 2147483648].drop j).all id)/\
   fc wr w 25 [days,h,cap,g,.slice A a c,.slice A1 f c1]/\fc wr (w+1) 3 [h,cap,g]/\Below w w wr) (fun i _=>3-(intOf i).toNat)
 case atStart=>exact⟨0,eC _,rfl,rfl,(fc.new w _ [days,h,cap,g,.slice A a c,.slice A1 f c1]).alloc _,by simpa using fc.new (w.alloc _) _ [h,cap,g],(bF.alloc lE _).alloc sI _⟩
 case round=>
  obtain⟨j,hj,rfl,H,k,n,d⟩:=hrel;have Q:j=0\/j=1\/j=2\/j=3:=oG
  rcases Q with rfl|rfl|rfl|rfl
  ·have X:=n.c 0;have m:=H.out;clear H l q
   rcases jO (gP h 0 2147483648) with hC|hC
   ·have p:=zH (show [gP h 0 2147483648,gP cap 0 2147483648,gP g 0 2147483648].all id=([gP h 0 2147483648,gP cap 0 2147483648,gP g 0 2147483648].drop 1).all id by rw[m];simp only[rp,sX,eR,id];rw[hC,kh]);clear m;go_wp2_with (go_at_call 120;refine(oP _ _ _ _).mono ?_;rintro e w' ⟨rfl,rfl⟩;try rw[hC]);go_roundw
    case rel=>exact⟨1,oG,by go_num,p,k,n,d⟩
    case measure=>simp[intOf]
   ·have p:=zH (show [gP h 0 2147483648,gP cap 0 2147483648,gP g 0 2147483648].all id=false by rw[m];simp only[sX,eR,id];rw[hC,qN]);clear m;go_wp2_with (go_at_call 120;refine(oP _ _ _ _).mono ?_;rintro e w' ⟨rfl,rfl⟩;try rw[hC]);go_ret;exact⟨oC (AD (by rw[F.out,p.out];rfl)).symm,d⟩
  ·have X:=n.c 1;have m:=H.out;clear H l q
   rcases jO (gP cap 0 2147483648) with hC|hC
   ·have p:=zH (show [gP h 0 2147483648,gP cap 0 2147483648,gP g 0 2147483648].all id=([gP h 0 2147483648,gP cap 0 2147483648,gP g 0 2147483648].drop 2).all id by rw[m];simp only[rp,sX,eR,id];rw[hC,kh]);clear m;go_wp2_with (go_at_call 120;refine(oP _ _ _ _).mono ?_;rintro e w' ⟨rfl,rfl⟩;try rw[hC]);go_roundw
    case rel=>exact⟨2,oG,by go_num,p,k,n,d⟩
    case measure=>simp[intOf]
   ·exact Q6
  ·have X:=n.c 2;have m:=H.out;clear H l q
   rcases jO (gP g 0 2147483648) with hC|hC
   ·have p:=zH (show [gP h 0 2147483648,gP cap 0 2147483648,gP g 0 2147483648].all id=([gP h 0 2147483648,gP cap 0 2147483648,gP g 0 2147483648].drop 3).all id by rw[m];simp only[rp,sX,eR,id];rw[hC,kh]);clear m;go_wp2_with (go_at_call 120;refine(oP _ _ _ _).mono ?_;rintro e w' ⟨rfl,rfl⟩;try rw[hC]);go_roundw
    case rel=>exact⟨3,oG,by go_num,p,k,n,d⟩
    case measure=>simp[intOf]
   ·exact Q6
  ·have V:=zH (show may ⟨days,h,cap,g,a,f⟩=(a.all (fun c=>jT c days)&&pq f (a.length+1)) by rw[F.out,H.out];rfl);clear H F n;have W:=k.c 4;rw[show((3:Nat):Int)=3 from rfl];go_wp2_with fail;clear W;obtain⟨wo,T⟩:=nE (wr:World);subst T;go_loopw [36] (fun i wr=> ∃j:Nat,j<=a/\i=.int .i64 j/\Hid (a.all (fun c=>jT c days)=(a.drop j).all (fun c=>jT c days))/\
     fc wr w 25 [days,h,cap,g,.slice A a c,.slice A1 f c1]/\Below w w wr) (fun i _=>a.length-(intOf i).toNat)
   case atStart=>exact⟨0,eC _,rfl,rfl,k,d⟩
   case round=>
    clear k d;obtain⟨j,hj,rfl,H,k,d⟩:=hrel;have hz:=k.lt;by_cases R:j<a
    ·obtain⟨x,z⟩:=ec R;obtain⟨b,o,rfl,O,M,K,Y,Z,k2,k3,k4,k5,k6,k7⟩:=l j x z;have aa:=bP O d.size;have ae:=k.c 0;replace Y:=a7 d lE Y;replace Z:=a7 d lE Z;replace k2:=a7 d lE k2;replace k3:=a7 d lE k3;replace k4:=a7 d lE k4;replace k5:=a7 d lE k5;replace k6:=a7 d lE k6;replace k7:=a7 d lE k7;have r:lu wr M x.jC:=K.below d lE;obtain⟨Ap,cp,rfl,aj,ak,-⟩:=r.open_;have L:=(q x (a8 z)).2.2.1;have m:=H.out;rw[oh z,eR] at m;clear H l q z;clear K;have u: ∀U,Below wr wr (wr.alloc U):=fun U=>bF.alloc lE U
     rcases jO (jT x days) with hC|hC
     ·rw[hC,kh] at m;obtain⟨p,t,s,C⟩:=Zd m hC u r;clear m hC u r;go_wp2_with fail;refine(vh x days _ _ (C.below (s _) lE) L).mono ?_;rintro e w1 ⟨rfl,D⟩;rw[t.out];have y:=(s _).trans (D.mono sI);go_wp2;go_roundw
      case rel=>exact⟨j+1,oG,by go_num,p,k.below y hz,d.trans (y.mono oG)⟩
      case measure=>exact mI
     ·rw[hC,qN] at m;obtain⟨p,t,s,C⟩:=Zd m hC u r;clear m hC u r;go_wp2_with fail;refine(vh x days _ _ (C.below (s _) lE) L).mono ?_;rintro e w1 ⟨rfl,D⟩;rw[t.out];have y:=(s _).trans (D.mono sI);go_wp2;go_ret;exact⟨oC (AD (by rw[V.out,p.out];rfl)).symm,d.trans (y.mono oG)⟩
    ·have m:=H.out;rw[iE oG] at m;have p:=zH (show may ⟨days,h,cap,g,a,f⟩=pq f (a.length+1) by rw[V.out,m];rfl);have J:rS wr (.slice A1 f c1) f:=B.below d lE;have G:=zH J;clear m H l q J;have W:=k.c 4;have b5:=k.c 5
     rcases jO (pq f (a+1)) with hC|hC
     ·have t:=zH hC;clear hC;go_wp2_with fail;refine(Ba _ f (a+1) oG _ G).mono ?_;rintro e w1 ⟨rfl,rfl⟩;rw[t.out];go_wp2;go_ret;exact⟨oC (Rx (by rw[p.out,t.out])).symm,d⟩
     ·have t:=zH hC;clear hC;go_wp2_with fail;refine(Ba _ f (a+1) oG _ G).mono ?_;rintro e w1 ⟨rfl,rfl⟩;rw[t.out];go_wp2;go_ret;exact⟨oC (AD (by rw[p.out,t.out])).symm,d⟩
open Go.RowKit
def Ie (q b a:Int) (c f:Nat) (w:World) (d:fc w c 3 [b]) (h:c≠f) (k:w.cell? (pA f 3)=some a):
  Calls prog 186 #[q,.pointer c,.pointer f] w fun e w'=>
   e=.returned (.tuple #[(wrap64 (b+q)),(wrap64 (wrap64 (b+q)-a))])/\ ∃i,w'=(w.setCell c (wrap64 (wrap64 (b+q)-a))).drewN i:=by
 have c0:=d.c 0;have j:=d.frozen 0;have g:=d.gH 0 (wrap64 (wrap64 (b+q)-a));have c1:=g.cell 0;simp only[fJ,fK] at c1;clear d g;go_enter func186,ntmps186;go_wp2_with fail
 go_quiet (fail)
 go_wp2_with fail
 go_ret2
 exact⟨rfl,_,rfl⟩
def Jq (g h:Int) (f:Option Addr) (i c0:Nat) (a size b d c:Int) (w:World):
  Calls prog 140 #[.agg #[g,h,.slice f i c0,a,size,b,d,c]] w fun e w'=>
   e=.returned (.func (.func 186) #[] #[.pointer (pB (w+1)),.pointer w])/\w'=(w.alloc (cB 47 [g,h,.slice f i c0,a,size,b,d,c])).alloc (cB 3 [b]):=by
 have l: ∀(k:Fn) (first cap:Array Value) (w:World),(Instr.makeFunc k first cap).run prog w=.ok (.func k first cap) w:=fun _ _ _ _=>rfl;have j:=fc.new w 47 [g,h,.slice f i c0,a,size,b,d,c];have c5:=j.c 5;clear j;go_enter func140,ntmps140;go_wp2;go_ret;exact⟨rfl,rfl⟩
open Go.RowKit Et
theorem Rg{p:Prop}(h:p:=by
 go_wp2_with fail
 go_ret2
 refine⟨.slice none 0 0,?_,?_,Q⟩
 ·unfold pX;rw[t.out,I.out];rfl
 ·unfold sL;rw[t.out,I.out];exact RS.none_ _ _):p:=h
theorem Rh{p:Prop}(h:p:=by
 go_wp2_with fail
 go_ret2
 refine⟨.slice none 0 0,?_,?_,s⟩
 ·unfold pX;rw[I.out];rfl
 ·unfold sL;rw[I.out];exact RS.none_ _ _):p:=h
def Uf (q:List Int):Bool:=q.all fun a=>decide (0<=a)&&decide (a<=2147483648)
def sL (d size f:Int) (q:List Int):List Int:=if Uf q then(oA d size f q).getD [] else []
def pX (d size f:Int) (q:List Int):Int:=if Uf q then(if (oA d size f q).isSome then 0 else 8) else 1
def KG:(prog.info? 3).map (fun i=>(i.zero,i.size,i.bytes))=some (some (.int .i64 0),1,8):=kR
def run_make_room (n:Nat) (c:n<=1000000) (w:World):
  (Instr.makeSlice 26 Zo (n:Int)).run prog w=.ok (.slice w 0 n) (w.alloc (cB 3 (kE n))):=by
 obtain⟨i,hi,a,h1,b⟩:=EX KG;have h:=run_make (P:=prog) w 26 3 i _ underlying26 hi a .i64 .i64 0 (n:Int) oG oG (by rw[b];omega) oG;rw[h,gu,h1,jR,Da];rfl
def yC {B:Nat} {a w:World} (h:Below B a w) (n:Nat):Below B a (w.drewN n):=⟨h.os,h.tape,h.output,h.size,h.block⟩
def fc.RC (w:World) (t:TypeId) (a:List Value) {g:Nat} (b:g=w):fc (w.alloc (cB t a)) g t a:=by subst b;exact fc.new w t a
def Bs (C D:Int) (B:Option Addr) (G c0:Nat) (d size f j h:Int) (v:Value) (q:List Int) (w:World) (hr:gx w .i64 v q) (hq:q.length<=1000)
  (hs:0<=f/\f<=size) (hz:size<=2147483648) (au:0<=d/\d<=2147483648):
  Calls prog 89 #[.agg #[C,D,.slice B G c0,d,size,f,j,h],v] w fun e w'=>
   ∃u,e=.returned (.tuple #[u,(pX d size f q)])/\gx w' .i64 u (sL d size f q)/\Below w w w':=by
 obtain⟨A,c,rfl,h1,h2,hc⟩:=hr.open_;have HC:=zH hc;have ar:=fun W=>run_make_room q oG W;clear hr hc;have s:=(bS w w).alloc lE (cB 47 [C,D,.slice B G c0,d,size,f,j,h]);have H:=fc.new w 47 [C,D,.slice B G c0,d,size,f,j,h];go_enter func89,ntmps89;go_wp2_with fail;go_loopw [16] (fun T wr=> ∃i:Nat,i<=q/\T=.int .i64 i/\Hid (Uf (q.take i)=true)/\wr=w.alloc (cB 47 [C,D,.slice B G c0,d,size,f,j,h])) (fun T _=>q.length-(intOf T).toNat)
 case atStart=>exact⟨0,eC _,rfl,rfl,rfl⟩
 case round=>
  obtain⟨i,hi,rfl,Y,rfl⟩:=hrel;by_cases S:i<q
  ·obtain⟨z,k⟩: ∃z,q[i]? =some z:=⟨_,fp S⟩;obtain⟨b,o,rfl,hb,y⟩:=HC i z k;have y0:=((xi s).1 b (o+i) hb).trans y;by_cases m:0<=z/\z<=2147483648
   ·have X:Hid (Uf (q.take (i+1))=true):=zH (by
     have:=Y.out;unfold Uf at this|-
     rw[gk,k,lY,my,this];simp[m.1,m.2])
    obtain⟨ay,L⟩:=m;clear k y;go_wp2_with fail;go_roundw
    case rel=>exact⟨i+1,oG,by go_num,X,by first|rfl|trivial⟩
    case measure=>exact mI
   ·have I:Hid (Uf q=false):=zH (by unfold Uf;rw[nV];refine⟨z,a8 k,?_⟩;simp only[a6,decide_eq_true_eq];exact m);have an:z<0\/2147483648<z:=oG;clear k y m
    rcases an with L|L
    ·exact Rh
    ·have az:0<=z:=oG;exact Rh
  ·obtain rfl:i=q.length:=oG;have t:Hid (Uf q=true):=by have:=Y.out;rw[gh] at this;exact zH this
   have k0:=H.c 0;have k1:=H.c 1;have k2:=H.c 2;have k3:=H.c 3;have k4:=H.c 4;have k5:=H.c 5;have k6:=H.c 6;have k7:=H.c 7;go_wp2_with fail;refine(Jq C D B G c0 d size f j h _).mono ?_;rintro e w1 ⟨rfl,x⟩;have b2:fc w1 w 47 [C,D,.slice B G c0,d,size,f,j,h]:=by rw[x];exact(H.alloc _).alloc _
   have Z:fc w1 (w+1) 47 [C,D,.slice B G c0,d,size,f,j,h]:=by rw[x];exact(fc.RC _ _ _ sI).alloc _
   have bT:fc w1 (w+1+1) 3 [f]:=by rw[x];exact fc.RC _ _ _ sI
   have L:w1.heap.size=w.heap.size+1+1+1:=by rw[x];simp
   have P:Below w w w1:=by rw[x];exact(s.alloc s.size _).alloc (by have:=s.size;simp;omega) _
   have ho:Hid ((w1.alloc (cB 3 (kE q.length))).ownsRow w1 3 1 (.slice w1 0 q.length) 0 []):=zH (World.ownsRow_made w1 _ _ lE (by simp[maxLen];omega) (by simp[kE]));simp only[lz];clear x k0 k1 k2 k3 k4 k5 k6 k7 H s;go_wp2_with fail;go_loopw [9,34] (fun lv T wr=> ∃(i:Nat) (g:Int) (N:List Int),i<=q/\T=.int .i64 i/\(0<=g/\g<=size)/\Hid (wr.ownsRow w1 3 1 lv i (N.map (.int .i64)))/\Hid (oA d size f q=(oA d size g (q.drop i)).map fun l=>N++l)/\
    fc wr (w+1+1) 3 [g]/\fc wr w 47 [C,D,.slice B G c0,d,size,f,j,h]/\fc wr (w+1) 47 [C,D,.slice B G c0,d,size,f,j,h]/\Below w w wr/\w1.heap.size<=wr) (fun _ T _=>q.length-(intOf T).toNat)
   case atStart=>exact⟨0,f,[],eC _,rfl,hs,zH (by rw[<-L];exact ho.out),zH sI,bT.alloc _,b2.alloc _,Z.alloc _,P.alloc P.size _,by simp⟩
   case round=>
    clear b2 Z bT P ho;obtain⟨i,g,N,hi,rfl,ax,HO,X,aa,b2,Z,F,aw⟩:=hrel;by_cases S:i<q
    ·obtain⟨z,k⟩: ∃z,q[i]? =some z:=⟨_,fp S⟩;obtain⟨b,o,rfl,hb,y⟩:=HC i z k;have y0:=((xi F).1 b (o+i) hb).trans y;have m:0<=z/\z<=2147483648:=by have:=dT.1 t z (a8 k);simpa using this
     have V:Hid (q.drop i=z::q.drop (i+1)):=zH (iV.trans (by rw[k];rfl));have c3:=Z.c 3;have e1:wrap64 (g+z)=g+z:=by unfold wrap64;omega
     have e2:wrap64 (g+z-d)=g+z-d:=by unfold wrap64;omega
     obtain⟨Al,cl,rfl,-⟩:=RS.jh HO;clear k y;go_wp2_with fail;refine(Ie z g d (w+1+1) (w+1) _ aa oG c3).mono ?_;rintro e U ⟨rfl,nd,n⟩;rw[e1,e2] at n|-
     have J:=aa.gH 0 (g+z-d:);simp only[fJ] at J;have ag:fc U (w+1+1) 3 [(g+z-d:)]:=by rw[n];exact J.drewN nd
     have O:fc U w 47 [C,D,.slice B G c0,d,size,f,j,h]:=by rw[n];exact(b2.kj (p:=pB (w+1+1)) dO _).drewN nd
     have af:fc U (w+1) 47 [C,D,.slice B G c0,d,size,f,j,h]:=by rw[n];exact(Z.kj (p:=pB (w+1+1)) dO _).drewN nd
     have Q:Below w w U:=by rw[n];exact yC (F.setCell (p:=pB (w+1+1)) dO _) nd
     have al:U.heap.size=wr.heap.size:=by rw[n];simp[World.drewN]
     have c4:=O.c 4;have ao:=O.c 3;by_cases E:size<g+z\/g+z<d
     ·have I:Hid (oA d size f q=none):=zH (by rw[X.out,V.out];unfold oA;rw[if_pos E];rfl);clear n J;by_cases ah:size<g+z
      ·exact Rg
      ·have ai:g+z<d:=oG;have aq:g+z<=size:=oG;exact Rg
     ·have r:U.ownsRow w1 3 1 (.slice Al i cl) i (N.map (.int .i64)):=by rw[n];exact ownsRow_setCell_below HO (a:=(pB (w+1+1))) dO _
      have ae:Hid (oA d size f q=(oA d size (g+z-d) (q.drop (i+1))).map fun l=>(N++[g+z-d])++l):=zH (by rw[X.out,V.out,oA,if_neg E,Option.map_map];congr 1;funext l;simp);have g1:g+z<=size:=oG;have g2:d<=g+z:=oG;have aj:i<=1000000000:=oG;have R:w1.heap.size<=U.heap.size:=oG;clear n J E al;go_wp2_with (at_builtin;refine kD _ rfl (.tmp 54) (.tmp 56) 26 rfl w1 3 _ 1 8 underlying26 KG rfl dE dE _ _ _ r rfl [(g+z-d:)] _ rfl rfl rfl aj R ?_;intro v5 w5 ak K aA);go_roundw
      case rel=>exact⟨i+1,g+z-d,N++[g+z-d],oG,by go_num,⟨oG,oG⟩,zH (by rw[gJ];exact ak),ae,ag.below K oG,O.below K oG,af.below K oG,Q.trans (K.mono oG),oG⟩
      case measure=>exact mI
    ·obtain rfl:i=q.length:=oG;have M:Hid (oA d size f q=some N):=zH (by rw[X.out,ada];simp[oA]);have r:=HO.out;obtain⟨Al,cl,rfl,-⟩:=RS.jh r;go_wp2_with fail
     go_ret2
     refine⟨.slice Al q cl,?_,?_,F⟩
     ·unfold pX;rw[t.out,M.out];rfl
     ·unfold sL;rw[t.out,M.out];have hl:N.length=q.length:=by have:=r.1;simpa using this
      have:=RS.jh r;rw[<-hl] at this;rw[<-hl];exact this
end
end Go.Proofs.YtgimnjldndkalaaGreatDoor
