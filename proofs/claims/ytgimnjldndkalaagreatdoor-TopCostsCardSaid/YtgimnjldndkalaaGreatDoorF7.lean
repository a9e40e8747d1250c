/- Of the proof of TopCosts: The walks of what makes an instance that may be of any: a customer. -/
import Derived.Deep.RegionHeld3
import Derived.Test.YtgimnjldndkalaaGreatDoorF6
set_option linter.all false
set_option maxHeartbeats 1000000
set_option maxRecDepth 100000
namespace Go.Proofs.YtgimnjldndkalaaGreatDoor
section
open Go.Proofs.Tryz
open Go.RowKit jm
def mc (n a b:Int) (w:World) (h:tq n) (i:0<=a) (j:a<=b) (k:b<=2147483648):
  Calls prog 22 #[n,a,b] w fun e w'=>e=.returned (mQ n a b)/\w=w':=by
 obtain⟨l,o⟩:=h;by_cases f:n<0
 ·have H:=zH (show mQ n a b=a+(-(n+1))%(b-a+1) by rw[mQ,if_pos f]);obtain⟨m,g⟩:=nE (-(n+1):Int);have d:=vf (-(n+1)) (show b-a+1≠0 by omega);have c:=rQ (-(n+1)) (show 0<b-a+1 by omega);go_enter func22,ntmps22;go_wp2;go_ret;exact⟨oC (by rw[H.out,<-Int.neg_tmod,Int.tmod_eq_emod_of_nonneg oG,qO _ oG]),rfl⟩
 ·have H:=zH (show mQ n a b=a+n%(b-a+1) by rw[mQ,if_neg f]);have d:=vf n (show b-a+1≠0 by omega);have c:=rQ n (show 0<b-a+1 by omega);go_enter func22,ntmps22;go_wp2;go_ret;exact⟨oC H.symm,rfl⟩
def NT (x:kc) (days:Int) (q:Value) (w:World) (i:lu w q x.jC) (b:x.wf) (G:x.kind%2=0):
  Calls prog 23 #[.agg #[x.kind,x.iL,q,x.jU,x.size,x.start,x.lR,x.hold],days] w
   fun e w'=>e=.returned (.agg #[.int .i64 2,Zo,(),(mQ x.jU 0 9),(mQ x.size 1 30),(mQ x.start 0 (mQ x.size 1 30)),(mQ x.lR 1 2),(mQ x.hold 0 4)])/\Below w.heap.size w w':=by
 obtain⟨A,c,rfl,E,F,-⟩:=i.open_;clear i;obtain⟨k,d,l,r,s,t,u,h⟩:=x;obtain⟨p,-,-,j,f,n,o,g⟩:=b;simp only at*;have m:(k.tmod 2==0)=true:=by rw[beq_iff_eq];exact(Ve).1 (Int.dvd_of_emod_eq_zero G)
 obtain⟨z,B,C,D,y⟩:=Ze j f n o g;obtain⟨p,H⟩:=p;clear j f n o g;go_enter func23,ntmps23;go_wp2_with fail;have a:=zH (lQ s 1 30 oG)
 go_region_held3 (fun w'=>w'.cell? ⟨w.heap.size,3,none⟩=some r/\w'.cell? ⟨w.heap.size,4,none⟩=some s/\w'.cell? ⟨w.heap.size,6,none⟩=some u/\w'.cell? ⟨w.heap.size,7,none⟩=some h)
  (go_keep)
  (first
   |(go_at_call 22;((with_reducible refine(mc r 0 9 _ z.out (by omega) (by omega) (by omega)).mono ?_);rintro e w' ⟨rfl,rfl⟩))
   |(go_at_call 22;((with_reducible refine(mc s 1 30 _ B.out (by omega) (by omega) (by omega)).mono ?_);rintro e w' ⟨rfl,rfl⟩))
   |(go_at_call 22;((with_reducible refine(mc u 1 2 _ D.out (by omega) (by omega) (by omega)).mono ?_);rintro e w' ⟨rfl,rfl⟩))
   |(go_at_call 22;((with_reducible refine(mc h 0 4 _ y.out (by omega) (by omega) (by omega)).mono ?_);rintro e w' ⟨rfl,rfl⟩)))
 all_goals
  go_wp2_with (go_at_call 22;((with_reducible refine(mc t 0 (mQ s 1 30) _ C.out (by omega) (by have:=a.out;omega) (by have:=a.out;omega)).mono ?_);rintro e w' ⟨rfl,rfl⟩));refine bodyPost_ret (v:=.agg #[.int .i64 2,Zo,(),(mQ r 0 9),(mQ s 1 30),(mQ t 0 (mQ s 1 30)),(mQ u 1 2),(mQ h 0 4)]) (by simp[results,results23,go_sem]) rfl ⟨rfl,?_⟩
  repeat' (first|exact bS _ _|refine Below.drew ?_|refine below_drewN ?_ _|refine Below.alloc ?_ ?_ _)
  all_goals first|(simp;done)|(simp;omega)
def xQ (s:Nat): ∀n,kr s n<18446744073709551616
 |0=>by simp[kr]
 |n+1=>by
  rw[kr];split
  ·exact lJ.fy _ _ (xQ s n)
  ·exact xQ s n
def Vq:(prog.info? 47).map (·.size)=some 8:=kR
def Na:(prog.info? 80).map (fun i=>(i.zero,i.size,i.bytes))=some (some (.int .u64 0),1,8):=kR
theorem NS (x:kc) (days:Int) (pv:Value) (w:World) (hp:lu w pv x.jC) (hwf:x.wf) (hk: ¬x.kind%2=0) (hd0:1<=days) (hd1:days<=7):
  Calls prog 23 #[.agg #[x.kind,x.iL,pv,x.jU,x.size,x.start,x.lR,x.hold],days] w
   fun e w'=> ∃v,e=.returned (.agg #[.int .i64 1,(mQ x.iL 1 15),v,Zo,Zo,Zo,Zo,Zo])/\
    w'.ownsRow w 80 1 v (nP x.jC days).length ((nP x.jC days).map fun(s:Nat)=>Value.int .u64 (s:Int))/\Below w w w':=by
 obtain⟨A,c,rfl,hc1,hc2,hcell⟩:=hp.open_;clear hp;obtain⟨k,d,l,r,s,t,u,h⟩:=x;obtain⟨k1,hdm,hpw,-,-,-,-,-⟩:=hwf;simp only at*;obtain⟨k1,k2⟩:=k1;have hrem:(k.tmod 2==0)=false:=by rw[beq_eq_false_iff_ne];intro he;exact hk (Int.emod_eq_zero_of_dvd ((Ve).2 he))
 have HDM:=zH hdm;have HPW:=zH hpw;have HC:=zH hcell;obtain⟨D,rfl⟩:=fw (show 0<=days by omega);clear hdm hpw hcell;go_enter func23,ntmps23;go_wp2_with (go_at_call 22;((with_reducible refine(mc d 1 15 _ HDM.out (by omega) (by omega) (by omega)).mono ?_);rintro e w' ⟨rfl,rfl⟩));go_loopw [7] (fun i wr=> ∃(j:Nat) (v:Value),j<=4/\j<=l.length/\i=.int .i64 j/\fc wr w.heap.size 47 [k,d,.slice A l.length c,r,s,t,u,h]/\fc wr (w.heap.size+1) 47 [.int .i64 0,.int .i64 0,.slice none 0 0,.int .i64 0,.int .i64 0,.int .i64 0,.int .i64 0,.int .i64 0]/\
   fc wr (w+1+1) 47 [.int .i64 1,(mQ d 1 15),v,Zo,Zo,Zo,Zo,Zo]/\Hid (j=0->v=.slice none 0 0)/\
   wr.ownsRow (w+1+1+1) 80 1 v j ((l.take j).map fun s=>Value.int .u64 (kr s D:Nat))/\Below w w wr) (fun i _=>4-(intOf i).toNat)
 case atStart=>
  exact⟨0,(),oG,oG,rfl,((fc.new w 47 [k,d,.slice A l.length c,r,s,t,u,h]).alloc _).alloc _,by simpa using(fc.new (w.alloc _) 47 [Zo,Zo,(),Zo,Zo,Zo,Zo,Zo]).alloc _,
   by simpa using fc.new ((w.alloc _).alloc _) 47 [.int .i64 1,(mQ d 1 15),(),Zo,Zo,Zo,Zo,Zo],fun _=>rfl,gL _ _ _ _,((bF.alloc lE _).alloc sI _).alloc sO _⟩
 case round=>
  obtain⟨j,v,hj4,hj,rfl,hbx,hbz,hbo,HV,hown,hbel⟩:=hrel;have z0:=hbx.lt;have z1:=hbz.lt;have z2:=hbo.lt;have b2:=hbx.c 2;by_cases hlt:j<l.length/\j<4
  ·obtain⟨hlt,hlt4⟩:=hlt;obtain⟨p,hp1⟩:=ec hlt;obtain⟨b,o,rfl,hb,hk⟩:=HC.out j p hp1;have hpw:=HPW.out p (a8 hp1);have HP1:=zH hp1;have HK:=zH hk;clear hp1 hk;have hdj:decide ((j:Int)<4)=true:=by simp;omega
   go_wp2_with fail;clear hdj b2
   obtain⟨wo,hwo⟩:=nE (wr:World);subst hwo;go_loopw [8,9] (fun pv dv wi=> ∃m:Nat,m<=D/\pv=.int .u64 (kr p m:Nat)/\dv=.int .i64 m/\Below wo wo wi) (fun _ dv _=>D-(intOf dv).toNat)
   case atStart=>exact⟨0,eC _,rfl,rfl,bS _ _⟩
   case round=>
    obtain⟨m,hm,rfl,rfl,hbi⟩:=hrel;have hwi:=hbi.size;by_cases hlm:m<D
    ·have b2:wr.cell? (pA w 2)=some (.slice (pA b o) l.length c):=(hbi.cell (p:=pA w 2) z0).trans (hbx.cell 2);have hk0:wr.cell? (pA b (o+j))=some (.int .u64 (p:Int)):=(hbi.cell (p:=pA b (o+j)) (bP hb hbel.size)).trans ((hbel.cell (p:=pA b (o+j)) hb).trans HK.out);have hgl:=xQ p m
     rcases jO (lJ.has p m) with hh|hh
     ·have hg2:kr p (m+1)=lJ.put (kr p m) m:=by rw[kr,if_pos hh]
      have HG:=zH hg2;have HH:=zH hh;clear hg2 hh;generalize kr p m=q at*;go_wp2_with (first
       |(go_at_call 46;refine(ME p hpw _ _).mono ?_;rintro e w1 ⟨rfl,hb1⟩;rw[HH.out])
       |(go_at_call 47;refine(Un q hgl _ _).mono ?_;rintro e w2 ⟨rfl,hb2⟩))
      go_roundw
      case rel=>exact⟨m+1,oG,by rw[HG.out],by go_num,hbi.trans ((hb1.trans (hb2.mono hb1.size)).mono hwi)⟩
      case measure=>exact mI
     ·have hg2:kr p (m+1)=kr p m:=by rw[kr,hh];rfl
      have HG:=zH hg2;have HH:=zH hh;clear hg2 hh;generalize kr p m=q at*;go_wp2_with (first
       |(go_at_call 46;refine(ME p hpw _ _).mono ?_;rintro e w1 ⟨rfl,hb1⟩;rw[HH.out]))
      go_roundw
      case rel=>exact⟨m+1,oG,by rw[HG.out],by go_num,hbi.trans (hb1.mono hwi)⟩
      case measure=>exact mI
    ·obtain rfl:m=D:=oG;have o2:wr.cell? (pA (w+1+1) 2)=some v:=(hbi.cell (p:=pA (w+1+1) 2) z2).trans (hbo.cell 2);have ho2:=jq hown hbi lE;have hjn:j<=1000000000:=oG;have hbase:w.heap.size+1+1+1<=wr.heap.size:=oG;go_wp2_with (at_builtin;refine iD wr rfl _ _ 45 rfl (w+1+1+1) 80 _ 1 8 underlying45 Na rfl dE dE _ _ _ ho2 rfl [.int .u64 (kr p m:Nat)] _ rfl rfl rfl hjn hbase ?_;intro g cap w5 ho5 hg0 hg1 hk5 hz5;have hb5:=hk5.below hbase;have o5:=(hb5.cell (p:=pA (w+1+1) 2) (by show w.heap.size+1+1<_;omega)).trans o2;have f5:w5.frozen? (pA (w+1+1) 2)=false:=((hbo.below hbi z2).below hb5 oG).frozen 2);go_roundw
     case rel=>
      refine⟨j+1,.slice g (j+1) cap,oG,oG,by go_num,((hbx.below hbi z0).below hb5 oG).kj (p:=pA (w+1+1) 2) (by show w.heap.size≠w+1+1;omega) _,
       ((hbz.below hbi z1).below hb5 oG).kj (p:=pA (w+1+1) 2) (by show w.heap.size+1≠w+1+1;omega) _,((hbo.below hbi z2).below hb5 oG).gH 2 _,fun h=>absurd h oG,?_,?_⟩
      ·have:=nJ ho5 (p:=pA (w+1+1) 2) (fun g' hg'=>by simp[Value.ownBlock] at hg';subst hg';show g≠w.heap.size+1+1;omega) (.slice g (j+1) cap);rw[gk,HP1.out,gJ];exact this
      ·exact((hbel.trans (hbi.mono hbel.size)).trans (hb5.mono oG)).setCell (p:=pA (w+1+1) 2) (by show w.heap.size<=w+1+1;omega) _
     case measure=>exact mI
  ·have HPW0:=HPW;have o2:=hbo.c 2;have f2:=hbo.frozen 2;clear HC HPW;by_cases hj0:j=0
   ·subst hj0;obtain rfl:=HV.out rfl;have hl0:l.length=0:=oG;have hgp:nP l D=[1]:=by rw[nP,gj hl0];rfl
    have HGP:=zH hgp;have hbase:w.heap.size+1+1+1<=wr.heap.size:=oG;have h00:0<=1000000000:=oG;rw[hl0] at b2;clear hl0 hgp hlt;go_wp2_with (at_builtin;refine iD wr rfl _ _ 45 rfl (w+1+1+1) 80 _ 1 8 underlying45 Na rfl dE dE _ _ _ hown rfl [.int .u64 1] _ rfl rfl rfl h00 hbase ?_;intro g cap w5 ho5 hg0 hg1 hk5 hz5;have hb5:=hk5.below hbase;obtain⟨q0,q1,q2,q3,q4,q5,q6,q7⟩:=(hbo.below hb5 oG).xG;have f5:=(hbo.below hb5 oG).frozen 2;obtain⟨y0,y1,y2,y3,y4,y5,y6,y7⟩:=(hbz.below hb5 oG).xG;obtain⟨e0,e1,e2,e3,e4,e5,e6,e7⟩:=(hbz.below hb5 oG).Vs);refine bodyPost_ret (ia rfl _ _ (w+1) 47 [.int .i64 1,(mQ d 1 15),.slice g 1 cap,Zo,Zo,Zo,Zo,Zo] _ rfl ?hW underlying47 rfl Vq) rfl ⟨_,rfl,?_,?_⟩
    case hW=>exact fc.YD ((hbz.below hb5 oG).kj (p:=pA (w+1+1) 2) (by show w.heap.size+1≠w+1+1;omega) _)
    ·rw[HGP.out];exact kZ (IZ (RQ (by show g≠w.heap.size+1+1;omega) ho5) (fun g' hg'=>by simp[Value.ownBlock] at hg';omega)) oG
    ·exact Cp ((hbel.trans (hb5.mono oG)).setCell (p:=pA (w+1+1) 2) (by show w.heap.size<=w+1+1;omega) _) oG
   ·have hgp:nP l D=(l.take j).map fun s=>kr s D:=by
     have e:l.take 4=l.take j:=by
      by_cases h4:j<4
      ·rw[fj oG,fj oG]
      ·rw[show j=4 by omega]
     have ne:l.take 4≠[]:=by rw[e];intro h;have:=congrArg List.length h;rw[fB,fZ] at this;omega
     rw[nP,if_neg ne,e,gu]
    have HGP:=zH hgp;obtain⟨g,cap,hv,hg0,hg1⟩: ∃g cap,v=.slice (pB g) j cap/\w.heap.size+1+1+1<=g/\g<wr.heap.size:=by
     rcases hown.2 with ⟨_,h0⟩|⟨g,cap,cur,rfl,hbg,hg,_⟩
     ·exact absurd h0 hj0
     ·exact⟨g,cap,rfl,hbg,(aah.1 hg).1⟩
    subst hv;obtain⟨q0,q1,q2,q3,q4,q5,q6,q7⟩:=hbo.xG;obtain⟨y0,y1,y2,y3,y4,y5,y6,y7⟩:=hbz.xG;obtain⟨e0,e1,e2,e3,e4,e5,e6,e7⟩:=hbz.Vs;have hjb:(j==0)=false:=by simp[hj0]
    have hjb2:((j:Int)==0)=false:=by simp;omega
    clear o2 f2 hgp;have hend:j=l.length\/(j=4/\4<l.length):=oG;have hend2:(¬j<l.length/\j<=l.length)\/(j<l.length/\ ¬j<4):=oG;clear hlt hend
    rcases hend2 with ⟨hn1,hn2⟩|⟨hn1,hn2⟩
    all_goals
     go_wp2;refine bodyPost_ret (ia rfl _ _ (w+1) 47 [.int .i64 1,(mQ d 1 15),.slice g j cap,Zo,Zo,Zo,Zo,Zo] _ rfl ?hW underlying47 rfl Vq) rfl ⟨_,rfl,?_,?_⟩
     case hW=>exact hbz.YD
     ·rw[HGP.out];rw[fm,fB,kM hj,kK];exact kZ (IZ (g:=w.heap.size+1) hown (fun g' hg'=>by simp[Value.ownBlock] at hg';omega)) oG
     ·exact Cp hbel oG
end
section
open Go.Proofs.Tryz
open Go.RowKit jm
theorem KZ{p:Prop}(h:p:=by go_enter func24,ntmps24;go_wp2;go_ret;exact⟨oC H.symm,bF.alloc lE _⟩):p:=h
variable {D:List (List Int)} {i j:Nat} {r:List Int}
def Ho {z:Int} (a:D[i]? =some r) (b:r[j]? =some z):sm D i j=z:=by rw[sm,if_neg oG,gu,gu,a];simp[b]
def Ey {a b:Int} (h:a<0\/b<0\/(D.length:Int)<=a):sm D a b=0:=by
 rw[sm];split
 ·rfl
 ·rw[hX (l:=D) oG];simp
def Ez (a:D[i]? =some r) (b:r.length<=j):sm D i j=0:=by rw[sm,if_neg oG,gu,gu,a];simp[hX b]
def ze (v:Value) (x:fS) (a b:Int) (w:World) (u:iz w v x):
  Calls prog 24 #[v,a,b] w fun e w'=>e=.returned (sm x.gn a b)/\Below w w w':=by
 obtain⟨E,F,rfl,-,g⟩:=u;obtain⟨A1,c1,rfl,n,q,c⟩:=g.open_;clear g;obtain⟨days,A,cap,y,k,D⟩:=x;simp only at n c|-
 by_cases m:a<0\/b<0\/(D.length:Int)<=a
 ·have H:=zH (Ey m);clear c;have h:a<0\/(0<=a/\b<0/\a<D)\/(0<=a/\0<=b/\(D.length:Int)<=a)\/(0<=a/\b<0/\(D.length:Int)<=a):=oG
  rcases h with h1|⟨h1,h2,h⟩|⟨h1,h2,h⟩|⟨h1,h2,h⟩
  all_goals
   clear m;exact KZ
 ·obtain⟨i,rfl⟩:=fw (show 0<=a by omega);obtain⟨j,rfl⟩:=fw (show 0<=b by omega);obtain⟨r,f⟩:=ec (l:=D) (i:=i) oG;have K:=fP f;obtain⟨B,M,rfl,J,A2,c2,L,G,I,d⟩:=c i r f;clear c m;by_cases s:j<r
  ·obtain⟨z,o⟩:=ec s;obtain⟨C,N,rfl,p,t⟩:=d j z o;have H:=zH (Ho f o);clear f o d;exact KZ
  ·have H:=zH (Ez (j:=j) f oG);clear f d;exact KZ
end
section
open Go.Proofs.Tryz
open Go.RowKit jm
theorem K4{p:Prop}(h:p:=by go_enter func205,ntmps205;go_wp2;go_ret;exact⟨oC H.symm,bF.alloc lE _⟩):p:=h
def pk (v:Value) (x:fS) (a b:Int) (w:World) (u:iz w v x):
  Calls prog 205 #[v,a,b] w fun e w'=>e=.returned (sm x.gn a b)/\Below w w w':=by
 obtain⟨E,F,rfl,-,g⟩:=u;obtain⟨A1,c1,rfl,n,q,c⟩:=g.open_;clear g;obtain⟨days,A,cap,y,k,D⟩:=x;simp only at n c|-
 by_cases m:a<0\/b<0\/(D.length:Int)<=a
 ·have H:=zH (Ey m);clear c;have h:a<0\/(0<=a/\b<0/\a<D)\/(0<=a/\0<=b/\(D.length:Int)<=a)\/(0<=a/\b<0/\(D.length:Int)<=a):=oG
  rcases h with h1|⟨h1,h2,h⟩|⟨h1,h2,h⟩|⟨h1,h2,h⟩
  all_goals
   clear m;exact K4
 ·obtain⟨i,rfl⟩:=fw (show 0<=a by omega);obtain⟨j,rfl⟩:=fw (show 0<=b by omega);obtain⟨r,f⟩:=ec (l:=D) (i:=i) oG;have K:=fP f;obtain⟨B,M,rfl,J,A2,c2,L,G,I,d⟩:=c i r f;clear c m;by_cases s:j<r
  ·obtain⟨z,o⟩:=ec s;obtain⟨C,N,rfl,p,t⟩:=d j z o;have H:=zH (Ho f o);clear f o d;exact K4
  ·have H:=zH (Ez (j:=j) f oG);clear f d;exact K4
end
namespace Ra
open Go.Proofs.Tryz
open Go Go.RowKit jm ko kN
variable {B:jM} {K:gX} {a:Array Value} {env:Env} {k:Nat} {l:List Value} {n:Int} {p q:TV} {v:Value} {w:World} {ρ:Nat->Int}
section
variable {x:fS}
theorem Good.below (r:tS K) {w':World} (j:Good K env (lk []) w) (a:Below w w w') {ρ':Nat->Int} {np:Nat} (p:K.ng<=np) (hρ: ∀s,s<np->ρ' s=env.ρ s):
  Ext (fun s=>Nat.blt s np) env {env with ρ:=ρ'}/\Good K {env with ρ:=ρ'} (lk []) w'/\Step env (lk []) w [] {env with ρ:=ρ'} w':=by
 have hx:Ext (fun s=>Nat.blt s np) env {env with ρ:=ρ'}:=⟨fun s q=>hρ s (by rwa [fT] at q),fun _ _=>rfl,fun _ _ h=>h,Sub.refl _⟩;have m: ∀{b:Nat} {o:Obj},w.heap[b]? =some o->w'.heap[b]? =some o:=fun{b o} h=>by rw[a.block b (fP h)];exact h
 refine⟨hx,⟨fun g h=>(hρ g oG).trans (j.gl g h),fun b c T f h=>?_,fun b t n h=>?_,fun k T xs h=>?_,fun k u h _ _=>?_⟩,⟨a.size,fun b h _ _=>a.block b h,fun b h=>.inl h,fun b c T f h=>.inl h,fun k h=>absurd rfl h,⟨a.os,a.tape,a.output⟩⟩⟩
 ·obtain⟨d,i,l⟩:=j.hh b c T f h;exact⟨m d,i,l⟩
 ·obtain⟨⟨c,d,i,l⟩,y,e⟩:=j.hH b t n h;exact⟨⟨c,m d,i,l.ext r hx⟩,y,e⟩
 ·exact absurd h (by simp[lk])
 ·exact absurd rfl h
theorem mZ (hx:ga x) {f:FuncId} {k:Func} {b:Spec} (q:prog.funcs[f]? =some k) (a:k.body.isSome=true) (p:(k.name== "runtime.NumGoroutine")=false) (c:b.pre=[]) (h:b.post=[]) (n:6<=b.np)
  (o: ∀(env:Env) (w:World) (args:Array Value),Good (kinds x) env (lk []) w->D6 (kinds x) env b.args args.toList->ln env.ρ b.facts->
   Calls prog f args w fun e w'=> ∃v ρ',e=.returned v/\Below w w w'/\(∀s,s<b.np->ρ' s=env.ρ s)/\b.res.ok (kinds x) {env with ρ:=ρ'} v/\ln ρ' b.pf):ik x f b:=by
 refine⟨enters q a p,fun env w args j g m=>?_⟩;rw[c] at j;refine(o env w args j g m).mono ?_;rintro e w' ⟨v,ρ',rfl,d,i,l,y⟩;obtain⟨r,t,u⟩:=j.below (fR hx) d n i;rw[c,h];exact⟨v,rfl,_,r,t,u,l,y⟩
theorem D6.cons {ps:List TV} (h:D6 K env (p::ps) l): ∃v vs,l=v::vs/\p.ok K env v/\D6 K env ps vs:=by
 cases l with
 |nil=>exact h.elim
 |cons v vs=>exact⟨v,vs,rfl,h.1,h.2⟩
theorem D6.nil (h:D6 K env [] l):l=[]:=by
 cases l with
 |nil=>rfl
 |cons v vs=>exact h.elim
theorem jH.cons {p:BV} {ps:List BV} (h:jH K env (p::ps) l): ∃v vs,l=v::vs/\p.ok K env v/\jH K env ps vs:=by
 cases l with
 |nil=>exact h.elim
 |cons v vs=>exact⟨v,vs,rfl,h.1,h.2⟩
theorem jH.nil (h:jH K env [] l):l=[]:=by
 cases l with
 |nil=>rfl
 |cons v vs=>exact h.elim
theorem Vn (h:D6 K env [p] a.toList): ∃v,a= #[v]/\p.ok K env v:=by obtain⟨v,vs,d,i,l⟩:=h.cons;rw[l.nil] at d;exact⟨v,zF.1 d,i⟩
theorem xh (h:D6 K env [p,q] a.toList): ∃v u,a= #[v,u]/\p.ok K env v/\q.ok K env u:=by obtain⟨v,vs,d,i,l⟩:=h.cons;obtain⟨u,n,y,e,m⟩:=l.cons;rw[y,m.nil] at d;exact⟨v,u,zF.1 d,i,e⟩
theorem Cn {r:TV} (h:D6 K env [p,q,r] a.toList): ∃v u t,a= #[v,u,t]/\p.ok K env v/\q.ok K env u/\r.ok K env t:=by obtain⟨v,vs,d,i,l⟩:=h.cons;obtain⟨u,n,y,e,m⟩:=l.cons;obtain⟨t,ts,f,b,c⟩:=m.cons;rw[y,f,c.nil] at d;exact⟨v,u,t,zF.1 d,i,e,b⟩
def put (ρ:Nat->Int) (k:Nat) (n:Int):Nat->Int:=fun s=>if s=k then n else ρ s
theorem ie:put ρ k n k=n:=if_pos rfl
theorem fy {s:Nat} (h:s<k):put ρ k n s=ρ s:=if_neg oG
theorem pP (h:kP n):(i3 k).ok K {env with ρ:=put env.ρ k n} n:=by show _=_/\_;simp[E.ev,ie,h]
theorem jZ (h:(i3 k).ok K env v):v=.int .i64 (env.ρ k)/\kP (env.ρ k):=by
 have h:v=.int .i64 (env.ρ k+0)/\kP (env.ρ k+0):=h
 rwa [fE] at h
theorem Yq {c:Int} (a:env.ρ 0=0) (h:(ic c).ok K env v):v=.int .i64 c:=by have h:v=.int .i64 (env.ρ 0+c)/\_:=h;rw[h.1,a,Int.zero_add]
end
theorem NC (a b:Int) (w:World) (i:1<=b):
  Calls prog 161 #[.int .i64 a,.int .i64 b] w fun e w'=> ∃z c,e=.returned (.tuple #[.int .i64 z,.bool c])/\kP z/\w'=w:=by
 have d:(b==0)=false:=by rw[beq_eq_false_iff_ne];omega
 have f: ¬b=0:=oG;go_enter func161,ntmps161;go_wp2;all_goals go_ret2
 all_goals exact⟨_,_,rfl,by first|(unfold kP wrap64;omega)|(unfold kP;omega),rfl⟩
theorem RN (n:Int) (w:World):Calls prog 289 #[.int .u64 n] w fun e w'=> ∃z,e=.returned (.int .i64 z)/\kP z/\w'=w:=by go_enter func289,ntmps289;go_wp2;go_ret;exact⟨_,rfl,yM _,rfl⟩
section
variable {x:fS} (hx:ga x)
include hx
theorem jW (j:Good (kinds x) env B w):env.ρ 0=0:=by rw[j.gl 0 (fR hx).zero.1];rfl
theorem h48:ik x 48 abW:=mZ hx func48 kR kR rfl rfl dE fun env w args j g m=>by
 obtain⟨a,b,c,rfl,d,i,l⟩:=Cn g;obtain⟨rfl,o⟩:=jZ d;obtain rfl:=Yq (jW hx j) i;obtain⟨rfl,k⟩:=jZ l;refine(uh _ _ _ _).mono ?_;rintro e w' ⟨rfl,rfl⟩;have f:env.ρ 0<=env.ρ 7+0:=m _ (.head _);rw[jW hx j] at f;have n:=jW hx j;refine⟨_,put env.ρ 8 (kO (env.ρ 6) 0 (env.ρ 7)),rfl,bS _ _,fun s h=>fy h,pP (by unfold kO kP at*;omega),?_⟩;refine jD.2 ⟨?_,jD.2 ⟨?_,fF _⟩⟩
 ·show put env.ρ 8 _ 0<=put env.ρ 8 _ 8+0;rw[ie,fy dE,n];unfold kO;omega
 ·show put env.ρ 8 _ 8<=put env.ρ 8 _ 7+0;rw[ie,fy dE];unfold kO;omega
theorem abK:ik x 48 Z4:=mZ hx func48 kR kR rfl rfl dE fun env w args j g m=>by obtain⟨a,b,c,rfl,d,i,l⟩:=Cn g;obtain⟨rfl,o⟩:=jZ d;obtain⟨rfl,f⟩:=jZ i;obtain⟨rfl,k⟩:=jZ l;refine(uh _ _ _ _).mono ?_;rintro e w' ⟨rfl,rfl⟩;exact⟨_,put env.ρ 9 (kO (env.ρ 6) (env.ρ 7) (env.ρ 8)),rfl,bS _ _,fun s h=>fy h,pP (by unfold kO kP at*;omega),fF _⟩
theorem NY:ik x 127 YI:=mZ hx func127 kR kR rfl rfl dE fun env w args j g m=>by obtain⟨a,b,rfl,d,i⟩:=xh g;obtain⟨rfl,o⟩:=jZ d;obtain⟨rfl,f⟩:=jZ i;refine(M4 _ _ _ o f).mono ?_;rintro e w' ⟨rfl,rfl⟩;exact⟨_,put env.ρ 8 (Em (env.ρ 6) (env.ρ 7)),rfl,bS _ _,fun s h=>fy h,pP (by unfold Em kP at*;split <;>(try split) <;>omega),fF _⟩
theorem aaN:ik x 125 YG:=mZ hx func125 kR kR rfl rfl dE fun env w args j g m=>by obtain⟨a,b,rfl,d,i⟩:=xh g;obtain⟨rfl,o⟩:=jZ d;obtain⟨rfl,f⟩:=jZ i;refine(Pb _ _ _).mono ?_;rintro e w' ⟨z,c,rfl,n,rfl⟩;exact⟨_,put env.ρ 8 z,rfl,bS _ _,fun s h=>fy h,⟨_,rfl,pP (K:=kinds x) (k:=8) n,⟨c,rfl⟩,trivial⟩,fF _⟩
theorem X3:ik x 161 YU:=mZ hx func161 kR kR rfl rfl dE fun env w args hg ha hF=>by obtain⟨a,b,rfl,h1,h2⟩:=xh ha;obtain⟨rfl,i1⟩:=jZ h1;obtain⟨rfl,i2⟩:=jZ h2;have hz:=jW hx hg;have f3:env.ρ 0<=env.ρ 7+(-1):=hF _ (.head _);refine(NC _ _ _ oG).mono ?_;rintro e w' ⟨z,ok,rfl,h,rfl⟩;exact⟨_,put env.ρ 8 z,rfl,bS _ _,fun s h=>fy h,⟨_,rfl,pP (K:=kinds x) (k:=8) h,⟨ok,rfl⟩,trivial⟩,fF _⟩
theorem tA (j:Good (kinds x) env B w) (h:xv.ok (kinds x) env v):iz w v x:=by
 have g: ∀k,k<6->env.ρ k=vE x k:=j.gl;obtain⟨n,rfl,h⟩:=h;obtain⟨s,n,rfl,d,h⟩:=jH.cons h;obtain⟨t,n,rfl,i,h⟩:=jH.cons h;obtain⟨u,n,rfl,l,h⟩:=jH.cons h;obtain⟨z,n,rfl,y,h⟩:=jH.cons h;obtain⟨o,n,rfl,e,h⟩:=jH.cons h;obtain⟨p,n,rfl,m,h⟩:=jH.cons h;obtain rfl:=jH.nil h;obtain⟨rfl,-⟩:=jZ (K:=kinds x) (k:=2) d;obtain⟨rfl,-⟩:=jZ (K:=kinds x) (k:=3) i;obtain⟨rfl,-⟩:=jZ (K:=kinds x) (k:=4) l;obtain⟨rfl,-⟩:=jZ (K:=kinds x) (k:=5) y;rw[g 2 dE,g 3 dE,g 4 dE,g 5 dE];have q:Sub env.h w:=fun b c T f a=>(j.hh b c T f a).1;have r:=hx.head;refine⟨o,p,rfl,?_,?_⟩
 ·obtain⟨⟨-,-,e⟩,-⟩:=e
  rcases e with ⟨rfl,e⟩|e
  ·have e:env.ρ 1+0=0:=e;rw[g 1 dE] at e;have e:(x.eB.length:Int)+0=0:=e;obtain h0:x.eB=[]:=rX.1 oG;rw[h0];exact⟨none,0,rfl,by simp,by simp[maxLen],fun h=>by simp at h⟩
  ·exact qp.sub q e.1
 ·obtain⟨⟨-,-,m⟩,-⟩:=m
  rcases m with ⟨rfl,m⟩|m
  ·have m:env.ρ 1+1=0:=m;rw[g 1 dE] at m;have m:(x.eB.length:Int)+1=0:=m;omega
  ·exact rS.sub q m.1
theorem TM:ik x 205 Zn:=mZ hx func205 kR kR rfl rfl dE fun env w args j g m=>by obtain⟨v,b,c,rfl,d,i,l⟩:=Cn g;obtain⟨rfl,f⟩:=jZ i;obtain⟨rfl,k⟩:=jZ l;refine(pk v x _ _ w (tA hx j d)).mono ?_;rintro e w' ⟨rfl,a⟩;have:=hx.V4 (env.ρ 6) (env.ρ 7);exact⟨_,put env.ρ 8 (sm x.gn (env.ρ 6) (env.ρ 7)),rfl,a,fun s h=>fy h,pP (by unfold kP;omega),fF _⟩
theorem Yl:ik x 289 WR:=mZ hx func289 kR kR rfl rfl dE fun env w args hg ha hF=>by obtain⟨v,rfl,h1⟩:=Vn ha;obtain⟨s,rfl,-⟩: ∃s:Nat,_:=h1;refine(RN s w).mono ?_;rintro e w' ⟨z,rfl,hz,rfl⟩;exact⟨_,put env.ρ 6 z,rfl,bS _ _,fun s h=>fy h,pP hz,fF _⟩
theorem Yg:ik x 263 WO:=mZ hx func263 kR kR rfl rfl dE fun env w args j g m=>by
 obtain⟨v,b,rfl,d,i⟩:=xh g;obtain⟨rfl,f⟩:=jZ i;obtain⟨s,rfl,k,l⟩: ∃s:Nat,_:=d;have n:=jW hx j;have q:env.ρ 0<=env.ρ 6+0:=m _ (.head _);refine(CD s l _ w).mono ?_;rintro e w' ⟨rfl,rfl⟩;refine⟨_,env.ρ,rfl,bS _ _,fun _ _=>rfl,⟨_,rfl,fun h=>?_,fun _=>fF _⟩,fF _⟩;refine jD.2 ⟨?_,fF _⟩;show env.ρ 6<=env.ρ 2+(-1);rw[j.gl 2 (by show 2<6;omega)];show env.ρ 6<=x.days+(-1);by_cases d:env.ρ 6<x.days
 ·omega
 ·have d:x.days<=env.ρ 6:=oG;exfalso;have o:env.ρ 6∈lJ.days s x.days:=by unfold lJ.has at h;simp only[a6,decide_eq_true_eq] at h;unfold lJ.days;rw[mC];refine⟨fq.2 ⟨(env.ρ 6).toNat,jz.2 oG,by show((env.ρ 6).toNat:Int)=_;omega⟩,?_⟩;unfold lJ.has;simp only[a6,decide_eq_true_eq];exact⟨d,h⟩
  have p:(lJ.days s x.days).headD (-1)<0:=k;cases c:lJ.days s x.days with
  |nil=>rw[c] at o;cases o
  |cons a r=>
   rw[c] at p;have g:a∈lJ.days s x.days:=by rw[c];exact .head _
   unfold lJ.days at g;rw[mC] at g;have:=g.2;unfold lJ.has at this;simp only[a6,decide_eq_true_eq] at this;have p:a<0:=p;omega
end
end Ra
namespace Ra
open Go.Proofs.Tryz
open Go Go.RowKit jm ko kN
section
variable {x:fS} (hx:ga x)
include hx
theorem Co {a:Spec} (R:a.np=8) (S:a.args=[one (.ptr 6 0),i3 7]) (A:a.pre=rn 6) (U:a.res=i3 8) (E:a.post=rn 6)
  (V: ∀(ρ:Nat->Int) (k:Int),ρ 0=0->ln ρ a.facts->(1<=ρ 7->0<=k/\k<ρ 7)->ln (put ρ 8 k) a.pf):ik x 82 a:=by
 refine⟨enters func82 kR kR,fun env w args m G B=>?_⟩;have F:=fR hx;rw[A] at m;rw[S] at G;obtain⟨p,n,rfl,u,L⟩:=xh G;obtain⟨rfl,J⟩:=jZ L;have u:p=.pointer (pB (env.β 6)):=u;subst u;obtain⟨c,c1,c2⟩:=m.hB 6 188 [.num .u64] rfl;obtain⟨v,vs,rfl,c3,c4⟩:=jH.cons c2;obtain rfl:=jH.nil c4;obtain⟨st,rfl⟩: ∃n,v=.int .u64 n:=c3;have I:=jW hx m;refine(EA (env.β 6) st (env.ρ 7) w c1 J.2).mono ?_;rintro e w' ⟨k,rfl,K,Z,k3⟩;have C:kP k:=by
  unfold kP at J|-
  by_cases h:1<=env.ρ 7
  ·have:=K h;omega
  ·have:=Z oG;omega
 have l:Ext (fun s=>Nat.blt s 8) env {env with ρ:=put env.ρ 8 k}:=⟨fun s X=>fy (by rwa [fT] at X),fun _ _=>rfl,fun _ _ h=>h,Sub.refl _⟩;have key: ∀{w':World},Good (kinds x) env (wU (lk (rn 6)) (rn 6)) w'->Step env (lk (rn 6)) w (rn 6) env w'-> ∃v,Ending.returned k=Ending.returned v/\ ∃env',Ext (fun s=>Nat.blt s a.np) env env'/\Good (kinds x) env' (wU (lk a.pre) a.post) w'/\Step env (lk a.pre) w a.post env' w'/\a.res.ok (kinds x) env' v/\ln env'.ρ a.pf:=by
  intro w' i d;refine⟨_,rfl,{env with ρ:=put env.ρ 8 k},by rw[R];exact l,?_,?_,by rw[U];exact pP C,V _ _ I B K⟩
  ·rw[A,E];refine⟨fun g q=>(fy (Xm q (by show 6<8;omega))).trans (i.gl g q),i.hh,fun b t n h=>?_,fun j T xs h=>?_,i.hd⟩
   ·obtain⟨⟨c,y,z,M⟩,N,O⟩:=i.hH b t n h;exact⟨⟨c,y,z,M.ext F l⟩,N,O⟩
   ·obtain⟨c,y,z⟩:=i.hB j T xs h;refine⟨c,y,?_⟩;have D:xs=[.num .u64]:=by
     unfold wU at h;by_cases r:j=6
     ·subst r;cases h;rfl
     ·have:lk (rn 6) j=none:=by
       unfold rn lk;cases H:Nat.beq 6 j with
       |true=>rw[nb] at H;exact absurd H.symm r
       |false=>rfl
      rw[this] at h;cases h
    subst D;exact jH.ext F l (by rfl) z
  ·rw[A,E];exact⟨d.sz,d.keep,d.Hn,d.hn,d.Bn,d.io⟩
 have Y: ∀j,wU (lk (rn 6)) (rn 6) j=lk (rn 6) j:=fun j=>by unfold wU;cases lk (rn 6) j <;>rfl
 rcases k3 with rfl|⟨st',rfl⟩
 ·refine key ?_ ⟨lE,fun _ _ _ _=>rfl,fun b h=>.inl h,fun b c T f h=>.inl h,fun j h W=>absurd W h,⟨rfl,rfl,rfl⟩⟩;rw[show wU (lk (rn 6)) (rn 6)=lk (rn 6) from funext Y];exact m
 ·obtain⟨P,Q⟩:=m.store (k:=6) (o:=0) (ys:=[.num .u64]) (vs:=[.int .u64 st']) rfl ⟨⟨st',rfl⟩,trivial⟩ dE;exact key P Q
theorem h82:ik x 82 ab2:=Co hx rfl rfl rfl rfl rfl fun _ _ _ _ _=>fF _
theorem abL:ik x 82 Z5:=Co hx rfl rfl rfl rfl rfl fun ρ k I B C=>by
 have f:ρ 0<=ρ 7+(-1):=B _ (.head _);have:=C oG;refine jD.2 ⟨?_,jD.2 ⟨?_,fF _⟩⟩
 ·show put ρ 8 k 0<=put ρ 8 k 8+0;rw[ie,fy dE];omega
 ·show put ρ 8 k 8<=put ρ 8 k 7+(-1);rw[ie,fy dE];omega
end
end Ra
namespace Ra
open Go.Proofs.Tryz
open Go jm ko kN
section
variable {x:fS} (hx:ga x)
include hx
theorem abc:ik x 187 Zl:=jl hx (.one (TM hx) (.nil x)) [] oz func187 kR kR kR
theorem aa1:ik x 167 YZ:=jl hx (.one (TM hx) (.nil x)) [(4,0),(5,0)] (anX [(3,14,0,4),(3,14,0,5)]) func167 kR kR kR
theorem Yd:ik x 234 ZB:=jl hx (.nil x) [] oz func234 kR kR kR
theorem abu:ik x 263 ZK:=jl hx (.one (Yd hx) (.nil x)) [] oz func263 kR kR kR
theorem abd:ik x 195 Zm:=jl hx (.one (Yd hx) (.nil x)) [] oz func195 kR kR kR
theorem Yf:ik x 262 WN:=jl hx (.two (abu hx) (Yg hx) (.nil x)) [(4,6),(5,6),(18,6)] oz func262 kR kR kR
theorem Qz:ik x 290 WS:=jl hx (.one (Yf hx) (.nil x)) [] oz func290 kR kR kR
theorem Yi:ik x 264 WQ:=jl hx (.one (Yl hx) (.nil x)) [] oz func264 kR kR kR
theorem abw:ik x 266 ZM:=jl hx (.one (Qz hx) (.one (NY hx) (.nil x))) [] (anX [(3,1000,-1,6),(3,6,1,15)]) func266 kR kR kR
theorem h91:ik x 91 ab7:=jl hx (.nil x) [] oz func91 kR kR kR
theorem aaS:ik x 141 YN:=jl hx (.one (h48 hx) (.one (NY hx) (.nil x))) [] oz func141 kR kR kR
theorem abA:ik x 272 ZS:=jl hx (.nil x) [(1,2),(2,2),(3,2)] oz func272 kR kR kR
theorem X1:ik x 140 YM:=jl hx (.nil x) [] oz func140 kR kR kR
end
end Ra
namespace Ra
open Go.Proofs.Tryz
open Go jm ko kN
section
variable {x:fS} (hx:ga x)
include hx
theorem X6:ik x 186 Zk:=jl hx (.nil x) [] oz func186 kR kR kR
theorem h89:ik x 89 ab6:=jl hx (.one (X1 hx) (.one (X6 hx) (.nil x))) [(4,0),(5,0)] (anY [] [(10,8)]) func89 kR kR kR
theorem X5:ik x 185 Zj:=jl hx (.one (h89 hx) (.one (X1 hx) (.one (X6 hx) (.nil x)))) [] (anY [] [(8,7)]) func185 kR kR kR
theorem Wi:ik x 269 ZP:=jl hx (.nil x) [] oz func269 kR kR kR
theorem abG:ik x 292 ZZ:=jl hx (.one (Wi hx) (.nil x)) [] oz func292 kR kR kR
theorem abH:ik x 293 Z0:=jl hx (.one (Wi hx) (.nil x)) [] oz func293 kR kR kR
theorem abF:ik x 291 ZY:=jl hx (.one (abG hx) (.one (X5 hx) (.nil x))) [(8,0),(6,0)] oz func291 kR kR kR
theorem Ym:ik x 291 WT:=jl hx (.one (abH hx) (.one (X5 hx) (.nil x))) [(8,0),(6,0)] oz func291 kR kR kR
theorem abz:ik x 271 ZR:=jl hx (.one (abF hx) (.nil x)) [] oz func271 kR kR kR
theorem abB:ik x 273 ZT:=jl hx (.one (Ym hx) (.nil x)) [] oz func273 kR kR kR
theorem abm:ik x 236 ZC:=jl hx (.one (Yi hx) (.nil x)) [] oz func236 kR kR kR
theorem X8:ik x 207 Zq:=jl hx (.nil x) [] oz func207 kR kR kR
theorem X7:ik x 206 Zp:=jl hx (.one (abm hx) (.one (X8 hx) (.one (X3 hx) (.nil x)))) [] oz func206 kR kR kR
theorem abe:ik x 212 Zu:=jl hx (.nil x) [] oz func212 kR kR kR
theorem Wh:ik x 211 Zt:=jl hx (.nil x) [] oz func211 kR kR kR
theorem abv:ik x 265 ZL:=jl hx (.nil x) [(5,7),(4,7),(25,7)] oz func265 kR kR kR
theorem abx:ik x 267 ZN:=jl hx (.one (Qz hx) (.nil x)) [(5,2),(4,2)] oz func267 kR kR kR
theorem abn:ik x 239 ZD:=jl hx (.one (abv hx) (.one (abw hx) (.one (abx hx) (.nil x)))) [] oz func239 kR kR kR
theorem Yj:ik x 268 ZO:=jl hx (.one (h91 hx) (.nil x)) [(10,0)] oz func268 kR kR kR
theorem aby:ik x 270 ZQ:=jl hx (.one (Qz hx) (.one (Yj hx) (.nil x))) [(5,2),(4,2)] (anX [(4,1000,-1,6)]) func270 kR kR kR
theorem X9:ik x 210 Zs:=jl hx (.one (Wh hx) (.one (aaS hx) (.one (h89 hx) (.one (h91 hx) (.nil x))))) [] oz func210 kR kR kR
theorem abp:ik x 241 ZF:=jl hx (.one (abz hx) (.one (abB hx) (.one (abA hx) (.one (X9 hx) (.nil x))))) [] oz func241 kR kR kR
end
end Ra
end Go.Proofs.YtgimnjldndkalaaGreatDoor
