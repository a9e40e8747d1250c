/- Of the proof of TopCosts: The walk of what makes an instance that may be of any. -/
import Derived.Deep.DeepCutAuto
import Derived.Test.YtgimnjldndkalaaGreatDoorF7
set_option linter.all false
set_option maxHeartbeats 4000000
set_option maxRecDepth 100000
namespace Go.Proofs.YtgimnjldndkalaaGreatDoor
section
open Go.Proofs.Tryz
open Go.RowKit jm
def XE:(prog.info? 47).map (fun i=>(i.zero,i.size,i.bytes))=some (some (.agg #[Zo,Zo,(),Zo,Zo,Zo,Zo,Zo]),8,80):=kR
def Yy:(prog.info? 26).map (fun i=>(i.zero,i.size,i.bytes))=some (some (.slice none 0 0),1,24):=kR
def NP {l:List Int} {n k:Nat} (c:l.length=n) (b:l[k]? =some 0):
  (l.take k).map (Value.int .i64)++kE (n-k)=(l.take (k+1)).map (Value.int .i64)++kE (n-(k+1)):=by
 have a:=fP b;have e:n-k=(n-(k+1))+1:=oG;rw[e,gk,b];simp[kE,aav]
def Yt:(prog.info? 25).map (·.size)=some 6:=kR
def Qx (x:kc) (days:Int) (d:Value) (w:World) (i:lu w d x.jC) (b:x.wf) (g:1<=days) (h:days<=7):
  Calls prog 23 #[.agg #[x.kind,x.iL,d,x.jU,x.size,x.start,x.lR,x.hold],days] w
   fun e w'=> ∃(y:kc) (A:Option Addr) (n c:Nat),e=.returned (.agg #[y.kind,y.iL,.slice A n c,y.jU,y.size,y.start,y.lR,y.hold])/\
    Hid (y=qA x days)/\w'.ownsRow w 80 1 (.slice A n c) y.jC (y.jC.map fun(s:Nat)=>Value.int .u64 (s:Int))/\Below w w w':=by
 by_cases a:x.kind%2=0
 ·refine(NT x days d w i b a).mono ?_;rintro e w' ⟨rfl,f⟩;exact⟨qA x days,none,0,0,by rw[qA,if_pos a],rfl,by rw[qA,if_pos a];exact gL _ _ _ _,f⟩
 ·refine(NS x days d w i b a g h).mono ?_;rintro e w' ⟨v,rfl,j,f⟩;obtain⟨A,c,rfl,_⟩:=RS.jh j;exact⟨qA x days,A,_,c,by rw[qA,if_neg a],rfl,by rw[qA,if_neg a];exact j,f⟩
theorem NV (v:Value) (x:fS) (w:World) (hx:iz w v x) (hwf:x.wf):
  Calls prog 6 #[v] w fun e w'=> ∃v',e=.returned v'/\ph w 47 80 26 3 w' v' (nC x)/\Below w w w':=by
 have hxi:=hx;obtain⟨cv,dv,rfl,hcs,hds⟩:=hx;obtain⟨A,c,rfl,hc1,hc2,hcell⟩:=hcs.open_;obtain⟨A1,c1,rfl,hd1,hd2,-⟩:=hds.open_;obtain⟨h0,h1,h2,h3,hcw,hdw⟩:=hwf;obtain⟨days,mm,cap,len,eB,D⟩:=x;simp only at hc1 hd1 hcell hcw hdw h0 h1 h2 h3|-
 have HXI:=zH hxi;have H0:=zH h0;have H1:=zH h1;have H2:=zH h2;have H3:=zH h3;have HC:=zH hcell;have HW:=zH hcw;have HD:=zH hds;have HDW:=zH hdw;clear hcell hcw hdw h0 h1 h2 h3 hcs hds hxi;go_enter func6,ntmps6;go_upto_region 1 with fail
 go_cut [3] (fun p wc=>p=.pointer (pB (w+1+1))/\fc wc w 25 [days,mm,cap,len,.slice A eB.length c,.slice A1 D.length c1]/\fc wc (w+1) 25 [Zo,Zo,Zo,Zo,(),()]/\
  fc wc (w+1+1) 25 [(mQ days 1 7),(mQ mm 0 5),(mQ cap 0 40),(mQ len 0 300),(),()]/\Below w w wc)
 case first=>
  go_region_held3 (fun w'=>w'.cell? w=some days/\w'.cell? (pA w 1)=some mm/\w'.cell? (pA w 2)=some cap/\w'.cell? (pA w 3)=some len)
   (go_keep)
   (first
    |(go_at_call 22;((with_reducible refine(mc days 1 7 _ H0.out (by omega) (by omega) (by omega)).mono ?_);rintro e w' ⟨rfl,rfl⟩))
    |(go_at_call 22;((with_reducible refine(mc mm 0 5 _ H1.out (by omega) (by omega) (by omega)).mono ?_);rintro e w' ⟨rfl,rfl⟩))
    |(go_at_call 22;((with_reducible refine(mc cap 0 40 _ H2.out (by omega) (by omega) (by omega)).mono ?_);rintro e w' ⟨rfl,rfl⟩))
    |(go_at_call 22;((with_reducible refine(mc len 0 300 _ H3.out (by omega) (by omega) (by omega)).mono ?_);rintro e w' ⟨rfl,rfl⟩)))
  all_goals
   go_wp2_with fail;go_meet
   refine⟨rfl,?_,?_,?_,?_⟩
   ·exact((fc.new w 25 [days,mm,cap,len,.slice A eB.length c,.slice A1 D.length c1]).alloc _).alloc _
   ·have:=(fc.new (w.alloc (cB 25 [days,mm,cap,len,.slice A eB.length c,.slice A1 D.length c1])) 25 [Zo,Zo,Zo,Zo,(),()]).alloc (cB 25 [(mQ days 1 7),(mQ mm 0 5),(mQ cap 0 40),(mQ len 0 300),(),()]);simp only[lz] at this;exact this.drew
   ·have:=fc.new ((w.alloc (cB 25 [days,mm,cap,len,.slice A eB.length c,.slice A1 D.length c1])).alloc (cB 25 [Zo,Zo,Zo,Zo,(),()])) 25 [(mQ days 1 7),(mQ mm 0 5),(mQ cap 0 40),(mQ len 0 300),(),()];simp only[lz] at this;exact this.drew
   ·repeat' (first|exact bS _ _|refine Below.drew ?_|refine below_drewN ?_ _|refine Below.alloc ?_ ?_ _)
    all_goals first|(simp;done)|(simp;omega)
 case rest=>
  obtain⟨rfl,hbx,hbz,hbo,hbel⟩:=hcut;go_wp2_with fail;go_loopw [4] (fun i wr=> ∃(j:Nat) (v:Value),j<=6/\j<=eB.length/\i=.int .i64 j/\fc wr w 25 [days,mm,cap,len,.slice A eB.length c,.slice A1 D.length c1]/\fc wr (w+1) 25 [Zo,Zo,Zo,Zo,(),()]/\
   fc wr (w+1+1) 25 [(mQ days 1 7),(mQ mm 0 5),(mQ cap 0 40),(mQ len 0 300),v,()]/\Hid (j=0->v=.slice none 0 0)/\iJ (w+1+1+1) 47 80 wr v ((eB.take j).map fun c=>qA c (mQ days 1 7))/\Below w w wr) (fun i _=>6-(intOf i).toNat)
  case atStart=>exact⟨0,(),oG,oG,rfl,hbx,hbz,hbo,fun _=>rfl,iJ.none_ _ _ _ _,hbel⟩
  case round=>
   clear hbx hbz hbo hbel;obtain⟨j,v,hj6,hj,rfl,hbx,hbz,hbo,HV,hown,hbel⟩:=hrel;have z0:=hbx.lt;have z1:=hbz.lt;have z2:=hbo.lt;have b4:=hbx.c 4;by_cases hlt:j<eB.length/\j<6
   ·obtain⟨hlt,hlt6⟩:=hlt;obtain⟨x,hx⟩:=ec hlt;obtain⟨b,o,rfl,hb,pv,hpv,k0,k1,k2,k3,k4,k5,k6,k7⟩:=HC.out j x hx;have hb':=bP hb hbel.size;have o0:=hbo.c 0;have o4:=hbo.c 4;replace k0:=a7 hbel lE k0;replace k1:=a7 hbel lE k1;replace k2:=a7 hbel lE k2;replace k3:=a7 hbel lE k3;replace k4:=a7 hbel lE k4;replace k5:=a7 hbel lE k5;replace k6:=a7 hbel lE k6;replace k7:=a7 hbel lE k7;have hpv':lu wr pv x.jC:=hpv.below hbel lE;obtain⟨Ap,cp,rfl,-⟩:=hpv'.open_;have HP:=zH hpv';have HWX:=zH (HW.out x (a8 hx));have HX:=zH hx;have hj0:(0:Int)<=(j:Int):=G5 _;have hj1:(j:Int)<(eB.length:Int):=oG;have HRB:=zH (lQ days 1 7 oG);obtain⟨pvs,hpl,how,hpr⟩:=hown;have hLl:((eB.take j).map fun c=>qA c (mQ days 1 7)).length=j:=by rw[fm,fB,kM oG]
    rw[hLl] at how hpl;have HOW:=zH how;have HPR:=zH hpr;have HPL:=zH hpl;have hjn:j<=1000000000:=oG;clear hpv hpv' hx how hpr hpl hLl;go_wp2_with fail;refine rB [11,12,13] fun hS=>?_;refine tk 0 hS ?_;refine tk 1 hS ?_;refine tk 2 hS ?_;refine tk 3 hS ?_;refine tk 4 hS ?_;refine tk 5 hS ?_;refine tk 6 hS ?_;refine tk 7 hS ?_;refine tk 8 hS ?_;refine tO 9 fun K hK=>?_;go_simp
    go_at_call 23
    refine(Qx x (mQ days 1 7) _ _ (HP.out.below ((bS wr wr).drew) lE) HWX.out HRB.out.1 HRB.out.2).mono ?_;rintro e w1 ⟨y,Ay,ny,cy,rfl,hy,hpy,hb1⟩;have hS:=hS.trans (hb1.mono hS.size);refine hK _ _ (hS) ?_;clear hK K;refine tO 10 fun K hK=>?_;go_simp;have hS:=hS.alloc hS.size (cB 47 (kH y (.slice Ay ny cy)));refine hK _ _ (hS) ?_;clear hK K;refine tL 11 fun K hK=>?_;refine ma w1 _ _ _ (by rfl) (w.heap.size+1+1+1) 47 _ 8 80 underlying22 XE rfl dE dE _ _ _ (jq HOW.out ((bS wr.heap.size wr).drew.trans hb1) lE) (by rfl) (kH y (.slice Ay ny cy)) _ (by rfl) rfl rfl hjn (by have:=hb1.size;show _<=w1.heap.size;simp at this;omega) ?_;intro g cap w5 ho5 hg0 hg1 hk5 hz5;have hb5:=hk5.below (by have:=hb1.size;show _<=w1.heap.size;simp at this;omega);refine hK _ _ ?_;clear hK K;refine tL 12 fun K hK=>?_;go_simp;refine hK _ _ ?_;clear hK K;refine tL 13 fun K hK=>?_;have hbo5:=((hbo.drew).below hb1 z2).below hb5 (by show w.heap.size+1+1<_;omega);have f5:=hbo5.frozen 4;have c5:=hbo5.c 4;go_simp;refine hK _ _ ?_;clear hK K;refine tD ?_;go_wp2;go_roundw
    case rel=>
     refine⟨j+1,.slice g (j+1) cap,oG,oG,by go_num,((hbx.drew.below hb1 z0).below hb5 oG).kj (p:=pA (w+1+1) 4) (by show w.heap.size≠w+1+1;omega) _,
      ((hbz.drew.below hb1 z1).below hb5 oG).kj (p:=pA (w+1+1) 4) (by show w.heap.size+1≠w+1+1;omega) _,hbo5.gH 4 _,(fun h=>absurd h oG),?_,?_⟩
     ·rw[gk,HX.out,lY,gJ,gN,lG,<-hy.out];have hbd:Below wr wr w1:=(bS wr wr).drew.trans hb1;exact(iJ.push (by rw[fm,fB,kM oG]) HPL.out ho5 (fun i x' qv hx' hq=>hk5.own (jq (HPR.out i x' qv hx' hq) hbd lE) dE) (hk5.own (kZ hpy (by show _<=wr.heap.size;omega)) dE)).fG (by show w.heap.size+1+1<_;omega) _
     ·exact(((hbel.drew).trans (hb1.mono (by show _<=wr.heap.size;omega))).trans (hb5.mono oG)).setCell (p:=pA (w.heap.size+1+1) 4) (by show w.heap.size<=w.heap.size+1+1;omega) _
    case measure=>exact mI
   ·have htk:eB.take 6=eB.take j:=by
     by_cases h6:j<6
     ·rw[fj oG,fj oG]
     ·rw[show j=6 by omega]
    have HTK:=zH htk;have HTL:=zH (show(eB.take j).length=j by rw[fB,kM hj]);have HB:=zH hbel;have hv: ∃Av cv,v=.slice Av j cv:=by obtain⟨pvs,_,ho,_⟩:=hown;obtain⟨Av,cv,hv,_⟩:=RS.jh ho;rw[fm,HTL.out] at hv;exact⟨Av,cv,hv⟩
    obtain⟨Av,cv,rfl⟩:=hv;have o4:=hbo.c 4;have hend2:(¬j<eB.length/\j<=eB.length)\/(j<eB.length/\ ¬j<6):=oG;clear hlt htk hbel
    rcases hend2 with ⟨hn1,hn2⟩|⟨hn1,hn2⟩
    all_goals
     go_wp2_with fail;clear b4 o4
    all_goals
     obtain⟨wo,hwo⟩:=nE (wr:World);subst hwo;go_loopw [6] (fun iv wr=> ∃(i:Nat) (vd:Value),i<=j+1/\iv=.int .i64 i/\fc wr w 25 [days,mm,cap,len,.slice A eB.length c,.slice A1 D.length c1]/\fc wr (w+1) 25 [Zo,Zo,Zo,Zo,(),()]/\
      fc wr (w+1+1) 25 [(mQ days 1 7),(mQ mm 0 5),(mQ cap 0 40),(mQ len 0 300),.slice Av j cv,vd]/\Hid (i=0->vd=.slice none 0 0)/\iJ (w+1+1+1) 47 80 wr (.slice Av j cv) ((eB.take j).map fun c=>qA c (mQ days 1 7))/\
      OwnRows (w+1+1+1) 26 3 wr vd ((List.range i).map fun a=>pt D (j+1) a)/\Below w w wr) (fun iv _=>j+1-(intOf iv).toNat)
     case atStart=>exact⟨0,(),oG,rfl,hbx,hbz,hbo,fun _=>rfl,hown,OwnRows.none_ _ _ _ _,HB.out⟩
     case round=>
      clear hbx hbz hbo hown;obtain⟨i,vd,hi,rfl,hbx,hbz,hbo,HVD,hown,hrow,hbel⟩:=hrel;have z0:=hbx.lt;have z1:=hbz.lt;have z2:=hbo.lt;by_cases hlt:i<j+1
      ·have hmk:=fun W=>pM (P:=prog) underlying26 QF (j+1) ((j:Int)+1) oG oG W;have hij:decide (i<=j)=true:=by simp;omega
       go_wp2_with fail;clear hmk hij
       obtain⟨wq,hwq⟩:=nE (wr:World);subst hwq;go_loopw [8] (fun kv wi=> ∃m:Nat,m<=j+1/\kv=.int .i64 m/\fc wi wq 3 (((pt D (j+1) i).take m).map (.int .i64)++kE (j+1-m))/\Below wq wq wi) (fun kv _=>j+1-(intOf kv).toNat)
       case atStart=>exact⟨0,eC _,rfl,by simpa using fc.new wq _ (kE (j+1)),bF.alloc lE _⟩
       case round=>
        obtain⟨m,hm,rfl,hblk,hbi⟩:=hrel;have hwi:=hbi.size;by_cases hlm:m<j+1
        ·have hg:=Be D (j+1) i m hlm;by_cases him:i=m
         ·subst him;rw[if_pos rfl] at hg;have HF:=zH (NP (oQ D (j+1) i) hg);have HBK:=zH hblk;clear hg hblk;go_wp2;go_roundw
          case rel=>exact⟨i+1,oG,by go_num,by rw[<-HF.out];exact HBK.out,hbi⟩
          case measure=>exact mI
         ·rw[if_neg him] at hg;have HG:=zH hg;have him1:((i:Int) !=(m:Int))=true:=by simp;omega
          have him2:(i !=m)=true:=by simp;omega
          have HXQ:=zH ((HXI.out.below hbel lE).below hbi lE);obtain⟨x0,x1,x2,x3,x4,x5⟩:=(hbx.below hbi z0).jI;have HAW:=zH (V3 D i m HDW.out);clear hg;go_wp2_with (first
           |(go_at_call 24;refine(ze _ _ (i:Int) (m:Int) _ HXQ.out).mono ?_;rintro e w2 ⟨rfl,hb2⟩;have hz2:=hb2.size;have hq2:w2.cell? (pA wq m)=some (.int .i64 0):=((hblk.below hb2 hblk.lt).cell m).trans (CF (oQ D (j+1) i) hlm);have hf2:=(hblk.below hb2 hblk.lt).frozen m)
           |(go_at_call 22;((refine(mc _ 0 60 _ HAW.out oG oG oG).mono ?_);rintro e w' ⟨rfl,rfl⟩)))
          go_roundw
          case rel=>refine⟨m+1,oG,by go_num,?_,(hbi.trans (hb2.mono hwi)).setCell (p:=pA wq m) lE _⟩;have:=(hblk.below hb2 hblk.lt).gH m (mQ (sm D i m) 0 60);rw[CG (oQ D (j+1) i) HG.out] at this;exact this
          case measure=>exact mI
        ·obtain rfl:m=j+1:=oG;have hfull:fc wr wq 3 ((pt D (j+1) i).map (.int .i64)):=by
          have:=hblk
          rwa [fj (by rw[oQ];omega),pG,show kE 0=[] from rfl,mz] at this
         have o5:=(hbo.below hbi z2).c 5;obtain⟨rvs,hro,hrr⟩:=hrow.below hbi lE;rw[fm,mr] at hro;have hil:i<=1000000000:=oG;have hbase:(w.heap.size+1+1+1)<=wr.heap.size:=oG;have HFU:=zH hfull;have HRR:=zH hrr;have HBL:=zH hblk;clear hfull hrr hblk;go_wp2_with (at_builtin;refine iD wr rfl _ _ 23 rfl (w+1+1+1) 26 _ 1 24 underlying23 Yy rfl dE dE _ _ _ hro rfl [.slice wq (j+1) (j+1)] _ rfl rfl rfl hil hbase ?_;intro g cap w5 ho5 hg0 hg1 hk5 hz5;have hb5:=hk5.below hbase;have hbo5:=(hbo.below hbi z2).below hb5 oG;have f5:=hbo5.frozen 5;have c5:w5.cell? (pA (w+1+1) 5)=some vd:=hbo5.cell 5);go_roundw
         case rel=>
          refine⟨i+1,.slice g (i+1) cap,oG,by go_num,((hbx.below hbi z0).below hb5 oG).kj (p:=pA (w+1+1) 5) (by show w.heap.size≠w+1+1;omega) _,
           ((hbz.below hbi z1).below hb5 oG).kj (p:=pA (w+1+1) 5) (by show w.heap.size+1≠w+1+1;omega) _,hbo5.gH 5 _,(fun h=>absurd h oG),
           ((hown.below hbi lE).keep hk5 dE dE).fG (by show w.heap.size+1+1<_;omega) _,?_,?_⟩
          ·rw[List.range_succ,gJ,gN,lG];refine(OwnRows.push sI (by have:=hro.1;omega) ho5 (fun a r qv hr hq=>hk5.own (HRR.out a r qv hr hq) dE) ?_).fG (by show w.heap.size+1+1<_;omega) _;rw[oQ];exact hk5.own (fc.own HFU.out oG (by simp[oQ]) mO) dE
          ·exact((hbel.trans (hbi.mono oG)).trans (hb5.mono oG)).setCell (p:=pA (w+1+1) 5) (by show w.heap.size<=w+1+1;omega) _
         case measure=>exact mI
      ·obtain rfl:i=j+1:=oG;have hvd: ∃Ad cd,vd=.slice Ad (j+1) cd:=by obtain⟨rvs,hro,_⟩:=hrow;obtain⟨Ad,cd,hv,_⟩:=RS.jh hro;rw[fm,mr] at hv;exact⟨Ad,cd,hv⟩
       obtain⟨Ad,cd,rfl⟩:=hvd;obtain⟨q0,q1,q2,q3,q4,q5⟩:=hbo.jI;obtain⟨y0,y1,y2,y3,y4,y5⟩:=hbz.jI;obtain⟨e0,e1,e2,e3,e4,e5⟩:=hbz.Im;go_wp2;refine bodyPost_ret (ia rfl _ _ (w+1) 25 [(mQ days 1 7),(mQ mm 0 5),(mQ cap 0 40),(mQ len 0 300),.slice Av j cv,.slice Ad (j+1) cd] _ rfl ?hW underlying25 rfl Yt) rfl ⟨_,rfl,?_,?_⟩
       case hW=>exact hbz.Sa
       ·refine⟨.slice Av j cv,.slice Ad (j+1) cd,rfl,?_,?_⟩
        ·have e:(nC ⟨days,mm,cap,len,eB,D⟩).eB=(eB.take j).map fun c=>qA c (mQ days 1 7):=by show(eB.take 6).map _=_;rw[HTK.out]
         rw[e];exact(hown.QT oG).mono oG
        ·have e:(nC ⟨days,mm,cap,len,eB,D⟩).gn=(List.range (j+1)).map fun a=>pt D (j+1) a:=by show(List.range (((eB.take 6).map _).length+1)).map _=_;rw[fm,HTK.out,HTL.out]
         rw[e];exact(hrow.QT oG).mono oG
       ·exact so hbel oG
def US (v X:Value) (x:fS) (l:List Int) (w:World) (W:iz w v x) (U:gx w .i64 X l) (S:Kd x.gn) (hn:l.length<=1000000) (T: ∀z∈l,0<=z/\z<=1000000000):
  Calls prog 187 #[v,X] w fun e w'=>e=.returned (Mc x.gn l)/\Below w w w':=by
 have Z:=zH W;obtain⟨cv,dv,rfl,s,u⟩:=W;obtain⟨N,Q,rfl,-⟩:=s.open_;obtain⟨O,R,rfl,-⟩:=u.open_;obtain⟨A,c,rfl,af,ag,g⟩:=U.open_;obtain⟨Y,HZ,P⟩:=Zc g T S;clear s u g T S U;generalize t:Value.slice N x.eB Q=cv at*;generalize y:Value.slice O x.gn R=dv at*;cases l with
 |nil=>
  subst t y;simp only[fZ];go_enter func187,ntmps187;go_wp2;go_ret;exact⟨rfl,bF.alloc lE _⟩
 |cons c0 t0=>
  have D:Mc x.gn (c0::t0)=sc x.gn 0 (c0::t0):=rfl;have V:0<(c0::t0).length:=sI;generalize c0::t0=l at*;have G:=zH D;have L:((l.length:Int)==0)=false:=by rw[beq_eq_false_iff_ne];omega
  have C:(l.length==0)=false:=by rw[beq_eq_false_iff_ne];omega
  clear D;subst t y;go_enter func187,ntmps187;go_wp2_with fail;clear L C;go_loopw [5,6,14] (fun sv av M wr=> ∃(k:Nat) (f a:Int),k<=l/\M=.int .i64 k/\sv=.int .i64 f/\av=.int .i64 a/\0<=f/\f<=k*2147483648/\
    Hid (Mc x.gn l=f+sc x.gn a (l.drop k))/\fc wr w 25 [x.days,x.mm,x.cap,x.len,.slice N x.eB Q,.slice O x.gn R]/\Below w w wr) (fun _ _ M _=>l.length-(intOf M).toNat)
  case atStart=>exact⟨0,0,0,eC _,rfl,rfl,rfl,oG,oG,by show _=_;rw[G.out];simp,fc.new _ _ _,bF.alloc lE _⟩
  case round=>
   obtain⟨k,f,a,hk,rfl,rfl,rfl,aa,ae,E,m,d⟩:=hrel;have hz:=m.lt;have r:=zH (Z.below d lE);obtain⟨x0,x1,x2,x3,x4,x5⟩:=m.jI;by_cases K:k<l
   ·obtain⟨z,j⟩:=ec K;obtain⟨b,o,rfl,hb,B⟩:=Y k z j;replace B:=(d.cell (p:=pA b (o+k)) hb).trans B;obtain⟨ah,ai⟩:=HZ z (a8 j);have n:=E.out;rw[oh j,sc] at n;have F:=zH n;have J:=P a (z+1);obtain⟨H,I⟩:=J;clear E j n;go_wp2_with fail;refine(pk _ x a (z+1) _ r).mono ?_;rintro e w1 ⟨rfl,i⟩;generalize sm x.gn a (z+1)=q at*;go_wp2;go_roundw
    case rel=>exact⟨k+1,f+q,z+1,oG,by go_num,rfl,rfl,oG,by push_cast;omega,by have h:=F.out;show _=_;omega,m.below i hz,d.trans (i.mono oG)⟩
    case measure=>exact mI
   ·have n:=E.out;rw[iE oG,sc] at n;have F:=zH n;obtain⟨H,I⟩:=P a 0;clear E n;go_wp2_with fail;refine(pk _ x a 0 _ r).mono ?_;rintro e w1 ⟨rfl,i⟩;generalize sm x.gn a 0=q at*;go_wp2;go_ret;exact⟨oC F.symm,d.trans (i.mono oG)⟩
def QQ {l:List Int} {n:Nat} {z:Int} (h:l[n]? =some z) (hn:n+1=l.length):l.getLast?.getD 0=z:=by rw[List.getLast?_eq_getElem?,<-hn,G7,h];rfl
def R7 (v lv:Value) (x:fS) (l:List Int) (w:World) (hx:iz w v x) (hl:gx w .i64 lv l) (hA:Kd x.gn) (hn:l.length<=1000000) (hc: ∀z∈l,0<=z/\z<=1000000000):
  Calls prog 11 #[v,lv] w fun e w'=>e=.returned (Mc x.gn l)/\Below w w w':=by
 have HX:=zH hx;obtain⟨cv,dv,rfl,aa,af⟩:=hx;obtain⟨T,W,rfl,-⟩:=aa.open_;obtain⟨U,X,rfl,-⟩:=af.open_;obtain⟨A,c,rfl,aD,aS,q⟩:=hl.open_;obtain⟨HC,HZ,HA⟩:=Zc q hc hA;clear aa af q hc hA hl;generalize ae:Value.slice T x.eB W=cv at*;generalize ag:Value.slice U x.gn X=dv at*;cases l with
 |nil=>
  subst ae ag;simp only[fZ];go_enter func11,ntmps11;go_wp2;go_ret;exact⟨rfl,bF.alloc lE _⟩
 |cons c0 t0=>
  have R:Mc x.gn (c0::t0)=sm x.gn 0 (c0+1)+TZ x.gn (c0::t0)+sm x.gn (((c0::t0).getLast?.getD 0)+1) 0:=BC x.gn t0 0 c0;have S:(c0::t0)[0]? =some c0:=rfl;have aO:0<(c0::t0).length:=sI;generalize c0::t0=l at*;obtain⟨k,F⟩:=ec (l:=l) (i:=l.length-1) oG;rw[QQ F oG] at R;have V:=zH R;obtain⟨b,o,rfl,hb,N⟩:=HC 0 c0 S;obtain⟨b',o',he,_,Q⟩:=HC _ k F;obtain⟨rfl,rfl⟩:b=b'/\o=o':=by simpa using he
  obtain⟨z1,z2⟩:=HZ c0 (a8 S);obtain⟨z3,z4⟩:=HZ k (a8 F);rw[gv] at N;have aL:((l.length:Int)==0)=false:=by rw[beq_eq_false_iff_ne];omega
  have ak:(l.length==0)=false:=by rw[beq_eq_false_iff_ne];omega
  have aj:(0:Int)<(l.length:Int):=oG;have aG:((l.length:Int)-1).toNat=l.length-1:=oG;have aE:(0:Int)<=(l.length:Int)-1:=oG;have aF:(l.length:Int)-1<(l.length:Int):=oG;have az:=HA 0 (c0+1);have aA:=HA (k+1) 0;obtain⟨m,hm⟩:=nE (l.length-1);rw[<-hm] at Q;have u:l.length=m+1:=oG;have aV:m<=1000000:=oG;clear R aG F he S hm;clear aE aF aL ak;have L:=zH u;subst ae ag;rw[u] at hn aD aj|-
  clear u;have aw:=HX;have y:IntKind.i64.wrap (c0+1)=c0+1:=iM _ oG;have B:IntKind.i64.wrap (k+1)=k+1:=iM _ oG;have aq:IntKind.i64.wrap (m:Int)=m:=iM _ oG;have C:IntKind.i64.wrap (sm x.gn 0 (c0+1)+sm x.gn (k+1) 0)=sm x.gn 0 (c0+1)+sm x.gn (k+1) 0:=iM _ oG;have aU:(m:Int)<(m:Int)+1:=oG;go_enter func11,ntmps11;go_wp2_with fail;have f:=(jX (bS w w) (cB 25 [x.days,x.mm,x.cap,x.len,.slice T x.eB W,.slice U x.gn X])).drew;refine rG (fun wS=>fc wS w 25 [x.days,x.mm,x.cap,x.len,.slice T x.eB W,.slice U x.gn X]/\wS.cell? (pA b o)=some c0/\wS.cell? (pA b (o+m))=some k) [] (⟨fc.drew (fc.newAt w _ _ rfl),a7 f lE N,a7 f lE Q⟩) fun hS=>?_;refine kL [0,1,2,3,4,6,7,8,9,10,11,12,13] ?_;refine tO 5 fun K Y=>?_;go_simp;refine(ze _ x _ _ _ (HX.below f lE)).mono ?_;rintro e wf ⟨rfl,a⟩;have hS:=And.intro (hS.1.below a hS.1.lt) (And.intro (a7 a lE hS.2.1) (a7 a lE hS.2.2));have f:=f.trans (a.mono f.size);refine Y _ _ (hS) ?_;refine tO 14 fun K Y=>?_;go_simp;refine(ze _ x _ _ _ (HX.below f lE)).mono ?_;rintro e wf ⟨rfl,a⟩;have hS:=And.intro (hS.1.below a hS.1.lt) (And.intro (a7 a lE hS.2.1) (a7 a lE hS.2.2));have t:=f.trans (a.mono f.size);refine Y _ _ (hS) ?_;refine kL [15,16] ?_;refine tD ?_;have D:=hS.1;have n:Hid (Mc x.gn l=(sm x.gn 0 (c0+1)+sm x.gn (k+1) 0)+TZ x.gn (l.drop 0)):=by show _=_;rw[V.out,sX];omega
  have Z:0<=sm x.gn 0 (c0+1)+sm x.gn (k+1) 0/\sm x.gn 0 (c0+1)+sm x.gn (k+1) 0<=4294967296:=by clear y B aq C;omega
  clear y B aq C N Q az aA V z1 z2 z3 z4 aj;have J:=zH Z;clear Z;go_wp2_with fail;go_loopw [5,6] (fun sv iv wr=> ∃(j:Nat) (g:Int),j<=m/\iv=.int .i64 ((j:Int)+1)/\sv=.int .i64 g/\0<=g/\g<=4294967296+j*2147483648/\Hid (Mc x.gn l=g+TZ x.gn (l.drop j))/\
    fc wr w 25 [x.days,x.mm,x.cap,x.len,.slice T x.eB W,.slice U x.gn X]/\Below w w wr) (fun _ iv _=>m+1-(intOf iv).toNat)
  case atStart=>exact⟨0,_,eC _,rfl,rfl,J.out.1,by have:=J.out.2;omega,n,D,t⟩
  case round=>
   clear D t n J hb HX;obtain⟨j,g,hj,rfl,rfl,aP,aQ,HI,aC,d⟩:=hrel;by_cases aT:j<m
   ·obtain⟨G,E⟩:=ec (l:=l) (i:=j) (by have:=L.out;omega);obtain⟨H,r⟩:=ec (l:=l) (i:=j+1) (by have:=L.out;omega);obtain⟨b1,o1,ah,s,O⟩:=HC j G E;obtain⟨rfl,rfl⟩:b=b1/\o=o1:=by simpa using ah
    obtain⟨b2,o2,ai,aB,P⟩:=HC (j+1) H r;obtain⟨rfl,rfl⟩:b=b2/\o=o2:=by simpa using ai
    replace O:=(d.cell (p:=pA b (o+j)) s).trans O;replace P:=(d.cell (p:=(pA b (o+(j+1)))) s).trans P;have aR:=bP s d.size;obtain⟨z1,z2⟩:=HZ G (a8 E);obtain⟨z3,z4⟩:=HZ H (a8 r);have M:=HI.out;rw[oh E,oh r,TZ,<-oh r] at M;have HD:=zH M;obtain⟨aW,aX⟩:=HA (G+1) (H+1);clear HI E r M ah ai s aB;have ay:=zH (aw.below d lE);have aM:=d.size;have y:IntKind.i64.wrap (G+1)=G+1:=iM _ oG;have B:IntKind.i64.wrap (H+1)=H+1:=iM _ oG;have C:IntKind.i64.wrap (g+sm x.gn (G+1) (H+1))=g+sm x.gn (G+1) (H+1):=iM _ oG;have aH:(j:Int)<(m:Int):=oG;have aI:(0:Int)<=(j:Int)+1:=oG;have aJ:(j:Int)<(m:Int)+1:=oG;have aK:((j:Int)+1).toNat=j+1:=oG;have aN:IntKind.i64.wrap (j:Int)=j:=iM _ oG;go_wp2_with fail;refine rG (fun wS=>fc wS w 25 [x.days,x.mm,x.cap,x.len,.slice T x.eB W,.slice U x.gn X]/\wS.cell? (pA b (o+j))=some G/\wS.cell? (pA b (o+(j+1)))=some H) [] (⟨aC.drew,O,P⟩) fun hS=>?_;refine kL [0,1,2,3,4,5,6,7,8,9,10,11,12] ?_;refine tO 13 fun K Y=>?_;go_simp;refine(ze _ x _ _ _ (ay.below bF.drew lE)).mono ?_;rintro e wf ⟨rfl,a⟩;have hS:=And.intro (hS.1.below a hS.1.lt) (And.intro (a7 a lE hS.2.1) (a7 a lE hS.2.2));have t:=(bS wr wr).drew.trans a;refine Y _ _ (hS) ?_;refine kL [14,15] ?_;refine tD ?_;have D:=hS.1;clear y B C aH aI aJ aK aN;go_wp2;go_roundw
    case rel=>exact⟨j+1,g+sm x.gn (G+1) (H+1),oG,by go_num,rfl,oG,by push_cast;omega,by have h:=HD.out;show _=_;omega,D,d.trans (t.mono aM)⟩
    case measure=>exact mI
   ·obtain rfl:j=m:=oG;have M:=HI.out;have I:TZ x.gn (l.drop j)=0:=by have u:=L.out;obtain⟨z,hz⟩:=ec (l:=l) (i:=j) oG;rw[oh hz,iE oG];rfl
    rw[I] at M;have HD:=zH M;clear HI M I;go_wp2;go_ret;exact⟨oC (by have:=HD.out;omega),d⟩
end
end Go.Proofs.YtgimnjldndkalaaGreatDoor
