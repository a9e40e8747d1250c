/- Of the proof of TopGreat: The walk of the iterator over all stops. -/
import Derived.LoopIn
import Derived.LoopNIn
import Derived.Shelf.RegionOpen
import Derived.Test.YtgimnjldndkalaaGreatDoorF5
import Derived.Test.YtgimnjldndkalaaGreatDoorF6
set_option linter.all false
set_option maxHeartbeats 4000000
set_option maxRecDepth 100000
namespace Go.Proofs.YtgimnjldndkalaaGreatDoor
section
open Go.Proofs.Tryz
open Go.RowKit Go.Shelf ko
attribute [local go_sem] iO
def OQ (n:Nat) (hn:1<=n) (l C:Nat) (m:World) (dv:Value) (p:Pl) (T:jP m dv p) (J Q:List (Nat×vg)->World->Prop) (W:World) (R:AbidesFrom W J)
  (S: ∀g (x:Nat×vg) W1,J g W1->g.length<(nn p).length->YieldAt Fence.wide (n-1) prog l #[.agg #[x.2.1,x.2.2,(x.1:Int)]] W1 fun e E=>
   (e=.returned true/\J (g++[x]) E/\Below m W1 E)\/(e=.returned false/\Q (g++[x]) E))
  (hW:Below m m W) (H:W.cell? C=some dv) (h0:J [] W):
  CallsIn Fence.wide n prog 190 #[.func (.yield l) #[] #[],.pointer C] W fun e E=>(∃v,e=.returned v)/\
   ((∃X,X=nn p/\J X E)\/(∃g,g <+:nn p/\Q g E)):=by
 obtain⟨A,c,rfl,h1,h2,hc⟩:=jP.open_ T;obtain⟨HD,HY,Z⟩:=Zc hc S R;clear T hc S R;refine callsIn_of_wp func190 rfl trivial ?_ rfl;simp only[ntmps190,gU,ff,fZ,Nat.reduceAdd,Nat.reduceSub,iq,ir,iX,iA,gQ,fY];gi_wp2;gi_loopw [12] (fun z wr=> ∃k:Nat,k<=p/\z=.int .i64 k/\J (iZ 0 (p.take k)) wr/\Below m m wr) (fun z _=>p.length-(intOf z).toNat)
 case atStart=>exact⟨0,eC _,rfl,h0,hW⟩
 case round=>
  obtain⟨k,hk,rfl,a,D⟩:=hrel;by_cases ag:k<p
  ·obtain⟨d,hd⟩:=ec ag;obtain⟨b,o,rfl,hb,tv,P,f⟩:=HD k d hd;obtain⟨A2,c2,rfl,g1,g2,L⟩:=iK.open_ P;have x1:wr.cell? (pA b (o+k))=some (.slice A2 d c2):=a7 D lE f;obtain⟨HT,HX⟩:=Zb L hd;clear hd f P L;have h:=Z _ _ _ none a (rN wr (cB 39 [.slice A2 d c2]) none) (fun r e=>by cases e);have q:=D.alloc D.size (cB 39 [.slice A2 d c2]);obtain⟨wo,ah⟩:=nE (wr:World);subst ah;clear a;gi_wp2;gi_loopw [20] (fun z wr=> ∃j:Nat,j<=d/\z=.int .i64 j/\J (iZ 0 (p.take k)++iP k (d.take j)) wr/\Below m m wr) (fun z _=>d.length-(intOf z).toNat)
   case atStart=>exact⟨0,eC _,rfl,by simpa[iP] using h,q⟩
   case round=>
    clear h q;obtain⟨j,hj,rfl,a,B⟩:=hrel;by_cases M:j<d
    ·obtain⟨t,ht⟩:=ec M;obtain⟨b2,o2,rfl,aj,sv,O,f⟩:=HT j t ht;obtain⟨Y,c3,rfl,g3,g4,K⟩:=fQ.open_ O;have x2:wr.cell? (pA b2 (o2+j))=some (.slice Y t c3):=a7 B lE f;obtain⟨HS,G⟩:=Zb K ht;have h:=Z _ _ _ none a (rN wr (cB 44 [.slice Y t c3]) none) (fun r e=>by cases e);have q:=B.alloc B.size (cB 44 [.slice Y t c3]);obtain⟨wp,ai⟩:=nE (wr:World);subst ai;clear a ht f O K;gi_wp2;gi_loopw [27] (fun z wr=> ∃i:Nat,i<=t/\z=.int .i64 i/\J (iZ 0 (p.take k)++iP k (d.take j)++ku k (t.take i)) wr/\Below m m wr) (fun z _=>t.length-(intOf z).toNat)
     case atStart=>exact⟨0,eC _,rfl,by simpa[ku] using h,q⟩
     case round=>
      clear h q;obtain⟨i,hi,rfl,a,w⟩:=hrel;by_cases N:i<t
      ·obtain⟨⟨cu,V⟩,U⟩:=ec N;obtain⟨b3,o3,rfl,ak,s,u⟩:=HS i _ U;have u3:wr.cell? (pA b3 (o3+i*2))=some cu:=a7 w lE s;have u4:wr.cell? (pA b3 (o3+i*2+1))=some V:=a7 w lE u;have h:=Z _ _ _ none a (rN wr (cB 84 [cu,V]) none) (fun r e=>by cases e);have q:=w.alloc w.size (cB 84 [cu,V]);have y:=OX HX G U;have F:=zH y;obtain⟨fn,tmps,assign,body,hy,hR⟩:=HY _ (k,(cu,V)) _ h (by have:=y.length_le;rw[fa] at this;simp at this|-;omega);dsimp only at hy;have aa:=zH (tM (i:=k) U);clear U s u y h;gi_wp2;refine hR.mono ?_;rintro e W3 (⟨rfl,ae,af⟩|⟨rfl,I⟩)
       ·gi_wp2;go_roundw
        case rel=>exact⟨i+1,oG,by go_num,by rw[aa.out,<-eT];exact ae,q.trans af⟩
        case measure=>exact mI
       ·gi_wp2;refine bodyPost_ret (results_none rfl _ _ _) rfl ?_;exact⟨⟨_,rfl⟩,.inr ⟨_,F,I⟩⟩
      ·obtain rfl:i=t.length:=oG;gi_wp2;go_roundw
       case rel=>exact⟨j+1,oG,by go_num,by rw[tK G.out,<-eT];rw[gh] at a;exact a,w⟩
       case measure=>exact mI
    ·obtain rfl:j=d.length:=oG;gi_wp2;go_roundw
     case rel=>exact⟨k+1,oG,by go_num,by rw[rI HX.out];rw[gh] at a;exact a,B⟩
     case measure=>exact mI
  ·obtain rfl:k=p.length:=oG;gi_wp2
   go_end0
   exact⟨⟨_,rfl⟩,.inl ⟨_,by rw[gh] at a|-;rfl,a⟩⟩
def Si (n:Nat) (a:Option Addr) (b cap:Nat) (w:World):
  CallsIn Fence.wide n prog 146 #[.agg #[.slice a b cap]] w fun e w'=>e=.returned (.func (.func 190) #[] #[.pointer w])/\w'=w.alloc (cB 30 [.slice a b cap]):=by
 refine callsIn_of_wp func146 rfl trivial ?_ rfl;simp only[ntmps146,gU,ff,fZ,Nat.reduceAdd,Nat.reduceSub,iq,ir,iX,iA,gQ,fY];gi_wp2;go_ret;exact⟨rfl,rfl⟩
def JB (n:Nat) (hn:1<=n) (C:Nat) (m:World) (dv:Value) (p:Pl) (T:jP m dv p) (w:World) (b:Below m m w) (a:C<w) (H:w.cell? C=some dv):
  SeqStopsK Fence.wide n prog 190 #[.pointer C] (fun x:Nat×vg=> #[.agg #[x.2.1,x.2.2,(x.1:Int)]]) (Below m) (fun X=>X=nn p) (fun g=>g <+:nn p) (nn p).length w:=
 fun l J Q W hW R _ S h0=>OQ n hn l C m dv p T J Q W R S (b.trans (hW.mono b.size)) ((hW.cell (p:=C) a).trans H) h0
end
section
open Go.Proofs.Tryz
open Go.RowKit Go.Shelf ko
attribute [local go_sem] iO
def UO (x:Nat×Int):List Value:=[(x.1:Int),x.2]
def UR:(prog.info? 86).map (fun i=>(i.zero,i.size,i.bytes))=some (some (.agg #[Zo,Zo]),2,16):=kR
def vT (v:Value) (p:Pl) (cu:Int) (w:World) (hp:Vk w v p) (U:(nn p).length<=1000000):
  Calls prog 142 #[v,cu] w fun e w'=> ∃i,e=.returned i/\w'.ownsRow w 86 2 i (sU cu p).length ((sU cu p).flatMap UO)/\Below w w w':=by
 obtain⟨dv,rfl,M⟩:=hp;have Z:=zH M;obtain⟨A,c,rfl,h1,h2,-⟩:=jP.open_ M;have HN:=zH U;clear M U;refine(callsIn_wide (n:=4)).1 ?_;refine callsIn_of_wp_marks func142 rfl trivial ?_ rfl;simp only[ntmps142,gU,ff,fZ,Nat.reduceAdd,Nat.reduceSub,iq,ir,iX,iA,gQ,fY];gi_wp2_with (refine⟨trivial,?_⟩;gi_at_call 146;refine(Si _ _ _ _ _).mono ?_;rintro e w' ⟨rfl,rfl⟩);have s:=((fc.fW (w.alloc (cB 30 [.slice A p c])) 3 [cu] (g:=w.heap.size+1) sI).alloc (cB 52 [()])).alloc (cB 30 [.slice A p c]);have F:=(Boxed.new ((w.alloc (cB 30 [.slice A p c])).alloc (cB 3 [cu])) 52 ()).alloc (cB 30 [.slice A p c]);have L:((((w.alloc (cB 30 [.slice A p c])).alloc (cB 3 [cu])).alloc (cB 52 [()])).alloc (cB 30 [.slice A p c])).cell? (pB (w+1+1+1))=some (.slice A p c):=
  (fc.fW (((w.alloc (cB 30 [.slice A p c])).alloc (cB 3 [cu])).alloc (cB 52 [()])) 30 [.slice A p c] (g:=w.heap.size+1+1+1) sI).cell 0
 simp only[lz] at F;have k:=bL (bL (bL (bL (bS w w) (cB 30 [.slice A p c])) (cB 3 [cu])) (cB 52 [()])) (cB 30 [.slice A p c]);have B:((((w.alloc (cB 30 [.slice A p c])).alloc (cB 3 [cu])).alloc (cB 52 [()])).alloc (cB 30 [.slice A p c])).heap.size=w.heap.size+4:=sI;replace s:fc ((((w.alloc (cB 30 [.slice A p c])).alloc (cB 3 [cu])).alloc (cB 52 [()])).alloc (cB 30 [.slice A p c])) (w+1) 3 [cu]:=s;revert s F L k B;generalize ((((w.alloc (cB 30 [.slice A p c])).alloc (cB 3 [cu])).alloc (cB 52 [()])).alloc (cB 30 [.slice A p c]))=W0;intro L F k B s;refine wpIn_rangeFunc_ownH rfl oG (gf:=190) (lb:= #[.pointer (pB (w+1+1+1))]) rfl trivial (enters_of func190 kR rfl)
  (JB 3 oG (w+1+1+1) w (.slice A p c) p Z W0 k oG L) belowK_t (belowK_b oG) bF (fun _=>rfl)
  (fun b W=>((∃i,Boxed W (w+1+1) 52 i/\W.ownsRow w 86 2 i (mn cu b).length ((mn cu b).flatMap UO)/\True)/\fc W (w+1) 3 [cu])/\Below w w W)
  (fun _ _ _=>False)
  (OwnFrom.and (OwnFrom.and (Own.from (holdsRow_own w (w+1+1) 52 86 2 (fun b=>(mn cu b).length) (fun b=>(mn cu b).flatMap UO) (fun _ _=>True)) _) (Qc _ _ _ _)) (ownFrom_below lE oG))
  (fun _ _ _ _ _ h _ _=>h)
  ⟨⟨⟨_,F,gL _ _ _ _,trivial⟩,s⟩,k⟩
  (fun x J W=> ∃o,w.heap.size+1+1<o/\fc W o 210 [x.2.1,x.2.2,(x.1:Int)]/\J={tmps:= #[.agg #[.slice A p c],cu,.pointer w,.pointer (pB (w+1)),(),.pointer (pB (w+1+1)),.pointer (pB o),.agg #[.slice A p c],
   .func (.func 190) #[] #[.pointer (pB (w+1+1+1))],.agg #[x.2.1,x.2.2,(x.1:Int)],undef,undef,undef,undef,undef,undef,undef,undef,undef,undef,undef,undef,undef,undef,undef],defers:=[]})
  (fun x J _ X Y row hs hg V=>by obtain⟨o,e1,e2,e3⟩:=hs;exact⟨o,e1,e2.MU hg (fun r e=>(V r e).2),e3⟩)
  ?assign ?body ?done ?stop
 case assign=>rintro l b ⟨H,q,I⟩ W K ⟨⟨⟨i,d,a,-⟩,f⟩,j⟩ t;gi_wp2;exact t _ _ ((KeepsOthers.alloc _ _).from _) ((bS _ W).alloc j.size _) ⟨⟨⟨i,d.alloc _,a.alloc _,trivial⟩,f.alloc _⟩,j.alloc j.size _⟩ ⟨W,d.lt,fc.new W _ _,rfl⟩
 case body=>
  rintro l b ⟨H,q,I⟩ J W hl ⟨r,V⟩ ⟨⟨⟨i,d,a,-⟩,f⟩,j⟩ ⟨o,ae,G,rfl⟩ T;have c1:=f.c 0;have c2:W.cell? (pB (w+1+1))=some i:=d.cell;have c3:=G.c 0;have c4:=G.c 1;have c5:=G.c 2;have aa:=G.lt;have S:(mn cu b).length<=1000000000:=by have:=Pf cu b;have:=HN.out;omega
  have z:=j.size;by_cases m:q=cu
  ·subst m;have E:=zH (Pg (l:=b) (x:=(H,q,I)) rfl);generalize mn q b=VL at a S E;gi_wp2_with (gi_at_builtin;refine Gd _ rfl (.tmp 15) (.tmp 22) 52 rfl w 86 _ 2 16 underlying52 UR rfl dE dE _ _ _ a rfl [(H:Int),I] _ rfl rfl rfl S z ?_;intro g cap w5 O y;obtain⟨C,Q,P,N,u⟩:=d.appended dE a z oG O y;have e5:=C.cell;have f5:=C.frozen);refine⟨N.from _,u,⟨⟨_,Q,?_⟩,?_⟩,j.trans u⟩
   ·rw[E.out,fa,fU];exact P
   ·exact(fc.Wt (f.alloc _) y (f.not_row dE a)).kj (p:=pB (w+1+1)) dO _
  ·have af:(q==cu)=false:=by rw[beq_eq_false_iff_ne];exact m
   have E:=zH (SK (l:=b) (x:=(H,q,I)) m);clear m;gi_wp2;exact⟨KeepsFrom.refl _ _,bS _ _,⟨⟨i,d,by rw[E.out];exact a⟩,f⟩,j⟩
 case done=>rintro D ys W hD rfl ⟨⟨⟨i,d,a,-⟩,f⟩,j⟩ t;have c2:W.cell? (pB (w+1+1))=some i:=d.cell;obtain⟨A1,R,rfl,-⟩:=RS.jh a;gi_wp2;refine⟨by simp,.inl ⟨_,_,rfl,run_takeDeferred t,?_⟩⟩;exact⟨_,results_tmp rfl _ _ _,_,rfl,ownsRow_putObj a _ t rfl,nb j lE oG t⟩
 case stop=>rintro D c b W _ _ h _;exact h.elim
end
end Go.Proofs.YtgimnjldndkalaaGreatDoor
