/- Of the proof of TopCosts: The walk of the iterator over all stops. -/
import Derived.LoopIn
import Derived.LoopNIn
import Derived.Shelf.RegionOpen
import Derived.Test.YtgimnjldndkalaaGreatDoorF5
import Derived.Test.YtgimnjldndkalaaGreatDoorF8
set_option linter.all false
set_option maxHeartbeats 4000000
set_option maxRecDepth 100000
namespace Go.Proofs.YtgimnjldndkalaaGreatDoor
section
open Go.Proofs.Tryz
open Go.RowKit Go.Shelf ko
attribute [local go_sem] iO
def OQ (n:Nat) (hn:1<=n) (l B:Nat) (w0:World) (E:Value) (p:Pl) (U:jP w0 E p) (J Q:List (Nat×vg)->World->Prop) (W:World) (S:AbidesFrom W J)
  (T: ∀g (x:Nat×vg) W1,J g W1->g.length<(nn p).length->YieldAt Fence.wide (n-1) prog l #[.agg #[x.2.1,x.2.2,(x.1:Int)]] W1 fun e D=>
   (e=.returned true/\J (g++[x]) D/\Below w0 W1 D)\/(e=.returned false/\Q (g++[x]) D))
  (hW:Below w0 w0 W) (H:W.cell? B=some E) (h0:J [] W):
  CallsIn Fence.wide n prog 190 #[.func (.yield l) #[] #[],.pointer B] W fun e D=>(∃v,e=.returned v)/\
   ((∃ys,ys=nn p/\J ys D)\/(∃g,g <+:nn p/\Q g D)):=by
 obtain⟨A,c,rfl,h1,h2,hc⟩:=jP.open_ U;obtain⟨HD,HY,Z⟩:=Zc hc T S;clear U hc T S;refine callsIn_of_wp func190 rfl trivial ?_ rfl;simp only[ntmps190,gU,ff,fZ,Nat.reduceAdd,Nat.reduceSub,iq,ir,iX,iA,gQ,fY];gi_wp2;gi_loopw [12] (fun y wr=> ∃k:Nat,k<=p/\y=.int .i64 k/\J (iZ 0 (p.take k)) wr/\Below w0 w0 wr) (fun y _=>p.length-(intOf y).toNat)
 case atStart=>exact⟨0,eC _,rfl,h0,hW⟩
 case round=>
  obtain⟨k,hk,rfl,a,C⟩:=hrel;by_cases ag:k<p
  ·obtain⟨d,hd⟩:=ec ag;obtain⟨b,o,rfl,hb,tv,P,f⟩:=HD k d hd;obtain⟨A2,c2,rfl,g1,g2,L⟩:=iK.open_ P;have x1:wr.cell? (pA b (o+k))=some (.slice A2 d c2):=a7 C lE f;obtain⟨HT,HX⟩:=Zb L hd;clear hd f P L;have h:=Z _ _ _ none a (rN wr (cB 39 [.slice A2 d c2]) none) (fun r e=>by cases e);have m:=C.alloc C.size (cB 39 [.slice A2 d c2]);obtain⟨wo,ah⟩:=nE (wr:World);subst ah;clear a;gi_wp2;gi_loopw [20] (fun y wr=> ∃j:Nat,j<=d/\y=.int .i64 j/\J (iZ 0 (p.take k)++iP k (d.take j)) wr/\Below w0 w0 wr) (fun y _=>d.length-(intOf y).toNat)
   case atStart=>exact⟨0,eC _,rfl,by simpa[iP] using h,m⟩
   case round=>
    clear h m;obtain⟨j,hj,rfl,a,z⟩:=hrel;by_cases M:j<d
    ·obtain⟨t,ht⟩:=ec M;obtain⟨b2,o2,rfl,aj,sv,O,f⟩:=HT j t ht;obtain⟨Y,c3,rfl,g3,g4,K⟩:=fQ.open_ O;have x2:wr.cell? (pA b2 (o2+j))=some (.slice Y t c3):=a7 z lE f;obtain⟨HS,G⟩:=Zb K ht;have h:=Z _ _ _ none a (rN wr (cB 44 [.slice Y t c3]) none) (fun r e=>by cases e);have m:=z.alloc z.size (cB 44 [.slice Y t c3]);obtain⟨wp,ai⟩:=nE (wr:World);subst ai;clear a ht f O K;gi_wp2;gi_loopw [27] (fun y wr=> ∃i:Nat,i<=t/\y=.int .i64 i/\J (iZ 0 (p.take k)++iP k (d.take j)++ku k (t.take i)) wr/\Below w0 w0 wr) (fun y _=>t.length-(intOf y).toNat)
     case atStart=>exact⟨0,eC _,rfl,by simpa[ku] using h,m⟩
     case round=>
      clear h m;obtain⟨i,hi,rfl,a,u⟩:=hrel;by_cases N:i<t
      ·obtain⟨⟨R,X⟩,V⟩:=ec N;obtain⟨b3,o3,rfl,ak,q,s⟩:=HS i _ V;have u3:wr.cell? (pA b3 (o3+i*2))=some R:=a7 u lE q;have u4:wr.cell? (pA b3 (o3+i*2+1))=some X:=a7 u lE s;have h:=Z _ _ _ none a (rN wr (cB 84 [R,X]) none) (fun r e=>by cases e);have m:=u.alloc u.size (cB 84 [R,X]);have w:=OX HX G V;have F:=zH w;obtain⟨fn,tmps,assign,body,hy,hR⟩:=HY _ (k,(R,X)) _ h (by have:=w.length_le;rw[fa] at this;simp at this|-;omega);dsimp only at hy;have aa:=zH (tM (i:=k) V);clear V q s w h;gi_wp2;refine hR.mono ?_;rintro e W3 (⟨rfl,ae,af⟩|⟨rfl,I⟩)
       ·gi_wp2;go_roundw
        case rel=>exact⟨i+1,oG,by go_num,by rw[aa.out,<-gD];exact ae,m.trans af⟩
        case measure=>exact mI
       ·gi_wp2;refine bodyPost_ret (results_none rfl _ _ _) rfl ?_;exact⟨⟨_,rfl⟩,.inr ⟨_,F,I⟩⟩
      ·obtain rfl:i=t.length:=oG;gi_wp2;go_roundw
       case rel=>exact⟨j+1,oG,by go_num,by rw[tK G.out,<-gD];rw[gh] at a;exact a,u⟩
       case measure=>exact mI
    ·obtain rfl:j=d.length:=oG;gi_wp2;go_roundw
     case rel=>exact⟨k+1,oG,by go_num,by rw[rI HX.out];rw[gh] at a;exact a,z⟩
     case measure=>exact mI
  ·obtain rfl:k=p.length:=oG;gi_wp2
   go_end0
   exact⟨⟨_,rfl⟩,.inl ⟨_,by rw[gh] at a|-;rfl,a⟩⟩
def Si (n:Nat) (a:Option Addr) (b cap:Nat) (w:World):
  CallsIn Fence.wide n prog 146 #[.agg #[.slice a b cap]] w fun e w'=>e=.returned (.func (.func 190) #[] #[.pointer w])/\w'=w.alloc (cB 30 [.slice a b cap]):=by
 refine callsIn_of_wp func146 rfl trivial ?_ rfl;simp only[ntmps146,gU,ff,fZ,Nat.reduceAdd,Nat.reduceSub,iq,ir,iX,iA,gQ,fY];gi_wp2;go_ret;exact⟨rfl,rfl⟩
def JB (n:Nat) (hn:1<=n) (B:Nat) (w0:World) (E:Value) (p:Pl) (U:jP w0 E p) (w:World) (b:Below w0 w0 w) (a:B<w) (H:w.cell? B=some E):
  SeqStopsK Fence.wide n prog 190 #[.pointer B] (fun x:Nat×vg=> #[.agg #[x.2.1,x.2.2,(x.1:Int)]]) (Below w0) (fun ys=>ys=nn p) (fun g=>g <+:nn p) (nn p).length w:=
 fun l J Q W hW S _ T h0=>OQ n hn l B w0 E p U J Q W S T (b.trans (hW.mono b.size)) ((hW.cell (p:=B) a).trans H) h0
end
section
open Go.Proofs.Tryz
open Go.RowKit Go.Shelf ko
attribute [local go_sem] iO
def UO (x:Nat×Int):List Value:=[(x.1:Int),x.2]
def UR:(prog.info? 86).map (fun i=>(i.zero,i.size,i.bytes))=some (some (.agg #[Zo,Zo]),2,16):=kR
def vT (v:Value) (p:Pl) (d:Int) (w:World) (hp:Vk w v p) (V:(nn p).length<=1000000):
  Calls prog 142 #[v,d] w fun e w'=> ∃j,e=.returned j/\w'.ownsRow w 86 2 j (sU d p).length ((sU d p).flatMap UO)/\Below w w w':=by
 obtain⟨dv,rfl,N⟩:=hp;have HD:=zH N;obtain⟨A,c,rfl,h1,h2,-⟩:=jP.open_ N;have HN:=zH V;clear N V;refine(callsIn_wide (n:=4)).1 ?_;refine callsIn_of_wp_marks func142 rfl trivial ?_ rfl;simp only[ntmps142,gU,ff,fZ,Nat.reduceAdd,Nat.reduceSub,iq,ir,iX,iA,gQ,fY];gi_wp2_with (refine⟨trivial,?_⟩;gi_at_call 146;refine(Si _ _ _ _ _).mono ?_;rintro e w' ⟨rfl,rfl⟩);have t:=((fc.fW (w.alloc (cB 30 [.slice A p c])) 3 [d] (g:=w.heap.size+1) sI).alloc (cB 52 [()])).alloc (cB 30 [.slice A p c]);have G:=(Boxed.new ((w.alloc (cB 30 [.slice A p c])).alloc (cB 3 [d])) 52 ()).alloc (cB 30 [.slice A p c]);have M:((((w.alloc (cB 30 [.slice A p c])).alloc (cB 3 [d])).alloc (cB 52 [()])).alloc (cB 30 [.slice A p c])).cell? (pB (w+1+1+1))=some (.slice A p c):=
  (fc.fW (((w.alloc (cB 30 [.slice A p c])).alloc (cB 3 [d])).alloc (cB 52 [()])) 30 [.slice A p c] (g:=w.heap.size+1+1+1) sI).cell 0
 simp only[lz] at G;have m:=bL (bL (bL (bL (bS w w) (cB 30 [.slice A p c])) (cB 3 [d])) (cB 52 [()])) (cB 30 [.slice A p c]);have C:((((w.alloc (cB 30 [.slice A p c])).alloc (cB 3 [d])).alloc (cB 52 [()])).alloc (cB 30 [.slice A p c])).heap.size=w.heap.size+4:=sI;replace t:fc ((((w.alloc (cB 30 [.slice A p c])).alloc (cB 3 [d])).alloc (cB 52 [()])).alloc (cB 30 [.slice A p c])) (w+1) 3 [d]:=t;revert t G M m C;generalize ((((w.alloc (cB 30 [.slice A p c])).alloc (cB 3 [d])).alloc (cB 52 [()])).alloc (cB 30 [.slice A p c]))=W0;intro M G m C t;refine wpIn_rangeFunc_ownH rfl oG (gf:=190) (lb:= #[.pointer (pB (w+1+1+1))]) rfl trivial (enters_of func190 kR rfl)
  (JB 3 oG (w+1+1+1) w (.slice A p c) p HD W0 m oG M) belowK_t (belowK_b oG) bF (fun _=>rfl)
  (fun b W=>((∃j,Boxed W (w+1+1) 52 j/\W.ownsRow w 86 2 j (mn d b).length ((mn d b).flatMap UO)/\True)/\fc W (w+1) 3 [d])/\Below w w W)
  (fun _ _ _=>False)
  (OwnFrom.and (OwnFrom.and (Own.from (holdsRow_own w (w+1+1) 52 86 2 (fun b=>(mn d b).length) (fun b=>(mn d b).flatMap UO) (fun _ _=>True)) _) (Qc _ _ _ _)) (ownFrom_below lE oG))
  (fun _ _ _ _ _ h _ _=>h)
  ⟨⟨⟨_,G,gL _ _ _ _,trivial⟩,t⟩,m⟩
  (fun x L W=> ∃q,w.heap.size+1+1<q/\fc W q 210 [x.2.1,x.2.2,(x.1:Int)]/\L={tmps:= #[.agg #[.slice A p c],d,.pointer w,.pointer (pB (w+1)),(),.pointer (pB (w+1+1)),.pointer (pB q),.agg #[.slice A p c],
   .func (.func 190) #[] #[.pointer (pB (w+1+1+1))],.agg #[x.2.1,x.2.2,(x.1:Int)],undef,undef,undef,undef,undef,undef,undef,undef,undef,undef,undef,undef,undef,undef,undef],defers:=[]})
  (fun x L _ X Y row hs hg Z=>by obtain⟨q,e1,e2,e3⟩:=hs;exact⟨q,e1,e2.MU hg (fun r e=>(Z r e).2),e3⟩)
  ?assign ?body ?done ?stop
 case assign=>rintro l b ⟨I,s,J⟩ W K ⟨⟨⟨j,f,a,-⟩,i⟩,k⟩ u;gi_wp2;exact u _ _ ((KeepsOthers.alloc _ _).from _) ((bS _ W).alloc k.size _) ⟨⟨⟨j,f.alloc _,a.alloc _,trivial⟩,i.alloc _⟩,k.alloc k.size _⟩ ⟨W,f.lt,fc.new W _ _,rfl⟩
 case body=>
  rintro l b ⟨I,s,J⟩ L W hl ⟨r,Z⟩ ⟨⟨⟨j,f,a,-⟩,i⟩,k⟩ ⟨q,ae,H,rfl⟩ U;have c1:=i.c 0;have c2:W.cell? (pB (w+1+1))=some j:=f.cell;have c3:=H.c 0;have c4:=H.c 1;have c5:=H.c 2;have aa:=H.lt;have T:(mn d b).length<=1000000000:=by have:=Pf d b;have:=HN.out;omega
  have B:=k.size;by_cases o:s=d
  ·subst o;have F:=zH (Pg (l:=b) (x:=(I,s,J)) rfl);generalize mn s b=VL at a T F;gi_wp2_with (gi_at_builtin;refine wV _ rfl (.tmp 15) (.tmp 22) 52 rfl w 86 _ 2 16 underlying52 UR rfl dE dE _ _ _ a rfl [(I:Int),J] _ rfl rfl rfl T B ?_;intro g cap w5 P z;obtain⟨E,R,Q,O,y⟩:=f.appended dE a B oG P z;have e5:=E.cell;have f5:=E.frozen);refine⟨O.from _,y,⟨⟨_,R,?_⟩,?_⟩,k.trans y⟩
   ·rw[F.out,fa,fU];exact Q
   ·exact(fc.Wt (i.alloc _) z (i.not_row dE a)).kj (p:=pB (w+1+1)) dO _
  ·have af:(s==d)=false:=by rw[beq_eq_false_iff_ne];exact o
   have F:=zH (SK (l:=b) (x:=(I,s,J)) o);clear o;gi_wp2;exact⟨KeepsFrom.refl _ _,bS _ _,⟨⟨j,f,by rw[F.out];exact a⟩,i⟩,k⟩
 case done=>rintro D ys W hD rfl ⟨⟨⟨j,f,a,-⟩,i⟩,k⟩ u;have c2:W.cell? (pB (w+1+1))=some j:=f.cell;obtain⟨A1,S,rfl,-⟩:=RS.jh a;gi_wp2;refine⟨by simp,.inl ⟨_,_,rfl,run_takeDeferred u,?_⟩⟩;exact⟨_,results_tmp rfl _ _ _,_,rfl,ownsRow_putObj a _ u rfl,po k lE oG u⟩
 case stop=>rintro D c b W _ _ h _;exact h.elim
end
end Go.Proofs.YtgimnjldndkalaaGreatDoor
