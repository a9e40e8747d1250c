/- Of the proof of TopCosts: The walks of a tour's customers and load. -/
import Derived.BigQuiet
import Derived.Test.YtgimnjldndkalaaGreatDoorF9
set_option linter.all false
set_option maxRecDepth 100000
namespace Go.Proofs.YtgimnjldndkalaaGreatDoor
section
open Go.Proofs.Tryz
open Go.RowKit jm ko kN
def rD (m:Value) (t:Tr) (w:World) (l:RL 2 iH w m t) (R:t.length<=1000000):
  Calls prog 136 #[.agg #[m]] w fun e w'=> ∃j,e=.returned j/\OI w w' j (t.map Prod.fst)/\Below w w w':=by
 obtain⟨A,c,rfl,H,I,k⟩:=fQ.open_ l;have u:=zH k;clear l k;go_enter func136,ntmps136;go_wp2_with fail;go_loopw [3,9] (fun j f wr=> ∃i:Nat,i<=t/\f=.int .i64 i/\Hid (OI w wr j ((t.map Prod.fst).take i))/\Below w w wr) (fun _ f _=>t.length-(intOf f).toNat)
 case atStart=>exact⟨0,eC _,rfl,(OI.jL _ _),bL bF _⟩
 case round=>
  obtain⟨i,N,rfl,r,a⟩:=hrel;by_cases d:i<t
  ·obtain⟨⟨z,q⟩,h⟩:=ec d;obtain⟨b,o,rfl,J,n,p⟩:=u i _ h;replace n:=a7 a lE n;replace p:=a7 a lE p;have D:Hid ((t.map Prod.fst).take (i+1)=(t.map Prod.fst).take i++[z]):=zH (iC (by rw[fh,h];rfl));have O:=a.size;obtain⟨L,s⟩:=nR ((t.map Prod.fst).take i);rw[s] at r D;have E:L.length=i:=by rw[<-s,fB,fm];omega
   have Q:=zH E;have B:L.length<=1000000000:=oG;clear h s E;obtain⟨F,G,rfl,-⟩:=r.slice;go_wp2_with (at_builtin;refine qu _ rfl (.tmp 13) (.tmp 16) rfl w _ L (r.alloc _) rfl z rfl sI B sO ?_;intro g cap S C K M y P);have x:=y.below sO;go_roundw
   case rel=>exact⟨i+1,oG,by go_num,zH (by rw[D.out];exact C),(a.alloc a.size _).trans x⟩
   case measure=>exact mI
  ·obtain rfl:i=t.length:=oG;have v:=r.out;rw[fj sI] at v;obtain⟨F,G,rfl,-⟩:=v.slice;go_wp2_with fail;go_ret;exact⟨_,rfl,v,a⟩
def C4 (m:Value) (t:Tr) (w:World) (l:RL 2 iH w m t):
  Calls prog 246 #[.agg #[m]] w (yy w):=by
 obtain⟨A,c,rfl,H,I,k⟩:=fQ.open_ l;have u:=zH k;clear l k;go_enter func246,ntmps246;go_wp2_with fail;go_loopw [3,9] (fun j f wr=> ∃(i:Nat) (z:Int),i<=t/\f=.int .i64 i/\j=.int .i64 z/\Below w w wr) (fun _ f _=>t.length-(intOf f).toNat)
 case atStart=>exact⟨0,0,eC _,rfl,rfl,bL bF _⟩
 case round=>
  obtain⟨i,s,N,rfl,rfl,a⟩:=hrel;by_cases d:i<t
  ·obtain⟨⟨z,q⟩,h⟩:=ec d;obtain⟨b,o,rfl,J,n,p⟩:=u i _ h;replace n:=a7 a lE n;replace p:=a7 a lE p;clear h;go_wp2_with fail;go_roundw
   case rel=>exact⟨i+1,_,oG,by go_num,rfl,a.alloc a.size _⟩
   case measure=>exact mI
  ·obtain rfl:i=t.length:=oG;go_wp2_with fail;go_ret;exact⟨_,rfl,a⟩
end
end Go.Proofs.YtgimnjldndkalaaGreatDoor
