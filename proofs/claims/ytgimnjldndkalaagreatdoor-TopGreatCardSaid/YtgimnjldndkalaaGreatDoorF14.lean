/- Of the proof of TopGreat: The walk of a list's sort, in place, and of what is twice in a list. -/
import Derived.Sort.OwnSortedInts
import Derived.Test.YtgimnjldndkalaaGreatDoorF13
import Derived.Test.YtgimnjldndkalaaGreatDoorG1
set_option linter.all false
set_option maxRecDepth 100000
namespace Go.Proofs.YtgimnjldndkalaaGreatDoor
section
open Go.Proofs.Tryz
open Go.RowKit jm ko kN P15
def oq (l:List Int):(qU l).length=l.length:=List.length_mergeSort _
def OC {l:List Int} {z:Int}:z∈qU l↔z∈l:=List.mem_mergeSort
def zm (lb:Nat) (v:Value) (l:List Int) (w:World) (h:OI lb w v l) (L:l.length<=1000000000):
  Calls prog 181 #[v] w fun e w'=>e=.returned (.tuple #[])/\OI lb w' v (qU l)/\kQ 3 lb w w':=by
 rcases h.2 with ⟨rfl,c⟩|⟨g,cap,b,rfl,C,a,u,x,j,B⟩
 ·have f:l=[]:=rX.1 c;subst f;exact(slices_Sort_int_none _ _ _).mono fun e w' ⟨d,i⟩=>by subst i;exact⟨d,by simpa[qU] using h,⟨rfl,rfl,rfl,lE,fun _ _ _=>rfl⟩⟩
 ·refine(slices_Sort_int g 0 cap l w (holds_of_blockI a (by simpa using B)) (aah.1 a).1 oG).mono ?_;rintro e w' ⟨rfl,n,os,rfl⟩;refine⟨rfl,?_,kQ.ux h ?_⟩
  ·have:=ownsRow_sortedI (n:=n) (os:=os) (ss:=l) (ts:=qU l) (oq l) C a u x j;unfold OI;rw[oq];exact this
  ·exact grownBy_sortedI _
def zt (lb:Nat) (v:Value) (l:List Int) (w:World) (h:OI lb w v l) (L:l.length<=1000000) (k:lb<=w):
  Calls prog 135 #[v] w fun e w'=> ∃b:Bool,e=.returned b/\(l.length<=1->b=true)/\Below lb w w':=by
 obtain⟨A,c,rfl,u,x⟩:=h.slice;have s:=zH h;clear h;go_enter func135,ntmps135;go_wp2_with fail;refine(zm lb _ l _ s oG).mono ?_;rintro e w1 ⟨rfl,r,g⟩;have d:=g.below k;have D:=r.reads;obtain⟨N,c',E,j,B,a⟩:=gx.open_ D;rw[oq] at E j;injection E with t _ e3
 subst t;subst e3;obtain⟨q,H⟩:=Zb a (oq l);clear a D g r s;go_wp2_with fail;go_loopw [3] (fun p wr=> ∃i:Nat,1<=i/\p=.int .i64 i/\ ∃n,wr=w1.drewN n) (fun p _=>l.length-(intOf p).toNat)
 case atStart=>exact⟨1,lE,rfl,0,rfl⟩
 case round=>
  obtain⟨i,P,rfl,n,rfl⟩:=hrel;by_cases K:i<l
  ·obtain⟨z,G⟩:=ec (l:=qU l) (i:=i) (by rw[oq];omega);obtain⟨y,F⟩:=ec (l:=qU l) (i:=i-1) (by rw[oq];omega);obtain⟨b,o,rfl,C,Q⟩:=q i z G;obtain⟨I,M,f,J,R⟩:=q (i-1) y F;obtain⟨rfl,rfl⟩:b=I/\o=M:=by simpa using f
   have t:IntKind.i64.wrap ((i:Int)-1)=((i-1:Nat):Int):=by have:((i-1:Nat):Int)=(i:Int)-1:=oG;rw[this];exact iM _ oG
   have O:((i:Int)-1).toNat=i-1:=oG;clear G F f;by_cases m:z=y
   ·subst m;go_wp2_with fail
    go_quiet (fail)
    go_wp2_with fail;go_ret
    exact⟨_,rfl,fun h=>oG,below_drewN (below_drewN d _) _⟩
   ·go_wp2_with fail
    go_quiet (fail)
    go_wp2_with fail;go_roundw
    case rel=>exact⟨i+1,oG,by go_num,_,rfl⟩
    case measure=>exact mI
  ·go_wp2_with fail;go_ret
   exact⟨_,rfl,fun _=>rfl,below_drewN d _⟩
def re (z q:Int) (w:World):
  Calls prog 294 #[.agg #[z,q]] w fun e w'=> ∃a,e=.returned (.agg #[a])/\OS w w' a [(z,q)]/\Below w w w':=by
 go_enter func294,ntmps294;go_wp2_with fail;have c:=(fc.fW (w.alloc (cB 84 [z,q])) 44 [.slice (pB (w+1+1)) 1 1] (g:=w.heap.size+1) sI).alloc (cB 84 [z,q]);have b:=fc.fW ((w.alloc (cB 84 [z,q])).alloc (cB 44 [.slice (pB (w+1+1)) 1 1])) 84 [z,q] (g:=w.heap.size+1+1) sI;refine bodyPost_ret (v:=.agg #[.slice (pB (w+1+1)) 1 1]) (ia rfl _ _ (w+1) 44 [.slice (pB (w+1+1)) 1 1] _ rfl c underlying44 rfl kR) rfl
  ⟨_,rfl,⟨rfl,.inr ⟨w.heap.size+1+1,1,#[z,q],rfl,oG,b,by simp,by simp[maxLen],rfl,rfl⟩⟩,bL (bL (bL bF _) _) _⟩
inductive Kf (L:List Int) (w:World) (e:Ending) (w':World):Prop
 |mk (b:Bool) (he:e=.returned b) (h:b=false->Cm L) (h1:L.length<=1->b=false) (hb:Below w w w')
def yJ (v:Value) (l:List Int) (w:World) (h:gx w .i64 v l) (F:l.length<=1000000):
  Calls prog 295 #[v] w (Kf l w):=by
 obtain⟨A,c,rfl,M,N,a⟩:=gx.open_ h;have m:=zH a;clear h a;go_enter func295,ntmps295;go_wp2_with fail;go_loopw [3] (fun D wr=> ∃i:Nat,1<=i/\D=.int .i64 i/\Hid (Cm (l.take i))/\ ∃n,wr=w.drewN n) (fun D _=>l.length-(intOf D).toNat)
 case atStart=>exact⟨1,lE,rfl,(fun i x y Q g=>by
  rw[eU] at g;split at g
  ·omega
  ·cases g),0,rfl⟩
 case round=>
  obtain⟨i,P,rfl,E,n,rfl⟩:=hrel;by_cases t:i<l
  ·obtain⟨z,C⟩:=ec (l:=l) (i:=i) t;obtain⟨y,g⟩:=ec (l:=l) (i:=i-1) oG;obtain⟨b,o,rfl,O,R⟩:=m i z C;obtain⟨G,J,p,H,S⟩:=m (i-1) y g;obtain⟨rfl,rfl⟩:b=G/\o=J:=by simpa using p
   have K:IntKind.i64.wrap ((i:Int)-1)=((i-1:Nat):Int):=by have:((i-1:Nat):Int)=(i:Int)-1:=oG;rw[this];exact iM _ oG
   have L:((i:Int)-1).toNat=i-1:=oG;have r:Hid (z≠y->Cm (l.take (i+1))):=zH (fun B j u v k d=>by
    rw[eU] at k d;split at d
    ·split at k
     ·by_cases I:j+1=i
      ·have:j=i-1:=oG;subst this;rw[g] at k;rw[show i-1+1=i by omega,C] at d;cases k;cases d;exact fun e=>B e.symm
      ·exact E j u v (by rw[eU,if_pos oG];exact k) (by rw[eU,if_pos oG];exact d)
     ·cases k
    ·cases d)
   clear C g p;by_cases q:z=y
   ·subst q;go_wp2_with fail
    go_quiet (fail)
    go_wp2_with fail;go_ret
    exact⟨_,rfl,nF,(fun h=>by omega),below_drewN (below_drewN bF _) _⟩
   ·have f:=zH (r q);go_wp2_with fail
    go_quiet (fail)
    go_wp2_with fail;go_roundw
    case rel=>exact⟨i+1,oG,by go_num,f,_,rfl⟩
    case measure=>exact mI
  ·have s:Hid (Cm l):=zH (by have:=E.out;rwa [fj oG] at this);go_wp2_with fail;go_ret;exact⟨_,rfl,fun _=>s,fun _=>rfl,below_drewN bF _⟩
def vi (k:Value) (t:Tr) (w:World) (g:RL 2 iH w k t) (F:t.length<=1000000):
  Calls prog 296 #[k] w fun e w'=> ∃v,e=.returned v/\OI w w' v (qU (t.map Prod.fst))/\Below w w w':=by
 obtain⟨A,c,rfl,-⟩:=fQ.open_ g;have m:=zH (rD _ t w g F);have j:(t.map Prod.fst).length<=1000000000:=by rw[fm];omega
 obtain⟨L,h⟩:=nR (t.map Prod.fst);rw[h] at m j|-
 clear h g;go_enter func296,ntmps296;go_wp2_with fail;refine m.mono ?_;rintro e w1 ⟨v,rfl,d,a⟩;obtain⟨A1,c1,rfl,-⟩:=d.slice;have l:=zH d;clear d;go_wp2_with fail;refine(zm w _ _ _ l j).mono ?_;rintro e n ⟨rfl,r,i⟩;have f:=zH r;have b:=i.below a.size;clear r i;go_wp2_with fail;go_ret;exact⟨_,rfl,f,a.trans b⟩
end
end Go.Proofs.YtgimnjldndkalaaGreatDoor
