/- Of the proof of TopGreat: Two places: their number, the arcs that come to one and that leave it, the least of what is told. -/
import Derived.Test.YtgimnjldndkalaaGreatDoorF7
import Derived.Test.YtgimnjldndkalaaGreatDoorF11
set_option linter.all false
set_option maxHeartbeats 1000000
set_option maxRecDepth 100000
namespace Go.Proofs.YtgimnjldndkalaaGreatDoor
section
open Go.Proofs.Tryz
open Go.RowKit jm
theorem ad6 (x:fS) (A1:Option Addr) (c1:Nat) (A2:Option Addr) (c2:Nat) (w:World) (u:x.eB.length<=1000000):
  Calls prog 123 #[.agg (xC x A1 c1 A2 c2).toArray] w fun e w'=>e=.returned ((x.eB.length:Int)+1:)/\Below w w w':=by
 have c:=bL (bS w w) (cB 25 (xC x A1 c1 A2 c2));have a:=(fc.new w 25 (xC x A1 c1 A2 c2)).c 4;go_enter func123,ntmps123;go_wp2_with fail;go_ret;exact⟨rfl,c⟩
abbrev rdC (x:fS) (A1:Option Addr) (c1:Nat) (A2:Option Addr) (c2:Nat) (iv:Value):List Value:=(yX x A1 c1 A2 c2 [iv])
section
variable (x:fS) (A1:Option Addr) (c1:Nat) (A2:Option Addr) (c2:Nat)
theorem adp (k:Value) (d:Nat) (b a:Int) (w:World) (g:fc w d 223 (rdC x A1 c1 A2 c2 k)) (j:iz w (.agg (xC x A1 c1 A2 c2).toArray) x):
  Calls prog 158 #[.pointer d,b,a] w fun e w'=>e=.returned (sm x.gn a b)/\Below w w w':=by
 obtain⟨D,E,F,G,H,I,-⟩:=g.iY;have p:=g.lt;have n:=zH j;clear g j;go_enter func158,ntmps158;go_wp2_with fail;refine(pk _ x a b w n).mono ?_;rintro e J ⟨rfl,f⟩;obtain⟨z,h⟩:=nR (sm x.gn a b);rw[h];have c:=zH h;clear h;go_wp2_with fail;go_ret;exact⟨by rw[c.out];rfl,f⟩
theorem acV (o:Nat) (k l:Int) (d:Nat) (a:Int) (b:Nat) (c:b<2) (w:World) (g:fc w d 223 (rdC x A1 c1 A2 c2 (.slice o 2 2))) (m:fc w o 3 [k,l]) (j:iz w (.agg (xC x A1 c1 A2 c2).toArray) x) (M:0<=k/\k<=2147483648) (u:0<=l/\l<=2147483648) (v:0<=sm x.gn a b/\sm x.gn a b<=2147483648):
  Calls prog 159 #[.pointer d,a,(b:Int)] w fun e w'=>e=.returned (sm x.gn a b-if b=0 then k else l:)/\Below w w w':=by
 obtain⟨D,E,F,G,H,I,N,-⟩:=g.iY;have p:=g.lt;have B:=m.lt;obtain⟨n,r⟩:=Zb j (pk (.agg (xC x A1 c1 A2 c2).toArray) x a b);obtain⟨z,h⟩:=nR (sm x.gn a b);rw[h] at v r|-
 have s:=m.c 0;have t:=m.c 1;clear g j h;obtain⟨q,i⟩:=nR ((if b=0 then k else l));have L:=zH i;have C:0<=q/\q<=2147483648:=by rw[<-i];split <;>assumption
 rw[i];have O:w.cell? (pA o b)=some q:=by
  rw[<-i];obtain rfl|rfl:b=0\/b=1:=oG
  ·exact s
  ·exact t
 clear i s t;have A:(b:Int)<2:=oG;go_enter func159,ntmps159;go_wp2_with fail;refine rB [] fun hS=>?_;refine kL [0,1,2,3,4,5,7,8,9,10,11,12,13] ?_;refine tO 6 fun K y=>?_;go_simp;refine(r _ (n.below hS lE)).mono ?_;rintro e J ⟨rfl,f⟩;have hS:=hS.trans (f.mono hS.size);refine y _ _ (hS) ?_;refine kL [14,15] ?_;refine tD ?_;go_wp2_with fail;go_ret;exact⟨Je (by show IntKind.i64.wrap (z-q)=z-q;rw[jB];omega),hS⟩
end
theorem vy (F d p:Nat) (B:p<2) (z:Int) (w:World) (u:F=158\/F=159)
  (a: ∀W,Below w w W->Calls prog F #[.pointer d,(p:Int),((1-p:Nat):Int)] W fun e q=>e=.returned z/\Below W W q):
  Calls prog 157 #[.int .i64 2,(p:Int),.func (.func F) #[.pointer d] #[]] w fun e w'=>e=.returned z/\Below w w w':=by
 have n:=zH a;clear a;go_enter func157,ntmps157;go_wp2_with fail;go_loopw [7,8,12] (fun r s k wr=> ∃(i:Nat) (f:Bool) (b:Int),i<=2/\k=.int .i64 i/\s=.bool f/\r=.int .i64 b/\Hid ((i<=1-p->f=false)/\(1-p<i->f=true/\b=z))/\Below w w wr) (fun _ _ k _=>2-(intOf k).toNat)
 case atStart=>exact⟨0,false,0,oG,rfl,rfl,rfl,zH ⟨fun _=>rfl,fun h=>oG⟩,bS _ _⟩
 case round=>
  obtain⟨i,f,b,m,rfl,rfl,rfl,g,c⟩:=hrel;by_cases A:i<2
  ·have x:(i:Int)<2:=oG;by_cases y:i=p
   ·have l:((i:Int)==(p:Int))=true:=by rw[beq_iff_eq];omega
    have o:Hid ((i+1<=1-p->f=false)/\(1-p<i+1->f=true/\b=z)):=zH ⟨fun h=>g.1 oG,fun h=>by
     by_cases t:1-p<i
     ·exact g.2 t
     ·omega⟩
    go_wp2_with fail;go_roundw
    case rel=>exact⟨i+1,f,b,oG,by go_num,rfl,rfl,o,c⟩
    case measure=>exact mI
   ·have l:((i:Int)==(p:Int))=false:=by rw[beq_eq_false_iff_ne];omega
    obtain rfl:f=false:=g.1 oG;have v:i=1-p:=oG
    rcases u with rfl|rfl
    all_goals
     go_wp2_with fail;refine(n wr c).mono ?_;rintro e C ⟨rfl,j⟩;go_wp2_with fail;go_roundw
     case rel=>exact⟨1-p+1,true,z,oG,by go_num,rfl,rfl,zH ⟨fun h=>oG,fun _=>⟨rfl,rfl⟩⟩,c.trans (j.mono c.size)⟩
     case measure=>exact mI
  ·obtain rfl:i=2:=oG;obtain⟨rfl,rfl⟩:=g.2 oG;go_wp2_with fail;go_ret;exact⟨rfl,c⟩
end
end Go.Proofs.YtgimnjldndkalaaGreatDoor
