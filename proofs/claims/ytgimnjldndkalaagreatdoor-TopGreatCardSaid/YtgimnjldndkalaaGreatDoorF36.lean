/- Of the proof of TopGreat: The walk of Decimal. -/
import Derived.Test.YtgimnjldndkalaaGreatDoorF20
import Derived.Test.YtgimnjldndkalaaGreatDoorRows
set_option linter.all false
set_option maxHeartbeats 1000000
set_option maxRecDepth 100000
namespace Go.Proofs.YtgimnjldndkalaaGreatDoor
section
open Go.Proofs.Tryz
open Go.RowKit ue
variable {a n:Nat} {l:List UInt8}
def xF (n:Nat) (l:List UInt8):List Value:=List.replicate n (.int .u8 0)++l.map fun c=>Value.int .u8 (c.toNat:Int)
def BJ (i:Nat):(xF n l)[n+i]? =(l.map fun c=>Value.int .u8 (c.toNat:Int))[i]? :=by unfold xF;rw[fo sI,Xt,rY]
def TA (z:Int):(((nx (z%10).toNat).toNat:Nat):Int)=48+z%10:=by rw[yI oG];omega
def Uw {w:World} {g cap:Nat} {t:TypeId} {L:List UInt8} (d:fc w g t (xF a L)) (c:L.length=n):
  (convert 109 9 (.slice (pA g a) n cap)).run prog w=.ok (.string ⟨L.toArray⟩) w:=by
 subst c;refine run_convert_bytes_back w 109 9 5 (pA g a) cap L underlying109 underlying5 underlying9 (fun j e=>?_);have b:((pA g a):Addr).add j=(pA g (a+j)):=by unfold Addr.add;split <;>simp_all
 rw[b,d.cell,BJ,fh,fp e];rfl
def Vh (m a:Nat) (z:Int) (l:List UInt8):Prop:=l.length+a=20/\z.toNat<10^(a-1)/\qP 20 m=qP a z.toNat++l
def Vh.last {m:Nat} {z:Int} (h:Vh m (a+1) z l) (d:0<=z) (g:z<10):dec m=nx (z%10).toNat::l/\l.length+1+a=20:=by obtain⟨e,f,c⟩:=h;refine⟨?_,oG⟩;have b:(z%10).toNat=z.toNat:=oG;unfold dec;rw[c,CC _ _ oG,b];rfl
end
section
open Go.Proofs.Tryz
open Go.RowKit ue
def MY: ∀(k:Nat) (n:Int) (w:World),1<=k->k<=20->0<=n->n<=9223372036854775807->n.toNat<10^k->
  Calls prog 31 #[n] w fun e w'=>e=.returned (kI (qP k n.toNat))/\Below w w w':=by
 intro k
 induction k with
 |zero=>intro n w h;omega
 |succ k ih=>
  intro n w _ j B u l;have t:Hid (k<=20):=by show k<=20;omega
  clear j;obtain⟨z,g⟩:=Zb ih l;clear ih l;have p:=zH (TA n);have C:=vf n (show(10:Int)≠0 by omega);have y:=rQ n (show(0:Int)<10 by omega);have v:=fc.new w 5 [.int .u8 (((nx (n%10).toNat).toNat:Nat):Int)];have s:=Uw (L:=[nx (n%10).toNat]) (a:=0) (n:=1) (cap:=1) v rfl;rw[p.out] at s;clear v;by_cases m:n<=9
  ·have d:Hid (qP (k+1) n.toNat=[nx (n%10).toNat]):=by show _=_;rw[CC _ _ oG,show(n%10).toNat=n.toNat by omega]
   obtain⟨c,i⟩:=nE (nx (n%10).toNat);rw[<-i] at s d;clear i;go_enter func31,ntmps31;go_wp2;go_ret;rw[d.out];exact⟨rfl,bF.alloc lE _⟩
  ·have m:9<n:=oG;have x:1<=k:=by
    have:=g.out;cases k with
    |zero=>simp at this;omega
    |succ k=>omega
   have d:Hid (qP (k+1) n.toNat=qP k (n/10).toNat++[nx (n%10).toNat]):=by show _=_;rw[Kw _ _ oG,show(n%10).toNat=n.toNat%10 by omega,show(n/10).toNat=n.toNat/10 by omega]
   have r:(n/10).toNat<10^k:=by have:=g.out;rw[js] at this;omega
   have o:=fun W=>zH (z.out (n/10) W x (by have:=t.out;omega) oG oG r);have A:=zH r;clear r;obtain⟨c,i⟩:=nE (nx (n%10).toNat);rw[<-i] at s d;clear i;go_enter func31,ntmps31;go_wp2_with fail;refine(o _).out.mono ?_;rintro e D ⟨rfl,b⟩;have f:=(F4 k (n/10).toNat A x).2.2.2.1;have q:(qP k (n/10).toNat).length<=1000:=by have:=t.out;omega
   clear f;generalize qP k (n/10).toNat=L at d q|-
   unfold kI;go_wp2;go_ret;rw[d.out];exact⟨congrArg Ending.returned (vA L [c]),(bF.alloc lE _).trans (b.mono sI)⟩
def Tz:iN (-9223372036854775808)=[45,57,50,50,51,51,55,50,48,51,54,56,53,52,55,55,53,56,48,56]:=by decide+kernel
def Gr (n:Int) (w:World) (B: -9223372036854775808<=n) (u:n<=9223372036854775807):
  Calls prog 31 #[n] w fun e w'=>e=.returned (kI (iN n))/\Below w w w':=by
 have a:(10:Nat)^20=100000000000000000000:=by decide+kernel
 by_cases m:n<0
 ·by_cases c:n= -9223372036854775808
  ·subst c;go_enter func31,ntmps31;go_wp2;go_ret;rw[Tz];exact⟨rfl,bS _ _⟩
  ·obtain⟨L,f⟩:=nE (dec (-n).toNat);have d:Hid (iN n=[45]++L):=by show iN n=_;unfold iN;rw[if_pos m,f];rfl
   have h:(n== -9223372036854775808)=false:=by rw[beq_eq_false_iff_ne];exact c
   have g: -9223372036854775807<=n:=oG;have o: ∀W:World,Hid (Calls prog 31 #[(-n:)] W fun e w'=>e=.returned (kI L)/\Below W W w'):=fun W=>by rw[f];exact MY 20 (-n) W oG lE oG oG (by rw[a];omega)
   have i:L.length<=20:=by rw[f];exact(zZ (-n).toNat oG).2.2.2.1
   clear c a f;go_enter func31,ntmps31;go_wp2_with fail;refine(o _).out.mono ?_;rintro e D ⟨rfl,b⟩;unfold kI;go_wp2;go_ret;rw[d.out];exact⟨congrArg Ending.returned (vA [45] L),b⟩
 ·have:=MY 20 n w oG lE oG u (by rw[a];omega);unfold iN;rw[if_neg m];exact this
end
end Go.Proofs.YtgimnjldndkalaaGreatDoor
