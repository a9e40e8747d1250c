/- Of the proof of TopCosts: A list that is repeated. -/
import Derived.Laws.CopyOwn
import Derived.Test.YtgimnjldndkalaaGreatDoorF7
set_option linter.all false
set_option maxHeartbeats 20000000
set_option maxRecDepth 100000
namespace Go.Proofs.YtgimnjldndkalaaGreatDoor
namespace Ra
open Go.Proofs.Tryz
open Go Go.RowKit jm ko kN
def m0 (n:Nat):Int:=IntKind.u64.wrap (bits BinOp.and IntKind.u64 1 4294967295*bits BinOp.and IntKind.u64 (n:Int) 4294967295)
def m1 (n:Nat):Int:=IntKind.u64.wrap (m0 n/4294967296)
def hiE (n:Nat):Int:=IntKind.u64.wrap (IntKind.u64.wrap (m1 n/4294967296)+
 IntKind.u64.wrap (bits BinOp.and IntKind.u64 (m1 n) 4294967295+IntKind.u64.wrap (bits BinOp.and IntKind.u64 1 4294967295*((n:Int)/4294967296)))/4294967296)
def Wj:((List.range 65).all fun k=>decide (hiE k=0)&&decide (IntKind.u64.wrap (k:Int)=k))=true:=kR
def Oe (n:Nat) (g:n<=64) (w:World):Calls prog 238 #[.int .u64 1,.int .u64 (n:Int)] w fun e w'=>e=.returned (.tuple #[.int .u64 0,.int .u64 (n:Int)])/\w'=w:=by
 have h:Hid (n<=64):=zH g;clear g;go_enter func238,ntmps238;go_wp2
 go_ret2
 have x:=dT.1 Wj n (jz.2 (by have:=h.out;omega));simp only[a6,decide_eq_true_eq] at x;have a:Ending.returned (.tuple #[.int .u64 (hiE n),.int .u64 (IntKind.u64.wrap (n:Int))])=Ending.returned (.tuple #[.int .u64 0,.int .u64 (n:Int)]):=by rw[x.1,x.2]
 exact⟨a,rfl⟩
def RB (n:Nat) (g:n<=64) (w:World):Calls prog 208 #[.int .u64 1,.int .u64 (n:Int)] w fun e w'=>e=.returned (.tuple #[.int .u64 0,.int .u64 (n:Int)])/\w'=w:=by
 have h:Hid (n<=64):=zH g;clear g;go_enter func208,ntmps208;go_wp2_with fail;refine(Oe n h w).mono ?_;rintro e w' ⟨rfl,rfl⟩;go_wp2
 go_ret2
 exact⟨rfl,rfl⟩
def hu3:prog.underlying 26=some (.slice 3):=kR
def TP:(prog.info? 3).map (·.size)=some 1:=kR
def LM (w:World) (b o c:Nat) (z:Int) (Y:w.cell? (pA b o)=some z) (F:b<w) (n:Nat) (K:1<=n) (x:n<=64):
  Calls prog 164 #[.slice (pA b o) 1 c,(n:Int)] w fun e w'=> ∃L:List Value,e=.returned (.slice w n n)/\L.length=n/\(∀u∈L,∃y,u=.int .i64 y/\(y=z\/y=0))/\
   w'.heap[w.heap.size]? =some (.cells L.toArray 3 (0,0))/\Below w w w':=by
 have e1:IntKind.u64.wrap (n:Int)=n:=by show(n:Int)%18446744073709551616=n;omega
 have e2:IntKind.i64.wrap (n:Int)=n:=sd (by unfold kP;omega);have e3:wrap64 (n:Int)=n:=by unfold wrap64;omega
 have e4:decide ((n:Int)<0)=false:=decide_eq_false oG;have H:=fun W=>pM (P:=prog) (t:=26) (e:=3) kR kR n (n:Int) rfl oG W;have p:=(bS w w).alloc lE (cB 3 (kE n));have f:(w.alloc (cB 3 (kE n))).heap[w.heap.size]? =some (.cells (kE n).toArray 3 (0,0)):=fc.new w 3 (kE n);obtain⟨M,U⟩:=Zb K x;go_enter func164,ntmps164;go_wp2_with fail;refine(RB n U w).mono ?_;rintro e w1 ⟨rfl,rfl⟩;go_wp2_with fail;have q:=run_copy_row (P:=prog) (w1.alloc (cB 3 (kE n))) 26 26 3 3 w1 0 n n (pA b o) 1 c (kE n).toArray 3 [z] hu3 TP f (by show 1=Nat.min 1 n;have:Nat.min 1 n=min 1 n:=rfl;omega) (fun j v m=>by
  cases j with
  |zero=>simp at m;subst m;rw[add_lit,gv];exact(p.cell F).trans Y
  |succ j=>simp at m) (by simp[kE];exact K) (fun v O=>by simp at O;subst O;rfl)
 obtain⟨Q,h⟩:=nR ((w1.alloc (cB 3 (kE n))).setRow w1 ((kE n).toArray.toList.take 0++[Value.int .i64 z]++(kE n).toArray.toList.drop (0+[Value.int .i64 z].length)).toArray);have R:=zH (show Q.heap[w1.heap.size]? =some (.cells (Go.splice (kE n) 0 [Value.int .i64 z]).toArray 3 (0,0)) by rw[<-h,setRow_heap _ _ _ _ 3 _ f];simp[Go.splice]);have A:Below w1 w1 Q:=by rw[<-h];exact below_setRow p lE _
 rw[h] at q;rw[q];have V:=zH A;have X:Hid ((Go.splice (kE n) 0 [Value.int .i64 z]).length=n/\ ∀u∈Go.splice (kE n) 0 [Value.int .i64 z],∃y,u=.int .i64 y/\(y=z\/y=0)):=zH (by
  refine⟨?_,fun u d=>?_⟩
  ·rw[Go.length_splice _ _ _ (by simp[kE];exact M)];simp[kE]
  ·simp only[Go.splice,kE,List.take_zero,gQ,fY,fC] at d
   rcases d with rfl|d
   ·exact⟨z,rfl,.inl rfl⟩
   ·exact⟨0,Vf (jj d),.inr rfl⟩)
 clear A f p q h H;go_wp2_with fail;go_loopw [8] (fun J wr=> ∃(k:Nat) (L:List Value),J=.int .i64 k/\Hid (1<=k/\k<=n)/\Hid (L.length=n/\ ∀u∈L,∃y,u=.int .i64 y/\(y=z\/y=0))/\Hid (wr.heap[w1.heap.size]? =some (.cells L.toArray 3 (0,0)))/\Hid (Below w1 w1 wr)) (fun J _=>n-(intOf J).toNat)
 case atStart=>exact⟨1,_,rfl,zH ⟨oG,M⟩,X,R,V⟩
 case round=>
  obtain⟨k,L,rfl,G,s,I,F⟩:=hrel;by_cases Z:k<n
  ·have C:k<=n:=oG;have g:=s.1;have a:Nat.min k (n-k)=min k (n-k):=rfl;have r:(L.take (min k (n-k))).length=Nat.min k (n-k):=by rw[fB,g,a];omega
   have i:k+(L.take (min k (n-k))).length<=L.length:=by rw[r,a,g];omega
   have l: ∀u∈L.take (min k (n-k)),∃y,u=.int .i64 y/\(y=z\/y=0):=fun u d=>s.2 u (mh d);have D: ∀u∈L.take (min k (n-k)),u.oneCell'=true:=fun u d=>by obtain⟨y,rfl,-⟩:=l u d;rfl
   have E: ∀(j:Nat) v,(L.take (min k (n-k)))[j]? =some v->wr.cell? ((w1:Addr).add j)=some v:=fun j v m=>by
    rw[add_lit,cell_of_row wr _ _ _ _ _ I.out];rw[gq] at m;split at m
    ·simpa using m
    ·cases m
   have T:=zH (show(Go.splice L k (L.take (min k (n-k)))).length=n/\ ∀u∈Go.splice L k (L.take (min k (n-k))),∃y,u=.int .i64 y/\(y=z\/y=0) by
    refine⟨by rw[Go.length_splice _ _ _ i,g],fun u d=>?_⟩;simp only[Go.splice,fO] at d
    rcases d with d|d|d
    ·exact s.2 u (mh d)
    ·exact l u d
    ·exact s.2 u (jj d))
   obtain⟨HN,HK⟩:=Zb r G.1;go_wp2_with fail
   go_region_law (refine step_copy_splice (o:=⟨some 45,_,_,_,_,_⟩) (by rfl) (.tmp 41) (.tmp 44) 26 26 (by rfl) 3 hu3 TP (if n=k then some ⟨w1,0,none⟩ else some ⟨w1,k,none⟩) w1 (n-k) (n-k) k n (by rfl) (by rfl) w1 k L 3 I (L.take (min k (n-k))) r (fun _=>⟨if_neg oG,_,rfl,E⟩) i D w1 w1 F.drew lE ?_;intro w3 S B)
   have N:=zH B;clear B;go_wp2_with fail;go_roundw
   case rel=>have a:Nat.min k (n-k)=min k (n-k):=rfl;have C:=G.1;exact⟨k+min k (n-k),by rw[a,sd (by unfold kP;omega)];omega,zH ⟨oG,oG⟩,_,T,S⟩
   case measure=>have a:Nat.min k (n-k)=min k (n-k):=rfl;have C:=G.1;rw[a,sd (by unfold kP;omega)];simp only[intOf];omega
  ·obtain rfl:k=n:=by have:=G.out;omega
   go_wp2_with fail;go_ret
   exact⟨L,rfl,s.1,s.2,I,F⟩
end Ra
end Go.Proofs.YtgimnjldndkalaaGreatDoor
