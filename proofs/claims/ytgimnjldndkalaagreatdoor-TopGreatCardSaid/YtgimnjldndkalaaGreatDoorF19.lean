/- Of the proof of TopGreat: slices.Insert of one stop, into a list of the call's own. -/
import Derived.Lib.JoinLaws
import Derived.Lib.Overlaps
import Derived.Shelf.RegionOpenPlain
import Derived.Test.YtgimnjldndkalaaGreatDoorF9
set_option linter.all false
set_option maxHeartbeats 4000000
set_option maxRecDepth 100000
namespace Go.Proofs.YtgimnjldndkalaaGreatDoor
section
open Go.Proofs.Tryz
open Go Go.RowKit Go.Lib jm ko kN
attribute [local go_sem] iO
def wP:(prog.info? 84).map (·.size)=some 2:=kR
def QJ (base:Nat) (w:World) (g cap:Nat) (t:Tr) (i l:Nat) (z q:Int) (h:OS base w (.slice g t cap) t) (hp:0<t.length) (hl:t.length<=1000000) (hi:i<=t) (aJ:l≠g)
  (d:fc w l 84 [z,q]) (I:base<=w):
  Calls prog 323 #[.slice g t cap,i,.slice l 1 1] w fun e w'=>
   ∃rv,e=.returned rv/\OS base w' rv (t.take i++((z,q)::t.drop i))/\w.grownBy w' (some g):=by
 have H:=zH h;have bG:RL 2 iH w (.slice l 1 1) [(z,q)]:=by
  refine⟨some ⟨l,0,none⟩,1,rfl,lE,by simp[maxLen],fun _=>⟨l,0,rfl,d.lt,fun i x hx=>?_⟩⟩;cases i with
  |succ i=>simp at hx
  |zero=>
   cases hx;refine⟨_,rfl,rfl,fun j u hu=>?_⟩;rw[d.cell];simpa[gV] using hu
 obtain⟨F,hF⟩:=nR (t.flatMap gV);have R:F.length=t.length*2:=by rw[<-hF,mG]
 obtain⟨cA,h2⟩:=h
 rcases h2 with ⟨hn,-⟩|⟨g',bO,B,hs,aW,hg,cC,hm,bA,aI⟩
 ·cases hn
 injection hs with e1 _ e3
 injection e1 with e1
 injection e1 with e1
 subst e1;subst e3;rw[hF] at aI;have aY:=(aah.1 hg).1;have bH:=d.lt;unfold maxLen at hm;have r: ∀j,j<F.length->B[j]? =F[j]? :=fun j f=>by rw[<-aI,iG oG,fA]
 have ar: ∀v∈F,v.oneCell'=true:=fun v d=>by rw[<-hF] at d;exact dT.1 (mK t) v d
 by_cases aZ:i=t
 ·subst aZ;go_enter func323,ntmps323;go_wp2_with (at_builtin;refine wpList_plain rfl fun K hK=>?_;refine DP w _ _ rfl base _ t H rfl _ 1 1 [(z,q)] rfl bG rfl oG I ?_;intro v' w' h1 h2;have H1:=zH h1;have H2:=zH h2;clear h1 h2;refine hK _ _ ?_);all_goals
   go_ret;exact⟨_,rfl,by simpa using H1.out,H2.out⟩
 ·have aD:(F.drop (i*2)).length=(t.length-i)*2:=by rw[km,R];omega
  have af:F.take (i*2)++([.int .i64 z,.int .i64 q]++F.drop (i*2))=(t.take i++((z,q)::t.drop i)).flatMap gV:=by rw[fU,gG,EO,EM,hF];rfl
  have s:(t.take i++((z,q)::t.drop i)).length=t.length+1:=by simp;omega
  by_cases aj:cap<t.length+1
  ·obtain⟨i0,aE,aK,an,ak⟩:=info_parts nU;have aG:((t.length:Int)+1-(i:Int))=((t.length+1-i:Nat):Int):=oG;have ai:i+(t.length+1-i)=t.length+1:=oG;have ae:(Builtin.firstCells i0.size i (.slice g i cap)).run prog w.drew=.ok (F.take (i*2)).toArray w.drew:=by
    rw[an];exact run_firstCells_some w.drew 2 i g i cap (F.take (i*2)) (by rw[fB,R];omega) (fun j v f=>by
     rw[Cf];rw[eU] at f;split at f
     ·rw[gW,cell_of_row w.drew g _ _ _ _ hg,r j (by rw[R];omega)];exact f
     ·cases f)
   have N:=fun Y=>Lib.run_append_grow_zeros w 42 3 Y 84 i0 _ .i64 .i64 underlying42 underlying3 aE aK g i cap (F.take (i*2)) ae (t.length+1-i) oG (by rw[an];omega) oG oG (by rw[ak];omega) (by rw[ak,ai];exact growslice_fits aj oG);obtain⟨G,hG⟩:=nE (grownCap w (t+1) cap 84);simp only[ai,<-aG,<-hG] at N;obtain⟨n,p⟩:=nE ((F.take (i*2)).toArray++Builtin.zeroCells (Value.agg #[Zo,Zo]).cells (t.length+1-i)++Builtin.zeroCells (Value.agg #[Zo,Zo]).cells (G-(t+1)):Array Value);simp only[<-p] at N;have aU:t.length+1<=G:=by rw[hG];exact grownCap_ge w _ _ _
   have bU:G<=9223372036854775807:=by have:=grownCap_le_maxLen w (t.length+1) cap 84 (by unfold maxLen;omega);rw[<-hG] at this;unfold maxLen at this;omega
   have al: ∀k,(Builtin.zeroCells (Value.agg #[Zo,Zo]).cells k).size=k*2:=fun k=>by simp[Builtin.zeroCells,Value.cells]
   have aV:n.size=G*2:=by rw[p,xy,xy,al,al];simp[fB,R];omega
   have ao:=zH p;clear aG ai ae p hG al aE aK an ak;have bI:IntKind.i64.wrap ((t.length:Int)+1)=(t.length:Int)+1:=by rw[jB];omega
   obtain⟨o,a⟩:=nE (w.drew.alloc (.cells n 84));have D:o.heap[w.heap.size]? =some (.cells n 84 (0,0)):=by rw[a];exact World.alloc_heap_new w.drew _
   have au:Below w w o:=by rw[a];exact bF.drew.alloc lE _
   rw[<-a] at N;clear a;have aq:=zH N;clear N;have aF:(i:Int)≠t.length:=oG;go_enter func323,ntmps323;have W:=d.below au bH;have O: ∀(j:Nat) (v:Value),[Value.int .i64 z,q][j]? =some v->o.cell? ((l:Addr).add j)=some v:=fun j v f=>by rw[Cf,W.cell];simpa using f
   obtain⟨A,b⟩:=nE ((splice n.toList (i*2) [z,q]).toArray:Array Value);have C:A.size=G*2:=by rw[b];simp only[gU];rw[length_splice _ _ _ sO];simpa using aV
   obtain⟨y,c⟩:=nE (o.setRow w A);have E:y.heap[w.heap.size]? =some (.cells A 84 (0,0)):=by rw[c];exact setRow_heap _ _ _ _ _ _ D
   have aw:Below w w y:=by rw[c];exact below_setRow au lE _
   have T: ∀(j:Nat) (v:Value),(F.drop (i*2))[j]? =some v->y.drew.cell? (((pA g (i*2)):Addr).add j)=some v:=fun j v f=>by have bh:=(bX.1 f).1;rw[Cf,cell_of_row y.drew g _ _ _ _ ((aw.block g aY).trans hg),r _ oG,<-f,gS]
   have M:[Value.int .i64 z,Value.int .i64 q].length=Nat.min 1 (t.length+1-i)*2:=by simp only[Nn,ff,fZ];split <;>omega
   have S:i*2+[Value.int .i64 z,Value.int .i64 q].length<=n.size:=by simp;omega
   have ah: ∀v∈[Value.int .i64 z,Value.int .i64 q],v.oneCell'=true:=by intro v d;simp at d;rcases d with rfl|rfl <;>rfl
   have J: ∀(Y:TypeId) (dc:Nat),(Builtin.copy_ #[42,42] Y #[.slice (pA w (i*2)) (t.length+1-i) dc,.slice l 1 1]).run prog o=.ok (goInt (Nat.min 1 (t.length+1-i))) y:=fun Y dc=>by rw[c,b];exact ry o _ _ Y 84 2 w (i*2) _ dc l 1 1 n 84 _ underlying42 wP D M O S ah
   have ag:=zH b;clear c b;go_wp2_with (first|(at_builtin;refine Lib.wpList_append_run _ rfl _ _ _ _ rfl _ _ rfl rfl _ _ (aq _) ?_)|simp only[J]);have bJ:IntKind.i64.wrap ((i:Int)+1)=(i:Int)+1:=by rw[jB];omega
   have bB:((i:Int)+1).toNat=i+1:=oG;have cj: ¬(G=i+1):=oG;have aS:(0:Int)<=(i:Int)+1:=oG;have aX: ¬(cap=i):=oG;refine rG (fun _=>True) [] (trivial) fun hS=>?_;refine kL [0,1,2,3,4,5,6,7] ?_;refine tO 8 fun K hK=>?_;refine zB y.drew _ _ 42 42 rfl 84 2 underlying42 wP w ((i+1)*2) (t.length-i) (G-(i+1)) (pA g (i*2)) (t.length-i) (cap-i) rfl rfl A 84 E (F.drop (i*2)) (by rw[aD];simp[Nn]) T oG (fun v d=>ar v (jj d)) ?_;obtain⟨C3,Q⟩:=nE ((splice A.toList ((i+1)*2) (F.drop (i*2))).toArray:Array Value);have ay:C3.size=G*2:=by rw[Q];simp only[gU];rw[length_splice _ _ _ sO];simpa using C
   have aa:C3.toList.take ((t+1)*2)=(t.take i++((z,q)::t.drop i)).flatMap gV:=by rw[<-af,Q,ag.out];have:=(DA (X:=n.toList) (L:=F) (V:=[z,q]) (i:=i*2) (m:=2) rfl oG sO (fun j f=>by rw[fA,ao.out,Array.append_assoc,Array.getElem?_append_left sO];simp[eU,f])).2;rw[show(t.length+1)*2=F.length+2 by omega,show(i+1)*2=i*2+2 by omega];exact this
   have az:(y.drew.setRow w C3).heap[w.heap.size]? =some (.cells C3 84 (0,0)):=setRow_heap _ _ _ _ _ _ E;have aT:Below w w (y.drew.setRow w C3):=below_setRow aw.drew lE _;rw[<-Q];refine hK _ _ (trivial) ?_;refine tD ?_;obtain⟨aP,aM⟩:=Zb az aa;clear Q aa az J T O M aq;go_wp2_with fail;go_ret;exact⟨.slice w (t.length+1) G,rfl,⟨by rw[mG],.inr ⟨w,G,C3,by rw[s],I,aP,by rw[s];exact aU,by unfold maxLen;omega,ay,by rw[s];exact aM⟩⟩,mY aT _⟩
  ·have U:w.heap[l]? =some (.cells #[z,q] 84 (0,0)):=d;have aH: ∀lb cb,(callFunc 340 #[.slice l 1 1,.slice (pA g ((i+1)*2)) lb cb]).run prog w=.ok (.value false) w:=fun lb cb=>by
    rw[run_callFunc_extern func340 kR kR kR (e:=Extern.SlicesOverlaps.overlaps #[42,42] #[4]) kR,
     Lib.run_overlaps_apart w 42 4 84 underlying42 2 sizeOf84 l (pA g ((i+1)*2)) 1 1 lb cb aJ 84 84 2 B.size (by simp[World.shape?,U]) (by simp[World.shape?,hg]) oG (by simp[World.frozen?,U]) (by simp[World.frozen?,U])]
    rfl
   clear U;have aC:t.length+1<=cap:=oG;have bI:IntKind.i64.wrap ((t.length:Int)+1)=(t.length:Int)+1:=by rw[jB];omega
   have bJ:IntKind.i64.wrap ((i:Int)+1)=(i:Int)+1:=by rw[jB];omega
   have bB:((i:Int)+1).toNat=i+1:=oG;have cD:((t.length:Int)+1).toNat=t.length+1:=oG;have aS:(0:Int)<=(i:Int)+1:=oG;have cg:(0:Int)<=(t.length:Int)+1:=oG;have aX: ¬(cap=i):=oG;have bW: ¬(cap=i+1):=oG;have aF:(i:Int)≠t.length:=oG;have bY:(i:Int)<=(t.length:Int)+1:=oG;have bZ:(i:Int)+1<=(t.length:Int)+1:=oG;have cw:((t.length:Int)+1:Int)<=cap:=oG;have aR:=zH aH;clear aH;go_enter func323,ntmps323;go_wp2_with (simp only[aR.out]);have T: ∀(j:Nat) (v:Value),(F.drop (i*2))[j]? =some v->w.drew.cell? (((pA g (i*2)):Addr).add j)=some v:=fun j v f=>by have bh:=(bX.1 f).1;rw[Cf,cell_of_row w.drew g _ _ _ _ hg,r _ oG,<-f,gS]
   obtain⟨C1,P⟩:=nE ((splice B.toList ((i+1)*2) (F.drop (i*2))).toArray:Array Value);have ax:C1.size=cap*2:=by rw[P];simp only[gU];rw[length_splice _ _ _ sO];simpa using bA
   obtain⟨o,a⟩:=nE (w.drew.setRow g C1);have D:o.heap[g]? =some (.cells C1 84 (0,0)):=by rw[a];exact setRow_heap _ _ _ _ _ _ hg
   have aA:w.grownBy o (some g):=by rw[a];exact qC (mY bF.drew _) _
   have W:fc o l 84 [z,q]:=by rw[a];exact(setRow_other w.drew g l C1 aJ).trans d
   have O: ∀(j:Nat) (v:Value),[Value.int .i64 z,Value.int .i64 q][j]? =some v->o.cell? ((l:Addr).add j)=some v:=fun j v f=>by rw[Cf,W.cell];simpa using f
   have M:[Value.int .i64 z,Value.int .i64 q].length=Nat.min 1 (t.length+1-i)*2:=by simp only[Nn,ff,fZ];split <;>omega
   have S:i*2+[Value.int .i64 z,Value.int .i64 q].length<=C1.size:=by simp;omega
   have ah: ∀v∈[Value.int .i64 z,Value.int .i64 q],v.oneCell'=true:=by intro v d;simp at d;rcases d with rfl|rfl <;>rfl
   obtain⟨A,b⟩:=nE ((splice C1.toList (i*2) [z,q]).toArray:Array Value);have C:A.size=cap*2:=by rw[b];simp only[gU];rw[length_splice _ _ _ sO];simpa using ax
   have Z:A.toList.take ((t+1)*2)=(t.take i++((z,q)::t.drop i)).flatMap gV:=by rw[<-af,b,P];have:=(DA (X:=B.toList) (L:=F) (V:=[z,q]) (i:=i*2) (m:=2) rfl oG sO (fun j f=>by rw[fA];exact r j oG)).1;rw[show(t.length+1)*2=F.length+2 by omega,show(i+1)*2=i*2+2 by omega];exact this
   obtain⟨y,c⟩:=nE (o.setRow g A);have E:y.heap[g]? =some (.cells A 84 (0,0)):=by rw[c];exact setRow_heap _ _ _ _ _ _ D
   have aB:w.grownBy y (some g):=by rw[c];exact qC aA _
   have J: ∀(Y:TypeId) (dc:Nat),(Builtin.copy_ #[42,42] Y #[.slice (pA g (i*2)) (t.length+1-i) dc,.slice l 1 1]).run prog o=.ok (goInt (Nat.min 1 (t.length+1-i))) y:=fun Y dc=>by rw[c,b];exact ry o _ _ Y 84 2 g (i*2) _ dc l 1 1 C1 84 _ underlying42 wP D M O S ah
   obtain⟨aN,aL,aO,ag,aQ⟩:=Ze J P E Z aB;clear J b Z E aB c M S O W aA P;refine rG (fun _=>True) [] (trivial) fun hS=>?_;refine kL [0,1,2,3,4,5,6,7] ?_;refine tO 8 fun K hK=>?_;refine zB w.drew _ _ 42 42 rfl 84 2 underlying42 wP g ((i+1)*2) (t.length-i) (cap-(i+1)) (pA g (i*2)) (t.length+1-i) (cap-i) rfl rfl B 84 hg (F.drop (i*2)) (by rw[aD];simp only[Nn];split <;>omega) T oG (fun v d=>ar v (jj d)) ?_;rw[<-aL.out,<-a];clear a;refine hK _ _ (trivial) ?_;refine tD ?_;go_wp2_with (simp only[aN.out]);go_ret;exact⟨.slice g (t.length+1) cap,rfl,⟨by rw[mG],.inr ⟨g,cap,A,by rw[s],aW,aO,by rw[s];exact aC,by unfold maxLen;omega,C,by rw[s];exact ag⟩⟩,aQ⟩
end
end Go.Proofs.YtgimnjldndkalaaGreatDoor
