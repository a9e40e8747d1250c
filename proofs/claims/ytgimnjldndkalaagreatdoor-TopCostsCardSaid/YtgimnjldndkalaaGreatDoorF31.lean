/- Of the proof of TopCosts: slices.Delete of one stop, from a list of the call's own. -/
import Derived.Deep.DeepCutAuto
import Derived.Test.YtgimnjldndkalaaGreatDoorF27
set_option linter.all false
set_option maxHeartbeats 4000000
set_option maxRecDepth 100000
namespace Go.Proofs.YtgimnjldndkalaaGreatDoor
section
open Go.Proofs.Tryz
open Go Go.RowKit Go.Lib jm ko kN
attribute [local go_sem] iO
def OO (w:World):(zeroValue 84).run prog w=.ok (.agg #[Zo,Zo]) w:=by obtain⟨i,r,e,-,-⟩:=info_parts nU;simp[zeroValue,typeInfo,r,e]
def Dv (w:World) (ty:TypeId) (g o c:Nat) (a:Array Value) (t:TypeId) (l:w.heap[g]? =some (.cells a t (0,0))) (b:o+2<=a.size):
  (Builtin.clear_ #[42] ty #[.slice (pA g o) 1 c]).run prog w=.ok (.tuple #[]) (w.setRow g (splice a.toList o [.int .i64 0,.int .i64 0]).toArray):=by
 have d:=run_storeCells_at prog g o t [Zo,Zo] 0 a w l (by simpa using b) (by simp[Value.oneCell']);have e:(Builtin.zeroCells (Value.agg #[.int .i64 0,.int .i64 0]).cells 1).toList=[.int .i64 0,.int .i64 0]:=by simp[Builtin.zeroCells,Value.cells,Array.range,List.range,List.range.loop]
 simp[Builtin.clear_,run_underlying Tryz.underlying42,OO,e,d,splice]
def wp_append_run {P:Program} {o:Oper} {a:Act} {K:Act->World->Prop} {Q:Exit->Act->World->Prop} (w w':World) (t:TypeId) (s x:Operand) (c:o.op=.call {callee:=.builtin .append,args:= #[s,x],argTypes:= #[t,t]})
  (vs b v:Value) (O:a.eval s=vs) (e:a.eval x=b) (d: ∀ty,(Builtin.append_ #[t,t] ty #[vs,b]).run P w=.ok v w') (h:K (a.put o.dst v) w'):o.wp P a w K Q:=by
 unfold Oper.wp execOp;simp only[c,resolve,invoke,builtin,ks,pR,lO,mT,gN,lG,O,e,d];exact h
def Qk (base:Nat) (w:World) (g cap:Nat) (t:Tr) (i:Nat) (h:OS base w (.slice g t cap) t) (hl:t.length<=1000000) (r:i<t):
  Calls prog 320 #[.slice g t cap,i,((i:Int)+1:)] w fun e w'=>
   e=.returned (.slice g (t.length-1) cap)/\OS base w' (.slice g (t.length-1) cap) (t.eraseIdx i)/\w.grownBy w' (some g):=by
 have H:=zH h;obtain⟨F,q⟩:=nR (t.flatMap gV);have B:F.length=t.length*2:=by rw[<-q,mG]
 obtain⟨af,X⟩:=h
 rcases X with ⟨hn,-⟩|⟨g',T,a,O,E,l,aj,U,o,f⟩
 ·cases hn
 injection O with e1 _ e3
 injection e1 with e1
 injection e1 with e1
 subst e1;subst e3;rw[q] at f;have aa:=(aah.1 l).1;unfold maxLen at U;have m: ∀j,j<F.length->a[j]? =F[j]? :=fun j hj=>by rw[<-f,iG oG,fA]
 have k:(F.drop ((i+1)*2)).length=(t.length-(i+1))*2:=by rw[km,B];omega
 obtain⟨i0,I,ak,b,aq⟩:=info_parts nU;go_enter func320,ntmps320;have J:i<=cap:=oG;have ae:i+1<=t.length:=r;have L:(0:Int)<=(i:Int)+1:=oG;have M:(i:Int)+1<=(t.length:Int):=oG;obtain⟨A,Y,d⟩: ∃A:Addr,(if cap=i+1 then some (g:Addr) else some ⟨g,(i+1)*2,none⟩)=some A/\Hid (∀j u,(F.drop ((i+1)*2))[j]? =some u->w.drew.cell? (A.add j)=some u):=by
  by_cases h:cap=i+1
  ·refine⟨g,by simp[h],fun j u p=>?_⟩;have:=(bX.1 p).1;omega
  ·refine⟨(pA g ((i+1)*2)),by simp[h],fun j u p=>?_⟩;have hj:=(bX.1 p).1;rw[gS] at p;rw[show((pA g ((i+1)*2)):Addr).add j=(pA g ((i+1)*2+j)) by unfold Addr.add;split <;>simp_all,cell_of_row w.drew g _ a _ (0,0) l,m _ oG];exact p
 go_upto_region 5 with fail
 refine rG (fun _=>True) [] (trivial) fun hS=>?_;refine kL [0,1,2,3,4,5] ?_;have s: ∀v∈F.drop ((i+1)*2),v.oneCell'=true:=fun v W=>by rw[<-q] at W;exact dT.1 (mK t) v (jj W)
 have V:=fun ty=>run_append_room (P:=prog) (w:=w.drew) 42 ty 84 i0 underlying42 I g i cap a l A (t.length-(i+1)) (cap-(i+1)) (F.drop ((i+1)*2)) (by rw[b];exact k) d s oG (by rw[b,k,o];omega);obtain⟨C,x⟩:=nR ((a.toList.take (i*i0.size)++F.drop ((i+1)*2)++a.toList.drop (i*i0.size+(F.drop ((i+1)*2)).length)).toArray);rw[x,show i+(t.length-(i+1))=t.length-1 by omega] at V;have R:=zH x;clear x Y L M d J;refine tO 6 fun K Z=>?_;refine wp_append_run _ _ _ _ _ rfl _ _ _ rfl rfl V ?_;refine Z _ _ (trivial) ?_;refine kL [7] ?_;refine tD ?_;have ag:t.length-(t.length-1)=1:=oG;have ah: ¬cap=t.length-1:=oG;have ai:t.length-1<=t.length:=oG;have y:C.size=a.size:=by rw[<-R.out];simp[b,k];omega
 have n:(w.drew.setRow g C).heap[g]? =some (.cells C 84 (0,0)):=setRow_heap w.drew g a C _ _ l;have N:=fun ty=>Dv (w.drew.setRow g C) ty g ((t.length-1)*2) (cap-(t.length-1)) C _ n oG;obtain⟨D,z⟩:=nR ((splice C.toList ((t.length-1)*2) [Value.int .i64 0,Zo]).toArray);rw[z] at N;have S:=zH z;clear z;go_wp2_with fail;go_ret;have G:=qC (qC (mY (below_drewN (bS w w) 1) (some g)) C) D;have c:=S6 r;refine⟨rfl,⟨by rw[mG],.inr ⟨g,cap,D,by rw[c],E,setRow_heap _ g C D _ _ n,oG,U,?_,?_⟩⟩,G⟩
 ·rw[<-S.out];simp[splice,y,o];omega
 ·rw[c,<-S.out,List.eraseIdx_eq_take_drop_succ,fU,EO,EM,q,<-R.out,b];simp only[splice,List.toList_toArray];have Q:(a.toList.take (i*2)).length=i*2:=by rw[fB,je];omega
  rw[pw (by rw[fB,fa,fa,Q,k];omega),S7,Nat.min_self,pw (by rw[fa,Q,k];omega),fj (by rw[fa,Q,k];omega),<-f,S7,kM oG]
end
end Go.Proofs.YtgimnjldndkalaaGreatDoor
