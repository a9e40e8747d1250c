/- Of the proof of TopGreat: slices.Delete of one stop, from a list of the call's own. -/
import Derived.Deep.DeepCutAuto
import Derived.Test.YtgimnjldndkalaaGreatDoorF19
set_option linter.all false
set_option maxHeartbeats 4000000
set_option maxRecDepth 100000
namespace Go.Proofs.YtgimnjldndkalaaGreatDoor
section
open Go.Proofs.Tryz
open Go Go.RowKit Go.Lib jm ko kN
attribute [local go_sem] iO
def OO (w:World):(zeroValue 84).run prog w=.ok (.agg #[Zo,Zo]) w:=by obtain⟨i,s,e,-,-⟩:=info_parts nU;simp[zeroValue,typeInfo,s,e]
def Dv (w:World) (k:TypeId) (g o c:Nat) (a:Array Value) (t:TypeId) (m:w.heap[g]? =some (.cells a t (0,0))) (b:o+2<=a.size):
  (Builtin.clear_ #[42] k #[.slice (pA g o) 1 c]).run prog w=.ok (.tuple #[]) (w.setRow g (splice a.toList o [.int .i64 0,.int .i64 0]).toArray):=by
 have d:=run_storeCells_at prog g o t [Zo,Zo] 0 a w m (by simpa using b) (by simp[Value.oneCell']);have e:(Builtin.zeroCells (Value.agg #[.int .i64 0,.int .i64 0]).cells 1).toList=[.int .i64 0,.int .i64 0]:=by simp[Builtin.zeroCells,Value.cells,Array.range,List.range,List.range.loop]
 simp[Builtin.clear_,run_underlying Tryz.underlying42,OO,e,d,splice]
def wp_append_run {P:Program} {o:Oper} {a:Act} {K:Act->World->Prop} {Q:Exit->Act->World->Prop} (w w':World) (t:TypeId) (s x:Operand) (c:o.op=.call {callee:=.builtin .append,args:= #[s,x],argTypes:= #[t,t]})
  (vs b v:Value) (R:a.eval s=vs) (e:a.eval x=b) (d: ∀k,(Builtin.append_ #[t,t] k #[vs,b]).run P w=.ok v w') (h:K (a.put o.dst v) w'):o.wp P a w K Q:=by
 unfold Oper.wp execOp;simp only[c,resolve,invoke,builtin,ks,pR,lO,mT,gN,lG,R,e,d];exact h
def Qk (base:Nat) (w:World) (g cap:Nat) (t:Tr) (i:Nat) (h:OS base w (.slice g t cap) t) (hl:t.length<=1000000) (s:i<t):
  Calls prog 320 #[.slice g t cap,i,((i:Int)+1:)] w fun e w'=>
   e=.returned (.slice g (t.length-1) cap)/\OS base w' (.slice g (t.length-1) cap) (t.eraseIdx i)/\w.grownBy w' (some g):=by
 have H:=zH h;obtain⟨F,r⟩:=nR (t.flatMap gV);have E:F.length=t.length*2:=by rw[<-r,mG]
 obtain⟨af,Z⟩:=h
 rcases Z with ⟨hn,-⟩|⟨g',V,a,R,G,m,aj,W,p,f⟩
 ·cases hn
 injection R with e1 _ e3
 injection e1 with e1
 injection e1 with e1
 subst e1;subst e3;rw[r] at f;have aa:=(aah.1 m).1;unfold maxLen at W;have n: ∀j,j<F.length->a[j]? =F[j]? :=fun j hj=>by rw[<-f,iG oG,fA]
 have l:(F.drop ((i+1)*2)).length=(t.length-(i+1))*2:=by rw[km,E];omega
 obtain⟨Q,J,ak,b,al⟩:=info_parts nU;go_enter func320,ntmps320;have L:i<=cap:=oG;have ae:i+1<=t.length:=s;have M:(0:Int)<=(i:Int)+1:=oG;have N:(i:Int)+1<=(t.length:Int):=oG;obtain⟨A,hA,d⟩: ∃A:Addr,(if cap=i+1 then some (g:Addr) else some ⟨g,(i+1)*2,none⟩)=some A/\Hid (∀j u,(F.drop ((i+1)*2))[j]? =some u->w.drew.cell? (A.add j)=some u):=by
  by_cases h:cap=i+1
  ·refine⟨g,by simp[h],fun j u q=>?_⟩;have:=(bX.1 q).1;omega
  ·refine⟨(pA g ((i+1)*2)),by simp[h],fun j u q=>?_⟩;have hj:=(bX.1 q).1;rw[gS] at q;rw[show((pA g ((i+1)*2)):Addr).add j=(pA g ((i+1)*2+j)) by unfold Addr.add;split <;>simp_all,cell_of_row w.drew g _ a _ (0,0) m,n _ oG];exact q
 go_upto_region 5 with fail
 refine rG (fun _=>True) [] (trivial) fun hS=>?_;refine kL [0,1,2,3,4,5] ?_;have x: ∀v∈F.drop ((i+1)*2),v.oneCell'=true:=fun v Y=>by rw[<-r] at Y;exact dT.1 (mK t) v (jj Y)
 have X:=fun k=>run_append_room (P:=prog) (w:=w.drew) 42 k 84 Q underlying42 J g i cap a m A (t.length-(i+1)) (cap-(i+1)) (F.drop ((i+1)*2)) (by rw[b];exact l) d x oG (by rw[b,l,p];omega);obtain⟨C,y⟩:=nR ((a.toList.take (i*Q.size)++F.drop ((i+1)*2)++a.toList.drop (i*Q.size+(F.drop ((i+1)*2)).length)).toArray);rw[y,show i+(t.length-(i+1))=t.length-1 by omega] at X;have T:=zH y;clear y hA M N d L;refine tO 6 fun K hK=>?_;refine wp_append_run _ _ _ _ _ rfl _ _ _ rfl rfl X ?_;refine hK _ _ (trivial) ?_;refine kL [7] ?_;refine tD ?_;have ag:t.length-(t.length-1)=1:=oG;have ah: ¬cap=t.length-1:=oG;have ai:t.length-1<=t.length:=oG;have z:C.size=a.size:=by rw[<-T.out];simp[b,l];omega
 have o:(w.drew.setRow g C).heap[g]? =some (.cells C 84 (0,0)):=setRow_heap w.drew g a C _ _ m;have O:=fun k=>Dv (w.drew.setRow g C) k g ((t.length-1)*2) (cap-(t.length-1)) C _ o oG;obtain⟨D,B⟩:=nR ((splice C.toList ((t.length-1)*2) [Value.int .i64 0,Zo]).toArray);rw[B] at O;have U:=zH B;clear B;go_wp2_with fail;go_ret;have I:=qC (qC (mY (below_drewN (bS w w) 1) (some g)) C) D;have c:=S6 s;refine⟨rfl,⟨by rw[mG],.inr ⟨g,cap,D,by rw[c],G,setRow_heap _ g C D _ _ o,oG,W,?_,?_⟩⟩,I⟩
 ·rw[<-U.out];simp[splice,z,p];omega
 ·rw[c,<-U.out,List.eraseIdx_eq_take_drop_succ,fU,EO,EM,r,<-T.out,b];simp only[splice,List.toList_toArray];have S:(a.toList.take (i*2)).length=i*2:=by rw[fB,je];omega
  rw[pw (by rw[fB,fa,fa,S,l];omega),S7,Nat.min_self,pw (by rw[fa,S,l];omega),fj (by rw[fa,S,l];omega),<-f,S7,kM oG]
end
end Go.Proofs.YtgimnjldndkalaaGreatDoor
