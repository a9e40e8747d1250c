/- Of the proof of TopGreat: A region that draws its order, walked in the text's order: what only reads, and calls that leave the world as. -/
import Derived.Lib.Join
import Derived.Lib.SplitLaws
import Derived.OrdersHeld
import Derived.Test.YtgimnjldndkalaaGreatDoorF0
set_option linter.all false
set_option maxRecDepth 100000
namespace Go.Proofs.YtgimnjldndkalaaGreatDoor
variable {a:Act} {K:Act->World->Prop} {listed:Array Bool} {ops:Array Oper} {Q:Exit->Act->World->Prop} {c:Int} {late:List Nat} {i k n:Nat} {b o:Oper} {P:Program} {v:Value} {w:World} {S:World->Prop}
section
section
def qt (P:Program) (ops:Array Oper) (S:World->Prop) (o:Oper) (v:Value) (a:Act):Prop:=
 (Region.wanted o (yielded ops a.tmps)=true/\ ∀w,S w->(execOp a.eval o).run P w=.ok (.value v) w\/
  ∃f args,(execOp a.eval o).run P w=.ok (.enter f args) w/\Calls P f args w fun e w'=>e=.returned v/\w=w')\/
 (Region.wanted o (yielded ops a.tmps)=false/\v=undef)
def qt.of_same {q:Act} (k:qt P ops S o v a) (p:execOp q.eval o=execOp a.eval o)
  (m:Region.wanted o (yielded ops q.tmps)=Region.wanted o (yielded ops a.tmps)):qt P ops S o v q:=by
 unfold qt at*;rw[p,m];exact k
def qt.op {i:Nat} (b:ops[i]? =some o) (k:qt P ops S o v a)
  (hS:S w) (h:K (a.put o.dst v) w):wpOp P ops Q i K a w:=by
 unfold wpOp
 rcases k with ⟨m,k⟩|⟨m,rfl⟩
 rotate_left
 ·simp only[b,m,ach,if_false];exact h
 simp only[b,m,if_true];refine .inl ?_;unfold Oper.wp
 rcases k w hS with hv|⟨f,args,hv,hc⟩
 ·rw[hv];exact h
 ·rw[hv];refine Kc hc ?_;rintro e w' ⟨rfl,rfl⟩;exact h
def Pq {j:Nat} {i l:Oper} (G:ops[j]? =some l) (z:i.apart ops l=true)
  (A: ∀t b,i.op≠ .select t b) (s: ∀t b,l.op≠ .select t b)
  (D: ∀c a w,Q (.panic c) (a.put i.dst v) w->Q (.panic c) a w)
  (k:qt P ops S i v a) (h:wpOp P ops Q j K (a.put i.dst v) w):
  wpOp P ops Q j (fun q w'=>qt P ops S i v q/\K (q.put i.dst v) w') a w:=by
 obtain⟨y,o,C⟩:=Oper.apart_spec z;have g: ∀(b:Act),qt P ops S i v b-> ∀u,qt P ops S i v (b.put l.dst u):=fun b F u=>
  F.of_same (execOp_put i A b l.dst u C) (wanted_put i b l.dst u C)
 unfold wpOp at*;simp only[G] at*;rw[wanted_put l a i.dst v y] at h;by_cases m:Region.wanted l (yielded ops a.tmps)=true
 ·rw[if_pos m] at h|-
  rcases h with h|⟨hasks,hl⟩
  ·refine .inl ?_;unfold Oper.wp at*;rw[execOp_put l s a i.dst v y] at h;cases E:(execOp a.eval l).run P w with
   |ok n w'=>
    rw[E] at h;cases n with
    |value u=>exact⟨g a k u,by rw[<-rA a v u o];exact h⟩
    |skip=>exact⟨g a k _,by rw[<-rA a v undef o];exact h⟩
    |defer d=>
     refine⟨g {a with defers:=d::a.defers} (k.of_same rfl rfl) _,?_⟩;rw[<-rA _ v undef o,<-Act.put_defers];exact h
    |enter f args=>
     refine Kc h fun e B p=>?_;cases e with
     |returned u=>exact⟨g a k u,by rw[<-rA a v u o];exact p⟩
     |panicked c=>exact D _ _ _ p
     |outgrown=>exact p
    |row r args=>exact Rows.mono h fun u B p=>⟨g a k u,by rw[<-rA a v u o];exact p⟩
    |_=>exact h
   |halt x w'=>
    rw[E] at h;cases x with
    |panic u=>exact D _ _ _ h
    |_=>exact h
  ·exact .inr ⟨by unfold Oper.asks at*;rw[execOp_put l s a i.dst v y] at hasks;exact hasks,hl⟩
 ·rw[if_neg m] at h|-
  exact⟨g a k _,by rw[<-rA a v undef o];exact h⟩
end
end
section
variable {g:Oper}
section
def pf (P:Program) (ops:Array Oper) (S:World->Prop) (o:Oper) (v:Value) (a:Act):Prop:=
 (Region.wanted o (yielded ops a.tmps)=true/\ ∀w,S w->(execOp a.eval o).run P w=.ok (.value v) w\/
  ∃f args,(execOp a.eval o).run P w=.ok (.enter f args) w/\Calls P f args w fun e w'=>e=.returned v/\S w')\/
 (Region.wanted o (yielded ops a.tmps)=false/\v=undef)
def pf.of_same {s:Act} (l:pf P ops S o v a) (z:execOp s.eval o=execOp a.eval o)
  (k:Region.wanted o (yielded ops s.tmps)=Region.wanted o (yielded ops a.tmps)):pf P ops S o v s:=by
 unfold pf at*;rw[z,k];exact l
def pf.op (d:ops[i]? =some o) (l:pf P ops S o v a)
  (hS:S w) (h: ∀w',S w'->K (a.put o.dst v) w'):wpOp P ops Q i K a w:=by
 unfold wpOp
 rcases l with ⟨k,l⟩|⟨k,rfl⟩
 rotate_left
 ·simp only[d,k,ach,if_false];exact h w hS
 simp only[d,k,if_true];refine .inl ?_;unfold Oper.wp
 rcases l w hS with hv|⟨f,args,hv,hc⟩
 ·rw[hv];exact h w hS
 ·rw[hv];refine Kc hc ?_;rintro e w' ⟨rfl,r⟩;exact h w' r
def aeK {j:Nat} {m:Oper} (E:ops[j]? =some m) (t:g.apart ops m=true)
  (C: ∀y b,g.op≠ .select y b) (o: ∀y b,m.op≠ .select y b)
  (B: ∀c a w,Q (.panic c) (a.put g.dst v) w->Q (.panic c) a w)
  (l:pf P ops S g v a) (h:wpOp P ops Q j K (a.put g.dst v) w):
  wpOp P ops Q j (fun s w'=>pf P ops S g v s/\K (s.put g.dst v) w') a w:=by
 obtain⟨A,q,D⟩:=Oper.apart_spec t;have i: ∀(b:Act),pf P ops S g v b-> ∀u,pf P ops S g v (b.put m.dst u):=fun b L u=>
  L.of_same (execOp_put g C b m.dst u D) (wanted_put g b m.dst u D)
 unfold wpOp at*;simp only[E] at*;rw[wanted_put m a g.dst v A] at h;by_cases k:Region.wanted m (yielded ops a.tmps)=true
 ·rw[if_pos k] at h|-
  rcases h with h|⟨hasks,hl⟩
  ·refine .inl ?_;unfold Oper.wp at*;rw[execOp_put m o a g.dst v A] at h;cases p:(execOp a.eval m).run P w with
   |ok n w'=>
    rw[p] at h;cases n with
    |value u=>exact⟨i a l u,by rw[<-rA a v u q];exact h⟩
    |skip=>exact⟨i a l _,by rw[<-rA a v undef q];exact h⟩
    |defer d=>
     refine⟨i {a with defers:=d::a.defers} (l.of_same rfl rfl) _,?_⟩;rw[<-rA _ v undef q,<-Act.put_defers];exact h
    |enter f args=>
     refine Kc h fun e F z=>?_;cases e with
     |returned u=>exact⟨i a l u,by rw[<-rA a v u q];exact z⟩
     |panicked c=>exact B _ _ _ z
     |outgrown=>exact z
    |row r args=>exact Rows.mono h fun u F z=>⟨i a l u,by rw[<-rA a v u q];exact z⟩
    |_=>exact h
   |halt x w'=>
    rw[p] at h;cases x with
    |panic u=>exact B _ _ _ h
    |_=>exact h
  ·exact .inr ⟨by unfold Oper.asks at*;rw[execOp_put m o a g.dst v A] at hasks;exact hasks,hl⟩
 ·rw[if_neg k] at h|-
  exact⟨i a l _,by rw[<-rA a v undef q];exact h⟩
def ny (P:Program) (ops:Array Oper) (Q:Exit->Act->World->Prop) (S:World->Prop):Nat->Array Bool->Act->Prop
 |0,listed,a=>Region.ready .any ops listed=[]/\ ∀w,S w->Q .normal a w
 |n+1,listed,a=>(Region.ready .any ops listed=[]-> ∀w,S w->Q .normal a w)/\
  ∀i∈Region.ready .any ops listed,∀w,S w->wpOp P ops Q i (fun s w'=>S w'/\ny P ops Q S n (listed.setIfInBounds i true) s) a w
def acF: ∀(n:Nat) (listed:Array Bool) (a:Act),ny P ops Q S n listed a-> ∀w,S w->wpAny P .any ops Q n listed a w
 |0,_,_,h,w,hS=>⟨h.1,h.2 w hS⟩
 |n+1,_,_,h,w,hS=>⟨fun p=>h.1 p w hS,fun i d=>wpOp_mono (fun s w' b=>acF n _ s b.2 w' b.1) (h.2 i d w hS)⟩
def Ra (d:ops[i]? =some g) (x: ∀(j:Nat) (o:Oper) y b,ops[j]? =some o->o.op≠ .select y b)
  (B: ∀c a w,Q (.panic c) (a.put g.dst v) w->Q (.panic c) a w):
  ∀(n:Nat) (listed:Array Bool) (a:Act),
   (∀j m,ops[j]? =some m->j≠i->listed.getD j true=false->(∀e∈m.after,Region.binds .any e=true->e.on≠i)->g.apart ops m=true)->
   i∈Region.ready .any ops listed->pf P ops S g v a->
   ny P ops Q S n (listed.setIfInBounds i true) (a.put g.dst v)->ny P ops Q S (n+1) listed a:=by
 intro n
 induction n with
 |zero=>
  intro listed a _ p l H;refine⟨fun h=>absurd p (by rw[h];simp),fun j E w hS=>?_⟩;by_cases f:j=i
  ·subst f;exact l.op d hS fun w' r=>⟨r,H⟩
  ·have A:=ready_mono E f;rw[H.1] at A;cases A
 |succ n ih=>
  intro listed a t p l H;refine⟨fun h=>absurd p (by rw[h];simp),fun j E w hS=>?_⟩;by_cases f:j=i
  ·subst f;exact l.op d hS fun w' r=>⟨r,H⟩
  ·have A:=H.2 j (ready_mono E f) w hS;obtain⟨u,m,C,F⟩:=mem_ready.1 E;have R:=(mem_ready.1 p).1;have I: ∀e∈m.after,Region.binds .any e=true->e.on≠i:=fun e z L K=>by
    have q:=F e z L;rw[K] at q
    rcases iU i listed.size with h'|h'
    ·simp[h'] at R q;rw[R] at q;cases q
    ·simp[Xi h'] at q
   have q:=aeK C (t j m C f u I) (fun y b=>x i g y b d) (fun y b=>x j m y b C) B l A;refine wpOp_mono (fun s w' D=>?_) q;have O:=ready_mono p (jN f);refine⟨D.2.1,ih (listed.setIfInBounds j true) s (fun k U T M J N=>?_) O D.1 ?_⟩
   ·refine t k U T M ?_ N;by_cases G:j=k
    ·subst G;exact u
    ·rw[getD_set_ne true G] at J;exact J
   ·rw[yo _ _ f];exact D.2.2
def adN (i:Nat) (d:ops[i]? =some g)
  (j:Region.noSelect ops=true) (b:Region.free .any ops listed i=true) (p:(Region.ready .any ops listed).contains i=true)
  (B: ∀c a w,Q (.panic c) (a.put g.dst v) w->Q (.panic c) a w) (k:Region.wanted g (yielded ops a.tmps)=true)
  (l: ∀w,S w->(execOp a.eval g).run P w=.ok (.value v) w)
  (h:ny P ops Q S n (listed.setIfInBounds i true) (a.put g.dst v)):ny P ops Q S (n+1) listed a:=
 Ra d (acT j) B n listed a (aaq d b) (by simpa using p) (.inl ⟨k,fun w k=>.inl (l w k)⟩) h
def adL (i:Nat) {f:FuncId} {args:Array Value} (d:ops[i]? =some g)
  (j:Region.noSelect ops=true) (b:Region.free .any ops listed i=true) (p:(Region.ready .any ops listed).contains i=true)
  (B: ∀c a w,Q (.panic c) (a.put g.dst v) w->Q (.panic c) a w) (k:Region.wanted g (yielded ops a.tmps)=true)
  (l: ∀w,(execOp a.eval g).run P w=.ok (.enter f args) w) (m: ∀w,S w->Calls P f args w fun e w'=>e=.returned v/\S w')
  (h:ny P ops Q S n (listed.setIfInBounds i true) (a.put g.dst v)):ny P ops Q S (n+1) listed a:=
 Ra d (acT j) B n listed a (aaq d b) (by simpa using p) (.inl ⟨k,fun w k=>.inr ⟨f,args,l w,m w k⟩⟩) h
def adM (p:Region.ready .any ops listed=[]) (h: ∀w,S w->Q .normal a w):ny P ops Q S n listed a:=by
 cases n with
 |zero=>exact⟨p,h⟩
 |succ n=>exact⟨fun _=>h,(fun i d=>by rw[p] at d;cases d)⟩
def adP (S:World->Prop) {id:Nat} (b:P.follows .mixedOrders=true) (hS:S w.drew)
  (h:ny P ops Q S ops.size (Array.replicate ops.size false) a):(Code.region id ops true).wp P Q a w:=
 wp_region_any b (acF _ _ _ h w.drew hS)
end
end
section
variable {W:List Nat} {d:Oper} {id:Nat}
section
def il (P:Program) (ops:Array Oper) (Q:Exit->Act->World->Prop) (S:World->Prop) (late:List Nat):Nat->Array Bool->Act->World->Prop
 |0,listed,a,w=>Region.ready .any ops listed=[]/\Q .normal a w
 |n+1,listed,a,w=>(Region.ready .any ops listed=[]->Q .normal a w)/\
  ∀i∈Region.ready .any ops listed,wpOp P ops Q i (fun s w'=>(late.contains i=false->S w')/\il P ops Q S late n (listed.setIfInBounds i true) s w') a w
def vc: ∀(n:Nat) (listed:Array Bool) (a:Act) (w:World),il P ops Q S late n listed a w->wpAny P .any ops Q n listed a w
 |0,_,_,_,h=>h
 |n+1,_,_,_,h=>⟨h.1,fun i l=>wpOp_mono (fun s w' b=>vc n _ s w' b.2) (h.2 i l)⟩
def JU (ops:Array Oper) (i:Nat) (W:List Nat):Bool:=
 W.all fun k=>match ops[k]? with
  |some o=>o.after.toList.any fun e=>Region.binds .any e&&(e.on==i||W.contains e.on)
  |none=>true
def AV (h:JU ops i W=true) (l:listed.getD i true=false) (hW: ∀k∈W,listed.getD k true=false) {k:Nat} (y:k∈W):k∉Region.ready .any ops listed:=by
 intro g;obtain⟨D,o,b,t⟩:=mem_ready.1 g;have p:=dT.1 h k y;simp only[b,List.any_eq_true,a6,hU,beq_iff_eq] at p;obtain⟨e,R,O,a⟩:=p;have f:=t e (DW.1 R) O;have r:listed.getD e.on true=false:=by
  rcases a with h4|h4
  ·rw[h4];exact l
  ·exact hW _ (by simpa using h4)
 rcases iU e.on listed.size with h'|h'
 ·simp[h'] at f r;rw[f] at r;cases r
 ·simp[Xi h'] at r
def xk (ops:Array Oper) (i:Nat):List Nat:=
 (List.range ops.size).foldl (fun W k=>match ops[k]? with
  |some o=>if o.after.toList.any fun e=>Region.binds .any e&&(e.on==i||W.contains e.on) then W++[k] else W
  |none=>W) []
def zy (l:ops[i]? =some d) (z: ∀(j:Nat) (o:Oper) I b,ops[j]? =some o->o.op≠ .select I b)
  (N: ∀c a w,Q (.panic c) (a.put d.dst v) w->Q (.panic c) a w) (E:JU ops i W=true) (B: ∀j,late.contains j=true->j∈W):
  ∀(n:Nat) (listed:Array Bool) (a:Act) (w:World),
   (∀k∈W,listed.getD k true=false)->
   (∀j F,ops[j]? =some F->j≠i->listed.getD j true=false->(∀e∈F.after,Region.binds .any e=true->e.on≠i)->d.apart ops F=true)->
   i∈Region.ready .any ops listed->qt P ops S d v a->S w->
   il P ops Q S late n (listed.setIfInBounds i true) (a.put d.dst v) w->il P ops Q S late (n+1) listed a w:=by
 intro n
 induction n with
 |zero=>
  intro listed a w _ _ g G hS H;refine⟨fun h=>absurd g (by rw[h];simp),fun j q=>?_⟩;by_cases m:j=i
  ·subst m;exact G.op l hS ⟨fun _=>hS,H⟩
  ·have p:=ready_mono q m;rw[H.1] at p;cases p
 |succ n ih=>
  intro listed a w hW u g G hS H;have A:=(mem_ready.1 g).1;refine⟨fun h=>absurd g (by rw[h];simp),fun j q=>?_⟩;by_cases m:j=i
  ·subst m;exact G.op l hS ⟨fun _=>hS,H⟩
  ·have p:=H.2 j (ready_mono q m);obtain⟨x,F,C,t⟩:=mem_ready.1 q;have M: ∀e∈F.after,Region.binds .any e=true->e.on≠i:=fun e R O T=>by
    have f:=t e R O;rw[T] at f
    rcases iU i listed.size with h'|h'
    ·simp[h'] at A f;rw[A] at f;cases f
    ·simp[Xi h'] at f
   have f:=Pq C (u j F C m x M) (fun I b=>z i d I b l) (fun I b=>z j F I b C) N G p;refine wpOp_mono (fun s w' r=>?_) f;have Y:=ready_mono g (jN m);have K:j∉W:=fun h=>absurd q (AV E A hW h);have V:late.contains j=false:=by rw[J5];intro h;exact K (B j h)
   have J:S w':=r.2.1 V;refine⟨fun _=>J,ih (listed.setIfInBounds j true) s w' (fun k y=>?_) (fun k Z y U D X=>?_) Y r.1 J ?_⟩
   ·rw[getD_set_ne true (show j≠k from fun e=>K (by rw[e];exact y))];exact hW k y
   ·refine u k Z y U ?_ X;by_cases L:j=k
    ·subst L;exact x
    ·rw[getD_set_ne true L] at D;exact D
   ·rw[yo _ _ m];exact r.2.2
def sT (ops:Array Oper) (late:List Nat) (listed:Array Bool) (i:Nat):Bool:=
 Region.noSelect ops&&Region.free .any ops listed i&&(Region.ready .any ops listed).contains i&&JU ops i (xk ops i)&&late.all (fun j=>(xk ops i).contains j)&&(xk ops i).all (fun k=> !listed.getD k true)
def DI (h:sT ops late listed i=true):Region.noSelect ops=true/\Region.free .any ops listed i=true/\(Region.ready .any ops listed).contains i=true/\JU ops i (xk ops i)=true/\(∀j,late.contains j=true->j∈xk ops i)/\ ∀k∈xk ops i,listed.getD k true=false:=by
 unfold sT at h;simp only[a6] at h;obtain⟨⟨⟨⟨⟨p,f⟩,r⟩,e⟩,g⟩,m⟩:=h;refine⟨p,f,r,e,fun j q=>?_,fun k y=>?_⟩
 ·have:=dT.1 g j (by simpa using q);simpa using this
 ·have:=dT.1 m k y;simpa using this
def lZ (i:Nat) (l:ops[i]? =some d) (j:sT ops late listed i=true)
  (N: ∀c a w,Q (.panic c) (a.put d.dst v) w->Q (.panic c) a w) (b:Region.wanted d (yielded ops a.tmps)=true)
  (G: ∀w,S w->(execOp a.eval d).run P w=.ok (.value v) w) (hS:S w)
  (h:il P ops Q S late n (listed.setIfInBounds i true) (a.put d.dst v) w):il P ops Q S late (n+1) listed a w:=
 have⟨p,f,r,e,g,m⟩:=DI j
 zy l (acT p) N e g n listed a w m (aaq l f) (by simpa using r) (.inl ⟨b,fun w b=>.inl (G w b)⟩) hS h
def DO (i:Nat) (l:ops[i]? =some d) (g:Region.ready .any ops listed=[i])
  (b:Region.wanted d (yielded ops a.tmps)=true)
  (h: ∀K:Act->World->Prop,RowKit.Hid (∀s w',S w'->il P ops Q S late n (listed.setIfInBounds i true) s w'->K s w')->d.wp P a w K Q):il P ops Q S late (n+1) listed a w:=by
 refine⟨(fun A=>by rw[A] at g;cases g),fun j q=>?_⟩;rw[g] at q;obtain rfl:j=i:=by simpa using q
 unfold wpOp;simp only[l,b,if_true];exact .inl (h _ fun _ _ p f=>⟨fun _=>p,f⟩)
def JX (i:Nat) (l:ops[i]? =some d) (g:Region.ready .any ops listed=[i]) (V:late.contains i=true)
  (b:Region.wanted d (yielded ops a.tmps)=true)
  (h: ∀K:Act->World->Prop,RowKit.Hid (∀s w',il P ops Q S late n (listed.setIfInBounds i true) s w'->K s w')->d.wp P a w K Q):il P ops Q S late (n+1) listed a w:=by
 refine⟨(fun A=>by rw[A] at g;cases g),fun j q=>?_⟩;rw[g] at q;obtain rfl:j=i:=by simpa using q
 unfold wpOp;simp only[l,b,if_true];exact .inl (h _ fun _ _ f=>⟨(fun h=>by rw[V] at h;cases h),f⟩)
def qi (g:Region.ready .any ops listed=[]) (h:Q .normal a w):il P ops Q S late n listed a w:=by
 cases n with
 |zero=>exact⟨g,h⟩
 |succ n=>exact⟨fun _=>h,(fun i l=>by rw[g] at l;cases l)⟩
def J1 (S:World->Prop) (late:List Nat) (b:P.follows .mixedOrders=true) (hS:S w.drew)
  (h:S w.drew->il P ops Q S late ops.size (Array.replicate ops.size false) a w.drew):(Code.region id ops true).wp P Q a w:=
 wp_region_any b (vc _ _ _ _ (h hS))
def oB (Q:Exit->Act->World->Prop):Exit->Act->World->Prop
 | .normal,a,w=>Q .normal a w
 |_,_,_=>False
def x9 (e:Exit) (a:Act) (w:World) (h:oB Q e a w):Q e a w:=by
 cases e with
 |normal=>exact h
 |_=>exact h.elim
def rL (S:World->Prop) (late:List Nat) (b:P.follows .mixedOrders=true) (hS:S w.drew)
  (h:S w.drew->il P ops (oB Q) S late ops.size (Array.replicate ops.size false) a w.drew):(Code.region id ops true).wp P Q a w:=
 wp_mono (J1 (Q:=oB Q) S late b hS h) x9
end
end
section
variable {f:List Oper}
section
def oZ {o:Oper} (h:o.guard=none) (f:Nat->Option Bool):Region.wanted o f=true:=by simp[Region.wanted,h]
def pO {α:Type} {l:Array α} {i:Nat} {x:α} {r:List α} (h:l.toList.drop i=x::r):l[i]? =some x:=by have:=congrArg List.head? h;rw[List.head?_drop,PA] at this;simpa using this
def ki (i:Nat) {v:Value} (e:ops.toList.drop i=b::f) (d:b.guard=none) (j:sT ops late listed i=true)
  (g: ∀c a w,Q (.panic c) (a.put b.dst v) w->Q (.panic c) a w)
  (k: ∀w,S w->(execOp a.eval b).run P w=.ok (.value v) w) (hS:S w)
  (h:il P ops Q S late n (listed.setIfInBounds i true) (a.put b.dst v) w):il P ops Q S late (n+1) listed a w:=
 lZ i (pO e) j g (oZ d _) k hS h
def vU (i:Nat) (e:ops.toList.drop i=b::f) (d:b.guard=none) (g:Region.ready .any ops listed=[i])
  (h: ∀K:Act->World->Prop,RowKit.Hid (∀c w',S w'->il P ops Q S late n (listed.setIfInBounds i true) c w'->K c w')->b.wp P a w K Q):il P ops Q S late (n+1) listed a w:=
 DO i (pO e) g (oZ d _) h
def G0 (i:Nat) (e:ops.toList.drop i=b::f) (d:b.guard=none) (g:Region.ready .any ops listed=[i]) (j:late.contains i=true)
  (h: ∀K:Act->World->Prop,RowKit.Hid (∀c w',il P ops Q S late n (listed.setIfInBounds i true) c w'->K c w')->b.wp P a w K Q):il P ops Q S late (n+1) listed a w:=
 JX i (pO e) g j (oZ d _) h
end
end
namespace lJ
def bits (s:Nat):List Int:=(List.range 64).map fun d=>((s/2^d%2:Nat):Int)
def sq (s:Nat):(bits s).length=64:=by simp[bits]
def vz (s d:Nat) (h:d<64):(bits s)[d]? =some ((s/2^d%2:Nat):Int):=by simp[bits,h]
def has (s:Nat) (d:Int):Bool:=decide (0<=d)&&decide (d<=63)&&decide (s/2^d.toNat%2=1)
def days (s:Nat) (a:Int):List Int:=((List.range 64).map Int.ofNat).filter fun d=>decide (a<=d)&&has s d
def next (s:Nat) (d:Int):Int:=(days s d).headD (-1)
def BT (s:Nat) (d:Int) (k:Nat):List Int:=((List.range k).map Int.ofNat).filter fun x=>decide (d<=x)&&has s x
def NK (s:Nat) (d:Int):days s d=BT s d 64:=rfl
def Pe (s:Nat) (d:Int) (k:Nat) (h:d<=k):BT s d (k+1)=BT s d k++if has s k then [(k:Int)] else []:=by unfold BT;rw[aeL,gJ,nu];congr 1;simp only[gN,lG,Mo,List.filter_nil];rw[show Int.ofNat k=(k:Int) from rfl];simp[h]
def DN (s:Nat) (d:Int) (k:Nat) (h:(k:Int)<=d\/k=0):BT s d k=[]:=by unfold BT;rw[AW];intro x a;obtain⟨y,b,rfl⟩:=cy.1 a;have:=jz.1 b;have e: ¬d<=(y:Int):=oG;simp[e]
def SH (s:Nat) (d:Int) (k:Nat):(BT s d k).length<=k:=eZ (tQ _ _) sI
def first(d:Int) (l:List Int):Int:=(l.filter fun z=>decide (d<=z)).headD (-1)
end lJ
namespace jm
structure kc where
 kind:Int
 iL:Int
 jC:List Nat
 jU:Int
 size:Int
 start:Int
 lR:Int
 hold:Int
structure fS where
 days:Int
 mm:Int
 cap:Int
 len:Int
 eB:List kc
 gn:List (List Int)
def tq (z:Int):Prop:= -9223372036854775808<=z/\z<=9223372036854775807
def kc.wf (c:kc):Prop:=tq c.kind/\tq c.iL/\(∀s∈c.jC,s<18446744073709551616)/\tq c.jU/\tq c.size/\tq c.start/\tq c.lR/\tq c.hold
def fS.wf (x:fS):Prop:=tq x.days/\tq x.mm/\tq x.cap/\tq x.len/\(∀c∈x.eB,c.wf)/\(∀r∈x.gn,∀z∈r,tq z)
variable {x:fS}
def gP (n b a:Int):Bool:=decide (b<=n)&&decide (n<=a)
def kl (l:List Nat) (days:Int):Bool:=l.all (fun p=>decide (lJ.next p days<0))&&gP l 1 64
def wT (c:kc):Bool:=c.jU==0&&c.size==0&&c.start==0&&c.lR==0&&c.hold==0
def Du (c:kc):Bool:=c.lR==1||c.lR==2
def qH (c:kc):Bool:=decide (c.jC.length=0)&&c.iL==0
def Dh (c:kc) (days:Int):List Bool:=[gP c.iL 1 2147483648,kl c.jC days,wT c]
def xW (c:kc):List Bool:=[gP c.jU 0 2147483648,gP c.size 1 2147483648,gP c.start 0 c.size,Du c,gP c.hold 0 1024,qH c]
def jT (c:kc) (days:Int):Bool:=
 if c.kind=1 then(Dh c days).all id else if c.kind=2 then(xW c).all id else false
def vP (a b:Nat) (r:List Int):Bool:=decide (r.length=b)&&decide (r[a]?.getD 0=0)&&r.all fun d=>gP d 0 2147483648
def mU (b:Nat):Nat->List (List Int)->Bool
 |_,[]=>true
 |a,r::t=>vP a b r&&mU b (a+1) t
def pq (d:List (List Int)) (b:Nat):Bool:=decide (d.length=b)&&mU b 0 d
def may (x:fS):Bool:=
 gP x.days 1 64&&decide (x.eB.length<=2000)&&gP x.mm 0 2147483648&&gP x.cap 0 2147483648&&gP x.len 0 2147483648&&
 x.eB.all (fun c=>jT c x.days)&&pq x.gn (x.eB+1)
def Od (x:fS):Int:=if may x then 0 else 3
def Rx (h:may x=true):Od x=0:=by rw[Od,h];rfl
def AD (h:may x=false):Od x=3:=by rw[Od,h];rfl
def sm (d:List (List Int)) (a b:Int):Int:=if a<0\/b<0 then 0 else((d[a.toNat]?.getD [])[b.toNat]?).getD 0
end jm
namespace ue
def oy (c:UInt8):Bool:=decide (33<=c.toNat)&&decide (c.toNat<=126)
def isWord (w:List UInt8):Bool:= !w.isEmpty&&w.all oy
def scan (d:List (List (List UInt8))) (f:List (List UInt8)) (b:List UInt8):List UInt8->Option (List (List (List UInt8)))
 | []=>if b=[]/\f=[] then some d else none
 |c::t=>if c≠32/\c≠10 then(if oy c then scan d f (b++[c]) t else none)
  else if b=[] then none else if c=10 then scan (d++[f++[b]]) [] [] t else scan d (f++[b]) [] t
def nH (t:List UInt8):Option (List (List (List UInt8))):=scan [] [] [] t
def pieces (b:UInt8):List UInt8->List (List UInt8)
 | []=>[[]]
 |c::t=>if c=b then []::pieces b t else match pieces b t with
  | []=>[[c]]
  |h::r=>(c::h)::r
def wI (b:UInt8): ∀t,pieces b t≠[]
 | []=>by simp[pieces]
 |c::t=>by
  rw[pieces];split
  ·simp
  ·cases h:pieces b t with
   |nil=>simp
   |cons h r=>simp
def pre (b:List UInt8):List (List UInt8)->List (List UInt8)
 | []=>[b]
 |h::r=>(b++h)::r
def MW (a b:List UInt8) (l:List (List UInt8)):pre a (pre b l)=pre (a++b) l:=by cases l <;>simp[pre]
def pre_nil (l:List (List UInt8)) (h:l≠[]):pre [] l=l:=by
 cases l with
 |nil=>exact absurd rfl h
 |cons a t=>rfl
def sx (b c:UInt8) (t:List UInt8) (h:c≠b):pieces b (c::t)=pre [c] (pieces b t):=by rw[pieces,if_neg h];cases pieces b t <;>rfl
def Dl {c:UInt8} (h:oy c=true):c≠32/\c≠10:=by constructor <;>(intro e;subst e;revert h;decide)
def sG {b:List UInt8} (h:b.all oy=true):isWord b=true↔b≠[]:=by
 cases b with
 |nil=>simp[isWord]
 |cons a t=>simp[isWord,h]
def wN (rest:List UInt8): ∀(f:List UInt8) (d:List (List (List UInt8))) (l:List (List UInt8)) (b:List UInt8),(10:UInt8)∉f->b.all oy=true->
  scan d l b (f++10::rest)=if (pre b (pieces 32 f)).all isWord then scan (d++[l++pre b (pieces 32 f)]) [] [] rest else none
 | [],d,l,b,_,hc=>by
  have h:=sG hc;show scan d l b (10::rest)=_;rw[scan,if_neg dE];simp only[pieces,pre,mz,eR,lF,kF];by_cases e:b=[]
  ·rw[if_pos e,if_neg (fun j=>h.1 j e)]
  ·rw[if_neg e,if_pos (h.2 e)];simp
 |c::t,d,l,b,hn,hc=>by
  have i:(10:UInt8)∉t:=fun h=>hn (by simp[h]);have g:c≠10:=fun h=>hn (by simp[h]);rw[fY,scan];by_cases e:c=32
  ·subst e;rw[if_neg sI];have k:pieces 32 (32::t)=[]::pieces 32 t:=by rw[pieces,if_pos rfl]
   rw[k];have h:=sG hc;have n:pre b ([]::pieces 32 t)=b::pieces 32 t:=by simp[pre]
   rw[n,eR];by_cases e:b=[]
   ·rw[if_pos e,if_neg];intro j;simp only[a6] at j;exact h.1 j.1 e
   ·rw[if_neg e,if_neg dE,wN rest t d (l++[b]) [] i rfl,pre_nil _ (wI _ _),h.2 e,kh];simp
  ·rw[if_pos ⟨e,g⟩,sx _ _ _ e];by_cases m:oy c=true
   ·rw[if_pos m,wN rest t d l (b++[c]) i (by simp[hc,m]),MW]
   ·rw[if_neg m,if_neg];intro j;have o:pre b (pre [c] (pieces 32 t))=pre (b++[c]) (pieces 32 t):=MW _ _ _;rw[o] at j;cases k:pieces 32 t with
    |nil=>exact wI _ _ k
    |cons a r=>
     rw[k] at j;simp only[pre,eR,isWord,a6,my] at j
     simp_all
def TE: ∀(f:List UInt8) (d:List (List (List UInt8))) (l:List (List UInt8)) (b:List UInt8),(10:UInt8)∉f->(f≠[]\/l≠[]\/b≠[])->scan d l b f=none
 | [],d,l,b,_,h=>by rw[scan,if_neg];rintro⟨rfl,rfl⟩;simp at h
 |c::t,d,l,b,hn,_=>by
  have i:(10:UInt8)∉t:=fun h=>hn (by simp[h]);have g:c≠10:=fun h=>hn (by simp[h]);rw[scan];by_cases e:c=32
  ·subst e;rw[if_neg sI];by_cases e:b=[]
   ·rw[if_pos e]
   ·rw[if_neg e,if_neg dE];exact TE t d _ _ i (.inr (.inl sI))
  ·rw[if_pos ⟨e,g⟩];split
   ·exact TE t d _ _ i (.inr (.inr sI))
   ·rfl
def jw (b:UInt8):List (List UInt8)->List UInt8
 | []=>[]
 | [w]=>w
 |w::v::t=>w++b::jw b (v::t)
def kx (f:List (List UInt8)):List UInt8:=jw 32 f++[10]
def AK (b:UInt8): ∀(w:List UInt8),b∉w->pieces b w=[w]
 | [],_=>rfl
 |c::t,h=>by rw[pieces,if_neg (fun e=>h (by simp[e])),AK b t (fun e=>h (by simp[e]))]
def vO (b:UInt8): ∀(w t:List UInt8),b∉w->pieces b (w++b::t)=w::pieces b t
 | [],t,_=>by show pieces b (b::t)=_;rw[pieces,if_pos rfl]
 |c::w,t,h=>by rw[fY,pieces,if_neg (fun e=>h (by simp[e])),vO b w t (fun e=>h (by simp[e]))]
def Bq (b:UInt8): ∀(f:List (List UInt8)),f≠[]->(∀w∈f,b∉w)->pieces b (jw b f)=f
 | [],h,_=>absurd rfl h
 | [w],_,h=>by rw[jw,AK b w (h w sI)]
 |w::v::t,_,h=>by rw[jw,vO b w _ (h w sI),Bq b (v::t) sI (fun x a=>h x (by simp[a]))]
def St {w:List UInt8} (h:isWord w=true):(32:UInt8)∉w/\(10:UInt8)∉w:=by simp only[isWord,a6,dT] at h;exact⟨fun e=>(Dl (h.2 _ e)).1 rfl,fun e=>(Dl (h.2 _ e)).2 rfl⟩
def IB: ∀(f:List (List UInt8)),(∀w∈f,isWord w=true)->(10:UInt8)∉jw 32 f
 | [],_=>by simp[jw]
 | [w],h=>by rw[jw];exact(St (h w sI)).2
 |w::v::t,h=>by
  rw[jw,fO,fC];rintro(e|e|e)
  ·exact(St (h w sI)).2 e
  ·revert e;decide
  ·exact IB (v::t) (fun x a=>h x (by simp[a])) e
def LO (f:List (List UInt8)) (d:List (List (List UInt8))) (rest:List UInt8) (a:f≠[]) (i: ∀w∈f,isWord w=true):scan d [] [] (kx f++rest)=scan (d++[f]) [] [] rest:=by have k:=Bq 32 f a (fun w h=>(St (i w h)).1);rw[kx,eT];show scan d [] [] (jw 32 f++10::rest)=_;rw[wN rest _ d [] [] (IB f i) rfl,k,pre_nil _ a,if_pos (dT.2 i),gQ]
def Gg (L:List (List (List UInt8))) (h: ∀f∈L,f≠[]/\ ∀w∈f,isWord w=true):nH (L.flatMap kx)=some L:=by
 have: ∀(L d:List (List (List UInt8))),(∀f∈L,f≠[]/\ ∀w∈f,isWord w=true)->scan d [] [] (L.flatMap kx)=some (d++L):=by
  intro L
  induction L with
  |nil=>intro d _;simp[scan]
  |cons f L ih=>
   intro d h;rw[gG,LO f d _ (h f sI).1 (h f sI).2,ih _ (fun x a=>h x (by simp[a]))];simp
 exact this L [] h
def xo (l:List (List UInt8)) (b:List UInt8):List UInt8:=(l.flatMap fun w=>w++[32])++b
def CZ: ∀(l:List (List UInt8)) (b:List UInt8),kx (l++[b])=xo l b++[10]
 | [],b=>by simp[kx,jw,xo]
 | [w],b=>by simp[kx,jw,xo]
 |w::v::t,b=>by
  have:=CZ (v::t) b;simp only[kx,xo,fY,jw,gG] at this|-
  simp at this|-
  exact this
def wM: ∀(t:List UInt8) (d a:List (List (List UInt8))) (l:List (List UInt8)) (b:List UInt8),scan d l b t=some a->(∀f∈d,f≠[]/\ ∀w∈f,isWord w=true)->(∀w∈l,isWord w=true)->b.all oy=true->
  a.flatMap kx=d.flatMap kx++xo l b++t/\ ∀f∈a,f≠[]/\ ∀w∈f,isWord w=true
 | [],d,a,l,b,h,ho,_,_=>by
  rw[scan] at h;split at h
  ·rename_i e;obtain⟨rfl,rfl⟩:=e;injection h with h
   subst h;exact⟨by simp[xo],ho⟩
  ·cases h
 |c::t,d,a,l,b,h,ho,hl,hc=>by
  rw[scan] at h;split at h
  ·split at h
   ·rename_i e;have:=wM t d a l (b++[c]) h ho hl (by simp[hc,e]);refine⟨?_,this.2⟩;rw[this.1];simp[xo]
   ·cases h
  ·rename_i e;split at h
   ·cases h
   ·rename_i k;have i:isWord b=true:=(sG hc).2 k;split at h
    ·rename_i e;subst e;have:=wM t (d++[l++[b]]) a [] [] h (fun f m=>by
      rcases fO.1 m with h|h
      ·exact ho f h
      ·obtain rfl:f=l++[b]:=by simpa using h
       refine⟨by simp,fun w g=>?_⟩
       rcases fO.1 g with h|h
       ·exact hl w h
       ·obtain rfl:w=b:=by simpa using h
        exact i) sI rfl
     refine⟨?_,this.2⟩;rw[this.1,fU,gG,List.flatMap_nil,mz,CZ];simp[xo]
    ·have j:c=32:=by
      by_cases h:c=32
      ·exact h
      ·exact absurd ⟨h,by assumption⟩ e
     subst j;have:=wM t d a (l++[b]) [] h ho (fun w g=>by
      rcases fO.1 g with h|h
      ·exact hl w h
      ·obtain rfl:w=b:=by simpa using h
       exact i) rfl
     refine⟨?_,this.2⟩;rw[this.1];simp[xo]
def Bm {t:List UInt8} {a:List (List (List UInt8))} (h:nH t=some a):a.flatMap kx=t/\ ∀f∈a,f≠[]/\ ∀w∈f,isWord w=true:=by have:=wM t [] a [] [] h sI sI rfl;simpa[xo] using this
end ue
namespace ue
variable {c:UInt8} {d:Nat} {l:List UInt8} {n:Int}
def qT (c:UInt8):Bool:=decide (48<=c.toNat)&&decide (c.toNat<=57)
@[irreducible] def stepV (n:Nat) (c:UInt8):Nat:=10*n+(c.toNat-48)
def yk (n:Nat) (l:List UInt8):Nat:=l.foldl stepV n
def isNum (l:List UInt8):Bool:= !l.isEmpty&&l.all qT&& !(l.head?==some 48&&decide (1<l.length))
def RE (l:List UInt8):Option Nat:=if isNum l then some (if 18<l.length then 1000000000000000000 else yk 0 l) else none
@[irreducible] def rU (n:Nat) (c:UInt8):Nat:=if 100000000000000000<=n then 1000000000000000000 else n*10+(c.toNat-48)
def mM (n:Nat) (l:List UInt8):Nat:=l.foldl rU n
def xH (n:Nat):mM n []=n:=rfl
def oM (n:Nat) (c:UInt8) (t:List UInt8):mM n (c::t)=mM (rU n c) t:=by unfold mM;exact rM ..
def Sf (n:Nat) (c:UInt8):stepV n c=10*n+(c.toNat-48):=by unfold stepV;exact Eq.refl _
def zu (n:Nat):yk n []=n:=rfl
def Ma (n:Nat) (c:UInt8) (t:List UInt8):yk n (c::t)=yk (stepV n c) t:=by unfold yk;exact rM ..
def GU (n:Nat) (c:UInt8) (t:List UInt8) (m:Nat) (h:stepV n c=m):yk n (c::t)=yk m t:=by subst h;exact Ma n c t
def sf (n:Nat) (c:UInt8) (t:List UInt8):yk n (c::t)=yk (10*n+(c.toNat-48)) t:=GU n c t _ (Sf n c)
def Wr: ∀(l:List UInt8) (n:Nat) (c:UInt8),mM n (l++[c])=rU (mM n l) c
 | [],n,c=>by rw[gQ,oM,xH,xH]
 |d::l,n,c=>by rw[fY,oM,Wr l,oM]
def FB: ∀(l:List UInt8) (n:Nat) (c:UInt8),yk n (l++[c])=10*yk n l+(c.toNat-48)
 | [],n,c=>by rw[gQ,sf,zu,zu]
 |d::l,n,c=>by rw[fY,sf,FB l,sf]
def yN (h:qT c=true):48<=c.toNat/\c.toNat<=57:=by simpa[qT] using h
def EF: ∀(l:List UInt8) (n:Nat),l.all qT=true->n<=1000000000000000000->mM n l<=1000000000000000000
 | [],n,_,h=>h
 |c::t,n,h,hn=>by simp only[eR,a6] at h;have d:=yN h.1;rw[oM];refine EF t _ h.2 ?_;unfold rU;split <;>omega
def Cw: ∀(l:List UInt8),mM 1000000000000000000 l=1000000000000000000
 | []=>rfl
 |c::t=>by rw[oM,rU,if_pos oG,Cw t]
def Dp {a b:Nat} (h:a<=b):10^a<=10^b:=jk oG h
def Cy: ∀(t:List UInt8) (n j:Nat),t.all qT=true->10^j<=n->n<10^(j+1)->j<=17->mM n t=if 18<j+1+t.length then 1000000000000000000 else yk n t
 | [],n,j,_,_,_,hj=>by rw[if_neg sO,xH,zu]
 |c::t,n,j,h,h1,h2,hj=>by
  simp only[eR,a6] at h;have d:=yN h.1;rw[oM,sf,ff,rU];by_cases e:j=17
  ·subst e;rw[if_pos (by simpa using h1),Cw,if_pos oG]
  ·have b:10^(j+1)<=10^17:=Dp oG;have f:10^(j+1)<=n*10+(c.toNat-48):=by rw[js];omega
   have a:n*10+(c.toNat-48)<10^(j+1+1):=by rw[js 10 (j+1)];omega
   rw[if_neg oG,Cy t _ (j+1) h.2 f a oG,nY n 10];rw[show j+1+1+t.length=j+1+(t.length+1) by omega]
def Kn (h:isNum l=true):mM 0 l=if 18<l.length then 1000000000000000000 else yk 0 l:=by
 cases l with
 |nil=>simp[isNum] at h
 |cons c t=>
  simp only[isNum,eR,a6,acP,ql,PA,ff] at h;obtain⟨⟨_,d,g⟩,i⟩:=h;have d:=yN d;rw[oM,rU,if_neg oG,sf,Nat.mul_zero,vq,gW];by_cases e:c.toNat=48
  ·have f:c=48:=by apply BG.1;rw[e];rfl
   subst f;have:t=[]:=by
    cases t with
    |nil=>rfl
    |cons a b=>simp at i
   subst this;rfl
  ·rw[Cy t _ 0 g oG oG oG,ff,sY t.length]
def RF (h:isNum l=true):RE l=some (mM 0 l):=by rw[RE,if_pos h,Kn h]
def nx (d:Nat):UInt8:=UInt8.ofNat (48+d)
def yI (h:d<10):(nx d).toNat=48+d:=by unfold nx;rw[UInt8.toNat_ofNat_of_lt'];simp[UInt8.size];omega
def Ql (h:d<10):qT (nx d)=true:=by simp[qT,yI h];omega
def qP:Nat->Nat->List UInt8
 |0,_=>[]
 |k+1,n=>if n<10 then [nx n] else qP k (n/10)++[nx (n%10)]
def CC (k n:Nat) (h:n<10):qP (k+1) n=[nx n]:=by rw[qP,if_pos h]
def Kw (k n:Nat) (h:10<=n):qP (k+1) n=qP k (n/10)++[nx (n%10)]:=by rw[qP,if_neg oG]
def dec (n:Nat):List UInt8:=qP 20 n
def iN (n:Int):List UInt8:=if n<0 then 45::dec (-n).toNat else dec n.toNat
def F4: ∀(k n:Nat),n<10^k->1<=k->(qP k n).all qT=true/\yk 0 (qP k n)=n/\1<=(qP k n).length/\(qP k n).length<=k/\n<10^(qP k n).length/\(1<=n->10^((qP k n).length-1)<=n)/\((qP k n).head?=some 48->n=0/\(qP k n).length=1)
 |0,n,_,h=>absurd h oG
 |k+1,n,h,_=>by
  rw[qP];split
  ·rename_i e;refine⟨by simp[Ql e],?_,by simp,by simp,by simpa using e,fun h=>by simpa using h,fun h=>⟨?_,rfl⟩⟩
   ·rw[sf,zu,yI e];omega
   ·simp only[PA,lH] at h;have:=yI e;rw[h] at this;have r:(48:UInt8).toNat=48:=rfl;omega
  ·rename_i e;have s:1<=k:=by
    cases k with
    |zero=>simp at h;omega
    |succ k=>omega
   have t:n/10<10^k:=by rw[js] at h;omega
   obtain⟨g,i,b,p,q,d,j⟩:=F4 k (n/10) t s;have d:=d oG;have f:n%10<10:=oG;have l:(qP k (n/10)++[nx (n%10)]).length=(qP k (n/10)).length+1:=sI;rw[l];refine⟨by simp[g,Ql f],by rw[FB,i,yI f];omega,oG,oG,by rw[js];omega,fun _=>?_,fun h=>?_⟩
   ·obtain⟨m,o⟩: ∃m,(qP k (n/10)).length=m+1:=⟨_,(aco b).symm⟩;rw[o] at d|-
    simp only[G7] at d|-
    rw[js];omega
   ·rw[List.head?_append] at h;cases a:(qP k (n/10)).head? with
    |none=>
     rw[List.head?_eq_none_iff] at a;rw[a] at b;simp at b
    |some c=>
     rw[a] at h;have:=(j (by rw[a];simpa using h)).1;omega
def zZ (n:Nat) (h:n<100000000000000000000):(dec n).all qT=true/\yk 0 (dec n)=n/\1<=(dec n).length/\(dec n).length<=20/\n<10^(dec n).length/\(1<=n->10^((dec n).length-1)<=n)/\((dec n).head?=some 48->n=0/\(dec n).length=1):=
 F4 20 n (by simpa using h) oG
def EI (n:Nat) (h:n<100000000000000000000):isNum (dec n)=true:=by
 obtain⟨g,i,b,p,q,d,j⟩:=zZ n h;simp only[isNum,g,kF];have c:(dec n).isEmpty=false:=by
  cases f:dec n with
  |nil=>rw[f] at b;simp at b
  |cons a t=>rfl
 rw[c];simp only[Bool.not_false,kh,ql,pZ,beq_eq_false_iff_ne,decide_eq_false_iff_not];by_cases e:(dec n).head?=some 48
 ·exact .inr (by have:=(j e).2;omega)
 ·exact .inl e
def Ud (n:Nat) (h:n<=1000000000000000000):RE (dec n)=some n:=by
 obtain⟨g,i,b,p,q,d,j⟩:=zZ n oG;rw[RE,if_pos (EI n oG),i];split
 ·rename_i e;have a:1<=n:=by
   by_cases c:n=0
   ·subst c;have:(dec 0).length=1:=dE;omega
   ·omega
  have k:=d a;have f:10^18<=10^((dec n).length-1):=Dp oG;congr 1;omega
 ·rfl
def RH (h:0<=n) (a:n<=1000000000000000000):RE (iN n)=some n.toNat:=by rw[iN,if_neg oG];exact Ud _ oG
def CR (h:0<=n) (a:n<=9223372036854775807):isNum (iN n)=true:=by rw[iN,if_neg oG];exact EI _ oG
def Ii (h: -9223372036854775808<=n/\n<=9223372036854775807):1<=(iN n).length/\(iN n).length<=21:=by
 unfold iN;split
 ·have:=(zZ (-n).toNat oG).2.2.2.1;simp;omega
 ·have:=zZ n.toNat oG;exact⟨this.2.2.1,oG⟩
def QL (h:qT c=true):oy c=true:=by have:=yN h;simp[oy];omega
def mX (h: -9223372036854775808<=n/\n<=9223372036854775807):isWord (iN n)=true:=by
 have f: ∀m:Nat,m<100000000000000000000->(dec m).all oy=true:=fun m o=>by
  have:=(zZ m o).1;rw[dT] at this|-
  exact fun c d=>QL (this c d)
 have l:=(Ii h).1;have a:(iN n).all oy=true:=by
  unfold iN;split
  ·rw[eR,f _ oG];decide
  ·exact f _ oG
 exact(sG a).2 (fun e=>by rw[e] at l;simp at l)
end ue
namespace ko
open ue
abbrev vg:=Int×Int
abbrev Tr:=List vg
abbrev Dy:=List Tr
abbrev Pl:=List Dy
def ku (i:Nat) (t:Tr):List (Nat×vg):=t.map fun s=>(i,s)
def iP (i:Nat) (d:Dy):List (Nat×vg):=d.flatMap (ku i)
def iZ:Nat->Pl->List (Nat×vg)
 |_,[]=>[]
 |i,d::p=>iP i d++iZ (i+1) p
def nn (p:Pl):List (Nat×vg):=iZ 0 p
structure Small (p:Pl):Prop where
 days:p.length<=8
 acN: ∀d∈p,d.length<=6
 stops: ∀d∈p,∀t∈d,t.length<=8
end ko
namespace jm
end jm
namespace jm
def sc (D:List (List Int)):Int->List Int->Int
 |a,[]=>sm D a 0
 |a,c::t=>sm D a (c+1)+sc D (c+1) t
def Mc (D:List (List Int)):List Int->Int
 | []=>0
 |c::t=>sc D 0 (c::t)
def Kd (D:List (List Int)):Prop:= ∀a b,0<=sm D a b/\sm D a b<=2147483648
end jm
namespace kN
open jm ko
variable {K:Nat} {a t:Tr} {c:kc} {d:Dy} {s:vg} {x:fS}
def xd (n:Nat) (s:vg):Prop:=(0<=s.1/\s.1<n)/\(0<=s.2/\s.2<=2147483648)
def jK (n:Nat) (t:Tr):Prop:= ∀s∈t,xd n s
def yw (d:Dy):Nat:=(d.map fun t=>t.length+1).sum
structure jS (n K:Nat) (d:Dy):Prop where
 st: ∀t∈d,jK n t
 wt:yw d<=K
def jK.jL (n:Nat):jK n []:=fun s h=>by simp at h
def jK.append {b:Tr} (c:jK n a) (d:jK n b):jK n (a++b):=fun s h=>(fO.1 h).elim (c s) (d s)
def jK.one (h:xd n s):jK n [s]:=fun x a=>by simp at a;subst a;exact h
def jK.take (c:jK n a) (k:Nat):jK n (a.take k):=fun s h=>c s (mh h)
def jK.drop (c:jK n a) (k:Nat):jK n (a.drop k):=fun s h=>c s (jj h)
def jK.rev (c:jK n a):jK n a.reverse:=fun s h=>c s (List.mem_reverse.1 h)
def jK.get (c:jK n a) (h:a[i]? =some s):xd n s:=c s (a8 h)
def jK.eB (e:n<=1000000) (c:jK n a): ∀z∈a.map Prod.fst,0<=z/\z<=1000000000:=by intro z d;obtain⟨s,b,rfl⟩:=cy.1 d;have:=c s b;unfold xd at this;omega
def Ni:yw []=0:=rfl
def qM (t:Tr) (d:Dy):yw (t::d)=t.length+1+yw d:=by simp[yw]
def zD (d:Dy) (t:Tr):yw (d++[t])=yw d+(t.length+1):=by simp[yw]
def zC: ∀d:Dy,d.length<=yw d
 | []=>ij _
 |t::d=>by have:=zC d;rw[qM,ff];omega
def Nh: ∀{d:Dy} {t:Tr},t∈d->t.length+1<=yw d
 |a::d,t,h=>by
  rw[qM]
  rcases fC.1 h with rfl|h
  ·omega
  ·have:=Nh h;omega
def uB: ∀(d:Dy) (k:Nat),yw (d.take k)<=yw d
 | [],k=>by simp
 |t::d,0=>by simp[Ni]
 |t::d,k+1=>by have:=uB d k;rw[rq,qM,qM];omega
def rz {k:Nat} (h:d[k]? =some t):yw (d.take (k+1))=yw (d.take k)+(t.length+1):=by rw[gk,h];exact zD _ _
def jS.jL (n K:Nat):jS n K []:=⟨fun t h=>by simp at h,eC _⟩
def jS.len (h:jS n K d):d.length<=K:=eZ (zC d) h.wt
def jS.Su (h:jS n K d) (a:t∈d):t.length+1<=K:=eZ (Nh a) h.wt
def jS.mono {a:Nat} (h:jS n K d) (i:K<=a):jS n a d:=⟨h.st,eZ h.wt i⟩
def jS.get (h:jS n K d) (a:d[i]? =some t):jK n t/\t.length+1<=K:=⟨h.st t (a8 a),h.Su (a8 a)⟩
def vB: ∀d:Dy,d.flatten.length<=yw d
 | []=>ij _
 |t::d=>by have:=vB d;rw[qM,qm,fa];omega
def TK (h: ∀t∈d,jK n t):jK n d.flatten:=fun s b=>by obtain⟨t,a,b⟩:=List.mem_flatten.1 b;exact h t a s b
structure eV (x:fS):Prop where
 may:may x=true
 wf:x.wf
def Kk {α:Type} {p:α->Bool} {l:List α} (h:l.all p=true) {a:α} (c:a∈l):p a=true:=dT.1 h a c
def qy {n b a:Int} (h:gP n b a=true):b<=n/\n<=a:=by unfold gP at h;simp only[a6,decide_eq_true_eq] at h;exact h
def eV.head (h:eV x):(1<=x.days/\x.days<=64)/\x.eB.length<=2000/\(0<=x.mm/\x.mm<=2147483648)/\(0<=x.cap/\x.cap<=2147483648)/\(0<=x.len/\x.len<=2147483648):=by have:=h.may;unfold jm.may at this;simp only[a6,decide_eq_true_eq] at this;obtain⟨⟨⟨⟨⟨⟨b,a⟩,e⟩,f⟩,g⟩,j⟩,k⟩:=this;exact⟨qy b,a,qy e,qy f,qy g⟩
def eV.Kp (h:eV x) (d:c∈x.eB):jT c x.days=true:=by have:=h.may;unfold jm.may at this;simp only[a6] at this;exact Kk this.1.2 d
def Jl: ∀(n k:Nat) (D:List (List Int)),mU n k D=true-> ∀r∈D,r.length=n/\ ∀z∈r,0<=z/\z<=2147483648
 |n,k,[],_,r,hr=>by simp at hr
 |n,k,a::D,h,r,hr=>by
  rw[mU,a6] at h
  rcases fC.1 hr with rfl|hr
  ·have b:=h.1;unfold vP at b;simp only[a6,decide_eq_true_eq] at b;exact⟨b.1.1,fun z d=>qy (Kk b.2 d)⟩
  ·exact Jl n (k+1) D h.2 r hr
def eV.gn (h:eV x):x.gn.length=x.eB.length+1/\ ∀r∈x.gn,r.length=x.eB.length+1/\ ∀z∈r,0<=z/\z<=2147483648:=by have:=h.may;unfold jm.may at this;simp only[a6] at this;have a:=this.2;unfold pq at a;simp only[a6,decide_eq_true_eq] at a;exact⟨a.1,Jl _ _ _ a.2⟩
def eV.V4 (h:eV x):Kd x.gn:=by
 intro a b;unfold sm;by_cases c:a<0\/b<0
 ·rw[if_pos c];omega
 ·rw[if_neg c];cases e:x.gn[a.toNat]? with
  |none=>simp
  |some r=>
   simp only[Mr];cases d:r[b.toNat]? with
   |none=>simp
   |some z=>exact(h.gn.2 r (a8 e)).2 z (a8 d)
def eV.Sq (h:eV x) (d:c∈x.eB) (i:c.kind=2):(0<=c.jU/\c.jU<=2147483648)/\(1<=c.size/\c.size<=2147483648)/\(0<=c.start/\c.start<=c.size)/\(c.lR=1\/c.lR=2)/\(0<=c.hold/\c.hold<=1024)/\c.jC=[]/\c.iL=0:=by have:=h.Kp d;unfold jT at this;rw[if_neg oG,if_pos i] at this;unfold xW Du qH at this;simp only[eR,lF,id,a6,hU,beq_iff_eq,decide_eq_true_eq,and_true] at this;obtain⟨b,a,e,f,g,j,k⟩:=this;exact⟨qy b,qy a,qy e,f,qy g,rX.1 j,k⟩
def eV.kind (h:eV x) (d:c∈x.eB):c.kind=1\/c.kind=2:=by
 have:=h.Kp d;unfold jT at this;by_cases b:c.kind=1
 ·exact .inl b
 ·rw[if_neg b] at this;by_cases a:c.kind=2
  ·exact .inr a
  ·rw[if_neg a] at this;cases this
end kN
section
open Go Go.RowKit jm
structure Yh where
 r:List Value
def yX (x:fS) (A1:Option Addr) (c1:Nat) (A2:Option Addr) (c2:Nat) (r:List Value):Yh:=match x,A1,c1,A2,c2 with|_,_,_,_,_=>⟨r⟩
instance {x:fS} {A1:Option Addr} {c1:Nat} {A2:Option Addr} {c2:Nat} {r:List Value}:CoeDep Yh (yX x A1 c1 A2 c2 r) (List Value):=⟨.int .i64 x.days:: .int .i64 x.mm:: .int .i64 x.cap:: .int .i64 x.len:: .slice A1 x.eB.length c1:: .slice A2 x.gn.length c2::r⟩
end
namespace P15
open jm ko kN
variable {d:Dy} {p:Nat} {s:vg}
def qU (l:List Int):List Int:=l.mergeSort fun x y=>decide (x<=y)
def uU (l:List Int):(qU l).Pairwise (· <= ·):=by have:=List.pairwise_mergeSort (le:=fun x y:Int=>decide (x<=y)) (fun a b c f d=>by simp only[decide_eq_true_eq] at f d|-;omega) (fun a b=>by simp only[hU,decide_eq_true_eq];omega) l;exact this.imp fun h=>by simpa using h
def yi (l:List Int):(qU l).Perm l:=List.mergeSort_perm _ _
def Cm (L:List Int):Prop:= ∀i x y,L[i]? =some x->L[i+1]? =some y->x≠y
def IV {L:List Int} (h:L.Pairwise (· <= ·)) (j:Cm L):L.Nodup:=by
 induction L with
 |nil=>exact List.nodup_nil
 |cons x L c=>
  rw[ack] at h;rw[nM];have c:=c h.2 fun i u v g k=>j (i+1) u v g k;refine⟨fun b=>?_,c⟩;cases L with
  |nil=>cases b
  |cons y L=>
   have a:=j 0 x y rfl rfl;have f:=h.1 y (.head _)
   rcases fC.1 b with e|b
   ·exact a e
   ·have d:=(ack.1 h.2).1 x b;omega
def oN (d:Dy):List Int:=d.flatten.map Prod.fst
def wG: ∀{n:Nat} {l:List Nat},l.Nodup->(∀z∈l,z<n)->l.length<=n
 |0,l,_,h=>by cases l with
  |nil=>simp
  |cons x l=>exact absurd (h x (.head _)) oG
 |n+1,l,hn,h=>by
  have f:=wG (n:=n) (hn.erase n) fun z c=>by have d:=(List.Nodup.mem_erase_iff hn).1 c;have:=h z d.2;have:=d.1;omega
  rw[List.length_erase] at f;split at f <;>omega
def Hs {l:List Int} (h: ∀z∈l,0<=z/\z<n) (i:l.Nodup):l.length<=n:=by
 have f:(l.map Int.toNat).Nodup:=by rw[List.Nodup,acR];exact i.imp_of_mem fun{a b} ha hb hne e=>hne (by have:=h a ha;have:=h b hb;omega)
 have:=wG (n:=n) f fun k g=>by obtain⟨z,c,rfl⟩:=cy.1 g;have:=h z c;omega
 simpa using this
structure D1 (n:Nat) (d:Dy):Prop where
 st: ∀t∈d,jK n t
 ne: ∀t∈d,t≠[]
 nd:(oN d).Nodup
def J2: ∀{d:Dy},(∀t∈d,t≠[])->yw d<=2*d.flatten.length
 | [],_=>ij _
 |t::d,h=>by have:=J2 (d:=d) fun u g=>h u (.tail _ g);have a:0<t.length:=jQ.2 (h t (.head _));rw[qM,qm,fa];omega
def D1.flat (h:D1 n d):d.flatten.length<=n:=by
 have:=Hs (l:=oN d) (n:=n) (fun z c=>by obtain⟨s,f,rfl⟩:=cy.1 c;exact(TK h.st s f).1) h.nd
 rwa [oN,fm] at this
def D1.dy (h:D1 n d):jS n (2*n) d:=⟨h.st,by have:=J2 h.ne;have:=h.flat;omega⟩
def D1.own (b: ∀t∈d,jK n t) (a: ∀t∈d,t≠[]) (e:(oN d).Nodup) (f:xd n s) (i:s.1∉oN d):D1 n (d++[[s]]):=by
 refine⟨fun t c=>?_,fun t c=>?_,?_⟩
 ·rcases fO.1 c with h|h
  ·exact b t h
  ·simp at h;subst h;exact jK.one f
 ·rcases fO.1 c with h|h
  ·exact a t h
  ·simp at h;subst h;simp
 ·have:(oN (d++[[s]])).Perm (s.1::oN d):=by unfold oN;rw[aat,gJ];simp
  exact this.nodup_iff.2 (nM.2 ⟨i,e⟩)
def Gq (d:Dy) (k p:Nat) (s:vg):Dy:=d.modify k fun t=>t.take p++s::t.drop p
def Fj: ∀{d:Dy} {k p:Nat} {s:vg} {t:Tr},d[k]? =some t->(Gq d k p s).flatten.Perm (s::d.flatten)
 |t::d,0,p,s,u,h=>by
  simp only[Gq,List.modify_zero_cons,qm];have f:(t.take p++s::t.drop p).Perm (s::t):=by
   have:=ade (a:=s) (l₁:=t.take p) (l₂:=t.drop p)
   rwa [lV] at this
  exact f.append_right _
 |t::d,k+1,p,s,u,h=>by simp only[Gq,List.modify_succ_cons,qm];have:=Fj (d:=d) (k:=k) (p:=p) (s:=s) (t:=u) (by simpa using h);exact(this.append_left t).trans (ade)
def I9 {u:Tr} (h:u∈Gq d k p s):u∈d\/ ∃t∈d,u=t.take p++s::t.drop p:=by
 obtain⟨i,a⟩:=gz.1 h;unfold Gq at a;rw[aaf] at a;cases b:d[i]? with
 |none=>rw[b] at a;simp at a
 |some t=>
  rw[b] at a;by_cases g:k=i
  ·simp[g] at a;exact .inr ⟨t,a8 b,a.symm⟩
  ·simp[g] at a;exact .inl (a▸a8 b)
def D1.put {t:Tr} (b: ∀t∈d,jK n t) (a: ∀t∈d,t≠[]) (e:(oN d).Nodup) (f:xd n s) (i:s.1∉oN d) (c:d[k]? =some t):D1 n (Gq d k p s):=by
 refine⟨fun u g=>?_,fun u g=>?_,?_⟩
 ·rcases I9 g with h|⟨t,c,rfl⟩
  ·exact b u h
  ·exact((b t c).take p).append (show jK n ([s]++t.drop p) from(jK.one f).append ((b t c).drop p))
 ·rcases I9 g with h|⟨t,c,rfl⟩
  ·exact a u h
  ·simp
 ·have:(oN (Gq d k p s)).Perm (s.1::oN d):=(Fj c).map _;exact this.nodup_iff.2 (nM.2 ⟨i,e⟩)
end P15
namespace J8
open ko kN
theorem VC{p:Prop}(h:p:=by refine⟨rfl,rfl,zT (nh oG oG) (nh oG oG) (nh oG oG) (nh oG oG) (ka _ _ _ _),zT (ka _ _ _ _) (ka _ _ _ _) (ka _ _ _ _) (ka _ _ _ _) (ka _ _ _ _),fun h=>absurd rfl h,fun _=>?_⟩;simp only[wK,yY,uy];omega):p:=h
variable {a b i j lb x y:Int} {t:Bool}
abbrev Pc:=Int×Int×Int×Bool
def zP:Pc:=(0,0,0,false)
def tG (p:Pc):Int:=if p.2.1<p.2.2.1 then p.2.2.1-p.2.1 else 0
def rowLen (r:List Pc):Int:=(r.map tG).sum
def Nr (a b c lb:Int) (p:Pc):Prop:=p.2.1<p.2.2.1->0<=p.2.1/\((p.1=a/\p.2.2.1<=c)\/(p.1=b/\p.2.2.1<=lb))
structure tW (a b la lb:Int) (r1 r2:List Pc):Prop where
 l1:r1.length=5
 l2:r2.length=5
 o1: ∀p∈r1,Nr a b la lb p
 o2: ∀p∈r2,Nr a b la lb p
 sD:a≠b->rowLen r1+rowLen r2=la+lb
 sS:a=b->rowLen r1=la
def ka (a b c lb:Int):Nr a b c lb zP:=fun h=>absurd h (by simp[zP])
def nh (g:0<=x) (f:y<=c):Nr a b c lb (a,x,y,t):=fun _=>⟨g,.inl ⟨rfl,f⟩⟩
def yd (g:0<=x) (f:y<=lb):Nr a b c lb (b,x,y,t):=fun _=>⟨g,.inr ⟨rfl,f⟩⟩
def zT {P:Pc->Prop} {a b d e g:Pc} (f:P a) (h:P b) (i:P d) (j:P e) (k:P g): ∀p∈[a,b,d,e,g],P p:=by
 intro p c;simp only[fC,iy,or_false] at c
 rcases c with rfl|rfl|rfl|rfl|rfl <;>assumption
def uy (t x y:Int) (b:Bool):tG (t,x,y,b)=if x<y then y-x else 0:=rfl
def wK (a b d e g:Pc):rowLen [a,b,d,e,g]=tG a+(tG b+(tG d+(tG e+tG g))):=by simp[rowLen]
def yY:tG zP=0:=by simp[tG,zP]
def Jk (h:0<=i/\i<j/\j<c):tW a a c lb [(a,0,i,false),(a,i,j+1,true),(a,j+1,c,false),zP,zP] [zP,zP,zP,zP,zP]:=by refine⟨rfl,rfl,zT (nh oG oG) (nh oG oG) (nh oG oG) (ka _ _ _ _) (ka _ _ _ _),zT (ka _ _ _ _) (ka _ _ _ _) (ka _ _ _ _) (ka _ _ _ _) (ka _ _ _ _),fun h=>absurd rfl h,fun _=>?_⟩;simp only[wK,yY,uy];omega
def Ej (d:a≠b) (h:0<=i/\i<c/\0<=j/\j<=lb):tW a b c lb [(a,0,i,false),(a,i+1,c,false),zP,zP,zP] [(b,0,j,false),(a,i,i+1,false),(b,j,lb,false),zP,zP]:=by refine⟨rfl,rfl,zT (nh oG oG) (nh oG oG) (ka _ _ _ _) (ka _ _ _ _) (ka _ _ _ _),zT (yd oG oG) (nh oG oG) (yd oG oG) (ka _ _ _ _) (ka _ _ _ _),fun _=>?_,fun h=>absurd h d⟩;simp only[wK,yY,uy];omega
def Ek (h:0<=i/\i<c/\0<=j/\j<=c-1) (b:i<j):tW a a c lb [(a,0,i,false),(a,i+1,j+1,false),(a,i,i+1,false),(a,j+1,c,false),zP] [zP,zP,zP,zP,zP]:=by exact VC
def Ei (h:0<=i/\i<c/\0<=j/\j<=c-1) (b:j<=i):tW a a c lb [(a,0,j,false),(a,i,i+1,false),(a,j,i,false),(a,i+1,c,false),zP] [zP,zP,zP,zP,zP]:=by exact VC
def GA (h:i<j/\0<=i/\i<c/\0<=j/\j<c):tW a a c lb [(a,0,i,false),(a,j,j+1,false),(a,i+1,j,false),(a,i,i+1,false),(a,j+1,c,false)] [zP,zP,zP,zP,zP]:=by refine⟨rfl,rfl,zT (nh oG oG) (nh oG oG) (nh oG oG) (nh oG oG) (nh oG oG),zT (ka _ _ _ _) (ka _ _ _ _) (ka _ _ _ _) (ka _ _ _ _) (ka _ _ _ _),fun h=>absurd rfl h,fun _=>?_⟩;simp only[wK,uy];omega
def Gz (d:a≠b) (h:0<=i/\i<c/\0<=j/\j<lb):tW a b c lb [(a,0,i,false),(b,j,j+1,false),(a,i+1,c,false),zP,zP] [(b,0,j,false),(a,i,i+1,false),(b,j+1,lb,false),zP,zP]:=by refine⟨rfl,rfl,zT (nh oG oG) (yd oG oG) (nh oG oG) (ka _ _ _ _) (ka _ _ _ _),zT (yd oG oG) (nh oG oG) (yd oG oG) (ka _ _ _ _) (ka _ _ _ _),fun _=>?_,fun h=>absurd h d⟩;simp only[wK,yY,uy];omega
def Gy (d:a≠b) (h:0<=i/\i<=c/\0<=j/\j<=lb):tW a b c lb [(a,0,i,false),(b,j,lb,false),zP,zP,zP] [(b,0,j,false),(a,i,c,false),zP,zP,zP]:=by refine⟨rfl,rfl,zT (nh oG oG) (yd oG oG) (ka _ _ _ _) (ka _ _ _ _) (ka _ _ _ _),zT (yd oG oG) (nh oG oG) (ka _ _ _ _) (ka _ _ _ _) (ka _ _ _ _),fun _=>?_,fun h=>absurd h d⟩;simp only[wK,yY,uy];omega
def lA (d:Dy) (r:List Pc):Prop:=r.length=5/\ ∀p∈r,p.2.1<p.2.2.1->0<=p.2.1/\0<=p.1/\ ∃t,d[p.1.toNat]? =some t/\p.2.2.1<=t
def DT:List Pc:=[zP,zP,zP,zP,zP]
def Dr (d:Dy):lA d DT:=⟨rfl,zT (fun h=>absurd h (by simp[zP])) (fun h=>absurd h (by simp[zP])) (fun h=>absurd h (by simp[zP])) (fun h=>absurd h (by simp[zP])) (fun h=>absurd h (by simp[zP]))⟩
structure FM (d:Dy) (a b:Int) (r1 r2:List Pc) (ok:Bool):Prop where
 o1:lA d r1
 o2:lA d r2
 ab:ok=true->0<=a/\0<=b/\ ∃ta tb,d[a.toNat]? =some ta/\d[b.toNat]? =some tb/\(a≠b->rowLen r1+rowLen r2=ta.length+tb.length)/\(a=b->rowLen r1=ta)
def E7 (d:Dy) (a b:Int):FM d a b DT DT false:=⟨Dr d,Dr d,fun h=>by cases h⟩
def KW {d:Dy} {k l:Tr} {n o:List Pc} (q:0<=a) (r:0<=b) (i:d[a.toNat]? =some k) (j:d[b.toNat]? =some l) (h:tW a b k l n o):FM d a b n o true:=by
 have key: ∀p:Pc,Nr a b k l p->p.2.1<p.2.2.1->0<=p.2.1/\0<=p.1/\ ∃t,d[p.1.toNat]? =some t/\p.2.2.1<=t.length:=by
  intro p c m;obtain⟨g,f⟩:=c m
  rcases f with ⟨e,f⟩|⟨e,f⟩
  ·exact⟨g,oG,k,by rw[e];exact i,f⟩
  ·exact⟨g,oG,l,by rw[e];exact j,f⟩
 exact⟨⟨h.l1,fun p c=>key p (h.o1 p c)⟩,⟨h.l2,fun p c=>key p (h.o2 p c)⟩,fun _=>⟨q,r,k,l,i,j,h.sD,h.sS⟩⟩
end J8
namespace ue
open Go
def index_one (c:UInt8): ∀(p q:List UInt8),c∉p->Lib.index (p++c::q) [c]=p.length
 | [],q,_=>by simp[Lib.index,List.isPrefixOf]
 |b::p,q,h=>by
  have d:c≠b:=fun e=>h (by simp[e]);have f:=index_one c p q (fun e=>h (by simp[e]));rw[fY,Lib.index];have a:([c]:List UInt8).isPrefixOf (b::(p++c::q))=false:=by simp[List.isPrefixOf,d]
  rw[a,f];have:((p.length:Int)== -1)=false:=by rw[beq_eq_false_iff_ne];omega
  simp[this]
def index_none (c:UInt8): ∀(p:List UInt8),c∉p->Lib.index p [c]= -1
 | [],_=>by simp[Lib.index]
 |b::p,h=>by
  have d:c≠b:=fun e=>h (by simp[e]);have f:=index_none c p (fun e=>h (by simp[e]));rw[Lib.index];have a:([c]:List UInt8).isPrefixOf (b::p)=false:=by simp[List.isPrefixOf,d]
  rw[a,f];simp
def DB (c:UInt8): ∀(s:List UInt8),c∈s-> ∃p q,s=p++c::q/\c∉p
 | [],h=>by simp at h
 |b::t,h=>by
  by_cases e:b=c
  ·subst e;exact⟨[],t,rfl,by simp⟩
  ·obtain⟨p,q,a,d⟩:=DB c t (by
    rcases fC.1 h with h|h
    ·exact absurd h.symm e
    ·exact h)
   exact⟨b::p,q,by rw[a];rfl,by simp[d,jN e]⟩
def xt (c:UInt8): ∀(k:Nat) (s:List UInt8),s.count c=k->Lib.splitK [c] 0 k s=pieces c s
 |0,s,h=>by rw[AK c s (acj.1 h)];rfl
 |k+1,s,h=>by
  obtain⟨p,q,rfl,a⟩:=DB c s (List.count_pos_iff.1 oG);have b:q.count c=k:=by rw[List.count_append,List.count_cons,acj.2 a] at h;simp at h;exact h
  rw[Lib.splitK,index_one c p q a,vO c p q a];have:((p.length:Int)== -1)=false:=by rw[beq_eq_false_iff_ne];omega
  rw[this];simp only[gu,eW,afI];rw[if_neg sI,List.take_left,show p++c::q=(p++[c])++q by simp,List.drop_left' sI,xt c k q b]
def xr (c:UInt8) (s:ByteArray):(Lib.splitB ⟨#[c]⟩ 0 (Lib.countB s ⟨#[c]⟩) s).map (·.data.toList)=pieces c s.data.toList:=by rw[Lib.splitB_data];refine xt c _ _ ?_;exact(Lib.count_one c s.data.toList).symm
def Tx (c:UInt8) (p q:List UInt8) (h:c∉p):Lib.cut (p++c::q) [c]=(p,q,true):=by unfold Lib.cut;rw[index_one c p q h,if_pos oG];simp
def Qi (c:UInt8) (p:List UInt8) (h:c∉p):Lib.cut p [c]=(p,[],false):=by unfold Lib.cut;rw[index_none c p h,if_neg oG]
def CW (b:UInt8): ∀a:List (List UInt8),Lib.join a [b]=jw b a
 | []=>by simp[Lib.join,jw]
 | [w]=>by simp[Lib.join,jw]
 |w::v::t=>by
  have:=CW b (v::t);unfold Lib.join at this|-
  rw[jw,<-this];simp[List.intercalate]
end ue
namespace uf
open ue jm
abbrev Word:=List UInt8
abbrev kW:=List Word
def nI (x:Word):Int:=((if isNum x then mM 0 x else 0:Nat):Int)
def rK:Word:=[116,114,97,110,116,101,114]
def adI:Word:=[49]
def BA:Word:=[100,97,121,115]
def JT:Word:=[118,101,104,105,99,108,101,115]
def JQ:Word:=[99,97,112,97,99,105,116,121]
def JR:Word:=[108,101,110,103,116,104]
def Bz:Word:=[99,117,115,116,111,109,101,114,115]
def nt:Word:=[118,105,115,105,116]
def qh:Word:=[116,97,110,107]
def FC:Word:=[102,105,108,108]
def Pm:Word:=[97,110,121]
def aan:Word:=[100,105,115,116,97,110,99,101,115]
def jV (s n:Nat):Word:=(List.range n).map fun d=>if s/2^d%2=1 then 49 else 48
def rh:Word->Nat
 | []=>0
 |c::l=>(if c=49 then 1 else 0)+2*rh l
def sQ (w:Word):Bool:= !w.isEmpty&&w.all fun c=>c==48||c==49
def vp (w:Word):Nat:=if 64<w.length then 0 else rh w
def kq (days:Int) (c:kc):kW:=
 if c.kind=1 then nt::iN c.iL::c.jC.map fun s=>jV s days.toNat
 else [qh,iN c.jU,iN c.size,iN c.start,if c.lR=1 then FC else Pm,iN c.hold]
def lh (x:fS):List kW:=[[rK,adI],[BA,iN x.days,JT,iN x.mm,JQ,iN x.cap,JR,iN x.len],[Bz,iN x.eB]]
def iR (x:fS):List kW:=lh x++(x.eB.map (kq x.days)++([aan]::x.gn.map fun r=>r.map iN))
def na (x:fS):List UInt8:=(iR x).flatMap kx
structure Rd where
 rest:List kW
 x:fS
 count:Int
 odd:Bool
def qV:fS:=⟨0,0,0,0,[],[]⟩
def mw:List Word->kW->Option (List Word)
 | [],[]=>some []
 |n::ns,a::b::l=>if a=n then(mw ns l).map fun t=>b::t else none
 |_,_=>none
def qF (a:List Word) (b:kW):Option (List Int):=(mw a b).bind fun c=>if c.all isNum then some (c.map nI) else none
def fV (st:Rd):kW×Rd:=match st.rest with
 | []=>([],st)
 |l::r=>(l,{st with rest:=r})
def uX (st:Rd):Option Rd:=if (fV st).1=[rK,adI] then some (fV st).2 else none
def pQ (st:Rd):Option Rd:=match qF [BA,JT,JQ,JR] (fV st).1 with
 |some [a,b,c,d]=>some {(fV st).2 with x:=⟨a,b,c,d,st.x.eB,st.x.gn⟩}
 |_=>none
def BM (st:Rd):Option Rd:=match qF [Bz] (fV st).1 with
 |some [n]=>some {(fV st).2 with count:=n}
 |_=>none
def oX (days:Int):List Word->Option (kc×Bool)
 | []=>none
 |d::ps=>if isNum d&&ps.all sQ then some (⟨1,nI d,ps.map vp,0,0,0,0,0⟩,ps.any fun p=>decide ((p.length:Int)≠days)) else none
def tY (r:Word):Option Int:=if r=FC then some 1 else if r=Pm then some 2 else none
def qJ:List Word->Option (kc×Bool)
 | [a,b,c,r,h]=>if isNum a&&isNum b&&isNum c&&isNum h then(tY r).map fun u=>(⟨2,0,[],nI a,nI b,nI c,u,nI h⟩,false) else none
 |_=>none
def yF (days:Int):kW->Option (kc×Bool)
 | []=>none
 |w::l=>if w=nt then oX days l else if w=qh then qJ l else none
def rT (st:Rd):Option Rd:=(yF st.x.days (fV st).1).map fun c=>
 {(fV st).2 with x:=⟨st.x.days,st.x.mm,st.x.cap,st.x.len,st.x.eB++[c.1],st.x.gn⟩,odd:=st.odd||c.2}
def pE:Nat->Rd->Option Rd
 |0,st=>some st
 |n+1,st=>(rT st).bind (pE n)
def Gw (st:Rd):Option Rd:=if (fV st).1.all isNum&&decide (((fV st).1.length:Int)=st.count+1) then
 some {(fV st).2 with x:=⟨st.x.days,st.x.mm,st.x.cap,st.x.len,st.x.eB,st.x.gn++[(fV st).1.map nI]⟩} else none
def xq:Nat->Rd->Option Rd
 |0,st=>some st
 |n+1,st=>(Gw st).bind (xq n)
def sB (st:Rd):Option Rd:=if (fV st).1=[aan] then xq (st.count+1).toNat (fV st).2 else none
def Ij (st:Rd):Option Rd:=if st.rest=[] then some st else none
def vk (L:List kW):Option Rd:=(uX ⟨L,qV,0,false⟩).bind fun st=>(pQ st).bind fun st=>(BM st).bind fun st=>(pE st.count.toNat st).bind fun st=>(sB st).bind Ij
def kU (t:List UInt8):fS×Int:=match (nH t).bind vk with
 |none=>(qV,2)
 |some st=>if st.odd|| !may st.x then(qV,3) else(st.x,0)
end uf
namespace uf
open ue jm
variable {n:Int} {s:Nat} {x:fS}
def GH (s n:Nat):jV s (n+1)=(if s%2=1 then 49 else 48)::jV (s/2) n:=by unfold jV;rw[Xl,gN,kK];simp only[Nat.pow_zero,Nat.div_one];congr 1;refine oI fun d _=>?_;simp only[Function.comp];rw[Nat.pow_succ',mN]
def oV (s n:Nat):(jV s n).length=n:=by simp[jV]
def Ft: ∀n s:Nat,rh (jV s n)=s%2^n
 |0,s=>by simp[jV,rh,pC]
 |n+1,s=>by
  rw[GH,rh,Ft n,Nat.pow_succ',Nat.mod_mul];by_cases h:s%2=1
  ·simp[h]
  ·simp[h];omega
def Dw {n:Nat} (h:0<n):sQ (jV s n)=true:=by
 unfold sQ;have f:(jV s n).isEmpty=false:=by
  have:=oV s n;cases g:jV s n with
  |nil=>rw[g] at this;simp at this;omega
  |cons a l=>rfl
 rw[f];simp only[Bool.not_false,kh];rw[dT];intro c i;unfold jV at i;obtain⟨d,_,rfl⟩:=cy.1 i;split <;>rfl
def Ox {n:Nat} (p:n<=64) (g:s<2^n):vp (jV s n)=s:=by unfold vp;rw[oV,if_neg oG,Ft,Nat.mod_eq_of_lt g]
def Uc {n:Nat} (p:n<=64) (g:s<18446744073709551616) (h:lJ.next s n<0):s<2^n:=by
 refine Nat.lt_pow_two_of_testBit s fun i j=>?_;rw[Nat.testBit_eq_decide_div_mod_eq,decide_eq_false_iff_not];intro f;by_cases e:i<64
 ·have b:(i:Int)∈lJ.days s n:=by unfold lJ.days;rw[mC];refine⟨cy.2 ⟨i,jz.2 e,rfl⟩,?_⟩;simp only[lJ.has,a6,decide_eq_true_eq,gu];omega
  have c: ∀z∈lJ.days s n,0<=z:=fun z d=>by unfold lJ.days at d;rw[mC,a6,decide_eq_true_eq] at d;omega
  unfold lJ.next at h;cases k:lJ.days s n with
  |nil=>rw[k] at b;simp at b
  |cons a l=>
   rw[k] at h c;have:=c a sI;simp at h;omega
 ·have:s<2^i:=bP g (jk (n:=2) dE (show 64<=i by omega):2^64<=2^i);rw[Nat.div_eq_of_lt this] at f;simp at f
def sH (h:0<=n) (f:n<=1000000000000000000):nI (iN n)=n:=by
 have e:=RH h f;have g:=CR h oG;rw[RF g] at e;injection e with e
 unfold nI;rw[if_pos g,e];omega
def qD (h:0<=n) (f:n<=1000000000000000000):isNum (iN n)=true:=CR h oG
def oj {a j:Int}:gP n a j=true↔a<=n/\n<=j:=by simp[gP]
def Kr {c:kc} {days:Int} (j:1<=days) (k:days<=64) (q:c.wf) (b:jT c days=true):yF days (kq days c)=some (c,false):=by
 obtain⟨d,h,a,u,size,r,v,t⟩:=c;unfold jT at b;simp only at b;by_cases f:d=1
 ·subst f;simp only[if_true,Dh,eR,lF,id,kF,a6,kl,wT,oj,beq_iff_eq] at b;obtain⟨x,⟨n,-⟩,⟨⟨⟨rfl,rfl⟩,rfl⟩,rfl⟩,rfl⟩:=b;rw[dT] at n;unfold kq;simp only[if_true];unfold yF;simp only[if_true];simp only[oX];have w:((days.toNat:Nat):Int)=days:=oG;have y: ∀s∈a,vp (jV s days.toNat)=s:=fun s g=>Ox oG (Uc oG (q.2.2.1 s g) (by have:=n s g;rw[decide_eq_true_eq] at this;rw[w];exact this));rw[qD oG oG,sH oG oG,kK];have l:(a.map fun s=>jV s days.toNat).all sQ=true:=by rw[Xj,dT];exact fun s _=>Dw oG
  have m:a.map (vp∘fun s=>jV s days.toNat)=a:=by
   conv=>rhs;rw[<-Nl a]
   exact oI fun s g=>y s g
  have o:((a.map fun s=>jV s days.toNat).any fun p=>decide ((p.length:Int)≠days))=false:=by rw[List.any_map,List.any_eq_false];intro s _;simp only[Function.comp,oV,decide_eq_true_eq];omega
  rw[l,m,o];rfl
 ·rw[if_neg f] at b;by_cases e:d=2
  ·subst e;simp only[if_true,xW,eR,lF,id,kF,a6,qH,Du,oj,beq_iff_eq,hU,decide_eq_true_eq] at b;obtain⟨i,g,B,z,A,n,rfl⟩:=b;obtain rfl:a=[]:=gj n;unfold kq;simp only[show¬(2:Int)=1 by omega,if_false];unfold yF;simp only[show¬qh=nt by decide,if_false,if_true];simp only[qJ];rw[qD oG oG,qD oG oG,qD oG oG,qD oG oG,sH oG oG,sH oG oG,sH oG oG,sH oG oG];simp only[Bool.and_self,if_true]
   rcases z with rfl|rfl
   ·rfl
   ·simp only[show¬(2:Int)=1 by omega,if_false];rfl
  ·rw[if_neg e] at b;cases b
def xY (l:kW) (r:List kW) (x:fS) (n:Int) (o:Bool):fV ⟨l::r,x,n,o⟩=(l,⟨r,x,n,o⟩):=rfl
def yG (j:1<=x.days) (k:x.days<=64) (n:Int) (rest:List kW): ∀(b:List kc) (a:List kc),(∀c∈b,c.wf/\jT c x.days=true)->
  pE b ⟨b.map (kq x.days)++rest,⟨x.days,x.mm,x.cap,x.len,a,[]⟩,n,false⟩=some ⟨rest,⟨x.days,x.mm,x.cap,x.len,a++b,[]⟩,n,false⟩
 | [],a,_=>by simp[pE]
 |c::b,a,h=>by rw[ff,pE,gN,fY,rT,xY];simp only;rw[Kr j k (h c sI).1 (h c sI).2];simp only[lL,kn,Bool.or_self];rw[yG j k n rest b (a++[c]) fun c' i=>h c' (by simp[i]),eT];rfl
def Br (n:Nat) (rest:List kW): ∀(b:List (List Int)) (a:List (List Int)),(∀r∈b,r.length=n+1/\ ∀z∈r,0<=z/\z<=2147483648)->
  xq b ⟨(b.map fun r=>r.map iN)++rest,⟨x.days,x.mm,x.cap,x.len,x.eB,a⟩,n,false⟩=some ⟨rest,⟨x.days,x.mm,x.cap,x.len,x.eB,a++b⟩,n,false⟩
 | [],a,_=>by simp[xq]
 |r::b,a,h=>by
  obtain⟨f,e⟩:=h r sI;have l:(r.map iN).all isNum=true:=by rw[Xj,dT];exact fun z d=>qD (e z d).1 (by have:=(e z d).2;omega)
  have m:(r.map iN).map nI=r:=by
   rw[kK]
   conv=>rhs;rw[<-Nl r]
   exact oI fun z d=>sH (e z d).1 (by have:=(e z d).2;omega)
  rw[ff,xq,gN,fY,Gw,xY];simp only;rw[l,m,fm,f];simp only[kh,Pz,Int.cast_ofNat_Int,decide_true,if_true,kn];rw[Br n rest b (a++[r]) fun c i=>h c (by simp[i]),eT];rfl
def AE (h:may x=true):(1<=x.days/\x.days<=64)/\x.eB.length<=2000/\(0<=x.mm/\x.mm<=2147483648)/\(0<=x.cap/\x.cap<=2147483648)/\(0<=x.len/\x.len<=2147483648)/\
  (∀c∈x.eB,jT c x.days=true)/\x.gn.length=x.eB.length+1/\ ∀r∈x.gn,r.length=x.eB.length+1/\ ∀z∈r,0<=z/\z<=2147483648:=by
 simp only[may,a6,oj,decide_eq_true_eq,pq,dT] at h;obtain⟨⟨⟨⟨⟨⟨f,e⟩,g⟩,l⟩,m⟩,j⟩,k,n⟩:=h;refine⟨f,e,g,l,m,j,k,?_⟩;have: ∀(d:List (List Int)) (a p:Nat),mU p a d=true-> ∀r∈d,r.length=p/\ ∀z∈r,0<=z/\z<=2147483648:=by
  intro d
  induction d with
  |nil=>intro a p _ r i;cases i
  |cons r0 d ih=>
   intro a p b r i;rw[mU,a6] at b
   rcases fC.1 i with rfl|i
   ·have:=b.1;simp only[vP,a6,decide_eq_true_eq,dT,oj] at this;exact⟨this.1.1,this.2⟩
   ·exact ih _ _ b.2 r i
 exact this _ _ _ n
def aea (q:x.wf) (b:may x=true) (a:List kW):vk (iR x++a)=if a=[] then some ⟨[],x,x.eB.length,false⟩ else none:=by
 obtain⟨⟨g,s⟩,e,⟨d,t⟩,⟨c0,c1⟩,⟨f,u⟩,j,k,n⟩:=AE b;have p:(((x.eB.length:Nat):Int))<=2000:=oG;have l:uX ⟨iR x++a,qV,0,false⟩=some ⟨[BA,iN x.days,JT,iN x.mm,JQ,iN x.cap,JR,iN x.len]::[Bz,iN x.eB]::(x.eB.map (kq x.days)++([aan]::((x.gn.map fun r=>r.map iN)++a))),qV,0,false⟩:=by simp[uX,iR,lh,fV]
 have m: ∀r,pQ ⟨[BA,iN x.days,JT,iN x.mm,JQ,iN x.cap,JR,iN x.len]::r,qV,0,false⟩=some ⟨r,⟨x.days,x.mm,x.cap,x.len,[],[]⟩,0,false⟩:=by intro r;simp[pQ,fV,qF,mw,qD (show(0:Int)<=x.days by omega) oG,qD d oG,qD c0 oG,qD f oG,sH (show(0:Int)<=x.days by omega) oG,sH d oG,sH c0 oG,sH f oG,qV]
 have o: ∀r y,BM ⟨[Bz,iN x.eB]::r,y,0,false⟩=some ⟨r,y,x.eB.length,false⟩:=by intro r y;simp[BM,fV,qF,mw,qD (show(0:Int)<=(x.eB.length:Int) by omega) oG,sH (show(0:Int)<=(x.eB.length:Int) by omega) oG]
 unfold vk;rw[l];simp only[kn];rw[m];simp only[kn];rw[o];simp only[kn,gu];rw[yG g s _ _ _ _ fun c i=>⟨q.2.2.2.2.1 c i,j c i⟩];simp only[kn,gQ];unfold sB;rw[xY];simp only[if_true];rw[show((x.eB.length:Int)+1).toNat=x.gn.length by rw[k];omega];rw[Br x.eB.length a x.gn [] n];simp only[kn,gQ,Ij];by_cases h:a=[]
 ·rw[if_pos h,if_pos h,h]
 ·rw[if_neg h,if_neg h]
end uf
namespace uf
open ue jm
def Fe (w:Word):0<=nI w:=by unfold nI;omega
def xX: ∀(f:List Word) (c:kW) (d:List Word),mw f c=some d->d.length=f/\c=(f.zip d).flatMap fun p=>[p.1,p.2]
 | [],[],d,h=>by
  obtain rfl:[]=d:=by simpa[mw] using h
  exact⟨rfl,rfl⟩
 | [],_::_,d,h=>by simp[mw] at h
 |n::f,[],d,h=>by simp[mw] at h
 |n::f,[_],d,h=>by simp[mw] at h
 |n::f,a::b::l,d,h=>by
  rw[mw] at h;by_cases e:a=n
  ·rw[if_pos e] at h;cases g:mw f l with
   |none=>rw[g] at h;simp at h
   |some t=>
    rw[g] at h;obtain rfl:b::t=d:=by simpa using h
    obtain⟨i,j⟩:=xX f l t g;subst e;exact⟨by simp[i],by rw[j];rfl⟩
  ·rw[if_neg e] at h;simp at h
def uL {f:List Word} {c:kW} {m:List Int} (h:qF f c=some m): ∃d:List Word,d.length=f/\c=((f.zip d).flatMap fun p=>[p.1,p.2])/\d.all isNum=true/\m=d.map nI:=by
 unfold qF at h;cases g:mw f c with
 |none=>rw[g] at h;simp at h
 |some d=>
  rw[g] at h;simp only[kn] at h;by_cases e:d.all isNum=true
  ·rw[if_pos e] at h;obtain⟨i,j⟩:=xX f c d g;exact⟨d,i,j,e,by simpa using h.symm⟩
  ·rw[if_neg e] at h;cases h
end uf
namespace uf
open ue jm
end uf
namespace uf
open ue jm
variable {x:fS}
def GI {s n:Nat} (h:0<n):isWord (jV s n)=true:=by
 have:=Dw (s:=s) h;unfold sQ at this;rw[a6,dT] at this;unfold isWord;rw[a6,dT];refine⟨this.1,fun c f=>?_⟩;have:=this.2 c f;simp only[hU,beq_iff_eq] at this
 rcases this with rfl|rfl <;>decide
def Ib {c:kc} {days:Int} (f:1<=days) (a:c.wf):kq days c≠[]/\ ∀w∈kq days c,isWord w=true:=by
 unfold kq;split
 ·refine⟨by simp,fun w h=>?_⟩
  rcases fC.1 h with rfl|h
  ·decide
  rcases fC.1 h with rfl|h
  ·exact mX a.2.1
  ·obtain⟨s,_,rfl⟩:=cy.1 h;exact GI oG
 ·refine⟨by simp,fun w h=>?_⟩;obtain⟨-,-,-,b,e,i,-,d⟩:=a;simp only[fC,iy,or_false] at h
  rcases h with rfl|rfl|rfl|rfl|rfl|rfl
  ·decide
  ·exact mX b
  ·exact mX e
  ·exact mX i
  ·split <;>decide
  ·exact mX d
def Gb (a:x.wf) (b:may x=true): ∀g∈iR x,g≠[]/\ ∀w∈g,isWord w=true:=by
 obtain⟨⟨j,o⟩,u,⟨p,q⟩,⟨c0,c1⟩,⟨s,t⟩,i,v,d⟩:=AE b;intro g h;unfold iR lh at h
 rcases fO.1 h with h|h
 ·simp only[fC,iy,or_false] at h
  rcases h with rfl|rfl|rfl
  ·decide
  ·refine⟨by simp,fun w h=>?_⟩;simp only[fC,iy,or_false] at h
   rcases h with rfl|rfl|rfl|rfl|rfl|rfl|rfl|rfl
   ·decide
   ·exact mX oG
   ·decide
   ·exact mX oG
   ·decide
   ·exact mX oG
   ·decide
   ·exact mX oG
  ·refine⟨by simp,fun w h=>?_⟩;simp only[fC,iy,or_false] at h
   rcases h with rfl|rfl
   ·decide
   ·exact mX oG
 ·rcases fO.1 h with h|h
  ·obtain⟨c,f,rfl⟩:=cy.1 h;exact Ib j (a.2.2.2.2.1 c f)
  ·rcases fC.1 h with rfl|h
   ·decide
   ·obtain⟨r,m,rfl⟩:=cy.1 h;obtain⟨k,l⟩:=d r m;refine⟨fun e=>?_,fun w a=>?_⟩
    ·have:=congrArg List.length e;rw[fm,k] at this;simp at this
    ·obtain⟨z,n,rfl⟩:=cy.1 a;exact mX (by have:=l z n;omega)
def acx (a:x.wf) (b:may x=true):nH (na x)=some (iR x):=Gg _ (Gb a b)
def I3 (a:x.wf) (b:may x=true):kU (na x)=(x,0):=by have h:=aea a b [];rw[mz,if_pos rfl] at h;unfold kU;rw[acx a b];simp only[kn,h,b];rfl
def Lw {t:List UInt8} (h:nH t=none):kU t=(qV,2):=by unfold kU;rw[h];rfl
end uf
namespace uf
open ue jm
variable {c:kc} {days:Int} {f st:Rd} {l:List Word} {o:Bool}
def VJ (w:Word):nI w<=1000000000000000000:=by
 unfold nI;split
 ·rename_i h;have:=EF w 0 (by unfold isNum at h;simp only[a6] at h;first|exact h.1.2|exact h.2|exact h.1|exact h.1.1.2) oG;omega
 ·omega
def xD (w:Word):tq (nI w):=by have:=VJ w;have:=Fe w;unfold tq;omega
def xf:tq 0:=by unfold tq;omega
def Vl:tq 1:=by unfold tq;omega
def Vm:tq 2:=by unfold tq;omega
def zh: ∀w:Word,rh w<2^w.length
 | []=>by simp[rh]
 |c::l=>by have:=zh l;unfold rh;rw[ff,js];split <;>omega
def UA (w:Word):vp w<18446744073709551616:=by
 unfold vp;split
 ·omega
 ·exact bP (zh w) (jk oG (show w.length<=64 by omega))
def Ph (h:oX days l=some (c,o)):c.wf:=by
 cases l with
 |nil=>cases h
 |cons d ps=>
  simp only[oX] at h;split at h
  ·obtain⟨rfl,-⟩:=Np (fg h);refine⟨Vl,xD _,fun s i=>?_,xf,xf,xf,xf,xf⟩;obtain⟨p,-,rfl⟩:=cy.1 i;exact UA p
  ·cases h
def Sr (h:qJ l=some (c,o)):c.wf:=by
 unfold qJ at h;split at h
 ·split at h
  ·obtain⟨u,a,b⟩:=mP.1 h;obtain⟨rfl,-⟩:=Np b;refine⟨Vm,xf,fun s i=>by simp at i,xD _,xD _,xD _,?_,xD _⟩;unfold tY at a;split at a
   ·obtain rfl:=fg a;exact Vl
   ·split at a
    ·obtain rfl:=fg a;exact Vm
    ·cases a
  ·cases h
 ·cases h
def Qh {l:kW} (h:yF days l=some (c,o)):c.wf:=by
 cases l with
 |nil=>cases h
 |cons w l=>
  simp only[yF] at h;split at h
  ·exact Ph h
  ·split at h
   ·exact Sr h
   ·cases h
def ra (st:Rd):(fV st).2.x=st.x/\(fV st).2.count=st.count/\(fV st).2.rest.length<=st.rest.length:=by
 unfold fV;split
 ·exact⟨rfl,rfl,lE⟩
 ·rename_i e;exact⟨rfl,rfl,by rw[e];simp⟩
def Lj (h:(fV st).1≠[]):(fV st).2.rest.length+1=st.rest.length:=by
 unfold fV at h|-
 split
 ·rename_i e;rw[e] at h;exact absurd rfl h
 ·rename_i e;rw[e];rfl
structure pH (n:Nat) (st:Rd):Prop where
 wf:st.x.wf
 lo:0<=st.count
 hi:st.count<=1000000000000000000
 len:st.x.eB.length+st.rest.length<=n
def Vc:qV.wf:=⟨xf,xf,xf,xf,fun c a=>by simp[qV] at a,fun c a=>by simp[qV] at a⟩
def pH.start (L:List kW):pH L.length ⟨L,qV,0,false⟩:=⟨Vc,by simp,by simp,by simp[qV]⟩
def pH.title (h:pH n st) (i:uX st=some f):pH n f/\f.x.eB=st.x.eB/\f.x.gn=st.x.gn:=by
 unfold uX at i;split at i
 ·obtain rfl:=fg i;obtain⟨j,g,l⟩:=ra st;exact⟨⟨by rw[j];exact h.wf,by rw[g];exact h.lo,by rw[g];exact h.hi,by rw[j];have:=h.len;omega⟩,by rw[j],by rw[j]⟩
 ·cases i
def pH.Wo (h:pH n st) (i:pQ st=some f):pH n f/\f.x.eB=st.x.eB/\f.x.gn=st.x.gn:=by
 unfold pQ at i;split at i
 ·rename_i a b c d q;obtain⟨r,-,-,-,o⟩:=uL q;have e: ∀z∈[a,b,c,d],tq z:=fun z k=>by rw[o] at k;obtain⟨w,-,rfl⟩:=cy.1 k;exact xD w
  obtain rfl:=fg i;obtain⟨j,g,l⟩:=ra st;obtain⟨-,-,-,-,m,p⟩:=h.wf;exact⟨⟨⟨e a sI,e b sI,e c sI,e d sI,m,p⟩,by show 0<=(fV st).2.count;rw[g];exact h.lo,by show(fV st).2.count<=_;rw[g];exact h.hi,by have:=h.len;show st.x.eB.length+(fV st).2.rest.length<=n;omega⟩,rfl,rfl⟩
 ·cases i
def pH.how (h:pH n st) (i:BM st=some f):pH n f/\f.x.eB=st.x.eB/\f.x.gn=st.x.gn:=by
 unfold BM at i;split at i
 ·rename_i k q;obtain⟨r,-,-,-,o⟩:=uL q;have a:0<=k/\k<=1000000000000000000:=by
   have:k∈r.map nI:=by rw[<-o];simp
   obtain⟨w,-,rfl⟩:=cy.1 this;exact⟨Fe w,VJ w⟩
  obtain rfl:=fg i;obtain⟨j,g,l⟩:=ra st;exact⟨⟨by show(fV st).2.x.wf;rw[j];exact h.wf,a.1,a.2,by show(fV st).2.x.eB.length+(fV st).2.rest.length<=n;rw[j];have:=h.len;omega⟩,by show(fV st).2.x.eB=_;rw[j],by show(fV st).2.x.gn=_;rw[j]⟩
 ·cases i
def pH.Kp (h:pH n st) (i:rT st=some f):pH n f/\f.x.gn=st.x.gn:=by
 unfold rT at i;obtain⟨⟨c,o⟩,a,rfl⟩:=mP.1 i;have k:(fV st).1≠[]:=fun e=>by rw[e] at a;cases a
 have r:=Lj k;obtain⟨j,g,l⟩:=ra st;obtain⟨w1,q,s,t,m,p⟩:=h.wf;refine⟨⟨⟨w1,q,s,t,fun d b=>?_,p⟩,by show 0<=(fV st).2.count;rw[g];exact h.lo,by show(fV st).2.count<=_;rw[g];exact h.hi,?_⟩,rfl⟩
 ·rcases fO.1 b with b|b
  ·exact m d b
  ·obtain rfl:d=c:=by simpa using b
   exact Qh a
 ·show(st.x.eB++[c]).length+(fV st).2.rest.length<=n;have:=h.len;simp;omega
def pH.eB: ∀(k:Nat) {st f:Rd},pH n st->pE k st=some f->pH n f/\f.x.gn=st.x.gn
 |0,st,f,h,hs=>by obtain rfl:=fg hs;exact⟨h,rfl⟩
 |k+1,st,f,h,hs=>by obtain⟨m,j,g⟩:=zK.1 hs;obtain⟨l,e⟩:=h.Kp j;obtain⟨d,a⟩:=pH.eB k l g;exact⟨d,a.trans e⟩
def pH.row (h:pH n st) (i:Gw st=some f):pH n f:=by
 unfold Gw at i;split at i
 ·obtain rfl:=fg i;obtain⟨j,g,l⟩:=ra st;obtain⟨w1,q,s,t,m,p⟩:=h.wf;refine⟨⟨w1,q,s,t,m,fun r a z k=>?_⟩,by show 0<=(fV st).2.count;rw[g];exact h.lo,by show(fV st).2.count<=_;rw[g];exact h.hi,by have:=h.len;show st.x.eB.length+(fV st).2.rest.length<=n;omega⟩
  rcases fO.1 a with a|a
  ·exact p r a z k
  ·obtain rfl:r=(fV st).1.map nI:=by simpa using a
   obtain⟨w,-,rfl⟩:=cy.1 k;exact xD w
 ·cases i
def pH.rows: ∀(k:Nat) {st f:Rd},pH n st->xq k st=some f->pH n f
 |0,st,f,h,hs=>by obtain rfl:=fg hs;exact h
 |k+1,st,f,h,hs=>by obtain⟨m,j,g⟩:=zK.1 hs;exact pH.rows k (h.row j) g
def pH.gn (h:pH n st) (i:sB st=some f):pH n f:=by
 unfold sB at i;split at i
 ·obtain⟨j,g,l⟩:=ra st;exact pH.rows _ ⟨by rw[j];exact h.wf,by rw[g];exact h.lo,by rw[g];exact h.hi,by rw[j];have:=h.len;omega⟩ i
 ·cases i
def part:Nat->Rd->Option Rd
 |0=>uX
 |1=>pQ
 |2=>BM
 |3=>fun st=>pE st.count.toNat st
 |4=>sB
 |5=>Ij
 |_=>fun _=>none
def tJ (L:List kW):Nat->Option Rd
 |0=>some ⟨L,qV,0,false⟩
 |i+1=>(tJ L i).bind (part i)
def DE (L:List kW):tJ L 6=vk L:=by unfold vk;simp only[tJ,part,Option.bind_assoc,kn]
def DC (L:List kW) (h:tJ L i=none): ∀d,tJ L (i+d)=none
 |0=>h
 |d+1=>by show(tJ L (i+d)).bind (part (i+d))=none;rw[DC L h d];rfl
def LW (L:List kW) {s:Rd} (h:tJ L i=some s) (a:part i s=none) (b:i<6):vk L=none:=by
 have j:tJ L (i+1)=none:=by show(tJ L i).bind (part i)=none;rw[h];exact a
 have:=DC L j (5-i);rw[show i+1+(5-i)=6 by omega,DE] at this;exact this
def DD (L:List kW): ∀(i:Nat) {s:Rd},i<=6->tJ L i=some s->pH L s/\(i<=3->s.x.eB=[])/\(i<=4->s.x.gn=[])
 |0,s,_,h=>by obtain rfl:=fg h;exact⟨pH.start L,fun _=>rfl,fun _=>rfl⟩
 |i+1,s,hi,h=>by
  obtain⟨m,j,g⟩:=zK.1 (show(tJ L i).bind (part i)=some s from h);obtain⟨l,e,d⟩:=DD L i oG j
  match i,hi,e,d,g with
  |0,_,e,d,g=>obtain⟨a,b,c⟩:=l.title g;exact⟨a,fun _=>b.trans (e oG),fun _=>c.trans (d oG)⟩
  |1,_,e,d,g=>obtain⟨a,b,c⟩:=l.Wo g;exact⟨a,fun _=>b.trans (e oG),fun _=>c.trans (d oG)⟩
  |2,_,e,d,g=>obtain⟨a,b,c⟩:=l.how g;exact⟨a,fun _=>b.trans (e oG),fun _=>c.trans (d oG)⟩
  |3,_,e,d,g=>obtain⟨a,c⟩:=pH.eB _ l g;exact⟨a,fun h=>oG,fun _=>c.trans (d oG)⟩
  |4,_,e,d,g=>exact⟨l.gn g,fun h=>oG,fun h=>oG⟩
  |5,_,e,d,g=>
   simp only[part,Ij] at g;split at g
   ·obtain rfl:=fg g;exact⟨l,fun h=>oG,fun h=>oG⟩
   ·cases g
  |n+6,hi,_,_,_=>omega
end uf
namespace ue
def sub (l:List UInt8) (a b:Nat):List UInt8:=(l.drop a).take (b-a)
end ue
namespace ue
def zg: ∀(t:List UInt8) (b a:List (List (List UInt8))) (l:List (List UInt8)) (d:List UInt8),scan b l d t=some a->a.length<=b.length+t.length
 | [],b,a,l,d,h=>by
  rw[scan] at h;split at h
  ·injection h with h
   subst h;simp
  ·cases h
 |c::t,b,a,l,d,h=>by
  rw[ff];rw[scan] at h;split at h
  ·split at h
   ·have:=zg t _ _ _ _ h;omega
   ·cases h
  ·split at h
   ·cases h
   ·split at h
    ·have:=zg t _ _ _ _ h;simp at this;omega
    ·have:=zg t _ _ _ _ h;omega
def KS {t:List UInt8} {a:List (List (List UInt8))} (h:nH t=some a):a.length<=t.length:=by have:=zg t [] a [] [] h;simpa using this
end ue
namespace Et
def oA (c size:Int):Int->List Int->Option (List Int)
 |_,[]=>some []
 |there,a::q=>if size<there+a\/there+a<c then none else(oA c size (there+a-c) q).map fun l=>(there+a-c)::l
def qc (b c:Int) (q:List Int) (d:Nat):Int:=b+(q.take (d+1)).sum-c*d
def Ed (b c size:Int) (q:List Int) (d:Nat):Bool:=decide (qc b c q d<=size)&&decide (0<=qc b c q d-c)
def Dq (b c size:Int) (q:List Int):Option (List Int):=
 if (List.range q).all (Ed b c size q) then some ((List.range q).map fun d=>qc b c q d-c) else none
def ED (b c a:Int) (q:List Int):qc b c (a::q) 0=b+a:=by simp[qc]
def EC (b c a:Int) (q:List Int) (d:Nat):qc b c (a::q) (d+1)=qc (b+a-c) c q d:=by unfold qc;rw[rq,yu,Pz,vd];omega
def Ry (b c size a:Int) (q:List Int) (d:Nat):Ed b c size (a::q) (d+1)=Ed (b+a-c) c size q d:=by unfold Ed;rw[EC]
def Fg (c size:Int): ∀(q:List Int) (b:Int),oA c size b q=Dq b c size q
 | [],b=>rfl
 |a::q,b=>by
  have i:=Fg c size q (b+a-c);unfold oA;rw[i];unfold Dq;rw[ff,Xl,eR,gN,Xj,kK];have e:(Ed b c size (a::q)∘Nat.succ)=Ed (b+a-c) c size q:=by funext d;exact Ry b c size a q d
  have f:((fun d=>qc b c (a::q) d-c)∘Nat.succ)=fun d=>qc (b+a-c) c q d-c:=by funext d;show qc b c (a::q) (d+1)-c=_;rw[EC]
  rw[e,f,ED];have g:Ed b c size (a::q) 0=(decide (b+a<=size)&&decide (0<=b+a-c)):=by unfold Ed;rw[ED]
  rw[g];by_cases h:size<b+a\/b+a<c
  ·rw[if_pos h];have:(decide (b+a<=size)&&decide (0<=b+a-c))=false:=by rw[pZ,decide_eq_false_iff_not,decide_eq_false_iff_not];omega
   rw[this];rfl
  ·rw[if_neg h,decide_eq_true oG,decide_eq_true oG,kh];simp only[kh];split <;>rfl
def GD (a b:Int):Int:=if 9223372036854775807<a+b then 9223372036854775807 else if a+b < -9223372036854775808 then -9223372036854775808 else a+b
def kT (v:List (Int×Int)) (d:Nat):Int:=(v.filter fun x=>x.1==(d:Int)).foldl (fun s x=>GD s x.2) 0
def lW (v:List (Int×Int)) (n:Nat):List Int:=(List.range n).map (kT v)
def p9 (v:List (Int×Int)) (x:Int×Int) (d:Nat):kT (v++[x]) d=if x.1=(d:Int) then GD (kT v d) x.2 else kT v d:=by
 unfold kT;rw[nu,nW];by_cases h:x.1=(d:Int)
 ·rw[if_pos h];simp[h]
 ·rw[if_neg h];simp[h]
end Et
section
open ko kN
variable {q:List Int} {z:Int}
def mx:Nat->List Int->List (Int×Int)
 |_,[]=>[]
 |d,z::q=>(if 0<z then [((d:Int),z)] else [])++mx (d+1) q
def gg (q:List Int):List (Int×Int):=mx 0 q
def acq (z:Int):Tr:=if 0<z then [(0,z)] else []
def ic (z:Int):Dy:=if 0<z then [[(0,z)]] else []
def ep (q:List Int):Pl:=q.map ic
def aam: ∀(a b:List Int) (d:Nat),mx d (a++b)=mx d a++mx (d+a.length) b
 | [],b,d=>by simp[mx]
 |z::a,b,d=>by rw[fY,mx,mx,aam a b (d+1),eT,ff];congr 3;omega
def aeJ {i:Nat} (h:q[i]? =some z):gg (q.take (i+1))=gg (q.take i)++if 0<z then [((i:Int),z)] else []:=by have a:=(bX.1 h).1;unfold gg;rw[gk,h,lY,aam,fB,kM (pF a),gW];simp[mx]
def tg: ∀{q:List Int} {k:Nat} {v:Int×Int},v∈mx k q-> ∃d:Nat,v.1=((k+d:Nat):Int)/\d<q/\q[d]? =some v.2/\0<v.2
 | [],k,v,h=>by simp[mx] at h
 |z::q,k,v,h=>by
  rw[mx] at h
  rcases fO.1 h with h|h
  ·split at h
   ·rename_i e;cases nw.1 h;exact⟨0,rfl,by simp,rfl,e⟩
   ·simp at h
  ·obtain⟨d,b,f,a,c⟩:=tg h;exact⟨d+1,by rw[b];congr 1;omega,by simp;omega,a,c⟩
def px: ∀(q:List Int) (k:Nat),(mx k q).length<=q
 | [],k=>by simp[mx]
 |z::q,k=>by have:=px q (k+1);rw[mx,fa,ff];split <;>simp <;>omega
def adl: ∀(q:List Int) (k d:Nat),(mx k q).filter (fun v=>v.1==((k+d:Nat):Int))=match q[d]? with
  |some z=>if 0<z then [(((k+d:Nat):Int),z)] else []
  |none=>[]
 | [],k,d=>by simp[mx]
 |z::q,k,d=>by
  rw[mx,nu];cases d with
  |zero=>
   have a:(mx (k+1) q).filter (fun v=>v.1==((k+0:Nat):Int))=[]:=by rw[AW];intro v c;obtain⟨d,b,-⟩:=tg c;rw[b];simp only[beq_iff_eq];omega
   rw[a,mz];simp only[fK,eW];split <;>simp
  |succ d=>
   have e:=adl q (k+1) d;rw[show k+(d+1)=k+1+d by omega,e,df];have a:List.filter (fun v:Int×Int=>v.1==((k+1+d:Nat):Int)) (if 0<z then [((k:Int),z)] else [])=[]:=by
    split
    ·rw[AW];intro v c;cases nw.1 c;simp only[beq_iff_eq];omega
    ·rfl
   rw[a,gQ]
def aff {d:Nat} (h:q[d]? =some z):((gg q).filter (fun v=>v.1==(d:Int))).map (fun v=>((0:Int),v.2))=acq z:=by have:=adl q 0 d;rw[gW,h] at this;unfold gg acq;rw[this];dsimp only;split <;>rfl
end
namespace ko
variable {d:Dy} {j:Nat} {p:Pl} {s:vg} {t:Tr}
def s8: ∀(a b:Pl) (i:Nat),iZ i (a++b)=iZ i a++iZ (i+a.length) b
 | [],b,i=>by simp[iZ]
 |d::a,b,i=>by rw[fY,iZ,iZ,s8 a b (i+1),eT,ff];congr 3;omega
def LZ (i:Nat) (d:Dy):iZ i [d]=iP i d:=by simp[iZ]
def rI (h:p[k]? =some d):iZ 0 (p.take (k+1))=iZ 0 (p.take k)++iP k d:=by have a:=(bX.1 h).1;rw[gk,h,lY,s8,LZ,fB,kM oG,gW]
def tK (h:d[j]? =some t):iP i (d.take (j+1))=iP i (d.take j)++ku i t:=by unfold iP;rw[gk,h,lY,fU];simp
def tM (h:t[j]? =some s):ku i (t.take (j+1))=ku i (t.take j)++[(i,s)]:=by unfold ku;rw[gk,h,lY,gJ];rfl
def L3 (k:Nat):iZ 0 (p.take k) <+:nn p:=by
 have e:nn p=iZ 0 (p.take k++p.drop k):=by rw[lV];rfl
 rw[e,s8];exact acm _ _
def LY (i j:Nat):iP i (d.take j) <+:iP i d:=by
 have e:iP i d=iP i (d.take j++d.drop j):=by rw[lV]
 rw[e];unfold iP;rw[fU];exact acm _ _
def OX (a:p[k]? =some d) (c:d[j]? =some t) (b:t[i]? =some s):
  iZ 0 (p.take k)++iP k (d.take j)++ku k (t.take i)++[(k,s)] <+:nn p:=by
 refine aas ?_ (L3 (p:=p) (k+1));rw[rI a,eT,eT];refine(PB _).2 ?_;refine aas ?_ (LY (d:=d) k (j+1));rw[tK c];refine(PB _).2 ?_;rw[<-tM b];unfold ku;exact List.IsPrefix.map _ (List.take_prefix _ _)
end ko
namespace ko
variable {l:List (Nat×vg)} {x:Nat×vg}
def mn (c:Int) (l:List (Nat×vg)):List (Nat×Int):=(l.filter fun x=>x.2.1==c).map fun x=>(x.1,x.2.2)
def sU (c:Int) (p:Pl):List (Nat×Int):=mn c (nn p)
def Pg (h:x.2.1=c):mn c (l++[x])=mn c l++[(x.1,x.2.2)]:=by unfold mn;rw[nu,gJ];simp[h]
def SK (h:x.2.1≠c):mn c (l++[x])=mn c l:=by unfold mn;rw[nu,gJ];simp[h]
def Pf (c:Int) (l:List (Nat×vg)):(mn c l).length<=l.length:=by unfold mn;rw[fm];exact tQ _ _
end ko
namespace jm
end jm
namespace jm
def aaE (D:List (List Int)) (c:Int):Nat->Int
 |0=>sm D 0 (c+1)
 |k+1=>if (k:Int)=c+1 then aaE D c k else min (aaE D c k) (sm D k (c+1))
def eY (D:List (List Int)) (c:Int):Nat->Int
 |0=>sm D (c+1) 0
 |k+1=>if (k:Int)=c+1 then eY D c k else min (eY D c k) (sm D (c+1) k)
def acB (D:List (List Int)) (c:Int) (k:Nat) (h:(k:Int)=c+1):aaE D c (k+1)=aaE D c k:=by rw[aaE,if_pos h]
def aak (D:List (List Int)) (c:Int) (k:Nat) (h:(k:Int)≠c+1):aaE D c (k+1)=min (aaE D c k) (sm D k (c+1)):=by rw[aaE,if_neg h]
def L1 (D:List (List Int)) (c:Int) (k:Nat) (h:(k:Int)=c+1):eY D c (k+1)=eY D c k:=by rw[eY,if_pos h]
def GF (D:List (List Int)) (c:Int) (k:Nat) (h:(k:Int)≠c+1):eY D c (k+1)=min (eY D c k) (sm D (c+1) k):=by rw[eY,if_neg h]
def aeD (D:List (List Int)) (c:Int):aaE D c 1=sm D 0 (c+1):=by
 rw[aaE];split
 ·rfl
 ·show min (sm D 0 (c+1)) (sm D 0 (c+1))=_;simp
def adv (D:List (List Int)) (c:Int):eY D c 1=sm D (c+1) 0:=by
 rw[eY];split
 ·rfl
 ·show min (sm D (c+1) 0) (sm D (c+1) 0)=_;simp
def adw (D:List (List Int)) (c:Int) (h:Kd D): ∀k,0<=aaE D c k/\aaE D c k<=2147483648
 |0=>h 0 (c+1)
 |k+1=>by have a:=adw D c h k;have b:=h k (c+1);rw[aaE];split <;>omega
def acA (D:List (List Int)) (c:Int) (h:Kd D): ∀k,0<=eY D c k/\eY D c k<=2147483648
 |0=>h (c+1) 0
 |k+1=>by have a:=acA D c h k;have b:=h (c+1) k;rw[eY];split <;>omega
def kp (D:List (List Int)) (c:Int) (k:Nat):Int:=if k=0 then -1 else aaE D c k
def fs (D:List (List Int)) (c:Int) (k:Nat):Int:=if k=0 then -1 else eY D c k
end jm
section
variable {g tm':Array Value} {j:List Deferred} {listed':Array Bool}
section
def aaL {o:Oper} {y:Nat->Option Bool} (a:o.guard=none):Region.wanted o y=true:=by simp[Region.wanted,a]
def pc (i d:Nat) (p:ops[i]? =some b) (m:b.dst=some d)
  (r:Region.noSelect ops=true) (o:Region.free .any ops listed i=true) (q:(Region.ready .any ops listed).contains i=true) (k:listed.setIfInBounds i true=listed')
  (l: ∀c a w,Q (.panic c) (a.put b.dst v) w->Q (.panic c) a w) (t:Region.wanted b (yielded ops g)=true)
  (u: ∀w,S w->(execOp (Act.eval ⟨g,j⟩) b).run P w=.ok (.value v) w) (s:g.setIfInBounds d v=tm')
  (h:ny P ops Q S n listed' ⟨tm',j⟩):ny P ops Q S (n+1) listed ⟨g,j⟩:=by
 subst k;subst s;exact adN i p r o q (fun c a w=>l c a w) t u (by rw[m];exact h)
def aao (i d:Nat) {f:FuncId} {args:Array Value} (p:ops[i]? =some b) (m:b.dst=some d)
  (r:Region.noSelect ops=true) (o:Region.free .any ops listed i=true) (q:(Region.ready .any ops listed).contains i=true) (k:listed.setIfInBounds i true=listed')
  (l: ∀c a w,Q (.panic c) (a.put b.dst v) w->Q (.panic c) a w) (t:Region.wanted b (yielded ops g)=true)
  (u: ∀w,(execOp (Act.eval ⟨g,j⟩) b).run P w=.ok (.enter f args) w) (x: ∀w,S w->Calls P f args w fun e w'=>e=.returned v/\S w') (s:g.setIfInBounds d v=tm')
  (h:ny P ops Q S n listed' ⟨tm',j⟩):ny P ops Q S (n+1) listed ⟨g,j⟩:=by
 subst k;subst s;exact adL i p r o q (fun c a w=>l c a w) t u x (by rw[m];exact h)
def adQ (S:World->Prop) (n:Nat) {id:Nat} {a:Act} {w:World} (b:P.follows .mixedOrders=true) (hS:S w.drew) (c:ops.size=n) (k:Array.replicate n false=listed)
  (h:ny P ops Q S n listed ⟨a.tmps,a.defers⟩):(Code.region id ops true).wp P Q a w:=by
 subst c;subst k;exact adP S b hS h
end
end
namespace J8
open ko kN
theorem ae0{p:Prop}(h:p:=by
 have h:=VP (x:=x) (y:=y) e f d lE;have l:=(bX.1 e).1;have lb:=(bX.1 f).1;rw[gh,if_pos l] at h;by_cases c:a=b
 ·have:=k c;rw[if_neg (fun h=>h.2 c)] at h;omega
 ·have:=j c;rw[if_pos ⟨lb,c⟩] at h;omega):p:=h
variable {a b x y:Nat} {d:Dy} {g i:Tr}
def cW (d:Dy) (a b x y j:Nat):Nat:=if j=a then x+1 else if j=b then y+1 else(d[j]?.map fun t=>t.length+1).getD 0
def sW (d:Dy) (a b x y:Nat):Nat->Nat
 |0=>0
 |i+1=>sW d a b x y i+cW d a b x y i
def VP {d:Dy} {a b x y:Nat} {ta tb:Tr} (hta:d[a]? =some ta) (htb:d[b]? =some tb): ∀i,i<=d.length->
  (sW d a b x y i:Int)=yw (d.take i)+(if a<i then(x:Int)-ta.length else 0)+(if b<i/\a≠b then(y:Int)-tb.length else 0)
 |0,_=>by simp[sW,Ni]
 |i+1,hi=>by
  obtain⟨t,ht⟩: ∃t,d[i]? =some t:=⟨d[i],fp oG⟩;have ih:=VP (x:=x) (y:=y) hta htb i (by omega);rw[sW,rz ht];unfold cW;by_cases h1:i=a
  ·subst h1;rw[hta] at ht;cases ht;rw[if_pos rfl];by_cases h2:i=b
   ·subst h2;simp at ih|-;omega
   ·have e1: ¬i<i:=oG;rw[if_neg e1] at ih;rw[if_pos oG];by_cases h3:b<i
    ·rw[if_pos ⟨h3,h2⟩] at ih;rw[if_pos ⟨oG,h2⟩];push_cast;omega
    ·rw[if_neg (fun h=>h3 h.1)] at ih;rw[if_neg (fun h=>by omega)];push_cast;omega
  ·rw[if_neg h1];by_cases h2:i=b
   ·subst h2;rw[htb] at ht;cases ht;rw[if_pos rfl];have e1: ¬(i<i/\a≠i):=oG;rw[if_neg e1] at ih;rw[if_pos (show i<i+1/\a≠i from⟨oG,fun e=>h1 e.symm⟩)];by_cases h3:a<i
    ·rw[if_pos h3] at ih;rw[if_pos oG];push_cast;omega
    ·rw[if_neg h3] at ih;rw[if_neg oG];push_cast;omega
   ·rw[if_neg h2,ht];have e1:(a<i+1)↔(a<i):=oG;have e2:(b<i+1/\a≠b)↔(b<i/\a≠b):=oG;simp only[e1,e2,lL,Mr];push_cast;omega
def YC (e:d[a]? =some g) (f:d[b]? =some i) (j:a≠b->x+y<=g.length+i.length) (k:a=b->x<=g):sW d a b x y d.length<=yw d:=by exact ae0
def afE (e:d[a]? =some g) (f:d[b]? =some i) (j:a≠b->x+y=g.length+i.length) (k:a=b->x=g):sW d a b x y d.length=yw d:=by exact ae0
def ael: ∀d:Dy,yw d=d.flatten.length+d.length
 | []=>rfl
 |t::d=>by have:=ael d;rw[qM,qm,fa,ff];omega
def acL (d:Dy) (t:Tr):(d++[t]).flatten.length=d.flatten.length+t.length:=sI
end J8
namespace zw
def nx (n:Nat):List Int:=if h:n=0 then [] else((n%65536:Nat):Int)::nx (n/65536)
termination_by n
decreasing_by omega
def rE:nx 0=[]:=by rw[nx];simp
def qs (h:n≠0):nx n=((n%65536:Nat):Int)::nx (n/65536):=by rw[nx];simp[h]
def BV: ∀(k n:Nat),n<65536^k->(nx n).length<=k
 |0,n,h=>by
  obtain rfl:n=0:=by simpa using h
  rw[rE];simp
 |k+1,n,h=>by
  by_cases a:n=0
  ·subst a;rw[rE];simp
  ·rw[qs a,ff];have:=BV k (n/65536) (by rw[Nat.div_lt_iff_lt_mul dE];rwa [js] at h);omega
def yH: ∀(i n:Nat),i<(nx n).length->(nx n)[i]? =some ((n/65536^i%65536:Nat):Int)
 |i,n,h=>by
  by_cases a:n=0
  ·subst a;rw[rE] at h;simp at h
  ·rw[qs a] at h|-
   cases i with
   |zero=>simp
   |succ i=>
    rw[df,yH i (n/65536) (by simpa using h),mN,js,nY]
def xJ: ∀(i n:Nat),i<(nx n).length↔n/65536^i≠0
 |0,n=>by
  rw[Nat.pow_zero,Nat.div_one];by_cases a:n=0
  ·subst a;simp[rE]
  ·rw[qs a];simp[a]
 |i+1,n=>by
  by_cases a:n=0
  ·subst a;simp[rE]
  ·rw[qs a,ff,Nat.succ_lt_succ_iff,xJ i (n/65536),mN,js,nY]
def Qm (a:n≠0): ∃z,(nx n)[(nx n).length-1]? =some z/\z≠0:=by
 have c:0<(nx n).length:=by rw[qs a];simp
 have d:=(xJ ((nx n).length-1) n).1 oG;have b: ¬n/65536^(nx n).length≠0:=fun h=>absurd ((xJ _ n).2 h) oG;refine⟨_,yH _ n oG,?_⟩;have e:n/65536^(nx n).length=n/65536^((nx n).length-1)/65536:=by rw[mN,<-js,Nat.succ_eq_add_one,aco c]
 rw[e] at b;omega
end zw
namespace uf
open ue jm
variable {c:kc} {days:Int} {l:kW} {x:fS}
def DX (x:fS) (k:Nat):List UInt8:=((iR x).take k).flatMap kx
def SB (x:fS):DX x 0=[]:=rfl
def qK (h:(iR x)[k]? =some l):DX x (k+1)=DX x k++kx l:=by unfold DX;rw[gk,h,lY,fU];simp
def BL (L:List kW) (k:Nat):((L.take k).flatMap kx).length<=(L.flatMap kx).length:=by
 conv=>rhs;rw[<-lV k L,fU,fa]
 omega
def AR (x:fS) (k:Nat):(DX x k).length<=(na x).length:=BL _ k
def abM (x:fS):(iR x)[0]? =some [rK,adI]:=rfl
def abN (x:fS):(iR x)[1]? =some [BA,iN x.days,JT,iN x.mm,JQ,iN x.cap,JR,iN x.len]:=rfl
def abO (x:fS):(iR x)[2]? =some [Bz,iN x.eB]:=rfl
def TQ {i:Nat} (h:x.eB[i]? =some c):(iR x)[3+i]? =some (kq x.days c):=by have a:i<x.eB.length:=(bX.1 h).1;unfold iR;rw[fo (by simp[lh]),show 3+i-(lh x).length=i by simp[lh],fu (by simpa using a),fh,h];rfl
def TR (x:fS):(iR x)[3+x.eB.length]? =some [aan]:=by unfold iR;rw[fo (by simp[lh]),show 3+x.eB.length-(lh x).length=x.eB.length by simp[lh],fo sI];simp
def Wm {j:Nat} {r:List Int} (h:x.gn[j]? =some r):(iR x)[3+x.eB.length+1+j]? =some (r.map iN):=by unfold iR;rw[fo (by simp[lh];omega),show 3+x.eB.length+1+j-(lh x).length=x.eB.length+(1+j) by simp[lh];omega,fo sI];simp only[fm,rY];rw[sY 1 j,df,fh,h];rfl
def UL (x:fS):DX x (3+x.eB.length+1+x.gn.length)=na x:=by unfold DX na;rw[fj];simp[iR,lh];omega
def IH (h:(iR x)[k]? =some l):(DX x k).length+(kx l).length<=(na x).length:=by have:=AR x (k+1);rw[qK h,fa] at this;exact this
def EH (a:jT c days=true):c.jC.length<=64:=by
 unfold jT at a;split at a
 ·simp only[Dh,eR,lF,id,kF,a6,kl,oj] at a;omega
 ·split at a
  ·simp only[xW,eR,lF,id,kF,a6,qH,decide_eq_true_eq] at a;omega
  ·cases a
def oO {n:Int} (h:tq n):(iN n).length<=21:=(Ii h).2
def FZ (d:days<=64) (b:c.wf) (a:jT c days=true):(kq days c).length<=1000/\ ∀w∈kq days c,w.length<=1000:=by
 have j:=EH a;obtain⟨w1,e,k,f,g,h,l,i⟩:=b;unfold kq;split
 ·refine⟨by simp;omega,fun w b=>?_⟩;simp only[fC,cy] at b
  rcases b with rfl|rfl|⟨s,-,rfl⟩
  ·decide
  ·have:=oO e;omega
  ·rw[oV];omega
 ·refine⟨by simp,fun w b=>?_⟩;simp only[fC,iy,or_false] at b
  rcases b with rfl|rfl|rfl|rfl|rfl|rfl
  ·decide
  ·have:=oO f;omega
  ·have:=oO g;omega
  ·have:=oO h;omega
  ·split <;>decide
  ·have:=oO i;omega
end uf
namespace uf
open ue jm
end uf
namespace jm
end jm
namespace uf
open ue jm
def CI {α β:Type} (f:α->List β) (m:Nat): ∀l:List α,(∀a∈l,(f a).length<=m)->(l.flatMap f).length<=l.length*m
 | [],_=>by simp
 |a::l,h=>by rw[gG,fa,ff,Nat.succ_mul];have d:=h a sI;have e:=CI f m l fun b c=>h b (nX _ c);omega
end uf
namespace uf
open ue jm
variable {c:kc} {days:Int}
def Bh (b:UInt8): ∀(l:kW) (a:Word),l≠[]->jw b (l++[a])=jw b l++b::a
 | [],a,h=>absurd rfl h
 | [w],a,_=>rfl
 |w::v::t,a,_=>by have c:=Bh b (v::t) a sI;show w++b::jw b ((v::t)++[a])=(w++b::jw b (v::t))++b::a;rw[c];simp
def QC (x:fS):DX x 3=[116,114,97,110,116,101,114,32,49,10,100,97,121,115,32]++iN x.days++[32,118,101,104,105,99,108,101,115,32]++iN x.mm++[32,99,97,112,97,99,105,116,121,32]++iN x.cap++[32,108,101,110,103,116,104,32]++iN x.len++[10,99,117,115,116,111,109,101,114,115,32]++iN x.eB.length++[10]:=by rw[qK (abO x),qK (abN x),qK (abM x),SB];simp[kx,jw,rK,adI,BA,JT,JQ,JR,Bz]
def Qo (x:fS):DX x (3+x.eB.length+1)=DX x (3+x.eB.length)++[100,105,115,116,97,110,99,101,115,10]:=by rw[qK (TR x)];rfl
def oY (c:kc) (n i:Nat):kW:=nt::iN c.iL::(c.jC.take i).map fun s=>jV s n
def JO (c:kc) (n:Nat):jw 32 (oY c n 0)=[118,105,115,105,116,32]++iN c.iL:=rfl
def JN {n k s:Nat} (h:c.jC[k]? =some s):jw 32 (oY c n (k+1))=jw 32 (oY c n k)++[32]++jV s n:=by
 have e:oY c n (k+1)=oY c n k++[jV s n]:=by unfold oY;rw[gk,h];simp
 rw[e,Bh _ _ _ (by simp[oY])];simp
def JM (b:c.kind=1):kx (kq days c)=jw 32 (oY c days.toNat c.jC)++[10]:=by unfold kq oY kx;rw[if_pos b,gh]
def O6 (b:c.kind≠1):kx (kq days c)=[116,97,110,107,32]++iN c.jU++[32]++iN c.size++[32]++iN c.start++[32]++(if c.lR=1 then FC else Pm)++[32]++iN c.hold++[10]:=by unfold kq kx;rw[if_neg b];simp[jw,qh]
def O8 (b:c.kind≠1) (a:jT c days=true):c.lR=1\/c.lR=2:=by
 unfold jT at a;rw[if_neg b] at a;split at a
 ·simp only[xW,Du,eR,lF,id,kF,a6,hU,beq_iff_eq] at a;exact a.2.2.2.1
 ·cases a
end uf
end Go.Proofs.YtgimnjldndkalaaGreatDoor
