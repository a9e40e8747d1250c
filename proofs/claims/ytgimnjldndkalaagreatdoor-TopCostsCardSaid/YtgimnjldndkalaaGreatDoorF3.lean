/- Of the proof of TopCosts: A region that draws its order, walked in the text's order: what only reads, and calls that leave the world as. -/
import Derived.OrdersHeld
import Derived.Test.YtgimnjldndkalaaGreatDoorF0
set_option linter.all false
set_option maxRecDepth 100000
namespace Go.Proofs.YtgimnjldndkalaaGreatDoor
variable {a:Act} {ops:Array Oper} {Q:Exit->Act->World->Prop} {m:Int} {W late:List Nat} {b i j k n s:Nat} {D p:Nat->Bool} {ρ:Nat->Int} {θ:Nat->Nat} {o:Oper} {x:Operand} {P:Program} {α:Type} {t:TypeId} {v:Value} {w:World} {S:World->Prop}
section
variable {K:Act->World->Prop}
section
def qt (P:Program) (ops:Array Oper) (S:World->Prop) (o:Oper) (v:Value) (a:Act):Prop:=
 (Region.wanted o (yielded ops a.tmps)=true/\ ∀w,S w->(execOp a.eval o).run P w=.ok (.value v) w\/
  ∃f args,(execOp a.eval o).run P w=.ok (.enter f args) w/\Calls P f args w fun e w'=>e=.returned v/\w=w')\/
 (Region.wanted o (yielded ops a.tmps)=false/\v=undef)
def qt.of_same {q:Act} (k:qt P ops S o v a) (p:execOp q.eval o=execOp a.eval o)
  (m:Region.wanted o (yielded ops q.tmps)=Region.wanted o (yielded ops a.tmps)):qt P ops S o v q:=by
 unfold qt at*;rw[p,m];exact k
def qt.op {i:Nat} (b:ops[i]? =some o) (k:qt P ops S o v a)
  (hS:S w) (h:K (a.put o.dst v) w):wpOp P ops Q i K a w:=by
 unfold wpOp
 rcases k with ⟨m,k⟩|⟨m,rfl⟩
 rotate_left
 ·simp only[b,m,ach,if_false];exact h
 simp only[b,m,if_true];refine .inl ?_;unfold Oper.wp
 rcases k w hS with hv|⟨f,args,hv,hc⟩
 ·rw[hv];exact h
 ·rw[hv];refine Kc hc ?_;rintro e w' ⟨rfl,rfl⟩;exact h
def Pq {j:Nat} {i l:Oper} (F:ops[j]? =some l) (y:i.apart ops l=true)
  (z: ∀cs b,i.op≠ .select cs b) (s: ∀cs b,l.op≠ .select cs b)
  (C: ∀c a w,Q (.panic c) (a.put i.dst v) w->Q (.panic c) a w)
  (k:qt P ops S i v a) (h:wpOp P ops Q j K (a.put i.dst v) w):
  wpOp P ops Q j (fun q w'=>qt P ops S i v q/\K (q.put i.dst v) w') a w:=by
 obtain⟨t,o,B⟩:=Oper.apart_spec y;have g: ∀(b:Act),qt P ops S i v b-> ∀u,qt P ops S i v (b.put l.dst u):=fun b E u=>
  E.of_same (execOp_put i z b l.dst u B) (wanted_put i b l.dst u B)
 unfold wpOp at*;simp only[F] at*;rw[wanted_put l a i.dst v t] at h;by_cases m:Region.wanted l (yielded ops a.tmps)=true
 ·rw[if_pos m] at h|-
  rcases h with h|⟨hasks,hl⟩
  ·refine .inl ?_;unfold Oper.wp at*;rw[execOp_put l s a i.dst v t] at h;cases D:(execOp a.eval l).run P w with
   |ok n w'=>
    rw[D] at h;cases n with
    |value u=>exact⟨g a k u,by rw[<-rA a v u o];exact h⟩
    |skip=>exact⟨g a k _,by rw[<-rA a v undef o];exact h⟩
    |defer d=>
     refine⟨g {a with defers:=d::a.defers} (k.of_same rfl rfl) _,?_⟩;rw[<-rA _ v undef o,<-Act.put_defers];exact h
    |enter f args=>
     refine Kc h fun e A p=>?_;cases e with
     |returned u=>exact⟨g a k u,by rw[<-rA a v u o];exact p⟩
     |panicked c=>exact C _ _ _ p
     |outgrown=>exact p
    |row r args=>exact Rows.mono h fun u A p=>⟨g a k u,by rw[<-rA a v u o];exact p⟩
    |_=>exact h
   |halt x w'=>
    rw[D] at h;cases x with
    |panic u=>exact C _ _ _ h
    |_=>exact h
  ·exact .inr ⟨by unfold Oper.asks at*;rw[execOp_put l s a i.dst v t] at hasks;exact hasks,hl⟩
 ·rw[if_neg m] at h|-
  exact⟨g a k _,by rw[<-rA a v undef o];exact h⟩
end
end

section
variable {d:Array Bool} {f:Oper} {id:Nat}
section
def il (P:Program) (ops:Array Oper) (Q:Exit->Act->World->Prop) (S:World->Prop) (late:List Nat):Nat->Array Bool->Act->World->Prop
 |0,listed,a,w=>Region.ready .any ops listed=[]/\Q .normal a w
 |n+1,listed,a,w=>(Region.ready .any ops listed=[]->Q .normal a w)/\
  ∀i∈Region.ready .any ops listed,wpOp P ops Q i (fun t w'=>(late.contains i=false->S w')/\il P ops Q S late n (listed.setIfInBounds i true) t w') a w
def vc: ∀(n:Nat) (d:Array Bool) (a:Act) (w:World),il P ops Q S late n d a w->wpAny P .any ops Q n d a w
 |0,_,_,_,h=>h
 |n+1,_,_,_,h=>⟨h.1,fun i m=>wpOp_mono (fun t w' b=>vc n _ t w' b.2) (h.2 i m)⟩
def JU (ops:Array Oper) (i:Nat) (W:List Nat):Bool:=
 W.all fun k=>match ops[k]? with
  |some o=>o.after.toList.any fun e=>Region.binds .any e&&(e.on==i||W.contains e.on)
  |none=>true
def AV (h:JU ops i W=true) (m:d.getD i true=false) (hW: ∀k∈W,d.getD k true=false) {k:Nat} (z:k∈W):k∉Region.ready .any ops d:=by
 intro l;obtain⟨E,o,b,u⟩:=mem_ready.1 l;have q:=dT.1 h k z;simp only[b,mS,a6,hU,beq_iff_eq] at q;obtain⟨e,R,O,a⟩:=q;have g:=u e (DW.1 R) O;have s:d.getD e.on true=false:=by
  rcases a with h4|h4
  ·rw[h4];exact m
  ·exact hW _ (by simpa using h4)
 rcases iU e.on d.size with h'|h'
 ·simp[h'] at g s;rw[g] at s;cases s
 ·simp[Xi h'] at s
def xk (ops:Array Oper) (i:Nat):List Nat:=
 (List.range ops.size).foldl (fun W k=>match ops[k]? with
  |some o=>if o.after.toList.any fun e=>Region.binds .any e&&(e.on==i||W.contains e.on) then W++[k] else W
  |none=>W) []
def zy (m:ops[i]? =some f) (A: ∀(j:Nat) (o:Oper) cs b,ops[j]? =some o->o.op≠ .select cs b)
  (N: ∀c a w,Q (.panic c) (a.put f.dst v) w->Q (.panic c) a w) (F:JU ops i W=true) (C: ∀j,late.contains j=true->j∈W):
  ∀(n:Nat) (d:Array Bool) (a:Act) (w:World),
   (∀k∈W,d.getD k true=false)->
   (∀j G,ops[j]? =some G->j≠i->d.getD j true=false->(∀e∈G.after,Region.binds .any e=true->e.on≠i)->f.apart ops G=true)->
   i∈Region.ready .any ops d->qt P ops S f v a->S w->
   il P ops Q S late n (d.setIfInBounds i true) (a.put f.dst v) w->il P ops Q S late (n+1) d a w:=by
 intro n
 induction n with
 |zero=>
  intro d a w _ _ l I hS H;refine⟨fun h=>absurd l (by rw[h];simp),fun j r=>?_⟩;by_cases p:j=i
  ·subst p;exact I.op m hS ⟨fun _=>hS,H⟩
  ·have q:=ready_mono r p;rw[H.1] at q;cases q
 |succ n ih=>
  intro d a w hW x l I hS H;have B:=(mem_ready.1 l).1;refine⟨fun h=>absurd l (by rw[h];simp),fun j r=>?_⟩;by_cases p:j=i
  ·subst p;exact I.op m hS ⟨fun _=>hS,H⟩
  ·have q:=H.2 j (ready_mono r p);obtain⟨y,G,D,u⟩:=mem_ready.1 r;have M: ∀e∈G.after,Region.binds .any e=true->e.on≠i:=fun e R O T=>by
    have g:=u e R O;rw[T] at g
    rcases iU i d.size with h'|h'
    ·simp[h'] at B g;rw[B] at g;cases g
    ·simp[Xi h'] at g
   have g:=Pq D (x j G D p y M) (fun cs b=>A i f cs b m) (fun cs b=>A j G cs b D) N I q;refine wpOp_mono (fun t w' s=>?_) g;have Y:=ready_mono l (jN p);have K:j∉W:=fun h=>absurd r (AV F B hW h);have V:late.contains j=false:=by rw[J5];intro h;exact K (C j h)
   have J:S w':=s.2.1 V;refine⟨fun _=>J,ih (d.setIfInBounds j true) t w' (fun k z=>?_) (fun k Z z U E X=>?_) Y s.1 J ?_⟩
   ·rw[getD_set_ne true (show j≠k from fun e=>K (by rw[e];exact z))];exact hW k z
   ·refine x k Z z U ?_ X;by_cases L:j=k
    ·subst L;exact y
    ·rw[getD_set_ne true L] at E;exact E
   ·rw[yo _ _ p];exact s.2.2
def sT (ops:Array Oper) (late:List Nat) (d:Array Bool) (i:Nat):Bool:=
 Region.noSelect ops&&Region.free .any ops d i&&(Region.ready .any ops d).contains i&&JU ops i (xk ops i)&&late.all (fun j=>(xk ops i).contains j)&&(xk ops i).all (fun k=> !d.getD k true)
def DI (h:sT ops late d i=true):Region.noSelect ops=true/\Region.free .any ops d i=true/\(Region.ready .any ops d).contains i=true/\JU ops i (xk ops i)=true/\(∀j,late.contains j=true->j∈xk ops i)/\ ∀k∈xk ops i,d.getD k true=false:=by
 unfold sT at h;simp only[a6] at h;obtain⟨⟨⟨⟨⟨q,g⟩,s⟩,e⟩,l⟩,o⟩:=h;refine⟨q,g,s,e,fun j r=>?_,fun k z=>?_⟩
 ·have:=dT.1 l j (by simpa using r);simpa using this
 ·have:=dT.1 o k z;simpa using this
def lZ (i:Nat) (m:ops[i]? =some f) (j:sT ops late d i=true)
  (N: ∀c a w,Q (.panic c) (a.put f.dst v) w->Q (.panic c) a w) (b:Region.wanted f (yielded ops a.tmps)=true)
  (I: ∀w,S w->(execOp a.eval f).run P w=.ok (.value v) w) (hS:S w)
  (h:il P ops Q S late n (d.setIfInBounds i true) (a.put f.dst v) w):il P ops Q S late (n+1) d a w:=
 have⟨q,g,s,e,l,o⟩:=DI j
 zy m (acT q) N e l n d a w o (Region.free_spec m g) (by simpa using s) (.inl ⟨b,fun w b=>.inl (I w b)⟩) hS h
def DO (i:Nat) (m:ops[i]? =some f) (l:Region.ready .any ops d=[i])
  (b:Region.wanted f (yielded ops a.tmps)=true)
  (h: ∀K:Act->World->Prop,RowKit.Hid (∀t w',S w'->il P ops Q S late n (d.setIfInBounds i true) t w'->K t w')->f.wp P a w K Q):il P ops Q S late (n+1) d a w:=by
 refine⟨(fun B=>by rw[B] at l;cases l),fun j r=>?_⟩;rw[l] at r;obtain rfl:j=i:=by simpa using r
 unfold wpOp;simp only[m,b,if_true];exact .inl (h _ fun _ _ q g=>⟨fun _=>q,g⟩)
def JX (i:Nat) (m:ops[i]? =some f) (l:Region.ready .any ops d=[i]) (V:late.contains i=true)
  (b:Region.wanted f (yielded ops a.tmps)=true)
  (h: ∀K:Act->World->Prop,RowKit.Hid (∀t w',il P ops Q S late n (d.setIfInBounds i true) t w'->K t w')->f.wp P a w K Q):il P ops Q S late (n+1) d a w:=by
 refine⟨(fun B=>by rw[B] at l;cases l),fun j r=>?_⟩;rw[l] at r;obtain rfl:j=i:=by simpa using r
 unfold wpOp;simp only[m,b,if_true];exact .inl (h _ fun _ _ g=>⟨(fun h=>by rw[V] at h;cases h),g⟩)
def qi (l:Region.ready .any ops d=[]) (h:Q .normal a w):il P ops Q S late n d a w:=by
 cases n with
 |zero=>exact⟨l,h⟩
 |succ n=>exact⟨fun _=>h,(fun i m=>by rw[l] at m;cases m)⟩
def J1 (S:World->Prop) (late:List Nat) (b:P.follows .mixedOrders=true) (hS:S w.drew)
  (h:S w.drew->il P ops Q S late ops.size (Array.replicate ops.size false) a w.drew):(Code.region id ops true).wp P Q a w:=
 wp_region_any b (vc _ _ _ _ (h hS))
def oB (Q:Exit->Act->World->Prop):Exit->Act->World->Prop
 | .normal,a,w=>Q .normal a w
 |_,_,_=>False
def x9 (e:Exit) (a:Act) (w:World) (h:oB Q e a w):Q e a w:=by
 cases e with
 |normal=>exact h
 |_=>exact h.elim
def rL (S:World->Prop) (late:List Nat) (b:P.follows .mixedOrders=true) (hS:S w.drew)
  (h:S w.drew->il P ops (oB Q) S late ops.size (Array.replicate ops.size false) a w.drew):(Code.region id ops true).wp P Q a w:=
 wp_mono (J1 (Q:=oB Q) S late b hS h) x9
end
end
section
variable {b:Array Bool} {d:Oper} {g:List Oper}
section
def oZ {o:Oper} (h:o.guard=none) (f:Nat->Option Bool):Region.wanted o f=true:=by simp[Region.wanted,h]
def pO {α:Type} {l:Array α} {i:Nat} {x:α} {r:List α} (h:l.toList.drop i=x::r):l[i]? =some x:=by have:=congrArg List.head? h;rw[List.head?_drop,PA] at this;simpa using this
def ki (i:Nat) {v:Value} (f:ops.toList.drop i=d::g) (e:d.guard=none) (k:sT ops late b i=true)
  (j: ∀c a w,Q (.panic c) (a.put d.dst v) w->Q (.panic c) a w)
  (l: ∀w,S w->(execOp a.eval d).run P w=.ok (.value v) w) (hS:S w)
  (h:il P ops Q S late n (b.setIfInBounds i true) (a.put d.dst v) w):il P ops Q S late (n+1) b a w:=
 lZ i (pO f) k j (oZ e _) l hS h
def vU (i:Nat) (f:ops.toList.drop i=d::g) (e:d.guard=none) (j:Region.ready .any ops b=[i])
  (h: ∀K:Act->World->Prop,RowKit.Hid (∀c w',S w'->il P ops Q S late n (b.setIfInBounds i true) c w'->K c w')->d.wp P a w K Q):il P ops Q S late (n+1) b a w:=
 DO i (pO f) j (oZ e _) h
def G0 (i:Nat) (f:ops.toList.drop i=d::g) (e:d.guard=none) (j:Region.ready .any ops b=[i]) (k:late.contains i=true)
  (h: ∀K:Act->World->Prop,RowKit.Hid (∀c w',il P ops Q S late n (b.setIfInBounds i true) c w'->K c w')->d.wp P a w K Q):il P ops Q S late (n+1) b a w:=
 JX i (pO f) j k (oZ e _) h
end
end
namespace Ra
open Go
variable {c k:Int} {y:Nat}
theorem nb {a b:Nat}:(Nat.beq a b=true)=(a=b):=propext ⟨Nat.eq_of_beq_eq_true,fun h=>by subst h;exact jJ a⟩
structure E where
 s:Nat
 c:Int
def E.ev (ρ:Nat->Int) (e:E):Int:=ρ e.s+e.c
structure LC where
 x:Nat
 y:Nat
 c:Int
def LC.ok (ρ:Nat->Int) (f:LC):Prop:=ρ f.x<=ρ f.y+f.c
def ln (ρ:Nat->Int) (F:List LC):Prop:= ∀f∈F,f.ok ρ
def JA (F:List LC) (y:Nat) (c:Int):Nat->List Nat->Nat->Int->Bool
 |0,_,x,acc=>Nat.beq x y&&decide (acc<=c)
 |d+1,vs,x,acc=>cond (Nat.beq x y) (decide (acc<=c)) (F.any fun f=>cond (Nat.beq f.x x) (cond (vs.any (Nat.beq f.y)) false (JA F y c d (x::vs) f.y (acc+f.c))) false)
theorem Se {F:List LC} (hF:ln ρ F) : ∀(d:Nat) (vs:List Nat) (x:Nat) (a:Int),JA F y c d vs x a=true->ρ x+a<=ρ y+c:=by
 intro d
 induction d with
 |zero=>
  intro vs x a h;simp only[JA,a6,nb,decide_eq_true_eq] at h;obtain⟨rfl,h⟩:=h;omega
 |succ d ih=>
  intro vs x a h;unfold JA at h;cases e:Nat.beq x y with
  |true=>
   rw[e,cond_true,decide_eq_true_eq] at h;rw[nb] at e;subst e;omega
  |false=>
   rw[e,cond_false,mS] at h;obtain⟨f,b,h⟩:=h;cases hx:Nat.beq f.x x with
   |false=>rw[hx,cond_false] at h;cases h
   |true=>
    rw[hx,cond_true] at h;cases j:vs.any (Nat.beq f.y) with
    |true=>rw[j,cond_true] at h;cases h
    |false=>
     rw[j,cond_false] at h;have g:=hF f b;have i:=ih _ _ _ h;rw[nb] at hx;unfold LC.ok at g;rw[hx] at g;omega
def UF (F:List LC) (y:Nat) (c:Int) (d x:Nat) (a:Int):Bool:=JA F y c d [] x a
theorem GN {F:List LC} (hF:ln ρ F) (d x:Nat) (a:Int) (h:UF F y c d x a=true):ρ x+a<=ρ y+c:=Se hF d [] x a h
def o9 (F:List LC) (a b:E) (k:Int):Bool:=UF F b.s (b.c-a.c-k) 5 a.s 0
theorem jy {F:List LC} (hF:ln ρ F) {a b:E} (h:o9 F a b k=true):a.ev ρ+k<=b.ev ρ:=by have:=GN hF _ _ _ h;unfold E.ev;omega
def TJ (F:List LC) (a b:E):Bool:=(Nat.beq a.s b.s&&decide (a.c=b.c))||(o9 F a b 0&&o9 F b a 0)
theorem xN {F:List LC} (hF:ln ρ F) {a b:E} (h:TJ F a b=true):a.ev ρ=b.ev ρ:=by
 simp only[TJ,hU,a6,nb,decide_eq_true_eq] at h
 rcases h with ⟨g,i⟩|⟨g,i⟩
 ·unfold E.ev;rw[g,i]
 ·have:=jy hF g;have:=jy hF i;omega
def NN (F:List LC) (f:LC):Bool:=UF F f.y f.c 5 f.x 0
theorem B7 {F:List LC} (hF:ln ρ F) {f:LC} (h:NN F f=true):f.ok ρ:=by have:=GN hF _ _ _ h;unfold LC.ok;omega
def uC (a b:E) (k:Int):LC:=⟨a.s,b.s,b.c-a.c-k⟩
theorem nc {a b:E} :(uC a b k).ok ρ↔a.ev ρ+k<=b.ev ρ:=by unfold uC LC.ok E.ev;dsimp only;omega
def Ig (F:List LC) (f:LC):Bool:=UF F f.x (- f.c-1) 5 f.y 0
theorem Ih {F:List LC} (hF:ln ρ F) {f:LC} (h:Ig F f=true): ¬f.ok ρ:=by have:=GN hF _ _ _ h;unfold LC.ok;omega
theorem fF (ρ:Nat->Int):ln ρ []:=fun f h=>by simp at h
theorem lP {F G:List LC}:ln ρ (F++G)↔ln ρ F/\ln ρ G:=by
 unfold ln;constructor
 ·intro h;exact⟨fun f b=>h f (fO.2 (.inl b)),fun f b=>h f (fO.2 (.inr b))⟩
 ·rintro⟨g,i⟩ f b;exact(fO.1 b).elim (g f) (i f)
theorem jD {f:LC} {G:List LC}:ln ρ (f::G)↔f.ok ρ/\ln ρ G:=by unfold ln;simp
inductive BV where
 |any
 |int (e:E)
 |num (kd:IntKind)
 |bool
 |str
 |sl (t:Nat) (l:E)
 |tr (t:Nat) (l m:E)
 |ptr (k off:Nat)
 |pe (t off:Nat)
 |pr (t:Nat) (m:E) (off:Nat)
 |nil
 |Hb (j:Nat)
inductive PC where
 |any
 |int
 |zM (lo:Int) (g:Nat) (c:Int)
 |num (kd:IntKind)
 |bool
 |str
 |sl (t:Nat) (mx:Int)
 |tr (t:Nat)
 |tc (t:Nat) (mx:Int)
 |sx (t:Nat) (c:Int)
 |Hb (j:Nat)
inductive SV where
 |bv (x:BV)
 |bl (p q:List LC)
 |cl (f:Nat) (xs ys:List BV)
inductive CV where
 |one (x:SV)
 |agg (l:List BV)
inductive TV where
 |cv (x:CV)
 |uY (l:List CV)
structure gX where
 ng:Nat
 gl:Nat->Int
 ty:Nat->TypeId
 pat:Nat->List PC
 sty:Nat->TypeId
 Dx:Nat->List PC
 pred:Nat->World->Value->Int->Int->Prop
 q:Nat->Value->Prop
 qk:Nat->Option IntKind
 Xo:Nat->Int
 qz:Nat->Value->Bool
structure Env where
 ρ:Nat->Int
 β:Nat->Nat
 H:Nat->Option (Nat×Nat)
 h:World
def kP (n:Int):Prop:= -9223372036854775808<=n/\n<=9223372036854775807
def jd (K:gX) (env:Env) (t:Nat) (v:Value) (l:Int):Prop:=
 ∃(a:Option Addr) (n c:Nat),v=.slice a n c/\(n:Int)=l/\n<=c/\c<=9223372036854775807/\(a=none->c=0)/\
  ∀b,a=some b->b.spot=none/\ ∃z,env.H b.block=some (t,z)/\b.off%(K.pat t).length=0/\b.off+c*(K.pat t).length<=z
def PC.ok (K:gX) (env:Env) (m:Int):PC->Value->Prop
 | .any,u=>u.oneCell'=true
 | .int,u=> ∃n,u=.int .i64 n/\kP n
 | .zM lo g c,u=> ∃n,u=.int .i64 n/\lo<=n/\n<=K.gl g+c/\kP n
 | .num kd,u=> ∃n,u=.int kd n
 | .bool,u=> ∃x,u=.bool x
 | .str,u=> ∃x,u=.string x
 | .sl t mx,u=> ∃l,jd K env t u l/\l<=mx
 | .tr t,u=> ∃l,K.pred t env.h u l m/\0<=l/\l<=m
 | .tc t mx,u=> ∃l,K.pred t env.h u l mx/\0<=l/\l<=mx
 | .sx t c,u=>jd K env t u (K.gl 2+c)
 | .Hb j,u=>K.q j u
def xa (K:gX) (env:Env) (m:Int):List PC->List Value->Prop
 | [],[]=>True
 |p::ps,u::us=>p.ok K env m u/\xa K env m ps us
 |_,_=>False
def BV.ok (K:gX) (env:Env):BV->Value->Prop
 | .any,u=>u.oneCell'=true
 | .int e,u=>u=.int .i64 (e.ev env.ρ)/\kP (e.ev env.ρ)
 | .num kd,u=> ∃n,u=.int kd n
 | .bool,u=> ∃x,u=.bool x
 | .str,u=> ∃x,u=.string x
 | .sl t l,u=>jd K env t u (l.ev env.ρ)
 | .tr t l m,u=>K.pred t env.h u (l.ev env.ρ) (m.ev env.ρ)/\0<=l.ev env.ρ/\l.ev env.ρ<=m.ev env.ρ
 | .ptr q off,u=>u=.pointer (pA (env.β q) off)
 | .pe t off,u=> ∃b o z,u=.pointer (pA b o)/\env.H b=some (t,z)/\o<z/\o%(K.pat t).length=off
 | .pr t m off,u=> ∃b o cs,u=.pointer (pA b (o+off))/\xa K env (m.ev env.ρ) (K.Dx t) cs/\ ∀j u,cs[j]? =some u->env.h.cell? (pA b (o+j))=some u
 | .nil,u=>u=.slice none 0 0
 | .Hb j,u=>K.q j u
def jH (K:gX) (env:Env):List BV->List Value->Prop
 | [],[]=>True
 |p::ps,u::us=>p.ok K env u/\jH K env ps us
 |_,_=>False
def SV.ok (K:gX) (env:Env):SV->Value->Prop
 | .bv x,u=>x.ok K env u
 | .bl p q,u=> ∃x,u=.bool x/\(x=true->ln env.ρ p)/\(x=false->ln env.ρ q)
 | .cl f xs ys,u=> ∃j l:List Value,u=.func (.func f) j.toArray l.toArray/\jH K env xs j/\jH K env ys l
def CV.ok (K:gX) (env:Env):CV->Value->Prop
 | .one x,u=>x.ok K env u
 | .agg l,u=> ∃j:List Value,u=.agg j.toArray/\jH K env l j
def uD (K:gX) (env:Env):List CV->List Value->Prop
 | [],[]=>True
 |p::ps,u::us=>p.ok K env u/\uD K env ps us
 |_,_=>False
def TV.ok (K:gX) (env:Env):TV->Value->Prop
 | .cv x,u=>x.ok K env u
 | .uY l,u=> ∃j:List Value,u=.tuple j.toArray/\uD K env l j
def OV (K:gX) (env:Env):Option TV->Value->Prop
 |none,_=>True
 |some x,u=>x.ok K env u
def Sub (h k:World):Prop:= ∀(b:Nat) c T f,h.heap[b]? =some (.cells c T f)->k.heap[b]? =some (.cells c T f)
theorem Sub.refl (h:World):Sub h h:=fun _ _ _ _ e=>e
theorem Sub.trans {a b c:World} (h:Sub a b) (k:Sub b c):Sub a c:=fun _ _ _ _ e=>k _ _ _ _ (h _ _ _ _ e)
theorem Sub.cell {h k:World} (d:Sub h k) {a:Addr} (b:h.cell? a=some v):k.cell? a=some v:=by
 unfold World.cell? at b|-
 cases e:h.heap[a.block]? with
 |none=>rw[e] at b;cases b
 |some o=>
  rw[e] at b;cases o with
  |cells c T f=>rw[d _ _ _ _ e];exact b
  |_=>cases b
structure tS (K:gX):Prop where
 q1: ∀{j v},K.q j v->v.oneCell'=true
 qn: ∀{j v kd},K.qk j=some kd->K.q j v-> ∃n,v=.int kd n
 Xo: ∀g,K.Xo g<=K.gl g
 qz: ∀{j v},K.qz j v=true->K.q j v
 pos: ∀t,0<(K.pat t).length
 ab9: ∀t,0<(K.Dx t).length
 zero:0<K.ng/\K.gl 0=0
 two:2<K.ng
 mono: ∀{t h h' v l m},K.pred t h v l m->Sub h h'->K.pred t h' v l m
 le: ∀{t h v l m m'},K.pred t h v l m->m<=m'->K.pred t h v l m'
 nil: ∀{t h m},0<=m->K.pred t h () 0 m
 shape: ∀{t h v l m},K.pred t h v l m-> ∃(a:Option Addr) (n c:Nat),v=.slice a n c/\(n:Int)=l/\n<=c/\c<=9223372036854775807
 pg: ∀{t lo g c},PC.zM lo g c∈K.pat t->g<K.ng
 spg: ∀{t lo g c},PC.zM lo g c∈K.Dx t->g<K.ng
 ptr: ∀{t s},PC.tr s∉K.pat t
 elem: ∀{t m} (env:Env) {a n c l},K.pred t env.h (.slice a n c) l m-> ∀i,i<n-> ∃(b o:Nat) (cs:List Value),a=some ⟨b,o,none⟩/\xa K env m (K.Dx t) cs/\
  ∀j u,cs[j]? =some u->env.h.cell? (pA b (o+i*(K.Dx t).length+j))=some u
structure Ext (p:Nat->Bool) (env env':Env):Prop where
 ρ: ∀s,p s=true->env'.ρ s=env.ρ s
 β: ∀s,p s=true->env'.β s=env.β s
 H: ∀b x,env.H b=some x->env'.H b=some x
 h:Sub env.h env'.h
theorem Ext.refl (p:Nat->Bool) (env:Env):Ext p env env:=⟨fun _ _=>rfl,fun _ _=>rfl,fun _ _ h=>h,Sub.refl _⟩
theorem Ext.trans {a b c:Env} (h:Ext p a b) (k:Ext p b c):Ext p a c:=
 ⟨fun s d=>(k.ρ s d).trans (h.ρ s d),fun s d=>(k.β s d).trans (h.β s d),fun b x e=>k.H b x (h.H b x e),h.h.trans k.h⟩
theorem Ext.Pn {q:Nat->Bool} {a b:Env} (h:Ext p a b) (c: ∀s,q s=true->p s=true):Ext q a b:=⟨fun s d=>h.ρ s (c s d),fun s d=>h.β s (c s d),h.H,h.h⟩
def E.all (p:Nat->Bool) (e:E):Bool:=p e.s
def LC.all (p:Nat->Bool) (f:LC):Bool:=p f.x&&p f.y
def BV.all (p:Nat->Bool):BV->Bool
 | .int e=>e.all p
 | .sl _ l=>l.all p
 | .tr _ l m=>l.all p&&m.all p
 | .ptr q _=>p q
 | .pr _ m _=>m.all p
 |_=>true
def SV.all (p:Nat->Bool):SV->Bool
 | .bv x=>x.all p
 | .bl a b=>a.all (LC.all p)&&b.all (LC.all p)
 | .cl _ xs ys=>xs.all (BV.all p)&&ys.all (BV.all p)
def CV.all (p:Nat->Bool):CV->Bool
 | .one x=>x.all p
 | .agg l=>l.all (BV.all p)
def TV.all (p:Nat->Bool):TV->Bool
 | .cv x=>x.all p
 | .uY l=>l.all (CV.all p)
section
variable {K:gX} (hK:tS K) {p:Nat->Bool} {env env':Env} (hx:Ext p env env')
include hx
theorem E.ext {e:E} (h:e.all p=true):e.ev env'.ρ=e.ev env.ρ:=by unfold E.ev;rw[hx.ρ _ h]
theorem LC.ext {f:LC} (h:f.all p=true):f.ok env'.ρ↔f.ok env.ρ:=by unfold LC.all at h;rw[a6] at h;unfold LC.ok;rw[hx.ρ _ h.1,hx.ρ _ h.2]
theorem ln.ext {F:List LC} (h:F.all (LC.all p)=true) (hF:ln env.ρ F):ln env'.ρ F:=fun f b=>(LC.ext hx (dT.1 h f b)).2 (hF f b)
theorem jd.ext {t:Nat} {l:Int} (h:jd K env t v l):jd K env' t v l:=by obtain⟨a,n,c,g,i,q,d,e,f⟩:=h;exact⟨a,n,c,g,i,q,d,e,fun b j=>let ⟨k1,z,k2,k3,k4⟩:=f b j;⟨k1,z,hx.H _ _ k2,k3,k4⟩⟩
include hK
theorem PC.ext {c:PC} (h:c.ok K env m v):c.ok K env' m v:=by
 cases c with
 |sl t mx=>obtain⟨l,g,i⟩:=h;exact⟨l,g.ext hx,i⟩
 |sx t c=>exact jd.ext hx h
 |tr t=>obtain⟨l,g,i⟩:=h;exact⟨l,hK.mono g hx.h,i⟩
 |tc t mx=>obtain⟨l,g,i⟩:=h;exact⟨l,hK.mono g hx.h,i⟩
 |_=>exact h
theorem xa.ext: ∀{c:List PC} {v:List Value},xa K env m c v->xa K env' m c v
 | [],[],_=>trivial
 |_::_,_::_,h=>⟨PC.ext hK hx h.1,xa.ext h.2⟩
theorem BV.ext {c:BV} (d:c.all p=true) (h:c.ok K env v):c.ok K env' v:=by
 cases c with
 |int e=>simp only[BV.ok] at h|-;rw[E.ext hx (e:=_) (by simpa[BV.all] using d)];exact h
 |sl t l=>simp only[BV.ok] at h|-;rw[E.ext hx (e:=_) (by simpa[BV.all] using d)];exact h.ext hx
 |tr t l m=>
  simp only[BV.all,a6] at d;simp only[BV.ok] at h|-;rw[E.ext hx d.1,E.ext hx d.2];exact⟨hK.mono h.1 hx.h,h.2⟩
 |ptr k off=>simp only[BV.ok] at h|-;rw[hx.β _ (by simpa[BV.all] using d)];exact h
 |pe t off=>obtain⟨b,o,z,g,i,q⟩:=h;exact⟨b,o,z,g,hx.H _ _ i,q⟩
 |pr t m off=>
  obtain⟨b,o,cs,g,i,q⟩:=h;exact⟨b,o,cs,g,by rw[E.ext hx (e:=_) (by simpa[BV.all] using d)];exact xa.ext hK hx i,fun j u a=>hx.h.cell (q j u a)⟩
 |_=>exact h
theorem jH.ext: ∀{c:List BV} {v:List Value},c.all (BV.all p)=true->jH K env c v->jH K env' c v
 | [],[],_,_=>trivial
 |_::_,_::_,hp,h=>by rw[gi,a6] at hp;exact⟨BV.ext hK hx hp.1 h.1,jH.ext hp.2 h.2⟩
theorem SV.ext {c:SV} (d:c.all p=true) (h:c.ok K env v):c.ok K env' v:=by
 cases c with
 |bv x=>exact BV.ext hK hx d h
 |bl a b=>
  simp only[SV.all,a6] at d;obtain⟨x,g,i,q⟩:=h;exact⟨x,g,fun e=>ln.ext hx d.1 (i e),fun e=>ln.ext hx d.2 (q e)⟩
 |cl f xs ys=>
  simp only[SV.all,a6] at d;obtain⟨j,l,g,i,q⟩:=h;exact⟨j,l,g,jH.ext hK hx d.1 i,jH.ext hK hx d.2 q⟩
theorem CV.ext {c:CV} (d:c.all p=true) (h:c.ok K env v):c.ok K env' v:=by
 cases c with
 |one x=>exact SV.ext hK hx d h
 |agg l=>obtain⟨vs,g,i⟩:=h;exact⟨vs,g,jH.ext hK hx d i⟩
theorem uD.ext: ∀{c:List CV} {v:List Value},c.all (CV.all p)=true->uD K env c v->uD K env' c v
 | [],[],_,_=>trivial
 |_::_,_::_,hp,h=>by rw[gi,a6] at hp;exact⟨CV.ext hK hx hp.1 h.1,uD.ext hp.2 h.2⟩
theorem TV.ext {c:TV} (d:c.all p=true) (h:c.ok K env v):c.ok K env' v:=by
 cases c with
 |cv x=>exact CV.ext hK hx d h
 |uY l=>obtain⟨vs,g,i⟩:=h;exact⟨vs,g,uD.ext hK hx d i⟩
end
def BV.sub (F:List LC):BV->BV->Bool
 | .nil,.sl _ l=>TJ F l ⟨0,0⟩
 | .nil,.tr _ l m=>TJ F l ⟨0,0⟩&&o9 F ⟨0,0⟩ m 0
 | .nil,.nil=>true
 | .Hb a,.Hb b=>Nat.beq a b
 | .int a,.int b=>TJ F a b
 | .int _,.num .i64=>true
 | .num a,.num b=>decide (a=b)
 | .bool,.bool=>true
 | .str,.str=>true
 | .sl t l,.sl t' l'=>Nat.beq t t'&&TJ F l l'
 | .tr t l m,.tr t' l' m'=>Nat.beq t t'&&TJ F l l'&&o9 F m m' 0
 | .ptr q o,.ptr q' o'=>Nat.beq q q'&&Nat.beq o o'
 | .pe t o,.pe t' o'=>Nat.beq t t'&&Nat.beq o o'
 | .pr t m o,.pr t' m' o'=>Nat.beq t t'&&Nat.beq o o'&&Nat.beq m.s m'.s&&decide (m.c=m'.c)
 |_,.any=>true
 |_,_=>false
def BV.uW (F:List LC):List BV->List BV->Bool
 | [],[]=>true
 |a::l,b::l'=>a.sub F b&&BV.uW F l l'
 |_,_=>false
def impl (F p a:List LC):Bool:=p.any (Ig F)||a.all (NN (p++F))
theorem MH {F p a:List LC} (hF:ln ρ F) (h:impl F p a=true) (d:ln ρ p):ln ρ a:=by
 unfold impl at h;rw[hU] at h
 rcases h with h|h
 ·obtain⟨f,g,i⟩:=mS.1 h;exact absurd (d f g) (Ih hF i)
 ·exact fun f b=>B7 (lP.2 ⟨d,hF⟩) (dT.1 h f b)
def SV.sub (F:List LC):SV->SV->Bool
 | .bv a,.bv b=>a.sub F b
 | .bl _ _,.bv .bool=>true
 | .bv .bool,.bl [] []=>true
 | .bl p q,.bl p' q'=>impl F p p'&&impl F q q'
 | .cl f xs ys,.cl g xs' ys'=>Nat.beq f g&&BV.uW F xs xs'&&BV.uW F ys ys'
 |_,_=>false
def CV.sub (F:List LC):CV->CV->Bool
 | .one a,.one b=>a.sub F b
 | .agg a,.agg b=>BV.uW F a b
 |_,_=>false
def CV.uW (F:List LC):List CV->List CV->Bool
 | [],[]=>true
 |a::l,b::l'=>a.sub F b&&CV.uW F l l'
 |_,_=>false
def TV.sub (F:List LC):TV->TV->Bool
 | .cv a,.cv b=>a.sub F b
 | .uY a,.uY b=>CV.uW F a b
 |_,_=>false
def OV.sub (F:List LC):Option TV->Option TV->Bool
 |_,none=>true
 |some a,some b=>a.sub F b
 |none,some _=>false
theorem BV.one {K:gX} (hK:tS K) {env:Env} {a:BV} (c:a.ok K env v):v.oneCell'=true:=by
 cases a with
 |any=>exact c
 |int e=>rw[c.1];rfl
 |num kd=>obtain⟨n,rfl⟩:=c;rfl
 |bool=>obtain⟨n,rfl⟩:=c;rfl
 |str=>obtain⟨n,rfl⟩:=c;rfl
 |sl t l=>obtain⟨_,_,_,rfl,_⟩:=c;rfl
 |tr t l m=>obtain⟨_,_,_,rfl,_⟩:=hK.shape c.1;rfl
 |ptr k off=>rw[show v=_ from c];rfl
 |pe t off=>obtain⟨_,_,_,rfl,_⟩:=c;rfl
 |pr t m off=>obtain⟨_,_,_,rfl,_⟩:=c;rfl
 |nil=>rw[show v=_ from c];rfl
 |Hb j=>exact hK.q1 c
theorem yR (K:gX) (env:Env) (t:Nat):jd K env t () 0:=⟨none,0,0,rfl,rfl,lE,oG,fun _=>rfl,fun _ h=>by cases h⟩
section
variable {K:gX} (hK:tS K) {env:Env} (h0:env.ρ 0=0) {F:List LC} (hF:ln env.ρ F)
include hK h0 hF
theorem BV.lX {a b:BV} (h:a.sub F b=true) (c:a.ok K env v):b.ok K env v:=by
 have e:(⟨0,0⟩:E).ev env.ρ=0:=by simp[E.ev,h0]
 unfold BV.sub at h;split at h
 ·rename_i t l;have:=xN hF h;simp only[BV.ok] at c|-
  rw[this,e,c];exact yR K env t
 ·rename_i t l m;rw[a6] at h;have g:=xN hF h.1;have i:=jy hF h.2;rw[e] at g i;simp only[BV.ok] at c|-
  rw[g,c];exact⟨hK.nil oG,oG,oG⟩
 ·exact c
 ·rw[nb] at h;subst h;exact c
 ·simp only[BV.ok] at c|-;rw[<-xN hF h];exact c
 ·exact⟨_,c.1⟩
 ·rw[decide_eq_true_eq] at h;subst h;exact c
 ·exact c
 ·exact c
 ·rw[a6,nb] at h;obtain⟨rfl,h⟩:=h;simp only[BV.ok] at c|-;rw[<-xN hF h];exact c
 ·rw[a6,a6,nb] at h;obtain⟨⟨rfl,g⟩,i⟩:=h;have q:=jy hF i;simp only[BV.ok] at c|-;rw[<-xN hF g];exact⟨hK.le c.1 oG,c.2.1,oG⟩
 ·rw[a6,nb,nb] at h;obtain⟨rfl,rfl⟩:=h;exact c
 ·rw[a6,nb,nb] at h;obtain⟨rfl,rfl⟩:=h;exact c
 ·rename_i t m o j f d;simp only[a6,nb,decide_eq_true_eq] at h;obtain⟨⟨⟨rfl,rfl⟩,g⟩,i⟩:=h;have:m=f:=by cases m;cases f;simp only at g i;subst g;subst i;rfl
  subst this;exact c
 ·exact BV.one hK c
 ·cases h
theorem jH.lX: ∀{a b:List BV} {v:List Value},BV.uW F a b=true->jH K env a v->jH K env b v
 | [],[],[],_,_=>trivial
 |a::l,b::l',x::v,h,ha=>by simp only[BV.uW,a6] at h;exact⟨BV.lX hK h0 hF h.1 ha.1,jH.lX h.2 ha.2⟩
 | [],_::_,_,h,_=>by simp[BV.uW] at h
 |_::_,[],_,h,_=>by simp[BV.uW] at h
theorem SV.lX {a b:SV} (h:a.sub F b=true) (c:a.ok K env v):b.ok K env v:=by
 unfold SV.sub at h;split at h
 ·exact BV.lX hK h0 hF h c
 ·obtain⟨x,rfl,_⟩:=c;exact⟨x,rfl⟩
 ·obtain⟨x,rfl⟩:=c;exact⟨x,rfl,fun _=>fF _,fun _=>fF _⟩
 ·rw[a6] at h;obtain⟨x,rfl,g,i⟩:=c;exact⟨x,rfl,fun e=>MH hF h.1 (g e),fun e=>MH hF h.2 (i e)⟩
 ·rw[a6,a6,nb] at h;obtain⟨⟨rfl,h⟩,k⟩:=h;obtain⟨j,l,rfl,g,i⟩:=c;exact⟨j,l,rfl,jH.lX hK h0 hF h g,jH.lX hK h0 hF k i⟩
 ·cases h
theorem CV.lX {a b:CV} (h:a.sub F b=true) (c:a.ok K env v):b.ok K env v:=by
 unfold CV.sub at h;split at h
 ·exact SV.lX hK h0 hF h c
 ·obtain⟨vs,rfl,g⟩:=c;exact⟨vs,rfl,jH.lX hK h0 hF h g⟩
 ·cases h
theorem uD.lX: ∀{a b:List CV} {v:List Value},CV.uW F a b=true->uD K env a v->uD K env b v
 | [],[],[],_,_=>trivial
 |a::l,b::l',x::v,h,ha=>by simp only[CV.uW,a6] at h;exact⟨CV.lX hK h0 hF h.1 ha.1,uD.lX h.2 ha.2⟩
 | [],_::_,_,h,_=>by simp[CV.uW] at h
 |_::_,[],_,h,_=>by simp[CV.uW] at h
theorem TV.lX {a b:TV} (h:a.sub F b=true) (c:a.ok K env v):b.ok K env v:=by
 unfold TV.sub at h;split at h
 ·exact CV.lX hK h0 hF h c
 ·obtain⟨vs,rfl,g⟩:=c;exact⟨vs,rfl,uD.lX hK h0 hF h g⟩
 ·cases h
theorem OV.lX {a b:Option TV} (h:OV.sub F a b=true) (c:OV K env a v):OV K env b v:=by
 unfold OV.sub at h;split at h
 ·trivial
 ·exact TV.lX hK h0 hF h c
 ·cases h
end
def E.re (σ:Nat->E) (e:E):E:=⟨(σ e.s).s,(σ e.s).c+e.c⟩
def LC.re (σ:Nat->E) (f:LC):LC:=⟨(σ f.x).s,(σ f.y).s,f.c+(σ f.y).c-(σ f.x).c⟩
def BV.re (σ:Nat->E) (θ:Nat->Nat):BV->BV
 | .int e=>.int (e.re σ)
 | .sl t l=>.sl t (l.re σ)
 | .tr t l m=>.tr t (l.re σ) (m.re σ)
 | .ptr q o=>.ptr (θ q) o
 | .pr t m o=>.pr t (m.re σ) o
 |x=>x
def SV.re (σ:Nat->E) (θ:Nat->Nat):SV->SV
 | .bv x=>.bv (x.re σ θ)
 | .bl p q=>.bl (p.map (LC.re σ)) (q.map (LC.re σ))
 | .cl f xs ys=>.cl f (xs.map (BV.re σ θ)) (ys.map (BV.re σ θ))
def CV.re (σ:Nat->E) (θ:Nat->Nat):CV->CV
 | .one x=>.one (x.re σ θ)
 | .agg l=>.agg (l.map (BV.re σ θ))
def TV.re (σ:Nat->E) (θ:Nat->Nat):TV->TV
 | .cv x=>.cv (x.re σ θ)
 | .uY l=>.uY (l.map (CV.re σ θ))
def Env.re (env:Env) (σ:Nat->E) (θ:Nat->Nat):Env:={env with ρ:=fun s=>(σ s).ev env.ρ,β:=fun k=>env.β (θ k)}
section
variable {K:gX} {env:Env} {σ:Nat->E}
theorem E.Fk {e:E}:(e.re σ).ev env.ρ=e.ev (env.re σ θ).ρ:=by unfold E.re E.ev Env.re;simp only[E.ev];omega
theorem LC.nk {f:LC}:(f.re σ).ok env.ρ↔f.ok (env.re σ θ).ρ:=by unfold LC.re LC.ok Env.re;simp only[E.ev];omega
theorem Lr {F:List LC}:ln env.ρ (F.map (LC.re σ))↔ln (env.re σ θ).ρ F:=by unfold ln;simp only[fq,forall_exists_index,and_imp,forall_apply_eq_imp_iff₂];exact⟨fun h f b=>LC.nk.1 (h f b),fun h f b=>LC.nk.2 (h f b)⟩
theorem PC.re {c:PC} :c.ok K env m v↔c.ok K (env.re σ θ) m v:=by cases c <;>exact oF
theorem xa.re: ∀{c:List PC} {v:List Value},xa K env m c v↔xa K (env.re σ θ) m c v
 | [],[]=>oF
 | [],_::_=>oF
 |_::_,[]=>oF
 |c::cs,v::vs=>by show(c.ok K env m v/\xa K env m cs vs)↔(c.ok K (env.re σ θ) m v/\xa K (env.re σ θ) m cs vs);rw[PC.re (σ:=σ) (θ:=θ),xa.re]
theorem BV.nk {c:BV} :(c.re σ θ).ok K env v↔c.ok K (env.re σ θ) v:=by
 cases c with
 |int e=>simp only[BV.re,BV.ok];rw[E.Fk (θ:=θ)]
 |sl t l=>simp only[BV.re,BV.ok];rw[E.Fk (θ:=θ)];exact oF
 |tr t l m=>simp only[BV.re,BV.ok];rw[E.Fk (θ:=θ),E.Fk (θ:=θ)];exact oF
 |pr t m o=>
  simp only[BV.re,BV.ok];rw[E.Fk (θ:=θ)];constructor
  ·rintro⟨b,d,cs,g,i,q⟩;exact⟨b,d,cs,g,xa.re.1 i,q⟩
  ·rintro⟨b,d,cs,g,i,q⟩;exact⟨b,d,cs,g,xa.re.2 i,q⟩
 |_=>exact oF
theorem jH.nk: ∀{c:List BV} {v:List Value},jH K env (c.map (BV.re σ θ)) v↔jH K (env.re σ θ) c v
 | [],[]=>oF
 | [],_::_=>oF
 |_::_,[]=>oF
 |c::cs,v::vs=>by show((c.re σ θ).ok K env v/\jH K env (cs.map (BV.re σ θ)) vs)↔_;rw[BV.nk,jH.nk];exact oF
theorem SV.nk {c:SV} :(c.re σ θ).ok K env v↔c.ok K (env.re σ θ) v:=by
 cases c with
 |bv x=>exact BV.nk
 |bl p q=>simp only[SV.re,SV.ok,Lr (θ:=θ)]
 |cl f xs ys=>simp only[SV.re,SV.ok,jH.nk]
theorem CV.nk {c:CV} :(c.re σ θ).ok K env v↔c.ok K (env.re σ θ) v:=by
 cases c with
 |one x=>exact SV.nk
 |agg l=>simp only[CV.re,CV.ok,jH.nk]
theorem uD.nk: ∀{c:List CV} {v:List Value},uD K env (c.map (CV.re σ θ)) v↔uD K (env.re σ θ) c v
 | [],[]=>oF
 | [],_::_=>oF
 |_::_,[]=>oF
 |c::cs,v::vs=>by show((c.re σ θ).ok K env v/\uD K env (cs.map (CV.re σ θ)) vs)↔_;rw[CV.nk,uD.nk];exact oF
theorem TV.nk {c:TV} :(c.re σ θ).ok K env v↔c.ok K (env.re σ θ) v:=by
 cases c with
 |cv x=>exact CV.nk
 |uY l=>simp only[TV.re,TV.ok,uD.nk]
end
end Ra
namespace Ra
open Go
variable {F:List LC}
def lk {α:Type}:List (Nat×α)->Nat->Option α
 | [],_=>none
 |(k,x)::l,n=>cond (Nat.beq k n) (some x) (lk l n)
theorem oR {α:Type}: ∀{l:List (Nat×α)} {n:Nat} {x:α},lk l n=some x->(n,x)∈l
 |(k,y)::l,n,x,h=>by
  unfold lk at h;cases a:Nat.beq k n with
  |true=>rw[a] at h;rw[nb] at a;subst a;cases h;exact .head _
  |false=>rw[a] at h;exact .tail _ (oR h)
abbrev jM:=Nat->Option (TypeId×List BV)
variable {B:jM}
abbrev Wr:=List (Nat×TypeId×List BV)
variable {wr:Wr}
def wU (B:jM) (wr:Wr):jM:=fun k=>match lk wr k with
 |some x=>some x
 |none=>B k
theorem Nc (B:jM):wU B []=B:=rfl
theorem qg (h:lk wr k=none):wU B wr k=B k:=by unfold wU;rw[h]
theorem oW {x:TypeId×List BV} (h:lk wr k=some x):wU B wr k=some x:=by unfold wU;rw[h]
def lA (K:gX) (env:Env) (t:Nat) (c:Array Value):Prop:= ∀(j:Nat) (u:Value),c[j]? =some u-> ∃p,(K.pat t)[j%(K.pat t).length]? =some p/\p.ok K env 0 u
structure Good (K:gX) (env:Env) (B:jM) (w:World):Prop where
 gl: ∀g,g<K.ng->env.ρ g=K.gl g
 hh: ∀b c T f,env.h.heap[b]? =some (.cells c T f)->w.heap[b]? =some (.cells c T f)/\env.H b=none/\ ∀k,B k≠none->env.β k≠b
 hH: ∀b t n,env.H b=some (t,n)->(∃c,w.heap[b]? =some (.cells c (K.ty t) (0,0))/\c.size=n/\lA K env t c)/\n%(K.pat t).length=0/\ ∀k,B k≠none->env.β k≠b
 hB: ∀k T xs,B k=some (T,xs)-> ∃c:List Value,w.heap[env.β k]? =some (.cells c.toArray T (0,0))/\jH K env xs c
 hd: ∀k k',B k≠none->B k'≠none->env.β k=env.β k'->k=k'
structure S9 (w w':World):Prop where
 os:w'.os=w.os
 tape:w'.tape=w.tape
 output:w'.output=w.output
theorem S9.trans {a b c:World} (h:S9 a b) (k:S9 b c):S9 a c:=⟨k.os.trans h.os,k.tape.trans h.tape,k.output.trans h.output⟩
theorem vM (b:Nat): ∀(vs:List Value) (o:Nat) (w:World),S9 w (w.setCells b o vs)
 | [],_,_=>⟨rfl,rfl,rfl⟩
 |v::r,o,w=>by rw[World.setCells];exact(show S9 w (w.setCell (pA b o) v) from⟨rfl,rfl,rfl⟩).trans (vM b r _ _)
structure Step (env:Env) (B:jM) (w:World) (wr:Wr) (env':Env) (w':World):Prop where
 sz:w.heap.size<=w'
 keep: ∀b,b<w.heap.size->env.H b=none->(∀k,lk wr k≠none->B k≠none->env.β k≠b)->w'.heap[b]? =w.heap[b]?
 Hn: ∀b,env'.H b≠none->env.H b≠none\/w.heap.size<=b
 hn: ∀b c T f,env'.h.heap[b]? =some (.cells c T f)->env.h.heap[b]? =some (.cells c T f)\/w.heap.size<=b
 Bn: ∀k,lk wr k≠none->B k=none->w.heap.size<=env'.β k
 io:S9 w w'
theorem Step.refl (env env':Env) (B:jM) (w:World) (p:env'.H=env.H) (r:env'.h=env.h):Step env B w [] env' w:=
 ⟨lE,fun _ _ _ _=>rfl,fun b h=>.inl (by rw[<-p];exact h),fun b c T f h=>.inl (by rw[<-r];exact h),fun k h=>absurd rfl h,⟨rfl,rfl,rfl⟩⟩
def out (i s:Nat):Bool:=Nat.blt s i||Nat.ble (i+32) s
theorem nf:out i s=true↔s<i\/i+32<=s:=by unfold out;rw[hU,fT,mE]
def uc (B:jM) (i:Nat):Prop:= ∀k T xs,B k=some (T,xs)->out i k=true/\xs.all (BV.all (out i))=true
structure sZ where
 tv:TV
 f:List LC
 wr:Wr
 Cd:List Nat
structure ja (K:gX) (env:Env) (B:jM) (i:Nat) (w:World) (r:sZ) (v:Value) (env':Env) (w':World):Prop where
 ext:Ext (out i) env env'
 kY:Good K env' (wU B r.wr) w'
 step:Step env B w r.wr env' w'
 tv:r.tv.ok K env' v
 f:ln env'.ρ r.f
def Yields (P:Program) (o:Oper) (a:Act) (w:World) (R:Value->World->Prop):Prop:=
 (∃v w',(execOp a.eval o).run P w=.ok (.value v) w'/\R v w')\/(∃w',(execOp a.eval o).run P w=.ok .skip w'/\R undef w')\/
 ∃f args w1,(execOp a.eval o).run P w=.ok (.enter f args) w1/\Calls P f args w1 fun e w'=> ∃v,e=.returned v/\R v w'
theorem Yields.wp {P:Program} {o:Oper} {a:Act} {w:World} {R:Value->World->Prop} {K:Act->World->Prop} {Q:Exit->Act->World->Prop}
  (h:Yields P o a w R) (hK: ∀v w',R v w'->K (a.put o.dst v) w'):o.wp P a w K Q:=by
 unfold Oper.wp
 rcases h with ⟨v,w',m,b⟩|⟨w',m,b⟩|⟨f,args,w1,m,c⟩
 ·rw[m];exact hK _ _ b
 ·rw[m];exact hK _ _ b
 ·rw[m];refine Kc c ?_;rintro e w' ⟨v,rfl,b⟩;exact hK _ _ b
section
variable {K:gX} (hK:tS K) {env env':Env} {B:jM} {w w':World} {i:Nat}
include hK
theorem lA.ext {p:Nat->Bool} (l:Ext p env env') {t:Nat} {c:Array Value} (h:lA K env t c):lA K env' t c:=fun j u a=>let ⟨p,h1,h2⟩:=h j u a;⟨p,h1,PC.ext hK l h2⟩
theorem Good.ids (a:Good K env B w) (u:K.ng<=i) (o:uc B i) (l:Ext (out i) env env') (p:env'.H=env.H) (r:env'.h=env.h):Good K env' B w:=by
 have hβ: ∀k,B k≠none->env'.β k=env.β k:=fun k e=>by
  cases h:B k with
  |none=>exact absurd h e
  |some x=>exact l.β k (o k x.1 x.2 h).1
 refine⟨fun g h=>(l.ρ g (nf.2 (.inl oG))).trans (a.gl g h),fun b c T f h=>?_,fun b t n h=>?_,fun k T xs h=>?_,fun k v h s m=>?_⟩
 ·rw[r] at h;obtain⟨d,j,q⟩:=a.hh b c T f h;exact⟨d,by rw[p];exact j,fun k e=>by rw[hβ k e];exact q k e⟩
 ·rw[p] at h;obtain⟨⟨c,d,j,q⟩,y,z⟩:=a.hH b t n h;exact⟨⟨c,d,j,q.ext hK l⟩,y,fun k e=>by rw[hβ k e];exact z k e⟩
 ·obtain⟨c,d,j⟩:=a.hB k T xs h;exact⟨c,by rw[hβ k (by rw[h];simp)];exact d,jH.ext hK l (o k T xs h).2 j⟩
 ·rw[hβ k h,hβ v s] at m;exact a.hd k v h s m
omit hK in
theorem ja.pK {c:TV} {f:List LC} {Cd:List Nat} {v:Value} (a:Good K env B w) (d:c.ok K env v) (b:ln env.ρ f):ja K env B i w ⟨c,f,[],Cd⟩ v env w:=
 ⟨Ext.refl _ _,a,Step.refl _ _ _ _ rfl rfl,d,b⟩
theorem ja.yQ {Cd:List Nat} {n:Int} {f:List LC} (a:Good K env B w) (u:K.ng<=i) (o:uc B i) (c:kP n)
  (b:ln (fun s=>if s=i then n else env.ρ s) f):
  ∃env',ja K env B i w ⟨.cv (.one (.bv (.int ⟨i,0⟩))),f,[],Cd⟩ n env' w:=by
 have l:Ext (out i) env {env with ρ:=fun s=>if s=i then n else env.ρ s}:=by refine⟨fun s d=>?_,fun _ _=>rfl,fun _ _ h=>h,Sub.refl _⟩;show(if s=i then n else env.ρ s)=_;rw[if_neg (by rintro rfl;have:=nf.1 d;omega)]
 refine⟨_,l,a.ids hK u o l rfl rfl,Step.refl _ _ _ _ rfl rfl,?_,b⟩;have e:(⟨i,0⟩:E).ev (fun s=>if s=i then n else env.ρ s)=n:=by simp[E.ev]
 show(_=_)/\_;simp only[e];exact⟨trivial,c⟩
end
theorem yM (z:Int):kP (IntKind.i64.wrap z):=by rw[jB];unfold kP;omega
theorem sd {z:Int} (h:kP z):IntKind.i64.wrap z=z:=by rw[jB];unfold kP at h;omega
def Vy (F:List LC) (e:E):Bool:=o9 F ⟨0,-9223372036854775808⟩ e 0&&o9 F e ⟨0,9223372036854775807⟩ 0
theorem KH (a:ρ 0=0) (c:ln ρ F) {e:E} (h:Vy F e=true):kP (e.ev ρ):=by unfold Vy at h;rw[a6] at h;have d:=jy c h.1;have j:=jy c h.2;simp only[E.ev,a] at d j;unfold kP E.ev;omega
def uQ (e:E):sZ:=⟨.cv (.one (.bv (.int e))),[],[],[]⟩
def Om (k:IntKind):sZ:=⟨.cv (.one (.bv (.num k))),[],[],[]⟩
def PH (p q:List LC):sZ:=⟨.cv (.one (.bl p q)),[],[],[]⟩
def T0 (F:List LC) (a b:E):List LC:=cond (o9 F a b 0) [uC a b 1] (cond (o9 F b a 0) [uC b a 1] [])
def arith (F:List LC) (i:Nat) (c:BinOp) (a b:E):Option sZ:=
 match c with
 | .add=>cond (Nat.beq b.s 0&&Vy F ⟨a.s,a.c+b.c⟩) (some (uQ ⟨a.s,a.c+b.c⟩)) (cond (Nat.beq a.s 0&&Vy F ⟨b.s,b.c+a.c⟩) (some (uQ ⟨b.s,b.c+a.c⟩)) (some (uQ ⟨i,0⟩)))
 | .sub=>cond (Nat.beq b.s 0&&Vy F ⟨a.s,a.c-b.c⟩) (some (uQ ⟨a.s,a.c-b.c⟩)) (cond (out i a.s&&o9 F ⟨0,-1⟩ a 0&&o9 F a ⟨0,4611686018427387904⟩ 0&&o9 F ⟨0,-1⟩ b 0)
   (some ⟨.cv (.one (.bv (.int ⟨i,0⟩))),uC ⟨i,0⟩ a (-1)::cond (o9 F b a 0) [uC ⟨0,0⟩ ⟨i,0⟩ 0] [],[],[]⟩) (some (uQ ⟨i,0⟩)))
 | .mul| .and| .or| .xor| .andNot=>some (uQ ⟨i,0⟩)
 | .quo=>cond (o9 F ⟨0,1⟩ b 0) (some (uQ ⟨i,0⟩)) none
 | .rem=>cond (o9 F ⟨0,1⟩ b 0&&o9 F ⟨0,0⟩ a 0) (some ⟨.cv (.one (.bv (.int ⟨i,0⟩))),[⟨0,i,0⟩,uC ⟨i,0⟩ b 1],[],[]⟩) none
 | .lss=>some (PH [uC a b 1] [uC b a 0])
 | .leq=>some (PH [uC a b 0] [uC b a 1])
 | .gtr=>some (PH [uC b a 1] [uC a b 0])
 | .geq=>some (PH [uC b a 0] [uC a b 1])
 | .eql=>some (PH [uC a b 0,uC b a 0] (T0 F a b))
 | .neq=>some (PH (T0 F a b) [uC a b 0,uC b a 0])
 | .shl=>cond (o9 F ⟨0,0⟩ b 0) (some (uQ ⟨i,0⟩)) none
 | .shr=>none
def P8 (F:List LC) (c:BinOp) (k:IntKind):Option sZ:=
 match c with
 | .add| .sub| .mul| .and| .or| .xor| .andNot=>some (Om k)
 | .lss| .leq| .gtr| .geq| .eql| .neq=>some (PH [] [])
 |_=>none
theorem MS (c:ln ρ F) {a b:E} (h:a.ev ρ≠b.ev ρ):ln ρ (T0 F a b):=by
 unfold T0;cases d:o9 F a b 0 with
 |true=>
  have:=jy c d;refine jD.2 ⟨nc.2 oG,fF _⟩
 |false=>
  cases j:o9 F b a 0 with
  |true=>
   have:=jy c j;refine jD.2 ⟨nc.2 oG,fF _⟩
  |false=>exact fF _
theorem nT (h:out i s=true):s≠i:=by have:=nf.1 h;omega
end Ra
namespace Ra
open Go
theorem MP{p:Prop}(h:p:=by simp[binOp,Op.intCmp,Result.andThen] at hr;cases h;exact bl _ _ _ hr rfl (fun e=>one (nc.2 (by simp at e;omega))) (fun e=>one (nc.2 (by simp at e;omega)))):p:=h
variable {n:Int}
theorem wH {ρ:Nat->Int} {f:LC} (h:f.ok ρ):ln ρ [f]:=jD.2 ⟨h,fF _⟩
theorem qG {ρ:Nat->Int} {f g:LC} (h:f.ok ρ) (k:g.ok ρ):ln ρ [f,g]:=jD.2 ⟨h,jD.2 ⟨k,fF _⟩⟩
section
variable {P:Program} {K:gX} (hK:tS K) {env:Env} {B:jM} {w:World} {i:Nat} {F:List LC} {a:Act} {o:Oper}
theorem M3 {b:BinOp} {d h:TypeId} {x y:Operand} {k:IntKind} {m:Int} (e:o.op=.binOp b d x y h) (f:a.eval x=.int k m) (g:a.eval y=.int k n):
  (execOp a.eval o).run P w=((binOp b d (.int k m) (.int k n)).run P w).andThen fun v w'=>.ok (.value v) w':=by
 have c:(eqGuard b d x y (.int k m) (.int k n)).run P w=.ok () w:=by unfold eqGuard;cases b <;>simp
 simp only[execOp,e,f,g];simp only[ks,c,Result.andThen];rfl
include hK in
theorem ja.jZ {n:Int} (a:Good K env B w) (d:K.ng<=i) (c:uc B i) (b:kP n): ∃env',ja K env B i w (uQ ⟨i,0⟩) n env' w:=
 ja.yQ hK a d c b (fF _)
theorem ja.xR {e:E} (a:Good K env B w) (c:e.ev env.ρ=n) (b:kP n):ja K env B i w (uQ e) n env w:=
 ja.pK a (by show(_=_)/\_;rw[c];exact⟨rfl,b⟩) (fF _)
theorem ja.bl {x:Bool} {p q:List LC} (a:Good K env B w) (b:x=true->ln env.ρ p) (c:x=false->ln env.ρ q):ja K env B i w (PH p q) x env w:=
 ja.pK a ⟨x,rfl,b,c⟩ (fF _)
include hK in
theorem P9 {op:BinOp} {xT yT:TypeId} {x y:Operand} {e1 e2:E} {r:sZ} (ho:o.op=.binOp op xT x y yT) (hg:Good K env B w) (hi:K.ng<=i) (hB:uc B i) (hF:ln env.ρ F)
  (hx:a.eval x=.int .i64 (e1.ev env.ρ)) (hxi:kP (e1.ev env.ρ)) (hy:a.eval y=.int .i64 (e2.ev env.ρ)) (hyi:kP (e2.ev env.ρ)) (ho2:out i e2.s=true) (h:arith F i op e1 e2=some r):
  ∃v env',(execOp a.eval o).run P w=.ok (.value v) w/\ja K env B i w r v env' w:=by
 have h0:env.ρ 0=0:=by rw[hg.gl 0 hK.zero.1,hK.zero.2]
 have hr:=M3 (P:=P) (w:=w) ho hx hy;have wi:=yM;have fresh: ∀n,kP n->(execOp a.eval o).run P w=.ok (.value n) w->r=uQ ⟨i,0⟩-> ∃v env',(execOp a.eval o).run P w=.ok (.value v) w/\ja K env B i w r v env' w:=by rintro n hn he rfl;obtain⟨env',hp⟩:=ja.jZ (i:=i) hK hg hi hB hn;exact⟨_,env',he,hp⟩
 have bl: ∀(b:Bool) p q,(execOp a.eval o).run P w=.ok (.value b) w->r=PH p q->(b=true->ln env.ρ p)->(b=false->ln env.ρ q)-> ∃v env',(execOp a.eval o).run P w=.ok (.value v) w/\ja K env B i w r v env' w:=by rintro b p q he rfl h1 h2;exact⟨_,env,he,ja.bl hg h1 h2⟩
 have one:= @wH env.ρ;have two:= @qG env.ρ;cases op <;>simp only[arith] at h
 case add=>
  simp[binOp,Op.intArith,Result.andThen] at hr;cases h1:(Nat.beq e2.s 0&&Vy F ⟨e1.s,e1.c+e2.c⟩) with
  |true=>
   rw[h1] at h;cases h;rw[a6,nb] at h1;have h2:=KH h0 hF h1.2;have h3:e2.ev env.ρ=e2.c:=by unfold E.ev;rw[h1.1,h0];omega
   have h4:(⟨e1.s,e1.c+e2.c⟩:E).ev env.ρ=e1.ev env.ρ+e2.ev env.ρ:=by rw[h3];simp only[E.ev];omega
   rw[sd (by rw[<-h4];exact h2)] at hr;exact⟨_,env,hr,ja.xR hg h4 (by rw[<-h4];exact h2)⟩
  |false=>
   rw[h1] at h;cases h2:(Nat.beq e1.s 0&&Vy F ⟨e2.s,e2.c+e1.c⟩) with
   |true=>
    rw[h2] at h;cases h;rw[a6,nb] at h2;have h5:=KH h0 hF h2.2;have h3:e1.ev env.ρ=e1.c:=by unfold E.ev;rw[h2.1,h0];omega
    have h4:(⟨e2.s,e2.c+e1.c⟩:E).ev env.ρ=e1.ev env.ρ+e2.ev env.ρ:=by rw[h3];simp only[E.ev];omega
    rw[sd (by rw[<-h4];exact h5)] at hr;exact⟨_,env,hr,ja.xR hg h4 (by rw[<-h4];exact h5)⟩
   |false=>rw[h2] at h;cases h;exact fresh _ (wi _) hr rfl
 case sub=>
  simp[binOp,Op.intArith,Result.andThen] at hr;cases h1:(Nat.beq e2.s 0&&Vy F ⟨e1.s,e1.c-e2.c⟩) with
  |true=>
   rw[h1] at h;cases h;rw[a6,nb] at h1;have h2:=KH h0 hF h1.2;have h3:e2.ev env.ρ=e2.c:=by unfold E.ev;rw[h1.1,h0];omega
   have h4:(⟨e1.s,e1.c-e2.c⟩:E).ev env.ρ=e1.ev env.ρ-e2.ev env.ρ:=by rw[h3];simp only[E.ev];omega
   rw[sd (by rw[<-h4];exact h2)] at hr;exact⟨_,env,hr,ja.xR hg h4 (by rw[<-h4];exact h2)⟩
  |false=>
   rw[h1] at h;cases h2:(out i e1.s&&o9 F ⟨0,-1⟩ e1 0&&o9 F e1 ⟨0,4611686018427387904⟩ 0&&o9 F ⟨0,-1⟩ e2 0) with
   |false=>rw[h2] at h;cases h;exact fresh _ (wi _) hr rfl
   |true=>
    rw[h2] at h;cases h;simp only[a6] at h2;obtain⟨⟨⟨o1,l1⟩,l2⟩,l3⟩:=h2;have l1:=jy hF l1;have l2:=jy hF l2;have l3:=jy hF l3;rw[show(⟨0,-1⟩:E).ev env.ρ= -1 by simp[E.ev,h0]] at l1 l3;rw[show(⟨0,4611686018427387904⟩:E).ev env.ρ=4611686018427387904 by simp[E.ev,h0]] at l2;have hin:kP (e1.ev env.ρ-e2.ev env.ρ):=by unfold kP at hyi|-;omega
    rw[sd hin] at hr;have hz:=hK.zero.1;have z1: ∀n,(⟨i,0⟩:E).ev (fun s=>if s=i then n else env.ρ s)=n:=fun n=>by simp[E.ev]
    have z2: ∀n,(⟨0,0⟩:E).ev (fun s=>if s=i then n else env.ρ s)=0:=fun n=>by simp[E.ev,h0,show¬0=i by omega]
    have z3: ∀n,e1.ev (fun s=>if s=i then n else env.ρ s)=e1.ev env.ρ:=fun n=>by simp[E.ev,nT o1]
    obtain⟨env',hp⟩:=ja.yQ (i:=i) (Cd:=[]) hK hg hi hB hin (f:=uC ⟨i,0⟩ e1 (-1)::cond (o9 F e2 e1 0) [uC ⟨0,0⟩ ⟨i,0⟩ 0] []) (by
     refine jD.2 ⟨nc.2 (by rw[z1,z3];omega),?_⟩;cases h3:o9 F e2 e1 0 with
     |false=>exact fF _
     |true=>
      have h3:=jy hF h3;exact jD.2 ⟨nc.2 (by rw[z1,z2];omega),fF _⟩)
    exact⟨_,env',hr,hp⟩
 case mul=>simp[binOp,Op.intArith,Result.andThen] at hr;cases h;exact fresh _ (wi _) hr rfl
 case and=>simp[binOp,Op.intBits,Result.andThen] at hr;cases h;exact fresh _ (wi _) hr rfl
 case or=>simp[binOp,Op.intBits,Result.andThen] at hr;cases h;exact fresh _ (wi _) hr rfl
 case xor=>simp[binOp,Op.intBits,Result.andThen] at hr;cases h;exact fresh _ (wi _) hr rfl
 case andNot=>simp[binOp,Op.intBits,Result.andThen] at hr;cases h;exact fresh _ (wi _) hr rfl
 case quo=>
  cases h1:o9 F ⟨0,1⟩ e2 0 with
  |false=>rw[h1] at h;cases h
  |true=>
   rw[h1] at h;cases h;have h2:=jy hF h1;have h3:e2.ev env.ρ≠0:=by simp only[E.ev,h0] at h2|-;omega
   simp[binOp,Op.intDiv,Result.andThen,h3] at hr;exact fresh _ (wi _) hr rfl
 case rem=>
  cases h1:(o9 F ⟨0,1⟩ e2 0&&o9 F ⟨0,0⟩ e1 0) with
  |false=>rw[h1] at h;cases h
  |true=>
   rw[h1] at h;cases h;rw[a6] at h1;have h2:=jy hF h1.1;have h2':=jy hF h1.2;have h3:1<=e2.ev env.ρ:=by simp only[E.ev,h0] at h2|-;omega
   have h3':0<=e1.ev env.ρ:=by simp only[E.ev,h0] at h2'|-;omega
   have h4:e2.ev env.ρ≠0:=oG;simp[binOp,Op.intDiv,Result.andThen,h4] at hr;have t1:=Int.tmod_nonneg (e2.ev env.ρ) h3';have t2:=Int.tmod_lt_of_pos (e1.ev env.ρ) (show 0<e2.ev env.ρ by omega);have hn:kP ((e1.ev env.ρ).tmod (e2.ev env.ρ)):=by unfold kP at*;omega
   have hi0:(0:Nat)≠i:=by have:=hK.zero.1;omega
   obtain⟨env',hp⟩:=ja.yQ (i:=i) (f:=[⟨0,i,0⟩,uC ⟨i,0⟩ e2 1]) (Cd:=[]) hK hg hi hB hn (qG (by
    show(if 0=i then _ else _)<=(if i=i then _ else _)+(0:Int);rw[if_pos rfl,if_neg hi0,h0];omega) (nc.2 (by
    show(if i=i then _ else _)+(0:Int)+1<=(if e2.s=i then _ else env.ρ e2.s)+e2.c;rw[if_pos rfl,if_neg (nT ho2)];unfold E.ev at t2 t1|-;omega)))
   exact⟨_,env',hr,hp⟩
 case lss=>exact MP
 case leq=>exact MP
 case gtr=>exact MP
 case geq=>exact MP
 case eql=>simp[binOp,Op.intCmp,Result.andThen] at hr;cases h;exact bl _ _ _ hr rfl (fun e=>by simp at e;exact two (nc.2 (by omega)) (nc.2 (by omega))) (fun e=>MS hF (by simp at e;exact e))
 case neq=>simp[binOp,Op.intCmp,Result.andThen] at hr;cases h;exact bl _ _ _ hr rfl (fun e=>MS hF (by simp at e;exact e)) (fun e=>by simp at e;exact two (nc.2 (by omega)) (nc.2 (by omega)))
 case shl=>
  cases h1:o9 F ⟨0,0⟩ e2 0 with
  |false=>rw[h1] at h;cases h
  |true=>
   rw[h1] at h;cases h;have h2:=jy hF h1;have h3: ¬e2.ev env.ρ<0:=by simp only[E.ev,h0] at h2|-;omega
   simp[binOp,Op.shift,Result.andThen,h3] at hr;exact fresh _ (wi _) hr rfl
 case shr=>cases h
end
end Ra
namespace Ra
open Go
theorem QY{p:Prop}(h:p:=by show(if 0=i then _ else _)<=(if i=i then _ else _)+_;rw[if_neg e,if_pos rfl,d];dsimp only;omega):p:=h
theorem VD{p:Prop}(h:p:=by
 rw[gq] at d e;split at d
 ·rename_i c;rw[if_pos c,gS] at e;rw[gS] at d;obtain⟨g,a,q⟩:=f _ _ d;rw[a] at e;cases e;exact q
 ·cases d):p:=h
variable {K:gX} {env:Env} {l:List BV} {vs:List Value}
inductive TD where
 |st (fs:List (Nat×TypeId))
 |sl (e:TypeId)
 |ar (n:Nat) (e:TypeId)
 |nm (k:IntKind)
 |ot
structure TE where
 d:TD
 size:Nat
 bytes:Nat
 zero:Value
abbrev TT:=List (Nat×TE)
structure V0 (P:Program) (t:TypeId) (e:TE):Prop where
 info: ∃inf,P.info? t=some inf/\inf.size=e.size/\inf.bytes=e.bytes/\inf.zero=some e.zero
 SF: ∃d,P.underlying t=some d/\match e.d with
  | .st fs=> ∃flds:Array Field,d=.struct flds/\flds.toList.map (fun f=>(f.offset,f.type))=fs
  | .sl el=>d=.slice el
  | .ar n el=>d=.array n el
  | .nm k=>d=.int k
  | .ot=>(∀f,d≠ .struct f)/\ ∀n e,d≠ .array n e
def xB (P:Program) (T:TT):Prop:= ∀t e,lk T t=some e->V0 P t e
def TE.agg (e:TE):Bool:=match e.d with
 | .st _| .ar _ _=>true
 |_=>false
section
variable {P:Program} {T:TT} (hT:xB P T) {w:World}
include hT
theorem run_sizeOf {e:TE} (h:lk T t=some e):(sizeOf t).run P w=.ok e.size w:=by obtain⟨a,b,f,_⟩:=(hT t e h).info;simp[sizeOf,typeInfo,b,f]
theorem Fp {e:TE} (h:lk T t=some e):(isAgg t).run P w=.ok e.agg w:=by
 obtain⟨d,b,f⟩:=(hT t e h).SF;unfold TE.agg;cases a:e.d with
 |st fs=>rw[a] at f;obtain⟨c,rfl,_⟩:=f;simp[isAgg,run_underlying b]
 |sl el=>rw[a] at f;rw[f] at b;simp[isAgg,run_underlying b]
 |ar n el=>rw[a] at f;rw[f] at b;simp[isAgg,run_underlying b]
 |nm k=>rw[a] at f;rw[f] at b;simp[isAgg,run_underlying b]
 |ot=>
  rw[a] at f;cases d <;>simp[isAgg,run_underlying b]
  ·exact absurd rfl (f.2 _ _)
  ·exact absurd rfl (f.1 _)
theorem uT {e:TE} (h:lk T t=some e) (a:Addr) (cs:List Value) (f:cs.length=e.size) (g: ∀j v,cs[j]? =some v->w.cell? (a.add j)=some v) (b:e.agg=false->e.size=1):
  (loadVar t a).run P w=.ok (if e.agg then .agg cs.toArray else cs.getD 0 undef) w:=by
 cases d:e.agg with
 |true=>
  have i:=run_loadCells_list (P:=P) w a cs g;rw[f] at i;simp[loadVar,Fp hT h,run_sizeOf hT h,d,i]
 |false=>
  have l:=b d;rw[l] at f
  match cs,f with
  | [c],_=>
   have:=g 0 c rfl;simp[Addr.add] at this;simp[loadVar,Fp hT h,d,this]
end
theorem jH.get: ∀{l:List BV} {vs:List Value},jH K env l vs->l.length=vs/\ ∀(j:Nat) (x:BV),l[j]? =some x-> ∃v,vs[j]? =some v/\x.ok K env v
 | [],[],_=>⟨rfl,fun j x h=>by simp at h⟩
 |a::l,v::vs,h=>by
  obtain⟨b,f⟩:=jH.get h.2;refine⟨by simp[b],fun j x c=>?_⟩;cases j with
  |zero=>simp at c;subst c;exact⟨v,rfl,h.1⟩
  |succ j=>simpa using f j x (by simpa using c)
theorem jH.of: ∀{l:List BV} {vs:List Value},l.length=vs->(∀(j:Nat) (x:BV) (v:Value),l[j]? =some x->vs[j]? =some v->x.ok K env v)->jH K env l vs
 | [],[],_,_=>trivial
 |a::l,v::vs,hl,h=>⟨h 0 a v rfl rfl,jH.of (by simpa using hl) fun j x u d b=>h (j+1) x u (by simpa using d) (by simpa using b)⟩
theorem jH.part (h:jH K env l vs) (o n:Nat):jH K env ((l.drop o).take n) ((vs.drop o).take n):=by obtain⟨b,f⟩:=h.get;refine jH.of (by simp[b]) fun j x v d e=>?_;exact VD
theorem jH.Ug (hK:tS K) (h:jH K env l vs): ∀v∈vs,v.oneCell'=true:=by
 intro v e;obtain⟨j,c⟩:=gz.1 e;obtain⟨b,f⟩:=h.get;have d:j<l.length:=by rw[b];exact(bX.1 c).1
 obtain⟨g,a,q⟩:=f j l[j] (fp d);rw[a] at c;cases c;exact BV.one hK q
theorem xa.get: ∀{l:List PC} {vs:List Value},xa K env m l vs->l.length=vs/\ ∀(j:Nat) (x:PC),l[j]? =some x-> ∃v,vs[j]? =some v/\x.ok K env m v
 | [],[],_=>⟨rfl,fun j x h=>by simp at h⟩
 |a::l,v::vs,h=>by
  obtain⟨b,f⟩:=xa.get h.2;refine⟨by simp[b],fun j x c=>?_⟩;cases j with
  |zero=>simp at c;subst c;exact⟨v,rfl,h.1⟩
  |succ j=>simpa using f j x (by simpa using c)
theorem xa.of: ∀{l:List PC} {vs:List Value},l.length=vs->(∀(j:Nat) (x:PC) (v:Value),l[j]? =some x->vs[j]? =some v->x.ok K env m v)->xa K env m l vs
 | [],[],_,_=>trivial
 |a::l,v::vs,hl,h=>⟨h 0 a v rfl rfl,xa.of (by simpa using hl) fun j x u d b=>h (j+1) x u (by simpa using d) (by simpa using b)⟩
theorem xa.part {l:List PC} (h:xa K env m l vs) (o n:Nat):xa K env m ((l.drop o).take n) ((vs.drop o).take n):=by obtain⟨b,f⟩:=h.get;refine xa.of (by simp[b]) fun j x v d e=>?_;exact VD
def PC.inst (i:Nat) (m:E):PC->BV×List LC
 | .any=>(.any,[])
 | .int=>(.int ⟨i,0⟩,[])
 | .zM lo g c=>(.int ⟨i,0⟩,[⟨0,i,-lo⟩,⟨i,g,c⟩])
 | .num k=>(.num k,[])
 | .bool=>(.bool,[])
 | .str=>(.str,[])
 | .sl t mx=>(.sl t ⟨i,0⟩,[⟨0,i,0⟩,⟨i,0,mx⟩])
 | .tr t=>(.tr t ⟨i,0⟩ m,[⟨0,i,0⟩,⟨i,m.s,m.c⟩])
 | .tc t mx=>(.tr t ⟨i,0⟩ ⟨0,mx⟩,[⟨0,i,0⟩,⟨i,0,mx⟩])
 | .sx t c=>(.sl t ⟨2,c⟩,[])
 | .Hb j=>(.Hb j,[])
def PC.insts (i:Nat) (m:E):List PC->List BV×List LC
 | []=>([],[])
 |p::ps=>((p.inst i m).1::(PC.insts (i+1) m ps).1,(p.inst i m).2++(PC.insts (i+1) m ps).2)
section
variable {K:gX} (hK:tS K) {env:Env} (hg: ∀g,g<K.ng->env.ρ g=K.gl g)
include hK hg
theorem PC.TS {m:E} {p:PC} {v:Value} (z:K.ng<=i) (A:m.s<i) (y: ∀o g c,p=.zM o g c->g<K.ng) (h:p.ok K env (m.ev env.ρ) v):
  ∃n,(p.inst i m).1.ok K {env with ρ:=fun s=>if s=i then n else env.ρ s} v/\ln (fun s=>if s=i then n else env.ρ s) (p.inst i m).2:=by
 have e:(0:Nat)≠i:=by have:=hK.zero.1;omega
 have d:env.ρ 0=0:=by rw[hg 0 hK.zero.1,hK.zero.2]
 have r: ∀n c,(⟨i,c⟩:E).ev (fun s=>if s=i then n else env.ρ s)=n+c:=fun n c=>by simp[E.ev]
 have w: ∀n,m.ev (fun s=>if s=i then n else env.ρ s)=m.ev env.ρ:=fun n=>by unfold E.ev;simp only[if_neg (show m.s≠i by omega)]
 cases p with
 |any=>exact⟨0,h,fF _⟩
 |int=>obtain⟨n,rfl,b⟩:=h;exact⟨n,by show _=_/\_;simp only[r];simpa using b,fF _⟩
 |zM o g c=>
  obtain⟨n,rfl,b,f,a⟩:=h;have:=y o g c rfl;refine⟨n,by show _=_/\_;simp only[r];simpa using a,qG ?_ ?_⟩
  ·exact QY
  ·show(if i=i then _ else _)<=(if g=i then _ else _)+_;rw[if_pos rfl,if_neg oG,hg g this];exact f
 |num k=>exact⟨0,h,fF _⟩
 |bool=>exact⟨0,h,fF _⟩
 |str=>exact⟨0,h,fF _⟩
 |Hb j=>exact⟨0,h,fF _⟩
 |sx t c=>
  refine⟨0,?_,fF _⟩;have u:(⟨2,c⟩:E).ev (fun s=>if s=i then 0 else env.ρ s)=K.gl 2+c:=by have:=hK.two;unfold E.ev;dsimp only;rw[if_neg oG,hg 2 this]
  simp only[PC.inst,BV.ok,u];exact h
 |sl t mx=>
  obtain⟨l,b,f⟩:=h;refine⟨l,by simp only[PC.inst,BV.ok,r,fE];exact b,qG ?_ ?_⟩
  ·show(if 0=i then _ else _)<=(if i=i then _ else _)+_;obtain⟨_,_,_,_,q,_⟩:=b;rw[if_neg e,if_pos rfl,d];dsimp only;omega
  ·show(if i=i then _ else _)<=(if 0=i then _ else _)+_;rw[if_pos rfl,if_neg e,d];dsimp only;omega
 |tc t mx=>
  obtain⟨l,b,f,a⟩:=h;have x: ∀n c,(⟨0,c⟩:E).ev (fun s=>if s=i then n else env.ρ s)=c:=fun n c=>by simp[E.ev,e,d]
  refine⟨l,by simp only[PC.inst,BV.ok,r,x,fE];exact⟨b,f,a⟩,qG ?_ ?_⟩
  ·exact QY
  ·show(if i=i then _ else _)<=(if 0=i then _ else _)+_;rw[if_pos rfl,if_neg e,d];dsimp only;omega
 |tr t=>
  obtain⟨l,b,f,a⟩:=h;refine⟨l,by simp only[PC.inst,BV.ok,r,w,fE];exact⟨b,f,a⟩,qG ?_ ?_⟩
  ·exact QY
  ·show(if i=i then _ else _)<=(if m.s=i then _ else _)+_;rw[if_pos rfl,if_neg oG];exact a
end
theorem PC.QK {m:E} {p:PC}: ∀q:Nat->Bool,q i=true->q 0=true->q 2=true->q m.s=true->(∀o g c,p=.zM o g c->q g=true)->(p.inst i m).1.all q=true/\(p.inst i m).2.all (LC.all q)=true:=by
 intro q b e k f a;cases p with
 |zM o g c=>simp[PC.inst,BV.all,E.all,LC.all,b,e,a o g c rfl]
 |_=>simp[PC.inst,BV.all,E.all,LC.all,b,e,k,f]
theorem PC.CP (hK:tS K) {i0:Nat} {m:E}: ∀{ps:List PC} {i:Nat} {env:Env} {vs:List Value},(∀g,g<K.ng->env.ρ g=K.gl g)->K.ng<=i0->i0<=i->i+ps.length<=i0+32->m.s<i0->
  (∀o g c,PC.zM o g c∈ps->g<K.ng)->xa K env (m.ev env.ρ) ps vs->
  ∃ρ',Ext (fun s=>decide (s<i)||decide (i+ps.length<=s)) env {env with ρ:=ρ'}/\jH K {env with ρ:=ρ'} (PC.insts i m ps).1 vs/\ln ρ' (PC.insts i m ps).2
 | [],i,env,[],_,_,_,_,_,_,_=>⟨env.ρ,Ext.refl _ _,trivial,fF _⟩
 |p::ps,i,env,v::vs,hg,hi0,hi,hn,hm,hp,h=>by
  simp only[ff] at hn;obtain⟨n,b,f⟩:=PC.TS (i:=i) hK hg oG (show m.s<i by omega) (fun o g c e=>hp o g c (by rw[e];exact .head _)) h.1;have d:Ext (fun s=>decide (s≠i)) env {env with ρ:=fun s=>if s=i then n else env.ρ s}:=
   ⟨fun s l=>by show(if s=i then n else env.ρ s)=_;rw[if_neg (by simpa using l)],fun _ _=>rfl,fun _ _ h=>h,Sub.refl _⟩
  have w:m.ev (fun s=>if s=i then n else env.ρ s)=m.ev env.ρ:=by unfold E.ev;simp only[if_neg (show m.s≠i by omega)]
  obtain⟨ρ',a,q,z⟩:=PC.CP hK (i0:=i0) (m:=m) (ps:=ps) (i:=i+1) (env:={env with ρ:=fun s=>if s=i then n else env.ρ s}) (vs:=vs)
   (fun g x=>by show(if g=i then n else env.ρ g)=_;rw[if_neg oG];exact hg g x) hi0 oG oG hm (fun o g c e=>hp o g c (.tail _ e)) (by show xa K _ (m.ev (fun s=>if s=i then n else env.ρ s)) ps vs;rw[w];exact xa.ext hK d h.2)
  have y:(decide (i<i+1)||decide (i+1+ps.length<=i))=true:=sI;have k:(decide (2<i+1)||decide (i+1+ps.length<=2))=true:=by have:=hK.two;simp;omega
  have t:(decide (0<i+1)||decide (i+1+ps.length<=0))=true:=sI;have j:=PC.QK (i:=i) (m:=m) (p:=p) (fun s=>decide (s<i+1)||decide (i+1+ps.length<=s)) y t k sO (fun o g c e=>by have:=hp o g c (by rw[e];exact .head _);simp;omega);refine⟨ρ',⟨fun s l=>?_,fun _ _=>rfl,fun _ _ h=>h,Sub.refl _⟩,⟨BV.ext hK a j.1 b,q⟩,lP.2 ⟨ln.ext a j.2 f,z⟩⟩;simp only[ff,hU,decide_eq_true_eq] at l;have r:=a.ρ s sO;have u:(if s=i then n else env.ρ s)=env.ρ s:=by rw[if_neg oG]
  exact r.trans u
end Ra
namespace Ra
open Go
variable {r:sZ}
abbrev one (x:BV):TV:=.cv (.one (.bv x))
def fin (e:TE) (xs:List BV) (f:List LC) (Cd:List Nat):Option sZ:=
 cond (Nat.beq xs e.size&&Nat.ble e.size 32) (cond e.agg (some ⟨.cv (.agg xs),f,[],Cd⟩) (cond (Nat.beq e.size 1) (some ⟨one (xs.headD .any),f,[],Cd⟩) none)) none
def SZ (K:gX) (T:TT) (ig:jM) (i:Nat) (t:TypeId) (C:Option TV):Option sZ:=
 match lk T t with
 |none=>none
 |some e=>match C with
  |some (.cv (.one (.bv (.ptr k off))))=>match ig k with
   |some x=>fin e ((x.2.drop off).take e.size) [] [k]
   |none=>none
  |some (.cv (.one (.bv (.pe tg off))))=>fin e (PC.insts i ⟨0,0⟩ (((K.pat tg).drop off).take e.size)).1 (PC.insts i ⟨0,0⟩ (((K.pat tg).drop off).take e.size)).2 []
  |some (.cv (.one (.bv (.pr tg m off))))=>cond (Nat.blt m.s i) (fin e (PC.insts i m (((K.Dx tg).drop off).take e.size)).1 (PC.insts i m (((K.Dx tg).drop off).take e.size)).2 []) none
  |_=>none
def Mi (K:gX) (T:TT) (s:TypeId) (C:Option TV) (f:Nat):Option sZ:=
 match lk T s with
 |none=>none
 |some e=>match e.d with
  | .st fs=>match fs[f]? with
   |some (o,ft)=>match lk T ft with
    |some fe=>cond (Nat.beq fe.size 0) none (match C with
     |some (.cv (.one (.bv (.ptr k off))))=>some ⟨one (.ptr k (off+o)),[],[],[]⟩
     |some (.cv (.one (.bv (.pe tg off))))=>cond (Nat.blt (off+o) (K.pat tg).length) (some ⟨one (.pe tg (off+o)),[],[],[]⟩) none
     |some (.cv (.one (.bv (.pr tg m off))))=>some ⟨one (.pr tg m (off+o)),[],[],[]⟩
     |_=>none)
    |none=>none
   |none=>none
  |_=>none
def Mj (K:gX) (T:TT) (F:List LC) (t:TypeId) (x y:Option TV):Option sZ:=
 match lk T t with
 |none=>none
 |some e=>match e.d with
  | .sl el=>match lk T el with
   |none=>none
   |some ee=>match x,y with
    |some (.cv (.one (.bv (.sl tg l)))),some (.cv (.one (.bv (.int q))))=>
     cond (o9 F ⟨0,0⟩ q 0&&o9 F q l 1&&Nat.beq ee.size (K.pat tg).length) (some ⟨one (.pe tg 0),[],[],[]⟩) none
    |some (.cv (.one (.bv (.tr tg l m)))),some (.cv (.one (.bv (.int q))))=>
     cond (o9 F ⟨0,0⟩ q 0&&o9 F q l 1&&Nat.beq ee.size (K.Dx tg).length) (some ⟨one (.pr tg m 0),[],[],[]⟩) none
    |_,_=>none
  |_=>none
theorem PC.Ah {m:E}: ∀{ps:List PC} {i:Nat},(PC.insts i m ps).1.length=ps
 | [],_=>rfl
 |p::ps,i=>by simp[PC.insts,PC.Ah (ps:=ps)]
theorem add_lit (b o j:Nat):((pA b o):Addr).add j=(pA b (o+j)):=by unfold Addr.add;split <;>simp_all
theorem Df {o n j z:Nat} (hn:0<n) (X:o<z) (hz:z%n=0) (q:o%n+j<n):o+j<z/\(o+j)%n=o%n+j:=by
 have O:=BF o n;have M:=BF z n;have N:o/n<z/n:=by refine Nat.lt_of_mul_lt_mul_left (a:=n) ?_;omega
 have Y:n*(o/n+1)<=n*(z/n):=aaw _ N;rw[Nat.mul_add] at Y;refine⟨oG,?_⟩;rw[show o+j=o%n+j+n*(o/n) by omega,Nat.add_mul_mod_self_left];exact zJ q
section
variable {P:Program} {T:TT} (hT:xB P T) {K:gX} (hK:tS K) {env:Env} {B ig:jM} {w:World} {i:Nat} {F:List LC} {a:Act} {o:Oper}
include hT hK
theorem C5 {e:TE} {xs:List BV} {f:List LC} {Cd:List Nat} {C:Addr} {cs:List Value} (X:o.op=.load t x) (ht:lk T t=some e) (Q:a.eval x=.pointer (some C)) (h:fin e xs f Cd=some r)
  (g: ∀j v,cs[j]? =some v->w.cell? (C.add j)=some v) (k:cs.length=xs) (env':Env) (b:jH K env' xs cs) (n:ln env'.ρ f)
  (V: ∀v tv,tv.ok K env' v->ja K env B i w ⟨tv,f,[],Cd⟩ v env' w):
  ∃v env',(execOp a.eval o).run P w=.ok (.value v) w/\ja K env B i w r v env' w:=by
 have l:=fun O M=>uT (P:=P) (w:=w) hT ht C cs O g M;unfold fin at h;cases hb:(Nat.beq xs e.size&&Nat.ble e.size 32) with
 |false=>rw[hb] at h;cases h
 |true=>
  rw[hb] at h;rw[a6,nb] at hb;have p:(execOp a.eval o).run P w=((loadVar t C).run P w).andThen fun v w'=>.ok (.value v) w':=by simp[execOp,X,Q,Instr.loadAt,Instr.sureAddr]
  cases d:e.agg with
  |true=>
   rw[d] at h;cases h;have M:=l (by rw[k,hb.1]) (by rw[d];intro h;cases h);rw[d] at M;refine⟨_,env',by rw[p,M];rfl,V _ _ ⟨cs,rfl,b⟩⟩
  |false=>
   rw[d] at h;cases O:Nat.beq e.size 1 with
   |false=>rw[O] at h;cases h
   |true=>
    rw[O] at h;cases h;rw[nb] at O;have M:=l (by rw[k,hb.1]) (fun _=>O);rw[d] at M;have N:cs.length=1:=by rw[k,hb.1,O]
    match cs,xs,N,b with
    | [c],[y],_,b=>
     exact⟨c,env',by rw[p,M];rfl,V _ _ b.1⟩
theorem S0 {C:Option TV} (X:o.op=.load t x) (H:Good K env B w) (hi:K.ng<=i) (hB:uc B i)
  (Q:OV K env C (a.eval x)) (h:SZ K T ig i t C=some r) (hb: ∀k∈r.Cd,ig k=B k):
  ∃v env',(execOp a.eval o).run P w=.ok (.value v) w/\ja K env B i w r v env' w:=by
 unfold SZ at h;split at h
 ·cases h
 ·rename_i e ht;split at h
  ·rename_i k A;split at h
   ·rename_i y hy;have ai:a.eval x=.pointer (pA (env.β k) A):=Q;have ae:k∈r.Cd:=by
     unfold fin at h;cases O:(Nat.beq ((y.2.drop A).take e.size).length e.size&&Nat.ble e.size 32) <;>rw[O] at h
     ·cases h
     ·cases M:e.agg <;>rw[M] at h
      ·cases N:Nat.beq e.size 1 <;>rw[N] at h <;>cases h
       exact .head _
      ·cases h;exact .head _
    rw[hb k ae] at hy;obtain⟨c,O,M⟩:=H.hB k y.1 y.2 hy;refine C5 hT hK X ht ai h (cs:=(c.drop A).take e.size) (fun j v q=>?_) ?_ env (M.part A e.size) (fF _) fun v tv I=>ja.pK H I (fF _)
    ·rw[add_lit,cell_of_row w _ _ _ _ _ O];rw[gq] at q;split at q
     ·rw[gS] at q;simpa using q
     ·cases q
    ·simp[M.get.1]
   ·cases h
  ·rename_i G A;obtain⟨b,R,z,I,hH,hz,D⟩:=Q;obtain⟨⟨c,af,ag,ah⟩,aa,-⟩:=H.hH b G z hH;generalize F:((K.pat G).drop A).take e.size=ps at h;have n:(PC.insts i ⟨0,0⟩ ps).1.length=ps.length:=PC.Ah;have l:=h;unfold fin at l;cases d:(Nat.beq (PC.insts i ⟨0,0⟩ ps).1.length e.size&&Nat.ble e.size 32) with
   |false=>rw[d] at l;cases l
   |true=>
    clear l;rw[a6,nb,mE,n] at d;have aj:A+e.size<=(K.pat G).length\/e.size=0:=by have:=d.1;rw[<-F,fB,km] at this;omega
    have J: ∀j,j<e.size->R+j<z/\(R+j)%(K.pat G).length=A+j:=fun j q=>by have:=Df (hK.pos G) hz aa (j:=j) (by rw[D];omega);rw[D] at this;exact this
    have U:((c.toList.drop R).take e.size).length=e.size:=by
     rw[fB,km,je,ag]
     rcases kV e.size with h0|h0
     ·omega
     ·have:=(J (e.size-1) oG).1;omega
    have Z:xa K env 0 ps ((c.toList.drop R).take e.size):=by
     refine xa.of (by rw[U];exact d.1) fun j p u V hu=>?_;have q:j<e.size:=by rw[<-U];exact(bX.1 hu).1
     rw[gq,if_pos q,gS] at hu;obtain⟨p',N,Y⟩:=ah (R+j) u (by simpa using hu);rw[(J j q).2] at N;rw[<-F,gq,if_pos q,gS] at V;rw[V] at N;cases N;exact Y
    have e0:(⟨0,0⟩:E).ev env.ρ=0:=by unfold E.ev;rw[H.gl 0 hK.zero.1,hK.zero.2];rfl
    obtain⟨ρ',N,Y,h5⟩:=PC.CP hK (i0:=i) (m:=⟨0,0⟩) (ps:=ps) (i:=i) (env:=env) H.gl hi lE oG (by have:=hK.zero.1;show 0<i;omega)
     (fun lo g c L=>hK.pg (t:=G) (by rw[<-F] at L;exact jj (mh L))) (by rw[e0];exact Z)
    have W:Ext (out i) env {env with ρ:=ρ'}:=N.Pn fun s hs=>by have:=nf.1 hs;simp;omega
    refine C5 hT hK X ht I h (cs:=(c.toList.drop R).take e.size) (fun j v q=>?_) (by rw[U,n];exact d.1.symm) _ Y h5 fun v tv I=>⟨W,H.ids hK hi hB W rfl rfl,Step.refl _ _ _ _ rfl rfl,I,h5⟩;rw[add_lit,cell_of_row w _ _ _ _ _ af];rw[gq] at q;split at q
    ·rw[gS] at q;simpa using q
    ·cases q
  ·rename_i G m A;cases L:Nat.blt m.s i with
   |false=>rw[L] at h;cases h
   |true=>
    rw[L] at h;rw[fT] at L;simp only[cond_true] at h;obtain⟨b,R,cs,I,J,S⟩:=Q;generalize F:((K.Dx G).drop A).take e.size=ps at h;have n:(PC.insts i m ps).1.length=ps.length:=PC.Ah;have l:=h;unfold fin at l;cases d:(Nat.beq (PC.insts i m ps).1.length e.size&&Nat.ble e.size 32) with
    |false=>rw[d] at l;cases l
    |true=>
     clear l;rw[a6,nb,mE,n] at d;have Z:xa K env (m.ev env.ρ) ps ((cs.drop A).take e.size):=by rw[<-F];exact J.part A e.size
     have U:=Z.get.1;obtain⟨ρ',N,Y,h5⟩:=PC.CP hK (i0:=i) (m:=m) (ps:=ps) (i:=i) (env:=env) H.gl hi lE oG L
      (fun lo g c L=>hK.spg (t:=G) (by rw[<-F] at L;exact jj (mh L))) Z
     have W:Ext (out i) env {env with ρ:=ρ'}:=N.Pn fun s hs=>by have:=nf.1 hs;simp;omega
     refine C5 hT hK X ht I h (cs:=(cs.drop A).take e.size) (fun j v q=>?_) (by rw[<-U,n]) _ Y h5 fun v tv I=>⟨W,H.ids hK hi hB W rfl rfl,Step.refl _ _ _ _ rfl rfl,I,h5⟩;rw[gq] at q;split at q
     ·rw[gS] at q;have:=S _ _ q;rw[add_lit,show R+A+j=R+(A+j) by omega];exact(show Sub env.h w from fun b c T f h=>(H.hh b c T f h).1).cell this
     ·cases q
  ·cases h
omit hK in
theorem Pw {s:TypeId} {x:Operand} {f:Nat} {C:Option TV} {r:sZ} (X:o.op=.fieldAddr s x f) (hK:tS K) (H:Good K env B w) (Q:OV K env C (a.eval x)) (h:Mi K T s C f=some r):
  ∃v env',(execOp a.eval o).run P w=.ok (.value v) w/\ja K env B i w r v env' w:=by
 unfold Mi at h;split at h
 ·cases h
 rename_i e ht;split at h;rotate_left
 ·cases h
 rename_i N Z;split at h;rotate_left
 ·cases h
 rename_i F M n;split at h;rotate_left
 ·cases h
 rename_i E u;cases hz:Nat.beq E.size 0 with
 |true=>rw[hz] at h;cases h
 |false=>
  rw[hz] at h;simp only[cond_false] at h;have y:E.size≠0:=fun e=>by rw[e] at hz;cases hz
  obtain⟨d,hu,L⟩:=(hT s e ht).SF;rw[Z] at L;obtain⟨l,rfl,t⟩:=L;have c: ∃g:Field,l[f]? =some g/\g.offset=F/\g.type=M:=by
   rw[<-t,fh] at n;cases c:l.toList[f]? with
   |none=>rw[c] at n;cases n
   |some g=>rw[c] at n;simp at n;exact⟨g,by simpa using c,n.1,n.2⟩
  obtain⟨g,c,rfl,rfl⟩:=c;have p: ∀C,a.eval x=.pointer (some C)->(execOp a.eval o).run P w=.ok (.value (.pointer (some (C.add g.offset)))) w:=fun C V=>by simp only[execOp,X,V];simp[Instr.fieldAt,run_underlying hu,c,Instr.sureAddr,fieldPlace,run_sizeOf hT u,y,Result.andThen]
  split at h
  ·rename_i k A;cases h;exact⟨_,env,p _ Q,ja.pK H (by rw[add_lit];rfl) (fF _)⟩
  ·rename_i G A;cases q:Nat.blt (A+g.offset) (K.pat G).length with
   |false=>rw[q] at h;cases h
   |true=>
    rw[q] at h;cases h;rw[fT] at q;obtain⟨b,R,z,I,hH,hz,D⟩:=Q;obtain⟨-,aa,-⟩:=H.hH b G z hH;have:=Df (hK.pos G) hz aa (j:=g.offset) (by rw[D];omega);exact⟨_,env,p _ I,ja.pK H (by rw[add_lit];exact⟨b,_,z,rfl,hH,this.1,by rw[this.2,D]⟩) (fF _)⟩
  ·rename_i G m A;cases h;obtain⟨b,R,cs,I,J,S⟩:=Q;exact⟨_,env,p _ I,ja.pK H (by rw[add_lit];exact⟨b,R,cs,by rw[mf],J,S⟩) (fF _)⟩
  ·cases h
theorem Px {y:Operand} {sx si:Option TV} (X:o.op=.indexAddr t x y) (H:Good K env B w) (R:ln env.ρ F) (Q:OV K env sx (a.eval x)) (s:OV K env si (a.eval y)) (h:Mj K T F t sx si=some r):
  ∃v env',(execOp a.eval o).run P w=.ok (.value v) w/\ja K env B i w r v env' w:=by
 have h0:env.ρ 0=0:=by rw[H.gl 0 hK.zero.1,hK.zero.2]
 unfold Mj at h;split at h
 ·cases h
 rename_i e ht;split at h;rotate_left
 ·cases h
 rename_i el Z;split at h
 ·cases h
 rename_i U aa;obtain⟨d,hu,L⟩:=(hT t e ht).SF;rw[Z] at L;subst L;have p: ∀(C:Addr) n c q,a.eval x=.slice (some C) n c->a.eval y=.int .i64 q->0<=q->q<n->(execOp a.eval o).run P w=.ok (.value (.pointer (some (C.add (q.toNat*U.size))))) w:=fun C n c q O M N Y=>by simp only[execOp,X,O,M];simp[Instr.indexAt,asIntOf,run_underlying hu,N,Y,run_sizeOf hT aa,Result.andThen]
 split at h
 ·rename_i G l q;cases g:(o9 F ⟨0,0⟩ q 0&&o9 F q l 1&&Nat.beq U.size (K.pat G).length) with
  |false=>rw[g] at h;cases h
  |true=>
   rw[g] at h;cases h;simp only[a6,nb] at g;obtain⟨⟨c1,c2⟩,c3⟩:=g;have c1:=jy R c1;have c2:=jy R c2;rw[show(⟨0,0⟩:E).ev env.ρ=0 by simp[E.ev,h0]] at c1;obtain⟨C,n,c,I,hn,ah,ag,f,W⟩:=Q;obtain⟨hq,-⟩:=s;cases C with
   |none=>have:=f rfl;omega
   |some C=>
    obtain⟨u,z,hH,D,j⟩:=W C rfl;obtain⟨b,A,ai⟩:=C;dsimp only at u hH D j;subst u;have af:q.ev env.ρ<n:=oG;refine⟨_,env,p _ n c _ I hq oG af,ja.pK H ?_ (fF _)⟩;rw[add_lit,c3];obtain⟨k,hk⟩:=fw (show 0<=q.ev env.ρ by omega);rw[hk,gu];have ae:k+1<=c:=oG;have h5:(k+1)*(K.pat G).length<=c*(K.pat G).length:=nZ _ ae;rw[pz] at h5;have:=hK.pos G;exact⟨b,_,z,rfl,hH,oG,by rw[wg];exact D⟩
 ·rename_i G l m q;cases g:(o9 F ⟨0,0⟩ q 0&&o9 F q l 1&&Nat.beq U.size (K.Dx G).length) with
  |false=>rw[g] at h;cases h
  |true=>
   rw[g] at h;cases h;simp only[a6,nb] at g;obtain⟨⟨c1,c2⟩,c3⟩:=g;have c1:=jy R c1;have c2:=jy R c2;rw[show(⟨0,0⟩:E).ev env.ρ=0 by simp[E.ev,h0]] at c1;obtain⟨V,-,-⟩:=Q;obtain⟨hq,-⟩:=s;obtain⟨C,n,c,I,hn,-,-⟩:=hK.shape V;rw[I] at V;obtain⟨k,hk⟩:=fw (show 0<=q.ev env.ρ by omega);obtain⟨b,A,cs,rfl,J,S⟩:=hK.elem env V k oG;refine⟨_,env,p _ n c _ I hq oG oG,ja.pK H ?_ (fF _)⟩;rw[add_lit,c3,hk,gu];exact⟨b,_,cs,by rw[gv],J,S⟩
 ·cases h
end
end Ra
namespace Ra
open Go
variable {t:Nat}
theorem tX (b:Nat): ∀(vs:List Value) (o:Nat) (w:World) (c:Array Value) (T:TypeId),w.heap[b]? =some (.cells c T (0,0))->
  ∃c':Array Value,(w.setCells b o vs).heap[b]? =some (.cells c' T (0,0))/\c'.size=c.size/\ ∀j,c'[j]? =if o<=j/\j<o+vs.length/\j<c.size then vs[j-o]? else c[j]?
 | [],o,w,c,T,h=>⟨c,h,rfl,fun j=>by rw[if_neg sO]⟩
 |v::r,o,w,c,T,h=>by
  obtain⟨c',g,y,D⟩:=tX b r (o+1) (w.setCell (pA b o) v) (c.setIfInBounds o v) T (heap_setCell_same w b o c T v h);refine⟨c',g,by rw[y];simp,fun j=>?_⟩;rw[D j];simp only[yq,ff];by_cases d:o+1<=j/\j<o+1+r.length/\j<c.size
  ·rw[if_pos d,if_pos oG,show j-o=(j-(o+1))+1 by omega];simp
  ·rw[if_neg d];by_cases E:j=o
   ·subst E;by_cases C:j<c.size
    ·rw[if_pos oG];simp[pN,C]
    ·rw[if_neg oG];simp[pN,C]
   ·rw[if_neg oG,iQ (jN E)]
theorem jg (b:Nat): ∀(vs:List Value) (o:Nat) (w:World) (k:Nat),k≠b->(w.setCells b o vs).heap[k]? =w.heap[k]?
 | [],_,_,_,_=>rfl
 |v::r,o,w,k,h=>by rw[World.setCells,jg b r (o+1) _ k h,heap_setCell_other w _ _ _ h]
theorem size_setCells (b:Nat): ∀(vs:List Value) (o:Nat) (w:World),(w.setCells b o vs).heap.size=w
 | [],_,_=>rfl
 |v::r,o,w=>by rw[World.setCells,size_setCells b r (o+1)];simp[World.setCell]
section
variable {K:gX} (hK:tS K) {env env':Env} {B:jM} {w w':World} {i:Nat}
theorem fP {α:Type} {a:Array α} {x:α} (h:a[b]? =some x):b<a.size:=(aah.1 h).1
theorem Good.ltH (a:Good K env B w) {n:Nat} (h:env.H b=some (t,n)):b<w.heap.size:=by obtain⟨⟨c,g,_⟩,_⟩:=a.hH b t n h;exact fP g
theorem Good.C7 (a:Good K env B w) (h:B k≠none):env.β k<w.heap.size:=by
 cases p:B k with
 |none=>exact absurd p h
 |some x=>obtain⟨c,g,_⟩:=a.hB k x.1 x.2 p;exact fP g
theorem Good.lth (a:Good K env B w) {c T f} (h:env.h.heap[b]? =some (.cells c T f)):b<w.heap.size:=fP (a.hh b c T f h).1
theorem uc.get (A:uc B i) (h:B k≠none):out i k=true:=by
 cases p:B k with
 |none=>exact absurd p h
 |some x=>exact(A k x.1 x.2 p).1
theorem Good.heap (a:Good K env B w) (h:w'.heap=w.heap):Good K env B w':=by
 refine⟨a.gl,fun b c T f q=>?_,fun b t n q=>?_,fun k T xs q=>?_,a.hd⟩
 ·rw[h];exact a.hh b c T f q
 ·rw[h];exact a.hH b t n q
 ·rw[h];exact a.hB k T xs q
include hK
theorem Good.alloc (a:Good K env B w) (I:K.ng<=i) (A:uc B i) {T:TypeId} {xs:List BV} {cs:List Value} (F:xs.all (BV.all (out i))=true) (M:jH K env xs cs):
  Ext (out i) env {env with β:=fun k=>if k=i then w.heap.size else env.β k}/\
  Good K {env with β:=fun k=>if k=i then w.heap.size else env.β k} (wU B [(i,T,xs)]) (w.alloc (cB T cs))/\
  Step env B w [(i,T,xs)] {env with β:=fun k=>if k=i then w.heap.size else env.β k} (w.alloc (cB T cs)):=by
 have o:Ext (out i) env {env with β:=fun k=>if k=i then w.heap.size else env.β k}:=
  ⟨fun _ _=>rfl,fun s C=>by show(if s=i then _ else _)=_;rw[if_neg (nT C)],fun _ _ h=>h,Sub.refl _⟩
 have H:B i=none:=by
  cases h:B i with
  |none=>rfl
  |some x=>have:=nT (A.get (by rw[h];simp));exact absurd rfl this
 have z: ∀k,B k≠none->k≠i:=fun k p=>nT (A.get p);have l: ∀k,k≠i->wU B [(i,T,xs)] k=B k:=fun k p=>by
  refine qg ?_;unfold lk;cases h:Nat.beq i k with
  |true=>rw[nb] at h;exact absurd h.symm p
  |false=>rfl
 have J:wU B [(i,T,xs)] i=some (T,xs):=oW (by unfold lk;rw[jJ];rfl);have e: ∀b,b<w.heap.size->(w.alloc (cB T cs)).heap[b]? =w.heap[b]? :=fun b m=>heap_alloc_old w _ m;have hβ: ∀k,k≠i->(if k=i then w.heap.size else env.β k)=env.β k:=fun k p=>if_neg p;refine⟨o,⟨a.gl,fun b c r f h=>?_,fun b t n h=>?_,fun k r ys h=>?_,fun k v h q U=>?_⟩,⟨by simp,fun b m _ _=>e b m,fun b h=>.inl h,fun b c T f h=>.inl h,fun k h W=>?_,⟨rfl,rfl,rfl⟩⟩⟩
 ·obtain⟨g,y,D⟩:=a.hh b c r f h;refine⟨by rw[e b (fP g)];exact g,y,fun k p=>?_⟩;by_cases d:k=i
  ·show(if k=i then _ else _)≠b;rw[if_pos d];have:=fP g;omega
  ·show(if k=i then _ else _)≠b;rw[if_neg d];rw[l k d] at p;exact D k p
 ·obtain⟨⟨c,g,y,D⟩,G,E⟩:=a.hH b t n h;refine⟨⟨c,by rw[e b (fP g)];exact g,y,D.ext hK o⟩,G,fun k p=>?_⟩;by_cases d:k=i
  ·show(if k=i then _ else _)≠b;rw[if_pos d];have:=fP g;omega
  ·show(if k=i then _ else _)≠b;rw[if_neg d];rw[l k d] at p;exact E k p
 ·by_cases d:k=i
  ·subst d;rw[J] at h;cases h;refine⟨cs,?_,jH.ext hK o F M⟩;show(w.alloc _).heap[if k=k then _ else _]? =_;rw[if_pos rfl];exact heap_alloc_new w _
  ·rw[l k d] at h;obtain⟨c,g,y⟩:=a.hB k r ys h;refine⟨c,?_,jH.ext hK o (A k r ys h).2 y⟩;show(w.alloc _).heap[if k=i then _ else _]? =_;rw[if_neg d,e _ (fP g)];exact g
 ·have u:(if k=i then w.heap.size else env.β k)=(if v=i then w.heap.size else env.β v):=U;by_cases d:k=i
  ·by_cases j:v=i
   ·rw[d,j]
   ·rw[if_pos d,if_neg j] at u;rw[l v j] at q;have:=a.C7 q;omega
  ·by_cases j:v=i
   ·rw[if_neg d,if_pos j] at u;rw[l k d] at h;have:=a.C7 h;omega
   ·rw[if_neg d,if_neg j] at u;rw[l k d] at h;rw[l v j] at q;exact a.hd k v h q u
 ·have:k=i:=by
   unfold lk at h;cases m:Nat.beq i k with
   |true=>rw[nb] at m;exact m.symm
   |false=>rw[m] at h;exact absurd rfl h
  show w.heap.size<=if k=i then _ else _;rw[if_pos this];exact ij _
omit hK in
theorem Ext.Ua (p:Nat->Bool) (a:Good K env B w) (t n:Nat):Ext p env {env with H:=fun b=>if b=w.heap.size then some (t,n) else env.H b}:=
 ⟨fun _ _=>rfl,fun _ _=>rfl,fun b x h=>by show(if b=w then _ else _)=_;rw[if_neg (by have:=a.ltH (t:=x.1) (n:=x.2) h;omega)];exact h,Sub.refl _⟩
theorem Good.row (a:Good K env B w) {c:Array Value} (d:lA K env t c) (i:c.size%(K.pat t).length=0):
  Good K {env with H:=fun b=>if b=w.heap.size then some (t,c.size) else env.H b} B (w.alloc (.cells c (K.ty t)))/\
  Step env B w [] {env with H:=fun b=>if b=w.heap.size then some (t,c.size) else env.H b} (w.alloc (.cells c (K.ty t))):=by
 have o:=Ext.Ua (K:=K) (B:=B) (w:=w) (fun _=>true) a t c.size;have e: ∀b,b<w.heap.size->(w.alloc (.cells c (K.ty t))).heap[b]? =w.heap[b]? :=fun b m=>heap_alloc_old w _ m;refine⟨⟨a.gl,fun b c' r f h=>?_,fun b v n h=>?_,fun k r ys h=>?_,a.hd⟩,⟨by simp,fun b m _ _=>e b m,fun b h=>?_,fun b c T f h=>.inl h,fun k h=>absurd rfl h,⟨rfl,rfl,rfl⟩⟩⟩
 ·obtain⟨g,y,D⟩:=a.hh b c' r f h;refine⟨by rw[e b (fP g)];exact g,?_,D⟩;show(if b=w then _ else _)=_;rw[if_neg (by have:=fP g;omega)];exact y
 ·by_cases m:b=w
  ·have q:(if b=w then some (t,c.size) else env.H b)=some (v,n):=h;rw[if_pos m] at q;cases q;refine⟨⟨c,by rw[m];exact heap_alloc_new w _,rfl,d.ext hK o⟩,i,fun k p=>?_⟩;have:=a.C7 p;show env.β k≠b;omega
  ·have q:(if b=w then some (t,c.size) else env.H b)=some (v,n):=h;rw[if_neg m] at q;obtain⟨⟨c',g,y,D⟩,G,E⟩:=a.hH b v n q;exact⟨⟨c',by rw[e b (fP g)];exact g,y,D.ext hK o⟩,G,E⟩
 ·obtain⟨c',g,y⟩:=a.hB k r ys h;exact⟨c',by show(w.alloc _).heap[env.β k]? =_;rw[e _ (fP g)];exact g,jH.ext hK o (by
   have: ∀l:List BV,l.all (BV.all fun _=>true)=true:=fun l=>dT.2 fun x _=>by cases x <;>rfl
   exact this ys) y⟩
 ·by_cases m:b=w
  ·exact .inr oG
  ·refine .inl ?_;have q:(if b=w then some (t,c.size) else env.H b)≠none:=h;rw[if_neg m] at q;exact q
omit hK in
theorem Good.store (a:Good K env B w) {k:Nat} {T:TypeId} {xs ys:List BV} {vs:List Value} {o:Nat} (p:B k=some (T,xs)) (Y:jH K env ys vs) (aa:o+ys.length<=xs):
  Good K env (wU B [(k,T,xs.take o++ys++xs.drop (o+ys.length))]) (w.setCells (env.β k) o vs)/\
  Step env B w [(k,T,xs.take o++ys++xs.drop (o+ys.length))] env (w.setCells (env.β k) o vs):=by
 obtain⟨c,g,y⟩:=a.hB k T xs p;have af:=Y.get.1;have ae:=y.get.1;obtain⟨c',S,P,Q⟩:=tX (env.β k) vs o w c.toArray T g;have z:B k≠none:=by rw[p];simp
 have l: ∀j,j≠k->wU B [(k,T,xs.take o++ys++xs.drop (o+ys.length))] j=B j:=fun j d=>by
  refine qg ?_;unfold lk;cases h:Nat.beq k j with
  |true=>rw[nb] at h;exact absurd h.symm d
  |false=>rfl
 have J:wU B [(k,T,xs.take o++ys++xs.drop (o+ys.length))] k=some (T,xs.take o++ys++xs.drop (o+ys.length)):=oW (by unfold lk;rw[jJ];rfl);have G: ∀j,wU B [(k,T,xs.take o++ys++xs.drop (o+ys.length))] j≠none->B j≠none:=fun j d=>by
  by_cases h:j=k
  ·rw[h];exact z
  ·rw[l j h] at d;exact d
 refine⟨⟨a.gl,fun b c r f h=>?_,fun b t n h=>?_,fun j r X h=>?_,fun j Z h q U=>a.hd j Z (G j h) (G Z q) U⟩,⟨by rw[size_setCells];exact lE,fun b m L M=>jg _ _ _ _ _ (fun e=>M k (by unfold lk;rw[jJ];simp) z e.symm),fun b h=>.inl h,fun b c T f h=>.inl h,fun j h W=>?_,vM _ _ _ _⟩⟩
 ·obtain⟨C,A,H⟩:=a.hh b c r f h;exact⟨by rw[jg _ _ _ _ _ (jN (H k z))];exact C,A,fun j d=>H j (G j d)⟩
 ·obtain⟨⟨i,C,A,H⟩,R,O⟩:=a.hH b t n h;exact⟨⟨i,by rw[jg _ _ _ _ _ (jN (O k z))];exact C,A,H⟩,R,fun j d=>O j (G j d)⟩
 ·by_cases I:j=k
  ·subst I;rw[J] at h;cases h;refine⟨c'.toList,by rw[aae];exact S,?_⟩;simp only[gU] at P Q;refine jH.of (by simp[P];omega) fun j x v F s=>?_;rw[fA,Q j] at s;rw[gD,jG,fB,kM oG] at F;split at F
   ·rename_i E;rw[if_neg oG] at s;rw[iG E] at F;obtain⟨u,N,D⟩:=y.get.2 j x F;simp at s;rw[N] at s;cases s;exact D
   ·rename_i E;rw[jG] at F;split at F
    ·rename_i V;rw[if_pos oG] at s;obtain⟨u,N,D⟩:=Y.get.2 _ x F;rw[N] at s;cases s;exact D
    ·rename_i V;rw[if_neg oG] at s;rw[gS,show o+ys.length+(j-o-ys.length)=j by omega] at F;obtain⟨u,N,D⟩:=y.get.2 j x F;simp at s;rw[N] at s;cases s;exact D
  ·rw[l j I] at h;obtain⟨i,C,A⟩:=a.hB j r X h;exact⟨i,by rw[jg _ _ _ _ _ (fun e=>I (a.hd j k (by rw[h];simp) z e))];exact C,A⟩
 ·have:j=k:=by
   unfold lk at h;cases m:Nat.beq k j with
   |true=>rw[nb] at m;exact m.symm
   |false=>rw[m] at h;exact absurd rfl h
  rw[this] at W;exact absurd W z
omit hK in
theorem Good.Ds (a:Good K env B w) {b t n o:Nat} {vs:List Value} (L:env.H b=some (t,n)) (s: ∀(j:Nat) u,vs[j]? =some u-> ∃p,(K.pat t)[(o+j)%(K.pat t).length]? =some p/\p.ok K env 0 u):
  Good K env B (w.setCells b o vs)/\Step env B w [] env (w.setCells b o vs):=by
 obtain⟨⟨c,g,y,D⟩,G,E⟩:=a.hH b t n L;obtain⟨c',S,P,Q⟩:=tX b vs o w c _ g;refine⟨⟨a.gl,fun k c r f h=>?_,fun k v z h=>?_,fun j r X h=>?_,a.hd⟩,⟨by rw[size_setCells];exact lE,fun k m l M=>jg _ _ _ _ _ (fun e=>by rw[e,L] at l;cases l),fun b h=>.inl h,fun b c T f h=>.inl h,fun j h=>absurd rfl h,vM _ _ _ _⟩⟩
 ·obtain⟨C,A,H⟩:=a.hh k c r f h;exact⟨by rw[jg _ _ _ _ _ (fun e=>by rw[e,L] at A;cases A)];exact C,A,H⟩
 ·by_cases m:k=b
  ·subst m;rw[L] at h;cases h;refine⟨⟨c',S,by rw[P,y],fun j u d=>?_⟩,G,E⟩;rw[Q j] at d;split at d
   ·rename_i M;obtain⟨p,q,x⟩:=s _ u d;exact⟨p,by rw[<-q];congr 1;congr 1;omega,x⟩
   ·exact D j u d
  ·obtain⟨⟨i,C,A,H⟩,R,O⟩:=a.hH k v z h;exact⟨⟨i,by rw[jg _ _ _ _ _ m];exact C,A,H⟩,R,O⟩
 ·obtain⟨i,C,A⟩:=a.hB j r X h;exact⟨i,by rw[jg _ _ _ _ _ (E j (by rw[h];simp))];exact C,A⟩
end
end Ra
namespace Ra
open Go
variable {F:List LC} {r:sZ} {x:BV}
def zV:Value->Option BV
 | .int .i64 n=>cond (decide (-9223372036854775808<=n)&&decide (n<=9223372036854775807)) (some (.int ⟨0,n⟩)) none
 | .int k _=>some (.num k)
 | .bool _=>some .bool
 | .string _=>some .str
 | .slice none 0 0=>some .nil
 | .agg _=>none
 | .tuple _=>none
 |_=>some .any
def ru:List Value->Option (List BV)
 | []=>some []
 |v::vs=>match zV v,ru vs with
  |some x,some xs=>some (x::xs)
  |_,_=>none
def FY:Value->Option CV
 | .agg cs=>match ru cs.toList with
  |some xs=>some (.agg xs)
  |none=>none
 | .bool true=>some (.one (.bl [] [⟨0,0,-1⟩]))
 | .bool false=>some (.one (.bl [⟨0,0,-1⟩] []))
 |v=>match zV v with
  |some x=>some (.one (.bv x))
  |none=>none
def uO (b:Nat->Option TV):Operand->Option TV
 | .tmp t=>b t
 | .const v=>match FY v with
  |some x=>some (.cv x)
  |none=>none
 | .func f=>some (.cv (.one (.cl f [] [])))
 | .global _=>none
def GV:CV->List BV
 | .one (.bv x)=>[x]
 | .one (.bl _ _)=>[.bool]
 | .one (.cl _ _ _)=>[.any]
 | .agg l=>l
def JJ:Option TV->Option (List BV)
 |some (.cv x)=>some (GV x)
 |_=>none
def PC.acc (a:Nat) (F:List LC):PC->BV->Bool
 | .any,_=>true
 | .int,.int _=>true
 | .zM lo g c,.int e=>Nat.blt g a&&o9 F ⟨0,lo⟩ e 0&&o9 F e ⟨g,c⟩ 0
 | .num .i64,.int _=>true
 | .num k,.num k'=>decide (k=k')
 | .bool,.bool=>true
 | .str,.str=>true
 | .sl t mx,.sl t' l=>Nat.beq t t'&&o9 F l ⟨0,mx⟩ 0
 | .sl _ mx,.nil=>decide (0<=mx)
 | .tc t mx,.tr t' _ m=>Nat.beq t t'&&o9 F m ⟨0,mx⟩ 0
 | .tc _ mx,.nil=>decide (0<=mx)
 | .Hb j,.Hb j'=>Nat.beq j j'
 |_,_=>false
def Kh (a:Nat) (F:List LC) (ps:List PC):Nat->List BV->Bool
 |_,[]=>true
 |o,x::xs=>(match ps[o%ps.length]? with
  |some p=>p.acc a F x
  |none=>false)&&Kh a F ps (o+1) xs
section
variable {K:gX} (hK:tS K) {env:Env} (hg: ∀g,g<K.ng->env.ρ g=K.gl g)
include hK hg
theorem zW (h:zV v=some x):x.ok K env v:=by
 have j:env.ρ 0=0:=by rw[hg 0 hK.zero.1,hK.zero.2]
 unfold zV at h;split at h
 ·rename_i n;cases A:(decide (-9223372036854775808<=n)&&decide (n<=9223372036854775807)) with
  |false=>rw[A] at h;cases h
  |true=>
   rw[A] at h;cases h;simp only[a6,decide_eq_true_eq] at A;have e:(⟨0,n⟩:E).ev env.ρ=n:=by simp[E.ev,j]
   show _=_/\_;rw[e];exact⟨rfl,A⟩
 ·cases h;exact⟨_,rfl⟩
 ·cases h;exact⟨_,rfl⟩
 ·cases h;exact⟨_,rfl⟩
 ·cases h;exact rfl
 ·cases h
 ·cases h
 ·rename_i g s;cases h;show v.oneCell'=true;cases v <;>first|rfl|exact absurd rfl (g _)|exact absurd rfl (s _)
theorem pW: ∀{vs:List Value} {xs:List BV},ru vs=some xs->jH K env xs vs
 | [],xs,h=>by cases h;trivial
 |v::vs,xs,h=>by
  unfold ru at h;split at h
  ·rename_i x ys d f;cases h;exact⟨zW hK hg d,pW f⟩
  ·cases h
theorem NF {x:CV} (h:FY v=some x):x.ok K env v:=by
 have j:env.ρ 0=0:=by rw[hg 0 hK.zero.1,hK.zero.2]
 unfold FY at h;split at h
 ·rename_i cs;split at h
  ·rename_i xs c;cases h;exact⟨cs.toList,by simp,pW hK hg c⟩
  ·cases h
 ·cases h;exact⟨true,rfl,fun _=>fF _,fun h=>by cases h⟩
 ·cases h;exact⟨false,rfl,fun h=>(by cases h),fun _=>fF _⟩
 ·split at h
  ·rename_i x d;cases h;exact zW hK hg d
  ·cases h
theorem AH {b:Nat->Option TV} {a:Act} (M: ∀t,OV K env (b t) (a.tmps.getD t undef)) (x:Operand):OV K env (uO b x) (a.eval x):=by
 cases x with
 |tmp t=>exact M t
 |const v=>
  simp only[uO];cases h:FY v with
  |none=>trivial
  |some y=>exact NF hK hg h
 |global g=>trivial
 |func f=>exact⟨[],[],rfl,trivial,trivial⟩
omit hg in
theorem GW {x:CV} {v:Value} (h:x.ok K env v):jH K env (GV x) v.cells.toList:=by
 cases x with
 |agg l=>obtain⟨vs,rfl,g⟩:=h;exact g
 |one s=>
  cases s with
  |bv y=>
   have g:=BV.one hK h;have:v.cells.toList=[v]:=by cases v <;>first|rfl|cases g
   rw[this];exact⟨h,trivial⟩
  |bl p q=>obtain⟨b,rfl,_⟩:=h;exact⟨⟨b,rfl⟩,trivial⟩
  |cl f xs ys=>obtain⟨a,c,rfl,_⟩:=h;exact⟨rfl,trivial⟩
theorem PC.P0 (C:ln env.ρ F) {p:PC} (h:p.acc K.ng F x=true) (d:x.ok K env v):p.ok K env 0 v:=by
 have j:env.ρ 0=0:=by rw[hg 0 hK.zero.1,hK.zero.2]
 have a: ∀c,(⟨0,c⟩:E).ev env.ρ=c:=fun c=>by simp[E.ev,j]
 unfold PC.acc at h;split at h
 ·exact BV.one hK d
 ·exact⟨_,d.1,d.2⟩
 ·simp only[a6,fT] at h;obtain⟨⟨g,s⟩,L⟩:=h;have s:=jy C s;have L:=jy C L;rw[a] at s;simp only[E.ev] at L;rw[hg _ g] at L;exact⟨_,d.1,oG,by unfold E.ev;omega,d.2⟩
 ·exact⟨_,d.1⟩
 ·rw[decide_eq_true_eq] at h;subst h;exact d
 ·exact d
 ·exact d
 ·simp only[a6,nb] at h;obtain⟨rfl,h⟩:=h;have h:=jy C h;rw[a] at h;exact⟨_,d,oG⟩
 ·rw[decide_eq_true_eq] at h;exact⟨0,by rw[show v=_ from d];exact yR K env _,h⟩
 ·simp only[a6,nb] at h;obtain⟨rfl,h⟩:=h;have h:=jy C h;rw[a] at h;exact⟨_,hK.le d.1 oG,d.2.1,by have:=d.2.2;omega⟩
 ·rw[decide_eq_true_eq] at h;exact⟨0,by rw[show v=_ from d];exact hK.nil h,oG,h⟩
 ·rw[nb] at h;subst h;exact d
 ·cases h
theorem FQ (C:ln env.ρ F) {ps:List PC}: ∀{xs:List BV} {vs:List Value} {o:Nat},Kh K.ng F ps o xs=true->jH K env xs vs-> ∀(j:Nat) u,vs[j]? =some u-> ∃p,ps[(o+j)%ps.length]? =some p/\p.ok K env 0 u
 | [],[],_,_,_,j,u,h=>by simp at h
 |x::xs,v::vs,o,h,hx,j,u,hj=>by
  simp only[Kh,a6] at h;cases j with
  |zero=>
   simp at hj;subst hj;cases I:ps[o%ps.length]? with
   |none=>rw[I] at h;cases h.1
   |some p=>rw[I] at h;exact⟨p,by first|rfl|(rw[gv];exact I),PC.P0 hK hg C h.1 hx.1⟩
  |succ j=>
   obtain⟨p,g,s⟩:=FQ C h.2 hx.2 j u (by simpa using hj);exact⟨p,by rw[<-g];congr 2;omega,s⟩
end
def Mf (T:TT) (i:Nat) (t:TypeId):Option sZ:=
 match lk T t with
 |none=>none
 |some e=>match ru e.zero.cells.toList with
  |some xs=>some ⟨one (.ptr i 0),[],[(i,t,xs)],[i]⟩
  |none=>none
def Xa (i:Nat) (t:TypeId) (v:Option TV):Option sZ:=
 match JJ v with
 |some xs=>cond (xs.all (BV.all (out i))) (some ⟨one (.ptr i 0),[],[(i,t,xs)],[i]⟩) none
 |none=>none
def Mm (K:gX) (T:TT) (ig:jM) (F:List LC) (t:TypeId) (a x:Option TV):Option sZ:=
 match lk T t with
 |none=>none
 |some e=>match JJ x with
  |none=>none
  |some ys=>cond (Nat.beq ys e.size) (match a with
   |some (.cv (.one (.bv (.ptr k off))))=>match ig k with
    |some y=>cond (Nat.ble (off+ys.length) y.2) (some ⟨.uY [],[],[(k,y.1,y.2.take off++ys++y.2.drop (off+ys.length))],[k]⟩) none
    |none=>none
   |some (.cv (.one (.bv (.pe tg off))))=>cond (Nat.ble (off+ys.length) (K.pat tg).length&&Kh K.ng F (K.pat tg) off ys) (some ⟨.uY [],[],[],[]⟩) none
   |_=>none) none
section
variable {P:Program} {T:TT} (hT:xB P T) {K:gX} (hK:tS K) {env:Env} {B ig:jM} {w:World} {i:Nat} {F:List LC} {a:Act} {o:Oper}
include hT hK
theorem Pu (R:o.op=.alloc t) (hg:Good K env B w) (p:K.ng<=i) (k:uc B i) (h:Mf T i t=some r):
  ∃v env' w',(execOp a.eval o).run P w=.ok (.value v) w'/\ja K env B i w r v env' w':=by
 unfold Mf at h;split at h
 ·cases h
 rename_i e ht;split at h;rotate_left
 ·cases h
 rename_i xs c;cases h;obtain⟨l,g,s,L,X⟩:=(hT t e ht).info;have b:xs.all (BV.all (out i))=true:=by
  have j:out i 0=true:=nf.2 (.inl (by have:=hK.zero.1;omega));have: ∀(vs:List Value) (xs:List BV),ru vs=some xs->xs.all (BV.all (out i))=true:=by
   intro vs
   induction vs with
   |nil=>intro xs h;cases h;rfl
   |cons v vs ih=>
    intro xs h;unfold ru at h;split at h
    ·rename_i x ys d f;cases h;rw[gi,ih ys f,kF];unfold zV at d;split at d
     ·rename_i n;cases A:(decide (-9223372036854775808<=n)&&decide (n<=9223372036854775807)) with
      |false=>rw[A] at d;cases d
      |true=>rw[A] at d;cases d;exact j
     all_goals first|(cases d;rfl)|cases d
    ·cases h
  exact this _ _ c
 obtain⟨d,m,q⟩:=hg.alloc hK p k (T:=t) b (pW hK hg.gl c);refine⟨.pointer w,_,_,?_,d,m,q,?_,fF _⟩
 ·simp[execOp,R,Instr.alloc,zeroValue,typeInfo,g,X,newVar,newRow,Result.andThen]
 ·show _=_;simp
omit hT in
theorem UW {t:TypeId} {x:Operand} {N:Option TV} {r:sZ} (R:o.op=.box t x) (hg:Good K env B w) (p:K.ng<=i) (k:uc B i) (d:OV K env N (a.eval x)) (h:Xa i t N=some r):
  ∃v env' w',(execOp a.eval o).run P w=.ok (.value v) w'/\ja K env B i w r v env' w':=by
 unfold Xa at h;cases J:N with
 |none=>rw[J] at h;cases h
 |some tv=>
  cases tv with
  |uY l=>rw[J] at h;cases h
  |cv c=>
   rw[J] at h d;simp only[JJ] at h;cases b:(GV c).all (BV.all (out i)) with
   |false=>rw[b] at h;cases h
   |true=>
    rw[b] at h;cases h;obtain⟨e,m,q⟩:=hg.alloc hK p k (T:=t) b (GW hK d);refine⟨.pointer w,_,_,?_,e,m,q,?_,fF _⟩
    ·simp[execOp,R,Instr.box,newVar,newRow,Result.andThen]
    ·show _=_;simp
theorem Py {x y:Operand} {N sy:Option TV} (R:o.op=.store t x y) (hg:Good K env B w) (C:ln env.ρ F)
  (d:OV K env N (a.eval x)) (hy:OV K env sy (a.eval y)) (h:Mm K T ig F t N sy=some r) (hb: ∀k∈r.Cd,ig k=B k):
  ∃w',(execOp a.eval o).run P w=.ok .skip w'/\ja K env B i w r undef env w':=by
 unfold Mm at h;split at h
 ·cases h
 rename_i e ht;cases J:sy with
 |none=>rw[J] at h;cases h
 |some tv=>
  cases tv with
  |uY l=>rw[J] at h;cases h
  |cv c=>
   rw[J] at h hy;simp only[JJ] at h;cases M:Nat.beq (GV c).length e.size with
   |false=>rw[M] at h;cases h
   |true=>
    rw[M] at h;rw[nb] at M;simp only[cond_true] at h;have V:=GW hK hy;have H:=V.get.1;have S:=V.Ug hK;have G: ∀(b f:Nat),a.eval x=.pointer (pA b f)->(∀j,j<(a.eval y).cells.toList.length->(w.cell? (pA b (f+j))).isSome=true)->(∀j,j<(a.eval y).cells.toList.length->w.frozen? (pA b (f+j))=false)->
      (execOp a.eval o).run P w=.ok .skip (w.setCells b f (a.eval y).cells.toList):=fun b f I g s=>by
     have:=run_storeCells_cells (P:=P) b f (a.eval y).cells.toList 0 w (by simpa using g) (by simpa using s) S;rw[gv] at this;have aa:(a.eval y).cells.size=e.size:=by rw[<-M,H];simp
     simp[execOp,R,I,Instr.storeAt,Instr.sureAddr,storeVar,run_sizeOf hT ht,aa,this,Result.andThen]
    split at h
    ·rename_i k f;split at h
     ·rename_i z hz;cases v:Nat.ble (f+(GV c).length) z.2 with
      |false=>rw[v] at h;cases h
      |true=>
       rw[v] at h;cases h;rw[mE] at v;rw[hb k (.head _)] at hz;obtain⟨m,q⟩:=hg.store (k:=k) (T:=z.1) (xs:=z.2) (o:=f) hz V v;obtain⟨c',g,s⟩:=hg.hB k z.1 z.2 hz;have ae:=s.get.1;refine⟨_,G (env.β k) f d (fun j D=>?_) (fun j D=>frozen_of_row w _ _ _ _ g),Ext.refl _ _,m,q,⟨[],rfl,trivial⟩,fF _⟩;rw[cell_of_row w _ _ _ _ _ g];simp;omega
     ·cases h
    ·rename_i U f;cases A:(Nat.ble (f+(GV c).length) (K.pat U).length&&Kh K.ng F (K.pat U) f (GV c)) with
     |false=>rw[A] at h;cases h
     |true=>
      rw[A] at h;cases h;rw[a6,mE] at A;obtain⟨b,W,n,I,hH,Z,E⟩:=d;obtain⟨⟨c',g,s,L⟩,X,-⟩:=hg.hH b U n hH;have Q: ∀j,j<(GV c).length->W+j<n/\(W+j)%(K.pat U).length=f+j:=fun j D=>by have:=Df (hK.pos U) Z X (j:=j) (by rw[E];omega);rw[E] at this;exact this
      have O:=FQ hK hg.gl C A.2 V;obtain⟨m,q⟩:=hg.Ds hH (o:=W) (vs:=(a.eval y).cells.toList) (fun j u D=>by
       obtain⟨p,g1,g2⟩:=O j u D;have Y:j<(GV c).length:=by rw[H];exact(bX.1 D).1
       refine⟨p,?_,g2⟩;rw[(Q j Y).2];rw[zJ oG] at g1;exact g1)
      refine⟨_,G b W I (fun j D=>?_) (fun j D=>frozen_of_row w _ _ _ _ g),Ext.refl _ _,m,q,⟨[],rfl,trivial⟩,fF _⟩;rw[cell_of_row w _ _ _ _ _ g];have:=(Q j (by rw[H];exact D)).1;simp;omega
    ·cases h
end
end Ra
namespace Ra
open Go
variable {K:gX} {b:Nat->Option TV} {env:Env}
def splice (xs:List BV) (o:Nat) (ys:List BV):List BV:=xs.take o++ys++xs.drop (o+ys.length)
theorem OD {xs ys:List BV} {c vs:List Value} {o:Nat} (f:jH K env xs c) (k:jH K env ys vs) (m:o+ys.length<=xs) {c':List Value} (D:c'.length=c)
  (h: ∀j,c'[j]? =if o<=j/\j<o+vs.length/\j<c.length then vs[j-o]? else c[j]?):jH K env (splice xs o ys) c':=by
 have l:=k.get.1;have g:=f.get.1;refine jH.of (by simp[splice];omega) fun j x v a e=>?_;unfold splice at a;rw[h j] at e;rw[gD,jG,fB,kM oG] at a;split at a
 ·rename_i b;rw[if_neg oG] at e;rw[iG b] at a;obtain⟨u,z,d⟩:=f.get.2 j x a;rw[z] at e;cases e;exact d
 ·rename_i b;rw[jG] at a;split at a
  ·rename_i i;rw[if_pos oG] at e;obtain⟨u,z,d⟩:=k.get.2 _ x a;rw[z] at e;cases e;exact d
  ·rename_i i;rw[if_neg oG] at e;rw[gS,show o+ys.length+(j-o-ys.length)=j by omega] at a;obtain⟨u,z,d⟩:=f.get.2 j x a;rw[z] at e;cases e;exact d
theorem EP (a:Nat): ∀(vs:List Value) (k:Nat) (cs:Array Value),((vs.zipIdx k).foldl (fun cs (p:Value×Nat)=>cs.setIfInBounds (a+p.2) p.1) cs).size=cs.size/\
  ∀j,((vs.zipIdx k).foldl (fun cs (p:Value×Nat)=>cs.setIfInBounds (a+p.2) p.1) cs)[j]? =if a+k<=j/\j<a+k+vs.length/\j<cs.size then vs[j-(a+k)]? else cs[j]?
 | [],k,cs=>⟨rfl,fun j=>by rw[if_neg sO];rfl⟩
 |v::r,k,cs=>by
  obtain⟨m,s⟩:=EP a r (k+1) (cs.setIfInBounds (a+k) v);refine⟨by simpa[adg] using m,fun j=>?_⟩;have:=s j;rw[adg,rM,this];simp only[yq,ff];by_cases c:a+(k+1)<=j/\j<a+(k+1)+r.length/\j<cs.size
  ·rw[if_pos c,if_pos oG,show j-(a+k)=(j-(a+(k+1)))+1 by omega];simp
  ·rw[if_neg c];by_cases b:j=a+k
   ·subst b;by_cases d:a+k<cs.size
    ·rw[if_pos oG];simp[pN,d]
    ·rw[if_neg oG];simp[pN,d]
   ·rw[if_neg oG,iQ (jN b)]
def Ck (a:Nat->Option (Nat×Nat)) (xs:List BV):List (Nat×List BV)->Option (List BV)
 | []=>some xs
 |(i,ys)::r=>match a i with
  |some q=>cond (Nat.beq ys q.2&&Nat.ble (q.1+ys.length) xs) (Ck a (splice xs q.1 ys) r) none
  |none=>none
def PQ (K:gX) (env:Env):List (Nat×List BV)->List (Nat×Value)->Prop
 | [],[]=>True
 |(i,ys)::r,(j,v)::q=>i=j/\jH K env ys v.cells.toList/\PQ K env r q
 |_,_=>False
theorem Cl {a:Nat->Option (Nat×Nat)}: ∀{ps:List (Nat×List BV)} {qs:List (Nat×Value)} {xs y:List BV} {c:Array Value},Ck a xs ps=some y->PQ K env ps qs->jH K env xs c.toList->
  ∃c',Instr.fill a c qs=some c'/\jH K env y c'.toList
 | [],[],xs,y,c,h,_,hx=>by cases h;exact⟨c,rfl,hx⟩
 |(i,ys)::r,(j,v)::q,xs,y,c,h,hp,hx=>by
  obtain⟨rfl,k,u⟩:=hp;unfold Ck at h;cases n:a i with
  |none=>rw[n] at h;cases h
  |some o=>
   rw[n] at h;dsimp only at h;cases d:(Nat.beq ys o.2&&Nat.ble (o.1+ys.length) xs) with
   |false=>rw[d] at h;cases h
   |true=>
    rw[d] at h;rw[a6,nb,mE] at d;have l:=k.get.1;have g:=hx.get.1;simp only[je] at l g;obtain⟨f,t⟩:=EP o.1 v.cells.toList 0 c;have b:(v.cells.zipIdx.foldl (fun cs (x:Value×Nat)=>match x with|(c,j)=>cs.setIfInBounds (o.1+j) c) c)=((v.cells.toList.zipIdx 0).foldl (fun cs (p:Value×Nat)=>cs.setIfInBounds (o.1+p.2) p.1) c):=by rw[<-Array.foldl_toList,Array.toList_zipIdx]
    obtain⟨c',m,s⟩:=Cl (qs:=q) (c:=(v.cells.toList.zipIdx 0).foldl (fun cs (p:Value×Nat)=>cs.setIfInBounds (o.1+p.2) p.1) c) h u (OD hx k d.2 (by simpa using f) (fun j=>by have:=t j;simp only[gv] at this;rw[fA,this];simp));refine⟨c',?_,s⟩;obtain⟨w,z⟩:=o;dsimp only at d b m;have e:(v.cells.size≠z||w+v.cells.size>c.size)=false:=by simp;omega
    unfold Instr.fill;rw[n];simp only[e];rw[<-m,<-b];rfl
theorem TY {y:List BV} {z:Array Value} (e:jH K env y z.toList) (f:0<z.size) (n:Nat):
  ∀(j:Nat) (u:Value),(madeCells z n)[j]? =some u-> ∃x,y[j%z.size]? =some x/\x.ok K env u:=by
 intro j u c;have b:j<n:=by have:=(aah.1 c).1;rw[size_madeCells] at this;exact this
 have a:j%z.size<z.size:=G9 _ f;have:(madeCells z n)[j]? =some z[j%z.size]! :=by simp[madeCells,b]
 rw[this] at c;cases c;have d:=e.get.1;simp only[je] at d;have A:y[j%z.size]? =some (y[j%z.size]'oG):=fp _;obtain⟨v,m,s⟩:=e.get.2 _ _ A;refine⟨_,A,?_⟩;simp only[fA] at m;rw[getElem!_pos z _ a];rw[fM a] at m;cases m;exact s
def places (T:TT) (k:List (Nat×TypeId)) (j:Nat):Option (Nat×Nat):=match k[j]? with
 |some q=>match lk T q.2 with
  |some e=>some (q.1,e.size)
  |none=>none
 |none=>none
def Hj (T:TT) (k:List (Nat×TypeId)):Bool:=k.all fun q=>match lk T q.2 with
 |some _=>true
 |none=>false
def Dm (b:Nat->Option TV):List (Nat×Operand)->Option (List (Nat×List BV))
 | []=>some []
 |(j,x)::r=>match JJ (uO b x),Dm b r with
  |some ys,some q=>some ((j,ys)::q)
  |_,_=>none
def Mh (T:TT) (b:Nat->Option TV) (t:TypeId) (c:List (Nat×Operand)):Option sZ:=
 match lk T t with
 |none=>none
 |some e=>match e.d with
  | .st fs=>match ru e.zero.cells.toList,Dm b c with
   |some zs,some ps=>cond (Hj T fs) (match Ck (places T fs) zs ps with
    |some xs=>some ⟨.cv (.agg xs),[],[],[]⟩
    |none=>none) none
   |_,_=>none
  |_=>none
section
variable {P:Program} {T:TT} (hT:xB P T) {K:gX} (hK:tS K) {env:Env} {B ig:jM} {w:World} {i:Nat} {F:List LC} {a:Act} {o:Oper}
include hK
theorem AJ (C: ∀g,g<K.ng->env.ρ g=K.gl g) (D: ∀t,OV K env (b t) (a.tmps.getD t undef)): ∀{ps:List (Nat×Operand)} {qs:List (Nat×List BV)},Dm b ps=some qs->PQ K env qs (ps.map fun p=>(p.1,a.eval p.2))
 | [],qs,h=>by cases h;trivial
 |(j,x)::r,qs,h=>by
  unfold Dm at h;split at h
  ·rename_i ys q m s;cases h;refine⟨rfl,?_,AJ C D s⟩;have f:=AH hK C D x;cases G:uO b x with
   |none=>rw[G] at m;cases m
   |some tv=>
    rw[G] at m f;cases tv with
    |uY l=>cases m
    |cv c=>cases m;exact GW hK f
  ·cases h
include hT
theorem IJ {k:List (Nat×TypeId)} (h:Hj T k=true): ∀{g:List Field},g.map (fun f=>(f.offset,f.type))=k->
  ∃u:List (Nat×Nat),(g.mapM fun(f:Field)=>(Functor.map (Prod.mk f.offset) (sizeOf f.type):Sem (Nat×Nat))).run P w=.ok u w/\ ∀j,u[j]? =places T k j:=by
 intro g
 induction g generalizing k with
 |nil=>rintro rfl;exact⟨[],by simp,fun j=>by simp[places]⟩
 |cons f g ih=>
  rintro rfl;simp only[Hj,gN,gi,a6] at h;obtain⟨u,m,s⟩:=ih (by simpa[Hj] using h.2) rfl;cases a:lk T f.type with
  |none=>rw[a] at h;cases h.1
  |some e=>
   refine⟨(f.offset,e.size)::u,?_,fun j=>?_⟩
   ·rw[List.mapM_cons];simp[run_sizeOf hT a,m,Result.andThen]
   ·cases j with
    |zero=>simp[places,a]
    |succ j=>simp only[fD,s j,places,gN]
theorem Pv {t:TypeId} {c:Array (Nat×Operand)} {r:sZ} (G:o.op=.build t c) (C:Good K env B w) (D: ∀t,OV K env (b t) (a.tmps.getD t undef)) (h:Mh T b t c.toList=some r):
  ∃v,(execOp a.eval o).run P w=.ok (.value v) w/\ja K env B i w r v env w:=by
 unfold Mh at h;split at h
 ·cases h
 rename_i e R;split at h;rotate_left
 ·cases h
 rename_i k U;split at h;rotate_left
 ·cases h
 rename_i y ps A M;cases l:Hj T k with
 |false=>rw[l] at h;cases h
 |true=>
  rw[l] at h;simp only[cond_true] at h;split at h;rotate_left
  ·cases h
  rename_i xs O;cases h;obtain⟨W,m,s,X,S⟩:=(hT t e R).info;obtain⟨d,z,Q⟩:=(hT t e R).SF;rw[U] at Q;obtain⟨g,rfl,E⟩:=Q;obtain⟨u,n,F⟩:=IJ hT hK (w:=w) l E;obtain⟨c',H,I⟩:=Cl O (AJ hK C.gl D M) (pW hK C.gl A);have q:(fun x=>u.toArray[x]?)=places T k:=funext fun j=>by rw[<-F j];simp
  have L:(g.mapM fun(f:Field)=>(Functor.map (Prod.mk f.offset) (sizeOf f.type):Sem (Nat×Nat))).run P w=.ok u.toArray w:=by rw[Tc];simp[n,Result.andThen]
  have N:(c.map fun x=>match x with|(i,x)=>(i,a.eval x)).toList=c.toList.map fun p=>(p.1,a.eval p.2):=sI;refine⟨.agg c',?_,ja.pK C ⟨c'.toList,by simp,I⟩ (fF _)⟩;have V:Instr.fill (fun x=>u.toArray[x]?) e.zero.cells (c.map fun x=>match x with|(i,x)=>(i,a.eval x)).toList=some c':=by rw[q,N];exact H
  simp only[execOp,G];have J:Instr.fill (fun x=>u[x]?) e.zero.cells (List.map (fun x=>(x.fst,a.eval x.snd)) c.toList)=some c':=by simpa using V
  simp[Instr.build,zeroValue,typeInfo,m,S,run_underlying z,L,J,Result.andThen]
end
end Ra
namespace Ra
open Go
variable {A:List BV} {K:gX} {env:Env} {f:Nat} {g:TypeId->Option Nat} {r:sZ}
def Fa (A:List BV) (n:Nat):List BV:=(List.range n).map fun j=>A.getD (j%A.length) .any
theorem Rv {z:Array Value} (J:jH K env A z.toList) (L:0<z.size) (n:Nat):jH K env (Fa A n) (madeCells z n).toList:=by
 have l:=J.get.1;simp only[je] at l;refine jH.of (by simp[Fa,size_madeCells]) fun j x v N a=>?_;obtain⟨y,C,M⟩:=TY J L n j v (by simpa using a);have I:j<n:=by have:=(bX.1 N).1;simpa[Fa] using this
 have:x=y:=by simp[Fa,I] at N;rw[l,C] at N;simpa using N.symm
 rw[this];exact M
def zOk (K:gX):PC->Value->Bool
 | .zM lo g c,.int .i64 n=>Nat.blt g K.ng&&decide (lo<=n)&&decide (n<=K.Xo g+c)&&decide (-9223372036854775808<=n)&&decide (n<=9223372036854775807)
 | .Hb j,v=>K.qz j v
 |p,v=>match zV v with
  |some x=>p.acc K.ng [] x
  |none=>false
theorem Xh (hK:tS K) (hg: ∀g,g<K.ng->env.ρ g=K.gl g) {p:PC} {v:Value} (h:zOk K p v=true):p.ok K env 0 v:=by
 unfold zOk at h;split at h
 ·rename_i lo g c n;simp only[a6,decide_eq_true_eq,fT] at h;have:=hK.Xo g;exact⟨n,rfl,by omega,by omega,by unfold kP;omega⟩
 ·exact hK.qz h
 ·split at h
  ·rename_i x hx;exact PC.P0 hK hg (fF _) h (zW hK hg hx)
  ·cases h
def Hd (K:gX) (ps:List PC):Nat->List Value->Bool
 |_,[]=>true
 |o,v::vs=>(match ps[o%ps.length]? with
  |some p=>zOk K p v
  |none=>false)&&Hd K ps (o+1) vs
theorem S4 {ps:List PC}: ∀{vs:List Value} {o:Nat},Hd K ps o vs=true-> ∀(j:Nat) v,vs[j]? =some v-> ∃p,ps[(o+j)%ps.length]? =some p/\zOk K p v=true
 | [],o,_,j,v,h=>by simp at h
 |u::vs,o,h,j,v,hj=>by
  simp only[Hd,a6] at h;cases j with
  |zero=>
   simp at hj;subst hj;have C:=h.1;split at C
   ·rename_i p a;exact⟨p,a,C⟩
   ·cases C
  |succ j=>
   obtain⟨p,C,M⟩:=S4 h.2 j v (by simpa using hj);exact⟨p,by rw[<-C];congr 2;omega,M⟩
structure Hf (K:gX) (T:TT) (t:TypeId) (tg:Nat) (el:TypeId) (ee:TE) (zs:List BV):Prop where
 sl: ∃e,lk T t=some e/\e.d=.sl el
 Yo:lk T el=some ee
 ty:K.ty tg=el
 sz:ee.size=(K.pat tg).length
 Yp:ru ee.zero.cells.toList=some zs
 zl:zs.length=(K.pat tg).length
 by_:ee.bytes<=128
def xl (K:gX) (T:TT) (t:TypeId) (f:Nat):Option (TE×List BV):=
 match lk T t with
 |some e=>match e.d with
  | .sl el=>match lk T el with
   |some ee=>match ru ee.zero.cells.toList with
    |some zs=>cond (Nat.beq (K.ty f) el&&Nat.beq ee.size (K.pat f).length&&Nat.beq zs (K.pat f).length&&Nat.ble ee.bytes 128) (some (ee,zs)) none
    |none=>none
   |none=>none
  |_=>none
 |none=>none
theorem rF {T:TT} {x:TE×List BV} (h:xl K T t f=some x): ∃D,Hf K T t f D x.1 x.2:=by
 unfold xl at h;split at h
 ·rename_i e ht;split at h
  ·rename_i D H;split at h
   ·rename_i a c;split at h
    ·rename_i A d;cases b:(Nat.beq (K.ty f) D&&Nat.beq a.size (K.pat f).length&&Nat.beq A (K.pat f).length&&Nat.ble a.bytes 128) with
     |false=>rw[b] at h;cases h
     |true=>
      rw[b] at h;cases h;simp only[a6,nb,mE] at b;obtain⟨⟨⟨C,M⟩,h3⟩,V⟩:=b;exact⟨D,⟨e,ht,H⟩,c,C,M,d,h3,V⟩
    ·cases h
   ·cases h
  ·cases h
 ·cases h
def DR (K:gX) (T:TT) (g:TypeId->Option Nat) (F:List LC) (n:Nat->Option TV) (t:TypeId) (b:Nat) (c:List (Nat×Operand)):Option sZ:=
 match g t with
 |none=>none
 |some tg=>match xl K T t tg,Dm n c with
  |some x,some ps=>cond (Nat.ble (b*x.1.size) 64) (match Ck (fun j=>some (j*x.1.size,x.1.size)) (Fa x.2 (b*x.1.size)) ps with
   |some xs=>cond (Kh K.ng F (K.pat tg) 0 xs) (some ⟨one (.sl tg ⟨0,b⟩),[],[],[]⟩) none
   |none=>none) none
  |_,_=>none
def G4 (K:gX) (T:TT) (g:TypeId->Option Nat) (F:List LC) (t:TypeId) (l c:Option TV):Option sZ:=
 match g t,l,c with
 |some tg,some (.cv (.one (.bv (.int a)))),some (.cv (.one (.bv (.int b))))=>match xl K T t tg with
  |some z=>cond (Hd K (K.pat tg) 0 z.1.zero.cells.toList&&o9 F a b 0&&o9 F ⟨0,0⟩ a 0&&o9 F b ⟨0,1000000000⟩ 0) (some ⟨one (.sl tg a),[],[],[]⟩) none
  |none=>none
 |_,_,_=>none
def Rz (l a:E) (i:Nat):E×List LC:=
 cond (Nat.beq a.s 0) (⟨l.s,l.c+a.c⟩,[]) (cond (Nat.beq l.s 0) (⟨a.s,a.c+l.c⟩,[]) (⟨i,0⟩,[uC l ⟨i,0⟩ 0,uC a ⟨i,0⟩ 0,⟨i,0,1000000000⟩]))
def G2 (K:gX) (T:TT) (F:List LC) (i:Nat) (t:TypeId) (s x:Option TV):Option sZ:=
 match s,x with
 |some (.cv (.one (.bv (.sl tg l)))),some (.cv (.one (.bv (.sl tg' l'))))=>match xl K T t tg with
  |some z=>cond (Hd K (K.pat tg) 0 z.1.zero.cells.toList&&Nat.beq tg tg'&&o9 F l ⟨0,500000000⟩ 0&&o9 F l' ⟨0,500000000⟩ 0&&out i l.s&&out i l'.s) (some ⟨one (.sl tg (Rz l l' i).1),(Rz l l' i).2,[],[]⟩) none
  |none=>none
 |some (.cv (.one (.bv .nil))),some (.cv (.one (.bv (.sl tg l'))))=>match xl K T t tg with
  |some z=>cond (Hd K (K.pat tg) 0 z.1.zero.cells.toList&&o9 F l' ⟨0,500000000⟩ 0) (some ⟨one (.sl tg l'),[],[],[]⟩) none
  |none=>none
 |_,_=>none
theorem lA.Dj {c:Array Value} (h: ∀(j:Nat) u,c[j]? =some u-> ∃p,(K.pat f)[(0+j)%(K.pat f).length]? =some p/\p.ok K env 0 u):lA K env f c:=fun j u I=>by have:=h j u I;rwa [gW] at this
theorem Ld {n k j:Nat}:(n*k+j)%k=j%k:=by rw[sY,wg]
section
variable {P:Program} {T:TT} (hT:xB P T) {K:gX} (hK:tS K) {env:Env} {B ig:jM} {w:World} {i:Nat} {F:List LC} {a:Act} {o:Oper}
include hT hK
theorem Hf.made {D:TypeId} {a:TE} (k:Hf K T t f D a A) (Q:Hd K (K.pat f) 0 a.zero.cells.toList=true) (m: ∀g,g<K.ng->env.ρ g=K.gl g) (L:env.ρ 0=0) (n:Nat):lA K env f (madeCells a.zero.cells n):=by
 have J:=pW hK m k.Yp;have l:=J.get.1;have s:=hK.pos f;simp only[je] at l;intro j u I;have c:a.zero.cells.size=(K.pat f).length:=by rw[<-l,k.zl]
 have b:j%a.zero.cells.size<a.zero.cells.size:=G9 _ (by rw[c];exact s);have d:j<n:=by have:=(aah.1 I).1;rw[size_madeCells] at this;exact this
 have:(madeCells a.zero.cells n)[j]? =some a.zero.cells[j%a.zero.cells.size]! :=by simp[madeCells,d]
 rw[this] at I;cases I;obtain⟨p,q,e⟩:=S4 Q (j%a.zero.cells.size) (a.zero.cells[j%a.zero.cells.size]!) (by rw[getElem!_pos a.zero.cells _ b];simp[b]);exact⟨p,by rw[gW,c,Nat.mod_mod] at q;exact q,Xh hK m e⟩
theorem J3 {n:Nat->Option TV} {b:Nat} {c:Array (Nat×Operand)} (ho:o.op=.buildSlice t b c) (m:Good K env B w) (W:ln env.ρ F) (hl: ∀t,OV K env (n t) (a.tmps.getD t undef))
  (h:DR K T g F n t b c.toList=some r): ∃v env' w',(execOp a.eval o).run P w=.ok (.value v) w'/\ja K env B i w r v env' w':=by
 have L:env.ρ 0=0:=by rw[m.gl 0 hK.zero.1,hK.zero.2]
 unfold DR at h;split at h
 ·cases h
 rename_i f _;split at h;rotate_left
 ·cases h
 rename_i x ps N ag;obtain⟨D,k⟩:=rF N;cases Q:Nat.ble (b*x.1.size) 64 with
 |false=>rw[Q] at h;cases h
 |true=>
  rw[Q] at h;simp only[cond_true] at h;rw[mE] at Q;split at h;rotate_left
  ·cases h
  rename_i xs ae;cases y:Kh K.ng F (K.pat f) 0 xs with
  |false=>rw[y] at h;cases h
  |true=>
   rw[y] at h;cases h;obtain⟨e,ht,H⟩:=k.sl;obtain⟨d,hu,Y⟩:=(hT t e ht).SF;rw[H] at Y;subst Y;obtain⟨af,C,M,h3,V⟩:=(hT D x.1 k.Yo).info;have J:=pW hK m.gl k.Yp;have l:=J.get.1;simp only[je] at l;have s:=hK.pos f;obtain⟨c',z,X⟩:=Cl ae (AJ hK m.gl hl ag) (Rv J (by rw[<-l,k.zl];exact s) (b*x.1.size));have aa:lA K env f c':=.Dj fun j u I=>FQ hK m.gl W y X j u (by simpa using I);have aj:xs.length=b*x.1.size:=by
    have: ∀(qs:List (Nat×List BV)) (ys A:List BV),Ck (fun j=>some (j*x.1.size,x.1.size)) ys qs=some A->A.length=ys.length:=by
     intro qs
     induction qs with
     |nil=>intro ys A h;cases h;rfl
     |cons q qs ih=>
      intro ys A h;obtain⟨j,q⟩:=q;unfold Ck at h;dsimp only at h;cases hb:(Nat.beq q x.1.size&&Nat.ble (j*x.1.size+q.length) ys) with
      |false=>rw[hb] at h;cases h
      |true=>
       rw[hb] at h;rw[a6,nb,mE] at hb;rw[ih _ _ h];simp[splice];omega
    rw[this _ _ _ ae];simp[Fa]
   have G:c'.size=b*(K.pat f).length:=by have:=X.get.1;simp only[je] at this;rw[<-this,aj,k.sz]
   obtain⟨O,R⟩:=m.row hK (t:=f) aa (by rw[G];exact Mq _ _);have S:=Ext.Ua (K:=K) (B:=B) (w:=w) (out i) m f c'.size;refine⟨.slice w b b,_,w.alloc (.cells c' (K.ty f)),?_,S,O,R,?_,fF _⟩
   ·have Z: ¬(2^24<b*x.1.size):=oG;have ah:(c.map fun x=>match x with|(i,x)=>(i,a.eval x)).toList=c.toList.map fun p=>(p.1,a.eval p.2):=sI;have ai:(execOp a.eval o).run P w=((Instr.buildSlice t b (c.map fun x=>match x with|(i,x)=>(i,a.eval x))).run P w).andThen fun v w'=>.ok (.value v) w':=by simp[execOp,ho]
    rw[ai];unfold Instr.buildSlice;simp only[ks,run_underlying hu,Result.andThen,run_sizeOf hT k.Yo,if_neg Z];rw[ah];by_cases U:b*x.1.size=0
    ·rw[U] at z;have e0:madeCells x.1.zero.cells 0= #[]:=by simp[madeCells,Array.range_zero']
     rw[e0] at z;simp[U,Array.range_zero',z,newRow,k.ty]
    ·have e0:Array.map (fun j=>x.1.zero.cells[j%x.1.zero.cells.size]!) (Array.range (b*x.1.size))=madeCells x.1.zero.cells (b*x.1.size):=rfl;rw[if_neg U];simp only[ks,zeroValue,typeInfo,Result.andThen];simp[C,V];rw[e0,z];simp[newRow,k.ty]
   ·refine⟨some ⟨w,0,none⟩,b,b,rfl,by simp[E.ev,L],lE,by have:=hK.pos f;have:b*1<=b*x.1.size:=aaw _ (by rw[k.sz];exact s);omega,fun h=>(by cases h),fun ad H=>?_⟩;cases H;exact⟨rfl,c'.size,by simp,AX _,by rw[G];simp⟩
theorem Mk {x y:Operand} {U X:Option TV} (ho:o.op=.makeSlice t x y) (m:Good K env B w) (W:ln env.ρ F) (N:OV K env U (a.eval x)) (hy:OV K env X (a.eval y))
  (h:G4 K T g F t U X=some r): ∃v env' w',(execOp a.eval o).run P w=.ok (.value v) w'/\ja K env B i w r v env' w':=by
 have L:env.ρ 0=0:=by rw[m.gl 0 hK.zero.1,hK.zero.2]
 unfold G4 at h;split at h;rotate_left
 ·cases h
 rename_i f l c _;split at h;rotate_left
 ·cases h
 rename_i z J;obtain⟨D,k⟩:=rF J;cases b:(Hd K (K.pat f) 0 z.1.zero.cells.toList&&o9 F l c 0&&o9 F ⟨0,0⟩ l 0&&o9 F c ⟨0,1000000000⟩ 0) with
 |false=>rw[b] at h;cases h
 |true=>
  rw[b] at h;cases h;simp only[a6] at b;obtain⟨⟨⟨Q,c1⟩,c2⟩,c3⟩:=b;have c1:=jy W c1;have c2:=jy W c2;have c3:=jy W c3;rw[show(⟨0,0⟩:E).ev env.ρ=0 by simp[E.ev,L]] at c2;rw[show(⟨0,1000000000⟩:E).ev env.ρ=1000000000 by simp[E.ev,L]] at c3;obtain⟨e,ht,H⟩:=k.sl;obtain⟨d,hu,Y⟩:=(hT t e ht).SF;rw[H] at Y;subst Y;obtain⟨af,C,M,h3,V⟩:=(hT D z.1 k.Yo).info;obtain⟨s,aa⟩:=N;obtain⟨u,ae⟩:=hy;have p:=k.by_;obtain⟨I,j⟩:=fw (show 0<=l.ev env.ρ by omega);obtain⟨n,Z⟩:=fw (show 0<=c.ev env.ρ by omega);have A:=run_make (P:=P) w t D af z.1.zero hu C V .i64 .i64 (l.ev env.ρ) (c.ev env.ρ) oG oG (by rw[h3,Z];have:z.1.bytes*n<=128*1000000000:=kg p oG;have q:((z.1.bytes*n:Nat):Int)<=128*1000000000:=oG;rw[Int.natCast_mul] at q;omega) oG;rw[Z,j,gu,gu,M,k.sz] at A;have G:=size_madeCells z.1.zero.cells (n*(K.pat f).length);obtain⟨O,R⟩:=m.row hK (t:=f) (k.made hT hK Q m.gl L (n*(K.pat f).length)) (by rw[G];exact Mq _ _);have S:=Ext.Ua (K:=K) (B:=B) (w:=w) (out i) m f (madeCells z.1.zero.cells (n*(K.pat f).length)).size;refine⟨.slice w I n,_,_,?_,S,O,R,?_,fF _⟩
  ·simp only[execOp,ho,s,u,Z,j];simp[A,k.ty,Result.andThen]
  ·refine⟨some ⟨w,0,none⟩,I,n,rfl,j.symm,oG,oG,fun h=>(by cases h),fun ad H=>?_⟩;cases H;exact⟨rfl,_,by simp;rfl,AX _,by rw[G];simp⟩
end
end Ra
namespace Ra
open Go
variable {l:Int} {q:TE} {ty y:TypeId} {zs:List BV}
theorem PC.one {K:gX} (hK:tS K) {env:Env} {m:Int} {p:PC} {v:Value} (h:p.ok K env m v):v.oneCell'=true:=by
 cases p with
 |any=>exact h
 |int=>obtain⟨n,rfl,_⟩:=h;rfl
 |zM lo g c=>obtain⟨n,rfl,_⟩:=h;rfl
 |num k=>obtain⟨n,rfl⟩:=h;rfl
 |bool=>obtain⟨n,rfl⟩:=h;rfl
 |str=>obtain⟨n,rfl⟩:=h;rfl
 |sl t mx=>obtain⟨l,⟨_,_,_,rfl,_⟩,_⟩:=h;rfl
 |tr t=>obtain⟨l,I,_⟩:=h;obtain⟨_,_,_,rfl,_⟩:=hK.shape I;rfl
 |tc t mx=>obtain⟨l,I,_⟩:=h;obtain⟨_,_,_,rfl,_⟩:=hK.shape I;rfl
 |sx t c=>obtain⟨_,_,_,rfl,_⟩:=h;rfl
 |Hb j=>exact hK.q1 h
def FJ (K:gX) (env:Env) (t:Nat) (cs:List Value):Prop:= ∀(j:Nat) u,cs[j]? =some u-> ∃p,(K.pat t)[j%(K.pat t).length]? =some p/\p.ok K env 0 u
section
variable {K:gX} (hK:tS K) {env:Env} {B:jM} {w:World}
theorem FJ.append {t:Nat} {xs ys:List Value} (hx:FJ K env t xs) (a:FJ K env t ys) (hl:xs.length=n*(K.pat t).length):FJ K env t (xs++ys):=by
 intro j u f;rw[jG] at f;split at f
 ·exact hx j u f
 ·rename_i h;obtain⟨p,I,h2⟩:=a _ u f;refine⟨p,?_,h2⟩;rw[<-I,hl];congr 1;have:j=n*(K.pat t).length+(j-n*(K.pat t).length):=oG
  conv=>lhs;rw[this]
  exact Ld
theorem Good.slice (E:Good K env B w) {t c:Nat} {Z:Addr} (h:jd K env t (.slice (some Z) n c) l): ∃b o z,Z=(pA b o)/\env.H b=some (t,z)/\o%(K.pat t).length=0/\o+c*(K.pat t).length<=z/\(n:Int)=l/\n<=c/\c<=9223372036854775807/\
  ∀q,q<=c-> ∃cs:List Value,cs.length=q*(K.pat t).length/\(∀j u,cs[j]? =some u->w.cell? (pA b (o+j))=some u)/\FJ K env t cs:=by
 obtain⟨a,s,c',r,I,h2,h3,h4,k⟩:=h;cases r;obtain⟨g,z,d,e,i⟩:=k Z rfl;obtain⟨b,o,v⟩:=Z;dsimp only at g d e i;subst g;obtain⟨⟨row,g1,g2,g3⟩,g4,-⟩:=E.hH b t z d;refine⟨b,o,z,rfl,d,e,i,I,h2,h3,fun q m=>⟨(row.toList.drop o).take (q*(K.pat t).length),?_,fun j u f=>?_,fun j u f=>?_⟩⟩
 ·have:q*(K.pat t).length<=c*(K.pat t).length:=nZ _ m;simp;omega
 ·rw[gq] at f;split at f
  ·rw[gS] at f;rw[cell_of_row w _ _ _ _ _ g1];simpa using f
  ·cases f
 ·rw[gq] at f;split at f
  ·rw[gS] at f;obtain⟨p,p1,p2⟩:=g3 (o+j) u (by simpa using f);refine⟨p,?_,p2⟩;rw[<-p1];congr 1;have:=BF o (K.pat t).length;rw[e,gv] at this;rw[<-this,nY];exact Ld.symm
  ·cases f
end
theorem BQ {P:Program} {w:World} {e:TypeId} {i:TypeInfo} (ht:P.underlying t=some (.slice e)) (d:P.info? e=some i) (a b:Option Addr) (n c c':Nat) (f:n<=c):
  (Builtin.append_ #[t,t] ty #[.slice a n c,.slice b 0 c']).run P w=.ok (.slice a n c) w:=by
 have hl:loadCells (b.getD (pB 0)) 0=pure #[]:=rfl;cases a with
 |none=>cases b <;>simp[Builtin.append_,run_underlying ht,sizeOf,typeInfo,d,Builtin.lenOf,f,Builtin.firstCells,loadCells,loadCellsFrom]
 |some a=>cases b <;>simp[Builtin.append_,run_underlying ht,sizeOf,typeInfo,d,Builtin.lenOf,f,Builtin.firstCells,loadCells,loadCellsFrom,storeCells]
section
variable {P:Program} {T:TT} (hT:xB P T) {K:gX} (hK:tS K) {env:Env} {B ig:jM} {w:World} {i:Nat} {F:List LC} {a:Act} {o:Oper}
include hT hK
theorem Va {i:Nat} (M:Hf K T t i y q zs) (za:Hd K (K.pat i) 0 q.zero.cells.toList=true) (E: ∀g,g<K.ng->env.ρ g=K.gl g) (h0:env.ρ 0=0) (k:Nat):
  (Builtin.zeroCells q.zero.cells k).toList.length=k*(K.pat i).length/\FJ K env i (Builtin.zeroCells q.zero.cells k).toList:=by
 have a:=(pW hK E M.Yp).get.1;simp only[je] at a;have L:q.zero.cells.size=(K.pat i).length:=by rw[<-a,M.zl]
 have hm:Builtin.zeroCells q.zero.cells k=madeCells q.zero.cells (k*q.zero.cells.size):=rfl;refine⟨by rw[hm,je,size_madeCells,L],fun j u f=>?_⟩;rw[hm] at f;exact M.made hT hK za E h0 _ j u (by simpa using f)
theorem vw {i:Nat} (M:Hf K T t i y q zs) (za:Hd K (K.pat i) 0 q.zero.cells.toList=true) (E:Good K env B w) {s x:Value} {l':Int} (hs:jd K env i s l) (hx:jd K env i x l') (hl:l<=500000000) (aF:l'<=500000000):
  ∃v F w',(Builtin.append_ #[t,t] ty #[s,x]).run P w=.ok v w'/\Ext (fun _=>true) env {env with H:=F}/\Good K {env with H:=F} B w'/\Step env B w [] {env with H:=F} w'/\jd K {env with H:=F} i v (l+l'):=by
 have h0:env.ρ 0=0:=by rw[E.gl 0 hK.zero.1,hK.zero.2]
 obtain⟨e,ht,hd⟩:=M.sl;obtain⟨d,hu,hm⟩:=(hT t e ht).SF;rw[hd] at hm;subst hm;obtain⟨G,I,h2,h3,h4⟩:=(hT y q M.Yo).info;have aD:=hK.pos i;have ai:=M.by_;have r:G.size=(K.pat i).length:=by rw[h2,M.sz]
 have ag:=hs;have aB:=hx;obtain⟨as,n,c,rfl,s1,s2,s3,s4,-⟩:=hs;obtain⟨ax,m,c',rfl,x1,x2,x3,x4,-⟩:=hx;by_cases ay:m=0
 ·subst ay;refine⟨_,env.H,w,BQ hu I as ax n c c' s2,Ext.refl _ _,E,Step.refl _ _ _ _ rfl rfl,?_⟩;rw[show l+l'=l by omega];exact ag
 ·cases ax with
  |none=>have:=x4 rfl;omega
  |some adx=>
   obtain⟨bx,ox,zx,rfl,aE,-,-,-,-,-,aq⟩:=E.slice aB;obtain⟨a,n1,n2,n3⟩:=aq m x2;have af: ∀u∈a,u.oneCell'=true:=fun u aA=>by obtain⟨j,f⟩:=gz.1 aA;obtain⟨p,-,hp⟩:=n3 j u f;exact PC.one hK hp
   have A: ∀j u,a[j]? =some u->w.cell? (((pA bx ox):Addr).add j)=some u:=fun j u f=>by rw[add_lit];exact n2 j u f
   have V:a.length=m*G.size:=by rw[n1,r]
   have D:(n+m)*G.bytes<=140737488355328:=by rw[h3];have:(n+m)*q.bytes<=1000000000*128:=kg oG ai;omega
   have J: ∀(k:Nat) (b:List Value),b.length=n*(K.pat i).length->FJ K env i b->k<n+m->
     ∃F w',w.drew.alloc (.cells (b.toArray++a.toArray++Builtin.zeroCells q.zero.cells (grownCap w (n+m) k y-(n+m))) y)=w'/\Ext (fun _=>true) env {env with H:=F}/\Good K {env with H:=F} B w'/\Step env B w [] {env with H:=F} w'/\jd K {env with H:=F} i (.slice w (n+m) (grownCap w (n+m) k y)) (l+l'):=by
    intro k b ah aC aG;obtain⟨z1,z2⟩:=Va hT hK M za E.gl h0 (grownCap w (n+m) k y-(n+m));have aw:=grownCap_ge w (n+m) k y;have ak:=grownCap_le_maxLen w (n+m) k y mO;simp only[maxLen] at ak;have N:FJ K env i (b.toArray++a.toArray++Builtin.zeroCells q.zero.cells (grownCap w (n+m) k y-(n+m))).toList:=by simp only[aar,gD];refine aC.append (FJ.append n3 z2 n1) ah
    have L:(b.toArray++a.toArray++Builtin.zeroCells q.zero.cells (grownCap w (n+m) k y-(n+m))).size=grownCap w (n+m) k y*(K.pat i).length:=by rw[je] at z1;simp only[xy,gU,ah,n1,z1,<-pz];congr 1;omega
    generalize b.toArray++a.toArray++Builtin.zeroCells q.zero.cells (grownCap w (n+m) k y-(n+m))=R at N L|-
    obtain⟨O,g⟩:=(E.heap (w':=w.drew) rfl).row hK (t:=i) (c:=R) (fun j u f=>N j u (by rw[fA];exact f)) (by rw[L];exact Mq _ _);rw[M.ty] at O g;refine⟨_,_,rfl,Ext.Ua (K:=K) (B:=B) (w:=w) _ E i _,O,⟨g.sz,g.keep,g.Hn,g.hn,g.Bn,⟨g.io.os,g.io.tape,g.io.output⟩⟩,some ⟨w,0,none⟩,n+m,_,rfl,oG,aw,oG,fun h=>(by cases h),fun Z hd=>?_⟩;cases hd;exact⟨rfl,R.size,by simp,AX _,by rw[L];simp⟩
   cases as with
   |none=>
    have aj:=s4 rfl;have az:n=0:=oG;subst aj;subst az;have hr:=run_append_nil (P:=P) w t ty y G q.zero hu I h4 (pA bx ox) m c' a V A oG oG (by rw[gW] at D;omega);obtain⟨F,w',hw,W,X,Y,Q⟩:=J 0 [] sI (fun j u f=>by simp at f) oG;simp only[gW] at hw Q;refine⟨_,F,w',?_,W,X,Y,Q⟩;rw[hr,<-hw];simp
   |some ads=>
    obtain⟨bs,os,z,rfl,U,S,aa,-,-,-,N⟩:=E.slice ag;obtain⟨⟨row,g1,g2,g3⟩,g4,-⟩:=E.hH bs i z U;by_cases C:n+m<=c
    ·have ae:(n+m)*(K.pat i).length<=c*(K.pat i).length:=nZ _ C;rw[pz] at ae;have hr:=run_append_room_cells (P:=P) w t ty y G hu I bs os n c (pA bx ox) m c' a V A af C (fun j f=>by rw[cell_of_row w _ _ _ _ _ g1,r];rw[n1] at f;simp;omega) (fun j f=>frozen_of_row w _ _ _ _ g1);rw[r] at hr;obtain⟨O,g⟩:=E.Ds U (o:=os+n*(K.pat i).length) (vs:=a) (fun j u f=>by obtain⟨p,p1,p2⟩:=n3 j u f;refine⟨p,?_,p2⟩;rw[<-p1];congr 1;have:=BF os (K.pat i).length;rw[S,gv] at this;rw[show os+n*(K.pat i).length+j=(os/(K.pat i).length+n)*(K.pat i).length+j by rw[pz,nY (os/_),this]];exact Ld);exact⟨_,env.H,_,hr,Ext.refl _ _,O,g,some ⟨bs,os,none⟩,n+m,c,rfl,oG,C,s3,fun h=>(by cases h),fun Z hd=>by cases hd;exact⟨rfl,z,U,S,aa⟩⟩
    ·obtain⟨b,o1,o2,o3⟩:=N n s2;have hr:=run_append_grow (P:=P) w t ty y G q.zero hu I h4 (pA bs os) n c b (by rw[o1,r]) (fun j v f=>by rw[add_lit];exact o2 j v f) (pA bx ox) m c' a V A oG oG
      (growslice_fits oG D)
     obtain⟨F,w',hw,W,X,Y,Q⟩:=J c b o1 o3 oG;exact⟨_,F,w',by rw[hr,<-hw],W,X,Y,Q⟩
end
end Ra
namespace Ra
open Go
variable {wr:Wr} {σ:Nat->E} {x:α}
structure Spec where
 np:Nat
 ni:Nat
 args:List TV
 pre:Wr
 facts:List LC
 res:TV
 post:Wr
 pf:List LC
def D6 (K:gX) (env:Env):List TV->List Value->Prop
 | [],[]=>True
 |p::ps,v::vs=>p.ok K env v/\D6 K env ps vs
 |_,_=>False
def Holds (P:Program) (K:gX) (f:FuncId) (a:Spec):Prop:=
 (∀args w,(callFunc f args).run P w=.ok (.enter f args) w)/\
 ∀(env:Env) (w:World) (args:Array Value),Good K env (lk a.pre) w->D6 K env a.args args.toList->ln env.ρ a.facts->
  Calls P f args w fun e w'=> ∃v,e=.returned v/\ ∃env',Ext (fun s=>Nat.blt s a.np) env env'/\Good K env' (wU (lk a.pre) a.post) w'/\Step env (lk a.pre) w a.post env' w'/\a.res.ok K env' v/\ln env'.ρ a.pf
abbrev Sg:=List (Nat×E)×List (Nat×Nat)
def Sg.Ki (g:Sg) (p:E) (e:E):Sg:=match lk g.1 p.s with
 |some _=>g
 |none=>((p.s,⟨e.s,e.c-p.c⟩)::g.1,g.2)
def BV.mt (g:Sg):BV->BV->Sg
 | .int p,.int e=>g.Ki p e
 | .sl _ p,.sl _ e=>g.Ki p e
 | .sl _ p,.nil=>g.Ki p ⟨0,0⟩
 | .tr _ p q,.tr _ e m=>(g.Ki p e).Ki q m
 | .tr _ p _,.nil=>g.Ki p ⟨0,0⟩
 | .ptr k _,.ptr k' _=>(g.1,(k,k')::g.2)
 | .pr _ q _,.pr _ m _=>g.Ki q m
 |_,_=>g
def BV.PG (g:Sg):List BV->List BV->Sg
 |p::ps,e::es=>BV.PG (p.mt g e) ps es
 |_,_=>g
def CV.mt (g:Sg):CV->CV->Sg
 | .one (.bv p),.one (.bv e)=>p.mt g e
 | .one (.cl _ ps qs),.one (.cl _ es fs)=>BV.PG (BV.PG g ps es) qs fs
 | .agg ps,.agg es=>BV.PG g ps es
 |_,_=>g
def TV.PG (g:Sg):List TV->List (Option TV)->Sg
 | .cv p::ps,some (.cv e)::es=>TV.PG (p.mt g e) ps es
 |_::ps,_::es=>TV.PG g ps es
 |_,_=>g
def mtB (ig:jM) (g:Sg):Wr->Sg
 | []=>g
 |(k,_,ps)::r=>match ig (match lk g.2 k with|some j=>j|none=>k) with
  |some x=>mtB ig (BV.PG g ps x.2) r
  |none=>mtB ig g r
def LQ (g:Sg) (s:Nat):E:=match lk g.1 s with
 |some e=>e
 |none=>⟨s,0⟩
def J9 (g:Sg) (k:Nat):Nat:=match lk g.2 k with
 |some j=>j
 |none=>k
def vQ (F:List LC) (σ:Nat->E) (θ:Nat->Nat):List TV->List (Option TV)->Bool
 | [],[]=>true
 |p::ps,some e::es=>e.sub F (p.re σ θ)&&vQ F σ θ ps es
 |_,_=>false
def zd (ig:jM) (F:List LC) (σ:Nat->E) (θ:Nat->Nat) (a:Wr):Bool:=a.all fun x=>match ig (θ x.1) with
 |some y=>Nat.beq y.1 x.2.1&&BV.uW F y.2 (x.2.2.map (BV.re σ θ))
 |none=>false
def nodupB:List Nat->Bool
 | []=>true
 |x::l=>l.all (fun y=> !Nat.beq x y)&&nodupB l
def yP (np i:Nat) (σ:Nat->E) (s:Nat):E:=cond (Nat.blt s np) (σ s) ⟨i+(s-np),0⟩
def uM (np i:Nat) (θ:Nat->Nat) (k:Nat):Nat:=cond (Nat.blt k np) (θ k) (i+(k-np))
def Tb (σ:Nat->E) (θ:Nat->Nat) (wr:Wr):Wr:=wr.map fun x=>(θ x.1,x.2.1,x.2.2.map (BV.re σ θ))
def Bt (c:Nat) (a:Spec):Bool:=
 Nat.ble c a.np&&Nat.ble a.np a.ni&&Nat.ble a.ni (a.np+32)&&nodupB (a.pre.map (·.1))&&nodupB (a.post.map (·.1))&&a.pre.all (fun x=>Nat.blt x.1 a.np)&&
 a.post.all (fun x=>cond (Nat.blt x.1 a.np) ((lk a.pre x.1).isSome) (Nat.blt x.1 a.ni)&&x.2.2.all (BV.all fun s=>Nat.blt s a.ni))&&a.res.all (fun s=>Nat.blt s a.ni)&&a.pf.all (LC.all fun s=>Nat.blt s a.ni)
def JI (c:Nat) (ig:jM) (F:List LC) (i:Nat) (b:List (Option TV)) (a:Spec) (g:Sg):Option sZ:=
 cond (Bt c a&&vQ F (LQ g) (J9 g) a.args b&&zd ig F (LQ g) (J9 g) a.pre&&nodupB (a.pre.map fun x=>J9 g x.1)&&a.facts.all (fun f=>NN F (f.re (LQ g)))&&
   (List.range a.np).all (fun s=>out i (LQ g s).s&&out i (J9 g s))&&(List.range c).all (fun s=>Nat.beq (LQ g s).s s&&decide ((LQ g s).c=0)))
  (some ⟨a.res.re (yP a.np i (LQ g)) (uM a.np i (J9 g)),a.pf.map (LC.re (yP a.np i (LQ g))),Tb (yP a.np i (LQ g)) (uM a.np i (J9 g)) a.post,a.pre.map fun x=>J9 g x.1⟩) none
def Nk (c:Nat) (ig:jM) (F:List LC) (i:Nat) (b:List (Option TV)):List Spec->Option sZ
 | []=>none
 |sp::r=>match JI c ig F i b sp (mtB ig (TV.PG ([],[]) sp.args b) sp.pre) with
  |some x=>some x
  |none=>Nk c ig F i b r
theorem Ll {l:List Nat} (h:nodupB l=true): ∀{a b:Nat},a<l->b<l->l[a]? =l[b]? ->a=b:=by
 induction l with
 |nil=>intro a b c;simp at c
 |cons x l ih=>
  intro a b c e d;simp only[nodupB,a6,dT,ql] at h;cases a with
  |zero=>
   cases b with
   |zero=>rfl
   |succ b=>
    simp at d e;have:=h.1 _ (a8 d.symm);rw[jJ] at this;cases this
  |succ a=>
   cases b with
   |zero=>
    simp at d c;have:=h.1 _ (a8 d);rw[jJ] at this;cases this
   |succ b=>
    simp at d c e;rw[ih h.2 c e d]
theorem Lm {l:List α} {f:α->Nat} (h:nodupB (l.map f)=true) {y:α} (m:x∈l) (r:y∈l) (d:f x=f y):x=y:=by obtain⟨a,c⟩:=gz.1 m;obtain⟨b,e⟩:=gz.1 r;have:=Ll h (a:=a) (b:=b) (by simpa using(bX.1 c).1) (by simpa using(bX.1 e).1) (by rw[fh,fh,c,e];simp[d]);subst this;rw[c] at e;cases e;rfl
theorem wF {l:List (Nat×α)} (h:nodupB (l.map (·.1))=true) {k:Nat} (a:(k,x)∈l):lk l k=some x:=by
 induction l with
 |nil=>cases a
 |cons y l ih=>
  obtain⟨j,y⟩:=y;simp only[gN,nodupB,a6,dT,ql] at h;unfold lk
  rcases fC.1 a with he|he
  ·cases he;rw[jJ];rfl
  ·have:=h.1 k (fq.2 ⟨_,he,rfl⟩);rw[this];exact ih h.2 he
theorem QS {j:Nat} {x:TypeId×List BV} (h:lk (Tb σ θ wr) j=some x): ∃y∈wr,θ y.1=j/\x=(y.2.1,y.2.2.map (BV.re σ θ)):=by have:=oR h;unfold Tb at this;obtain⟨y,r,d⟩:=fq.1 this;simp only[Prod.mk.injEq] at d;exact⟨y,r,d.1,d.2.symm⟩
theorem E6 {y:Nat×TypeId×List BV} (h:y∈wr):lk (Tb σ θ wr) (θ y.1)≠none:=by
 induction wr with
 |nil=>cases h
 |cons z wr ih=>
  unfold Tb;rw[gN];unfold lk;cases e:Nat.beq (θ z.1) (θ y.1) with
  |true=>simp
  |false=>
   rcases fC.1 h with rfl|h
   ·rw[jJ] at e;cases e
   ·exact ih h
section
variable {P:Program} {K:gX} (hK:tS K) {env:Env} {B ig:jM} {w:World} {i:Nat} {F:List LC}
include hK
theorem Fy (C:env.ρ 0=0) (G:ln env.ρ F): ∀{ps:List TV} {a:List (Option TV)} {vs:List Value},vQ F σ θ ps a=true->a.length=vs->(∀(j:Nat) e v,a[j]? =some e->vs[j]? =some v->OV K env e v)->D6 K (env.re σ θ) ps vs
 | [],[],[],_,_,_=>trivial
 |p::ps,some e::a,v::vs,h,hl,hv=>by simp only[vQ,a6] at h;have i:e.ok K env v:=hv 0 _ v rfl rfl;exact⟨TV.nk.1 (TV.lX hK C G h.1 i),Fy C G h.2 (by simpa using hl) fun j e v d b=>hv (j+1) e v (by simpa using d) (by simpa using b)⟩
 | [],[],_::_,_,hl,_=>by simp at hl
 | [],_::_,_,h,_,_=>by simp[vQ] at h
 |_::_,[],_,h,_,_=>by simp[vQ] at h
 |_::_,none::_,_,h,_,_=>by simp[vQ] at h
 |_::_,some _::_,[],_,hl,_=>by simp at hl
theorem Good.inner {a:Wr} (q:Good K env B w) (G:ln env.ρ F) (A:zd B F σ θ a=true) (I:nodupB (a.map fun x=>θ x.1)=true) (J: ∀g,g<K.ng->(σ g).s=g/\(σ g).c=0):Good K (env.re σ θ) (lk a) w:=by
 have C:env.ρ 0=0:=by rw[q.gl 0 hK.zero.1,hK.zero.2]
 have v: ∀k x,lk a k=some x-> ∃y,B (θ k)=some y/\y.1=x.1/\BV.uW F y.2 (x.2.map (BV.re σ θ))=true:=fun k x m=>by
  have:=dT.1 A _ (oR m);dsimp only at this;cases e:B (θ k) with
  |none=>rw[e] at this;cases this
  |some y=>
   rw[e] at this;simp only[a6,nb] at this;exact⟨y,rfl,this.1,this.2⟩
 have l: ∀k,lk a k≠none->B (θ k)≠none:=fun k z=>by
  cases m:lk a k with
  |none=>exact absurd m z
  |some x=>obtain⟨y,i,_⟩:=v k x m;rw[i];simp
 refine⟨fun g h=>?_,fun b c T f h=>?_,fun b t n h=>?_,fun k T xs h=>?_,fun k M h L d=>?_⟩
 ·show(σ g).ev env.ρ=_;obtain⟨i,o⟩:=J g h;unfold E.ev;rw[i,o,q.gl g h];omega
 ·obtain⟨i,o,s⟩:=q.hh b c T f h;exact⟨i,o,fun k z=>s _ (l k z)⟩
 ·obtain⟨⟨c,i,o,s⟩,D,H⟩:=q.hH b t n h;exact⟨⟨c,i,o,fun j u N=>let ⟨p,q1,q2⟩:=s j u N;⟨p,q1,PC.re.1 q2⟩⟩,D,fun k z=>H _ (l k z)⟩
 ·obtain⟨y,i,o,s⟩:=v k (T,xs) h;obtain⟨c,D,H⟩:=q.hB (θ k) y.1 y.2 i;rw[o] at D;exact⟨c,D,jH.nk.1 (jH.lX hK C G s H)⟩
 ·have i:=q.hd _ _ (l k h) (l M L) d;cases m:lk a k with
  |none=>exact absurd m h
  |some x=>
   cases r:lk a M with
   |none=>exact absurd r L
   |some y=>
    have:=Lm I (oR m) (oR r) i;cases this;rfl
end
end Ra
namespace Ra
open Go
theorem AZ {a b:Nat} (h:a<b):Nat.blt a b=true:=by rw[fT];exact h
section
variable {P:Program} {K:gX} (hK:tS K) {env:Env} {B:jM} {w:World} {i:Nat} {F:List LC}
include hK
theorem Tu {f:FuncId} {a:Spec} {g:Sg} {Q:List (Option TV)} {r:sZ} {args:Array Value} (aB:Holds P K f a) (Y:Good K env B w) (hi:K.ng<=i) (hB:uc B i) (hF:ln env.ρ F) (M:Q.length=args.toList)
  (ha: ∀(j:Nat) e v,Q[j]? =some e->args.toList[j]? =some v->OV K env e v) (h:JI K.ng B F i Q a g=some r):
  Calls P f args w fun e w'=> ∃v,e=.returned v/\ ∃env',ja K env B i w r v env' w':=by
 have h0:env.ρ 0=0:=by rw[Y.gl 0 hK.zero.1,hK.zero.2]
 unfold JI at h;generalize hσ:LQ g=σ at h;generalize hθ:J9 g=θ at h;cases hc:(Bt K.ng a&&vQ F σ θ a.args Q&&zd B F σ θ a.pre&&nodupB (a.pre.map fun x=>θ x.1)&&a.facts.all (fun f=>NN F (f.re σ))&&
   (List.range a.np).all (fun s=>out i (σ s).s&&out i (θ s))&&(List.range K.ng).all (fun s=>Nat.beq (σ s).s s&&decide ((σ s).c=0))) with
 |false=>rw[hc] at h;cases h
 |true=>
 rw[hc] at h;cases h;simp only[a6,dT,jz,nb,decide_eq_true_eq] at hc;obtain⟨⟨⟨⟨⟨⟨c1,c2⟩,c3⟩,c4⟩,c5⟩,c6⟩,c7⟩:=hc;unfold Bt at c1;simp only[a6,mE,dT,fT] at c1;obtain⟨⟨⟨⟨⟨⟨⟨⟨s1,s2⟩,s3⟩,s4⟩,s5⟩,s6⟩,s7⟩,s8⟩,s9⟩:=c1;have az:=Y.inner hK hF c3 c4 c7;refine(aB.2 (env.re σ θ) w args az (Fy hK h0 hF c2 M ha) (Lr.1 fun f hf=>?_)).mono ?_
 ·obtain⟨f',aw,rfl⟩:=fq.1 hf;exact B7 hF (c5 f' aw)
 rintro e w' ⟨v,rfl,X,hx,af,D,hr,aA⟩;refine⟨v,rfl,?_⟩
 let env':Env:={ρ:=fun s=>if i<=s/\s<i+32 then X.ρ (a.np+(s-i)) else env.ρ s,β:=fun s=>if i<=s/\s<i+32 then X.β (a.np+(s-i)) else env.β s,H:=X.H,h:=X.h}
 have V:Ext (out i) env env':=⟨fun s hs=>if_neg (by have:=nf.1 hs;omega),fun s hs=>if_neg (by have:=nf.1 hs;omega),hx.H,hx.h⟩;have ae:Ext (fun s=>Nat.blt s a.ni) X (env'.re (yP a.np i σ) (uM a.np i θ)):=by
  refine⟨fun s hs=>?_,fun s hs=>?_,fun b x h=>h,Sub.refl _⟩
  ·rw[fT] at hs;show(yP a.np i σ s).ev env'.ρ=_;unfold yP;cases l:Nat.blt s a.np with
   |true=>
    rw[fT] at l;simp only[cond_true];rw[E.ext V (c6 s l).1];exact(hx.ρ s (by rw[fT];exact l)).symm
   |false=>
    have ay:a.np<=s:=by
     rcases iU s a.np with h|h
     ·rw[AZ h] at l;cases l
     ·exact h
    simp only[cond_false,E.ev];show(if i<=i+(s-a.np)/\i+(s-a.np)<i+32 then X.ρ (a.np+(i+(s-a.np)-i)) else _)+(0:Int)=_;rw[if_pos oG,show a.np+(i+(s-a.np)-i)=s by omega];omega
  ·rw[fT] at hs;show env'.β (uM a.np i θ s)=_;unfold uM;cases l:Nat.blt s a.np with
   |true=>
    rw[fT] at l;simp only[cond_true];rw[V.β _ (c6 s l).2];exact(hx.β s (by rw[fT];exact l)).symm
   |false=>
    have ay:a.np<=s:=by
     rcases iU s a.np with h|h
     ·rw[AZ h] at l;cases l
     ·exact h
    simp only[cond_false];show(if i<=i+(s-a.np)/\i+(s-a.np)<i+32 then X.β (a.np+(i+(s-a.np)-i)) else _)=_;rw[if_pos oG,show a.np+(i+(s-a.np)-i)=s by omega]
 have hβo: ∀k,B k≠none->env'.β k=env.β k:=fun k C=>V.β k (hB.get C);have hβn: ∀k,k<a.ni->env'.β (uM a.np i θ k)=X.β k:=fun k C=>ae.β k (by rw[fT];exact C);have I: ∀k,k<a.np->uM a.np i θ k=θ k:=fun k C=>by unfold uM;rw[AZ C];rfl
 have d: ∀y∈a.post,y.1<a.ni/\y.2.2.all (BV.all fun s=>Nat.blt s a.ni)=true/\(y.1<a.np->lk a.pre y.1≠none):=fun y m=>by
  have:=s7 y m;cases l:Nat.blt y.1 a.np with
  |true=>
   rw[l] at this;rw[fT] at l;simp only[cond_true] at this;exact⟨oG,dT.2 this.2,fun _ G=>by rw[G] at this;cases this.1⟩
  |false=>
   rw[l] at this;simp only[cond_false,fT] at this;exact⟨this.1,dT.2 this.2,fun h=>by rw[AZ h] at l;cases l⟩
 have J: ∀k x,lk a.pre k=some x->k<a.np/\B (θ k)≠none:=fun k x hx=>by have R:=oR hx;refine⟨by have:=s6 _ R;exact this,fun hn=>?_⟩;have:=dT.1 c3 _ R;dsimp only at this;rw[hn] at this;cases this
 have ah: ∀y∈a.post,wU (lk a.pre) a.post y.1=some y.2:=fun y m=>oW (wF s5 m);have S: ∀y∈a.post,wU (lk a.pre) a.post y.1≠none:=fun y m=>by rw[ah y m];simp
 have ai: ∀y∈a.post,¬y.1<a.np->w.heap.size<=X.β y.1:=fun y m hn=>D.Bn y.1 (by rw[wF s5 m];simp) (by
  cases hx:lk a.pre y.1 with
  |none=>rfl
  |some x=>exact absurd (J _ x hx).1 hn)
 have Iβ: ∀y∈a.post,y.1<a.np->X.β y.1=env.β (θ y.1):=fun y m l=>hx.β y.1 (by rw[fT];exact l);have U: ∀k,wU B (Tb (yP a.np i σ) (uM a.np i θ) a.post) k≠none->(∃y∈a.post,uM a.np i θ y.1=k/\lk (Tb (yP a.np i σ) (uM a.np i θ) a.post) k=some (y.2.1,y.2.2.map (BV.re (yP a.np i σ) (uM a.np i θ))))\/
   (lk (Tb (yP a.np i σ) (uM a.np i θ) a.post) k=none/\B k≠none/\ ∀y∈a.post,uM a.np i θ y.1≠k):=fun k C=>by
  cases M:lk (Tb (yP a.np i σ) (uM a.np i θ) a.post) k with
  |some x=>
   obtain⟨y,m,R,h2⟩:=QS M;exact .inl ⟨y,m,R,by rw[h2]⟩
  |none=>
   rw[qg M] at C;exact .inr ⟨rfl,C,fun y m G=>by have:=E6 (σ:=yP a.np i σ) (θ:=uM a.np i θ) m;rw[G] at this;exact this M⟩
 have L: ∀k,B k≠none->(∀y∈a.post,uM a.np i θ y.1≠k)-> ∀o,wU (lk a.pre) a.post o≠none->lk a.post o≠none->X.β o≠env.β k:=fun k C N o _ hp=>by
  cases M:lk a.post o with
  |none=>exact absurd M hp
  |some x=>
   have hm:=oR M;by_cases l:o<a.np
   ·rw[Iβ _ hm l];intro G;have O:=(d _ hm).2.2 l;cases A:lk a.pre o with
    |none=>exact absurd A O
    |some z=>
     have:=Y.hd _ _ (J o z A).2 C G;exact N _ hm (by rw[I o l];exact this)
   ·have R:w.heap.size<=X.β o:=ai _ hm l;have h2:=Y.C7 C;omega
 refine⟨env',V,⟨fun gg h=>(V.ρ gg (nf.2 (.inl oG))).trans (Y.gl gg h),fun b c T f' h=>?_,fun b t n h=>?_,fun k T xs h=>?_,fun k o h h' G=>?_⟩,⟨D.sz,fun b hb hH C=>?_,D.Hn,D.hn,fun k C hn=>?_,D.io⟩,?_,?_⟩
 ·obtain⟨R,h2,h3⟩:=af.hh b c T f' h;refine⟨R,h2,fun k C=>?_⟩
  rcases U k C with ⟨y,m,rfl,_⟩|⟨_,q,N⟩
  ·rw[hβn _ (d y m).1];exact h3 _ (S y m)
  ·rw[hβo k q]
   rcases D.hn b c T f' h with h|h
   ·exact(Y.hh b c T f' h).2.2 k q
   ·have:=Y.C7 q;omega
 ·obtain⟨⟨c,R,h2,h3⟩,h4,h5⟩:=af.hH b t n h;refine⟨⟨c,R,h2,fun j u hj=>?_⟩,h4,fun k C=>?_⟩
  ·obtain⟨p,q1,q2⟩:=h3 j u hj;exact⟨p,q1,PC.ext hK ae q2⟩
  ·rcases U k C with ⟨y,m,rfl,_⟩|⟨_,q,N⟩
   ·rw[hβn _ (d y m).1];exact h5 _ (S y m)
   ·rw[hβo k q]
    rcases D.Hn b (by rw[h];simp) with h|h
    ·cases hH:env.H b with
     |none=>exact absurd hH h
     |some x=>exact(Y.hH b x.1 x.2 hH).2.2 k q
    ·have:=Y.C7 q;omega
 ·rcases U k (by rw[h];simp) with ⟨y,m,rfl,M⟩|⟨M,q,N⟩
  ·rw[oW M] at h;cases h;obtain⟨c,R,h2⟩:=af.hB y.1 y.2.1 y.2.2 (ah y m);refine⟨c,?_,jH.nk.2 (jH.ext hK ae (d y m).2.1 h2)⟩;rw[hβn _ (d y m).1];exact R
  ·rw[qg M] at h;obtain⟨c,R,h2⟩:=Y.hB k T xs h;refine⟨c,?_,jH.ext hK V (hB k T xs h).2 h2⟩;rw[hβo k q,D.keep _ (fP R) (by
    show env.H _=none;cases hH:env.H (env.β k) with
    |none=>rfl
    |some x=>exact absurd rfl ((Y.hH _ x.1 x.2 hH).2.2 k q)) (fun o hp O G=>?_)]
   ·exact R
   ·have hu:wU (lk a.pre) a.post o≠none:=by
     cases aa:lk a.post o with
     |none=>exact absurd aa hp
     |some x=>rw[oW aa];simp
    refine L k q N o hu hp ?_;rw[<-show(env.re σ θ).β o=env.β k from G];cases A:lk a.pre o with
    |none=>exact absurd A O
    |some z=>exact hx.β o (by rw[fT];exact(J o z A).1)
 ·rcases U k h with ⟨y,m,rfl,_⟩|⟨_,ag,N⟩
  ·rcases U o h' with ⟨y',W,rfl,_⟩|⟨_,Z,aj⟩
   ·rw[hβn _ (d y m).1,hβn _ (d y' W).1] at G;rw[af.hd _ _ (S y m) (S y' W) G]
   ·rw[hβn _ (d y m).1,hβo o Z] at G;exact absurd G (L o Z aj y.1 (S y m) (by rw[wF s5 m];simp))
  ·rcases U o h' with ⟨y',W,rfl,_⟩|⟨_,Z,aj⟩
   ·rw[hβn _ (d y' W).1,hβo k ag] at G;exact absurd G.symm (L k ag N y'.1 (S y' W) (by rw[wF s5 W];simp))
   ·rw[hβo k ag,hβo o Z] at G;exact Y.hd k o ag Z G
 ·refine D.keep b hb hH fun o hp O G=>?_;cases A:lk a.pre o with
  |none=>exact absurd A O
  |some z=>
   have aq:=J o z A;cases aa:lk a.post o with
   |none=>exact absurd aa hp
   |some x=>
    have hm:=oR aa;have ak:=E6 (σ:=yP a.np i σ) (θ:=uM a.np i θ) hm;rw[I o aq.1] at ak;exact C (θ o) ak aq.2 G
 ·cases M:lk (Tb (yP a.np i σ) (uM a.np i θ) a.post) k with
  |none=>exact absurd M C
  |some x=>
   obtain⟨y,m,rfl,_⟩:=QS M;rw[hβn _ (d y m).1];by_cases l:y.1<a.np
   ·rw[I _ l] at hn;have O:=(d y m).2.2 l;cases A:lk a.pre y.1 with
    |none=>exact absurd A O
    |some z=>exact absurd hn (J _ z A).2
   ·exact ai y m l
 ·exact TV.nk.2 (TV.ext hK ae s8 hr)
 ·exact Lr.2 (ln.ext ae (dT.2 s9) aA)
end
end Ra
namespace Ra
open Go
theorem QW{p:Prop}(h:p:=by
 cases hc:o9 F ⟨0,0⟩ e 0 with
 |false=>rw[hc] at h;cases h
 |true=>
  rw[hc] at h;cases h;have h3:=key hc;simp[binOp,Op.shift,Result.andThen,h3] at hr;exact⟨_,env,hr,ja.pK hg ⟨_,rfl⟩ (fF _)⟩):p:=h
variable {K:gX} {env:Env} {r:sZ} {x:Option TV}
structure Cx where
 K:gX
 T:TT
 Sn:TypeId->Option Nat
 specs:Nat->List Spec
structure DZ (P:Program) (cx:Cx):Prop where
 K:tS cx.K
 T:xB P cx.T
 sp: ∀f,∀s∈cx.specs f,Holds P cx.K f s
abbrev Gd:=Option (Nat×Bool)
abbrev Tg:=Gd->Nat->Option TV
def zL (a:Act):Gd->Prop
 |none=>True
 |some (s,b)=>a.tmps.getD s undef=.bool b
def FU:Option TV->Option (List LC×List LC)
 |some (.cv (.one (.bl p q)))=>some (p,q)
 |some (.cv (.one (.bv .bool)))=>some ([],[])
 |_=>none
def never (l:List LC):Bool:=l.any fun f=>Nat.beq f.x 0&&Nat.beq f.y 0&&decide (f.c<0)
def S1 (k:Tg) (g:Gd) (c x y:Operand):Option sZ:=
 match c with
 | .tmp tc=>match FU (k g tc),FU (uO (k (some (tc,true))) x),FU (uO (k (some (tc,false))) y) with
  |some pc,some px,some py=>some (PH (cond (never py.1) (pc.1++px.1) []) (cond (never px.2) (pc.2++py.2) []))
  |_,_,_=>none
 |_=>none
def WZ (F:List LC) (i:Nat) (c:BinOp) (x y:Option TV):Option sZ:=
 match x,y with
 |some (.cv (.one (.bv (.int a)))),some (.cv (.one (.bv (.int b))))=>cond (out i b.s) (arith F i c a b) none
 |some (.cv (.one (.bv (.num k)))),some (.cv (.one (.bv (.num k'))))=>cond (decide (k=k')) (P8 F c k) none
 |some (.cv (.one (.bv (.num k)))),some (.cv (.one (.bv (.int b))))=>match c with
  | .shl| .shr=>cond (o9 F ⟨0,0⟩ b 0) (some (Om k)) none
  |_=>none
 |_,_=>none
def xUn (i:Nat) (c:UnOp) (x:Option TV):Option sZ:=
 match c with
 | .not=>match FU x with
  |some p=>some (PH p.2 p.1)
  |none=>none
 | .neg=>match x with
  |some (.cv (.one (.bv (.int _))))=>some (uQ ⟨i,0⟩)
  |_=>none
 |_=>none
def Ct:List (Option TV)->Option (List BV)
 | []=>some []
 |some (.cv (.one (.bv x)))::r=>match Ct r with
  |some l=>some (x::l)
  |none=>none
 |_::_=>none
def R4 (l:E):sZ:=⟨one (.int l),[uC ⟨0,0⟩ l 0,uC l ⟨0,9223372036854775807⟩ 0],[],[]⟩
def Xc (T:TT) (t:TypeId) (x:Option TV):Option sZ:=
 match lk T t with
 |some e=>match e.d with
  | .sl _=>match x with
   |some (.cv (.one (.bv (.sl _ l))))=>some (R4 l)
   |some (.cv (.one (.bv (.tr _ l m))))=>some ⟨one (.int l),uC l m 0::(R4 l).f,[],[]⟩
   |some (.cv (.one (.bv .nil)))=>some (R4 ⟨0,0⟩)
   |_=>none
  |_=>none
 |none=>none
def UY (F:List LC) (i:Nat) (mx:Bool) (x y:Option TV):Option sZ:=
 match x,y with
 |some (.cv (.one (.bv (.int a)))),some (.cv (.one (.bv (.int b))))=>
  cond (o9 F a b 0) (some (uQ (cond mx b a))) (cond (o9 F b a 0) (some (uQ (cond mx a b)))
   (cond (out i a.s&&out i b.s) (some ⟨one (.int ⟨i,0⟩),cond mx [uC a ⟨i,0⟩ 0,uC b ⟨i,0⟩ 0] (uC ⟨i,0⟩ a 0::uC ⟨i,0⟩ b 0::cond (o9 F ⟨0,0⟩ a 0&&o9 F ⟨0,0⟩ b 0) [⟨0,i,0⟩] []),[],[]⟩) none))
 |_,_=>none
def SX (K:gX) (T:TT) (i:Nat) (t:TypeId) (s x:Option TV):Option sZ:=
 match s,x with
 |some (.cv (.one (.bv (.sl tg _)))),some (.cv (.one (.bv (.sl tg' _))))=>match xl K T t tg with
  |some _=>cond (Nat.beq tg tg'&&Nat.beq (K.pat tg).length 1) (some (uQ ⟨i,0⟩)) none
  |none=>none
 |_,_=>none
def DS (a:Cx) (F:List LC) (i:Nat) (b:Builtin) (ts:List TypeId) (c:List (Option TV)):Option sZ:=
 match b,ts,c with
 | .len,[t],[x]=>Xc a.T t x
 | .append,[t,t'],[s,x]=>cond (Nat.beq t t') (G2 a.K a.T F i t s x) none
 | .copy,[t,t'],[s,x]=>cond (Nat.beq t t') (SX a.K a.T i t s x) none
 | .min,_,[x,y]=>UY F i false x y
 | .max,_,[x,y]=>UY F i true x y
 |_,_,_=>none
def SQ (a:Cx) (ig:jM) (F:List LC) (i:Nat) (f:Option TV) (c:List (Option TV)):Option sZ:=
 match f with
 |some (.cv (.one (.cl f xs ys)))=>Nk a.K.ng ig F i (xs.map (fun x=>some (one x))++c++ys.map (fun x=>some (one x))) (a.specs f)
 |_=>none
def FF (e:Option Nat) (x:Option TV):Option sZ:=
 match x,e with
 |some (.cv (.one (.bv .nil))),some tg=>some ⟨one (.sl tg ⟨0,0⟩),[],[],[]⟩
 |some tv,_=>some ⟨tv,[],[],[]⟩
 |none,_=>none
def Xd (x:Option TV):Option sZ:=
 match x with
 |some (.cv (.one (.bv (.ptr k o))))=>some ⟨one (.ptr k o),[],[],[]⟩
 |some (.cv (.one (.bv (.pe t o))))=>some ⟨one (.pe t o),[],[],[]⟩
 |some (.cv (.one (.bv (.pr t m o))))=>some ⟨one (.pr t m o),[],[],[]⟩
 |some (.cv (.one (.cl f xs ys)))=>some ⟨.cv (.one (.cl f xs ys)),[],[],[]⟩
 |_=>none
def Xb (x:Option TV) (j:Nat):Option sZ:=
 match x with
 |some (.uY l)=>match l[j]? with
  |some c=>some ⟨.cv c,[],[],[]⟩
  |none=>none
 |_=>none
def Yv (K:gX) (x:Option TV):Option TV:=
 match x with
 |some (.cv (.one (.bv (.Hb j))))=>match K.qk j with
  |some kd=>some (one (.num kd))
  |none=>none
 |x=>x
theorem Ls (hK:tS K) (h:OV K env x v):OV K env (Yv K x) v:=by
 unfold Yv;split
 ·split
  ·rename_i b a;exact hK.qn a h
  ·trivial
 ·exact h
def Z6 (a:Cx) (e:Option Nat) (t:TypeId):Option Nat:=match e with
 |some g=>some g
 |none=>a.Sn t
def SS (T:TT) (i:Nat) (b a:TypeId) (x:Option TV):Option sZ:=
 match lk T b,lk T a with
 |some _,some e=>match e.d,x with
  | .nm .i64,some (.cv (.one (.bv (.num _))))=>some (uQ ⟨i,0⟩)
  | .nm .i64,some (.cv (.one (.bv (.int _))))=>some (uQ ⟨i,0⟩)
  | .nm k,some (.cv (.one (.bv (.num _))))=>some (Om k)
  | .nm k,some (.cv (.one (.bv (.int _))))=>some (Om k)
  |_,_=>none
 |_,_=>none
def xop (a:Cx) (k:Tg) (g:Gd) (ig:jM) (F:List LC) (i:Nat) (e:Option Nat):Op->Option sZ
 | .move x=>FF e (uO (k g) x)
 | .assign x=>FF e (uO (k g) x)
 | .pick c x y=>S1 k g c x y
 | .binOp op _ x y _=>WZ F i op (Yv a.K (uO (k g) x)) (Yv a.K (uO (k g) y))
 | .convert s d x=>SS a.T i s d (Yv a.K (uO (k g) x))
 | .unOp op _ x=>xUn i op (uO (k g) x)
 | .load t x=>SZ a.K a.T ig i t (uO (k g) x)
 | .store t x y=>Mm a.K a.T ig F t (uO (k g) x) (uO (k g) y)
 | .fieldAddr s x f=>Mi a.K a.T s (uO (k g) x) f
 | .indexAddr t x ix=>Mj a.K a.T F t (uO (k g) x) (uO (k g) ix)
 | .alloc t=>Mf a.T i t
 | .box t x=>Xa i t (uO (k g) x)
 | .build t ps=>Mh a.T (k g) t ps.toList
 | .buildSlice t n ps=>DR a.K a.T (Z6 a e) F (k g) t n ps.toList
 | .makeSlice t l c=>G4 a.K a.T (Z6 a e) F t (uO (k g) l) (uO (k g) c)
 | .nilCheck x=>Xd (uO (k g) x)
 | .extract x j=>Xb (uO (k g) x) j
 | .makeFunc (.func f) xs ys=>match Ct (xs.toList.map (uO (k g))),Ct (ys.toList.map (uO (k g))) with
  |some us,some ws=>some ⟨.cv (.one (.cl f us ws)),[],[],[]⟩
  |_,_=>none
 | .call {callee:=.builtin b,args,argTypes}=>DS a F i b argTypes.toList (args.toList.map (uO (k g)))
 | .call {callee:=.value f,args,..}=>SQ a ig F i (uO (k g) f) (args.toList.map (uO (k g)))
 |_=>none
theorem IP {ρ:Nat->Int} {l:List LC} (h:never l=true): ¬ln ρ l:=by intro p;simp only[never,mS,a6,nb,decide_eq_true_eq] at h;obtain⟨f,a,⟨j,m⟩,D⟩:=h;have:=p f a;unfold LC.ok at this;rw[j,m] at this;omega
theorem wm {p:List LC×List LC} (h:FU x=some p) (g:OV K env x v): ∃b,v=.bool b/\(b=true->ln env.ρ p.1)/\(b=false->ln env.ρ p.2):=by
 unfold FU at h;split at h
 ·cases h;exact g
 ·cases h;obtain⟨b,rfl⟩:=g;exact⟨b,rfl,fun _=>fF _,fun _=>fF _⟩
 ·cases h
theorem Cu: ∀{xs:List (Option TV)} {b:List BV} {vs:List Value},Ct xs=some b->xs.length=vs->(∀(j:Nat) e v,xs[j]? =some e->vs[j]? =some v->OV K env e v)->jH K env b vs
 | [],b,[],h,_,_=>by cases h;trivial
 |x::xs,b,v::vs,h,hl,hv=>by
  unfold Ct at h;split at h
  ·rename_i a;cases a
  ·rename_i y r a;cases a;split at h
   ·rename_i l c;cases h;exact⟨hv 0 _ v rfl rfl,Cu c (by simpa using hl) fun j e v a d=>hv (j+1) e v (by simpa using a) (by simpa using d)⟩
   ·cases h
  ·cases h
 | [],_,_::_,_,hl,_=>by simp at hl
 |_::_,_,[],_,hl,_=>by simp at hl
section
variable {P:Program} {T:TT} {K:gX} (hK:tS K) {env:Env} {B ig:jM} {w:World} {i:Nat} {F:List LC} {a:Act} {o:Oper}
theorem S2 {k:Tg} {g:Gd} {c x y:Operand} (q:o.op=.pick c x y) (hK:tS K) (d:Good K env B w) (C:zL a g) (p: ∀g t,zL a g->OV K env (k g t) (a.tmps.getD t undef)) (h:S1 k g c x y=some r):
  ∃v,(execOp a.eval o).run P w=.ok (.value v) w/\ja K env B i w r v env w:=by
 unfold S1 at h;split at h;rotate_left
 ·cases h
 rename_i s;split at h;rotate_left
 ·cases h
 rename_i M E F j m D;cases h;obtain⟨b,l,c1,c2⟩:=wm j (p g s C);have n:a.eval (.tmp s)=.bool b:=l;cases b with
 |true=>
  obtain⟨G,z,H,I⟩:=wm m (AH hK d.gl (fun t=>p (some (s,true)) t l) x);refine⟨.bool G,by simp[execOp,q,n,asBool,z],ja.bl d (fun e=>?_) (fun e=>?_)⟩
  ·cases f:never F.1 with
   |true=>exact lP.2 ⟨c1 rfl,H e⟩
   |false=>exact fF _
  ·cases f:never E.2 with
   |true=>exact absurd (I e) (IP f)
   |false=>exact fF _
 |false=>
  obtain⟨u,A,J,L⟩:=wm D (AH hK d.gl (fun t=>p (some (s,false)) t l) y);refine⟨.bool u,by simp[execOp,q,n,asBool,A],ja.bl d (fun e=>?_) (fun e=>?_)⟩
  ·cases f:never F.1 with
   |true=>exact absurd (J e) (IP f)
   |false=>exact fF _
  ·cases f:never E.2 with
   |true=>exact lP.2 ⟨c2 rfl,L e⟩
   |false=>exact fF _
include hK
theorem UU {op:BinOp} {xT yT:TypeId} {x y:Operand} {sx sy:Option TV} {r:sZ} (ho:o.op= .binOp op xT x y yT) (hg:Good K env B w) (hi:K.ng≤i) (hB:uc B i) (hF:ln env.ρ F)
  (hx:OV K env sx (a.eval x)) (hy:OV K env sy (a.eval y)) (h:WZ F i op sx sy=some r): ∃v env',(execOp a.eval o).run P w= .ok (.value v) w∧ja K env B i w r v env' w:=by
 have h0:env.ρ 0=0:=by rw[hg.gl 0 hK.zero.1,hK.zero.2]
 unfold WZ at h;split at h
 ·rename_i e1 e2;cases hc:out i e2.s with
  |false=>rw[hc] at h;cases h
  |true=>
   rw[hc] at h;exact P9 hK ho hg hi hB hF hx.1 hx.2 hy.1 hy.2 hc h
 ·rename_i k k';cases hc:decide (k=k') with
  |false=>rw[hc] at h;cases h
  |true=>
   rw[hc] at h;rw[decide_eq_true_eq] at hc;subst hc;obtain⟨m,hm⟩:=hx;obtain⟨n,hn⟩:=hy;have hr:=M3 (P:=P) (w:=w) ho hm hn;have num: ∀z,(execOp a.eval o).run P w= .ok (.value (.int k z)) w→r=Om k→ ∃v env',(execOp a.eval o).run P w= .ok (.value v) w∧ja K env B i w r v env' w:=by rintro z he rfl;exact⟨_,env,he,ja.pK hg ⟨z,rfl⟩ (fF _)⟩
   have bl: ∀b,(execOp a.eval o).run P w= .ok (.value (.bool b)) w→r=PH [] []→ ∃v env',(execOp a.eval o).run P w= .ok (.value v) w∧ja K env B i w r v env' w:=by rintro b he rfl;exact⟨_,env,he,ja.bl hg (fun _=>fF _) (fun _=>fF _)⟩
   cases op <;>simp only[P8] at h <;>first|(cases h;done)|skip
   all_goals simp[binOp,Op.intArith,Op.intBits,Op.intCmp,Result.andThen] at hr;cases h
   all_goals first|exact num _ hr rfl|exact bl _ hr rfl
 ·rename_i k e;obtain⟨m,hm⟩:=hx;obtain⟨hn,-⟩:=hy;have hr:(execOp a.eval o).run P w=((binOp op xT (.int k m) (.int .i64 (e.ev env.ρ))).run P w).andThen fun v w'=> .ok (.value v) w':=by
   have he:(eqGuard op xT x y (.int k m) (.int .i64 (e.ev env.ρ))).run P w= .ok () w:=by unfold eqGuard;cases op <;>simp
   simp only[execOp,ho,hm,hn];simp only[ks,he,Result.andThen];rfl
  have key:o9 F ⟨0,0⟩ e 0=true→ ¬e.ev env.ρ <0:=fun h1=>by have h2:=jy hF h1;simp only[E.ev,h0] at h2⊢;omega
  split at h
  ·exact QW
  ·exact QW
  ·cases h
 ·cases h
theorem Xe {c:UnOp} {y:TypeId} {x:Operand} {n:Option TV} (q:o.op=.unOp c y x) (d:Good K env B w) (t:K.ng<=i) (s:uc B i)
  (g:OV K env n (a.eval x)) (h:xUn i c n=some r): ∃v env',(execOp a.eval o).run P w=.ok (.value v) w/\ja K env B i w r v env' w:=by
 unfold xUn at h;split at h
 ·split at h
  ·rename_i p k;cases h;obtain⟨b,l,j,m⟩:=wm k g;exact⟨.bool !b,env,by simp[execOp,q,l,Op.unary],ja.bl d (fun e=>m (by simpa using e)) (fun e=>j (by simpa using e))⟩
  ·cases h
 ·split at h
  ·rename_i e;cases h;obtain⟨u,f⟩:=g;obtain⟨env',k⟩:=ja.jZ (i:=i) hK d t s (yM (0-e.ev env.ρ));exact⟨_,env',by simp[execOp,q,u,Op.unary,Op.intArith],k⟩
  ·cases h
 ·cases h
end
end Ra
namespace Ra
open Go
variable {F:List LC} {G:Tg} {O:Option Nat} {a:List (Option TV)} {args:Array Operand} {ig:jM} {g:Gd} {r:sZ} {sx sy:Option TV} {ts:Array TypeId} {y:Operand}
section
variable {P:Program} {T:TT} (hT:xB P T) {K:gX} (hK:tS K) {env:Env} {B ig:jM} {w:World} {i:Nat} {F:List LC} {a:Act} {o:Oper}
theorem tI {b:Builtin} (A:o.op=.call {callee:=.builtin b,args:=args,argTypes:=ts}): ∃cs,execOp a.eval o=builtin b ts o.type cs (args.map a.eval):=
 ⟨_,by simp only[execOp,A,resolve];rfl⟩
include hK
theorem UX (hT:xB P T) (A:o.op=.call {callee:=.builtin .len,args:=args,argTypes:=ts}) (ai:ts.toList=[t]) (aa:args.toList=[x]) (D:Good K env B w)
  (q:OV K env sx (a.eval x)) (h:Xc T t sx=some r): ∃v env',(execOp a.eval o).run P w=.ok (.value v) w/\ja K env B i w r v env' w:=by
 have h0:env.ρ 0=0:=by rw[D.gl 0 hK.zero.1,hK.zero.2]
 obtain rfl:ts= #[t]:=by cases ts;simp_all
 obtain rfl:args= #[x]:=by cases args;simp_all
 obtain⟨cs,W⟩:=tI (a:=a) A;unfold Xc at h;split at h;rotate_left
 ·cases h
 rename_i e Z;split at h;rotate_left
 ·cases h
 rename_i el F;obtain⟨d,hu,U⟩:=(hT t e Z).SF;rw[F] at U;subst U;have key: ∀(b:Option Addr) (n c:Nat) (l:E) (g:List LC),a.eval x=.slice b n c->(n:Int)=l.ev env.ρ->n<=9223372036854775807->ln env.ρ g-> ∃v env',(execOp a.eval o).run P w=.ok (.value v) w/\ja K env B i w ⟨one (.int l),g++(R4 l).f,[],[]⟩ v env' w:=by intro b n c l g J I h3 h4;have V:ln env.ρ (R4 l).f:=jD.2 ⟨nc.2 (by simp only[E.ev,h0] at I|-;omega),jD.2 ⟨nc.2 (by simp only[E.ev,h0] at I|-;omega),fF _⟩⟩;refine⟨.int .i64 n,env,?_,ja.pK D ⟨by rw[I],by rw[<-I];unfold kP;omega⟩ (lP.2 ⟨h4,V⟩)⟩;rw[W];simp[builtin,Builtin.len_,J,run_underlying hu,goInt]
 split at h
 ·cases h;obtain⟨b,n,c,J,I,h3,h4,_⟩:=q;exact key b n c _ [] J I oG (fF _)
 ·cases h;obtain⟨b,n,c,J,I,h3,h4⟩:=hK.shape q.1;exact key b n c _ [_] J I oG (jD.2 ⟨nc.2 (by have:=q.2.2;omega),fF _⟩)
 ·cases h;exact key none 0 0 _ [] q (by simp[E.ev,h0]) oG (fF _)
 ·cases h
theorem Nj {mx:Bool} (ho:o.op=.call {callee:=.builtin (cond mx .max .min),args:=args,argTypes:=ts}) (hargs:args.toList=[x,y]) (hg:Good K env B w) (hi:K.ng<=i) (hB:uc B i) (hF:ln env.ρ F)
  (hx:OV K env sx (a.eval x)) (hy:OV K env sy (a.eval y)) (h:UY F i mx sx sy=some r): ∃v env',(execOp a.eval o).run P w=.ok (.value v) w/\ja K env B i w r v env' w:=by
 have h0:env.ρ 0=0:=by rw[hg.gl 0 hK.zero.1,hK.zero.2]
 obtain rfl:args= #[x,y]:=by cases args;simp_all
 obtain⟨cs,hb⟩:=tI (a:=a) ho;unfold UY at h;split at h;rotate_left
 ·cases h
 rename_i p q;obtain⟨hp,hpi⟩:=hx;obtain⟨hq,hqi⟩:=hy;have hr:(execOp a.eval o).run P w=.ok (.value (.int .i64 (cond mx (if q.ev env.ρ>p.ev env.ρ then q.ev env.ρ else p.ev env.ρ) (if q.ev env.ρ<p.ev env.ρ then q.ev env.ρ else p.ev env.ρ)))) w:=by rw[hb];cases mx <;>simp[builtin,Builtin.min_,Builtin.max_,Builtin.min2,Builtin.max2,hp,hq]
 cases c1:o9 F p q 0 with
 |true=>
  rw[c1] at h;cases h;have:=jy hF c1;refine⟨_,env,hr,?_⟩;cases mx with
  |true=>
   simp only[cond_true];have e:(if q.ev env.ρ>p.ev env.ρ then q.ev env.ρ else p.ev env.ρ)=q.ev env.ρ:=by split <;>omega
   rw[e];exact ja.xR hg rfl hqi
  |false=>
   simp only[cond_false];rw[if_neg oG];exact ja.xR hg rfl hpi
 |false=>
  rw[c1] at h;cases c2:o9 F q p 0 with
  |true=>
   rw[c2] at h;cases h;have:=jy hF c2;refine⟨_,env,hr,?_⟩;cases mx with
   |true=>
    simp only[cond_true];rw[if_neg oG];exact ja.xR hg rfl hpi
   |false=>
    simp only[cond_false];have e:(if q.ev env.ρ<p.ev env.ρ then q.ev env.ρ else p.ev env.ρ)=q.ev env.ρ:=by split <;>omega
    rw[e];exact ja.xR hg rfl hqi
  |false=>
   rw[c2] at h;cases c3:(out i p.s&&out i q.s) with
   |false=>rw[c3] at h;cases h
   |true=>
    rw[c3] at h;cases h;rw[a6] at c3;have hi0:(0:Nat)≠i:=by have:=hK.zero.1;omega
    have ep: ∀n,p.ev (fun s=>if s=i then n else env.ρ s)=p.ev env.ρ:=fun n=>by unfold E.ev;simp only[if_neg (nT c3.1)]
    have eq: ∀n,q.ev (fun s=>if s=i then n else env.ρ s)=q.ev env.ρ:=fun n=>by unfold E.ev;simp only[if_neg (nT c3.2)]
    have ei: ∀n,(⟨i,0⟩:E).ev (fun s=>if s=i then n else env.ρ s)=n:=fun n=>by simp[E.ev]
    cases mx with
    |true=>
     simp only[cond_true] at hr|-
     obtain⟨env',hp⟩:=ja.yQ (i:=i) (f:=[uC p ⟨i,0⟩ 0,uC q ⟨i,0⟩ 0]) (Cd:=[]) hK hg hi hB (n:=if q.ev env.ρ>p.ev env.ρ then q.ev env.ρ else p.ev env.ρ) (by split <;>assumption)
      (qG (nc.2 (by rw[ep,ei];split <;>omega)) (nc.2 (by rw[eq,ei];split <;>omega)))
     exact⟨_,env',hr,hp⟩
    |false=>
     simp only[cond_false] at hr|-
     obtain⟨env',hp⟩:=ja.yQ (i:=i) (f:=(uC ⟨i,0⟩ p 0::uC ⟨i,0⟩ q 0::cond (o9 F ⟨0,0⟩ p 0&&o9 F ⟨0,0⟩ q 0) [⟨0,i,0⟩] [])) (Cd:=[]) hK hg hi hB (n:=if q.ev env.ρ<p.ev env.ρ then q.ev env.ρ else p.ev env.ρ) (by split <;>assumption)
      (jD.2 ⟨nc.2 (by rw[ep,ei];split <;>omega),jD.2 ⟨nc.2 (by rw[eq,ei];split <;>omega),by
       cases c4:(o9 F ⟨0,0⟩ p 0&&o9 F ⟨0,0⟩ q 0) with
       |false=>exact fF _
       |true=>
        rw[a6] at c4;have k1:=jy hF c4.1;have k2:=jy hF c4.2;rw[show(⟨0,0⟩:E).ev env.ρ=0 by simp[E.ev,h0]] at k1 k2;refine wH ?_;show(if 0=i then _ else _)<=(if i=i then _ else _)+(0:Int);rw[if_neg hi0,if_pos rfl,h0];split <;>omega⟩⟩)
     exact⟨_,env',hr,hp⟩
include hT
theorem SU {f c:TypeId} (A:o.op=.convert f c x) (D:Good K env B w) (S:K.ng<=i) (R:uc B i)
  (q:OV K env sx (a.eval x)) (h:SS T i f c sx=some r): ∃v env',(execOp a.eval o).run P w=.ok (.value v) w/\ja K env B i w r v env' w:=by
 unfold SS at h;split at h;rotate_left
 ·cases h
 rename_i e1 e p Z;obtain⟨t,s,-⟩:=(hT f e1 p).SF;obtain⟨d,hu,U⟩:=(hT c e Z).SF;have l: ∀k b n,e.d=.nm k->a.eval x=.int b n->(execOp a.eval o).run P w=.ok (.value (.int k (k.wrap n))) w:=fun k b n H M=>by rw[H] at U;have F:d=.int k:=U;simp only[execOp,A,M];simp[convert,run_underlying s,run_underlying hu,F,Conv.intToInt,Result.andThen]
 have g: ∀b n,e.d=.nm .i64->a.eval x=.int b n-> ∃v env',(execOp a.eval o).run P w=.ok (.value v) w/\ja K env B i w (uQ ⟨i,0⟩) v env' w:=fun b n H M=>by obtain⟨env',N⟩:=ja.jZ (i:=i) hK D S R (yM n);exact⟨_,env',l _ _ _ H M,N⟩
 have j: ∀k b n,e.d=.nm k->a.eval x=.int b n-> ∃v env',(execOp a.eval o).run P w=.ok (.value v) w/\ja K env B i w (Om k) v env' w:=fun k b n H M=>
  ⟨_,env,l _ _ _ H M,ja.pK D ⟨_,rfl⟩ (fF _)⟩
 split at h
 ·rename_i F;cases h;obtain⟨n,m⟩:=q;exact g _ n F m
 ·rename_i F;cases h;exact g _ _ F q.1
 ·rename_i F;cases h;obtain⟨n,m⟩:=q;exact j _ _ n F m
 ·rename_i F;cases h;exact j _ _ _ F q.1
 ·cases h
theorem SY (A:o.op=.call {callee:=.builtin .copy,args:=args,argTypes:=ts}) (ai:ts.toList=[t,t]) (aa:args.toList=[x,y]) (D:Good K env B w) (S:K.ng<=i) (R:uc B i)
  (q:OV K env sx (a.eval x)) (Y:OV K env sy (a.eval y)) (h:SX K T i t sx sy=some r): ∃v env' w',(execOp a.eval o).run P w=.ok (.value v) w'/\ja K env B i w r v env' w':=by
 have h0:env.ρ 0=0:=by rw[D.gl 0 hK.zero.1,hK.zero.2]
 obtain rfl:ts= #[t,t]:=by cases ts;simp_all
 obtain rfl:args= #[x,y]:=by cases args;simp_all
 obtain⟨cs,W⟩:=tI (a:=a) A;have G: ∀v w',(Builtin.copy_ #[t,t] o.type #[a.eval x,a.eval y]).run P w=.ok v w'->(execOp a.eval o).run P w=.ok (.value v) w':=fun v w' C=>by rw[W];simp[builtin,C]
 unfold SX at h;split at h;rotate_left
 ·cases h
 rename_i Q l af O;split at h;rotate_left
 ·cases h
 rename_i z hz;obtain⟨el,C⟩:=rF hz;cases L:(Nat.beq Q af&&Nat.beq (K.pat Q).length 1) with
 |false=>rw[L] at h;cases h
 |true=>
  rw[L] at h;cases h;simp only[a6,nb] at L;obtain⟨rfl,c1⟩:=L;obtain⟨e,Z,F⟩:=C.sl;obtain⟨d,hu,U⟩:=(hT t e Z).SF;rw[F] at U;subst U;obtain⟨aA,J,I,h3,h4⟩:=(hT el z.1 C.Yo).info;have g:(P.info? el).map (·.size)=some 1:=by rw[J];simp[I,C.sz,c1]
  have M:jd K env Q (a.eval x) (l.ev env.ρ):=q;have V:jd K env Q (a.eval y) (O.ev env.ρ):=Y;generalize a.eval x=vx at M G;generalize a.eval y=vy at V G;have ae:=M;have aw:=V;obtain⟨as,n,c,rfl,s1,s2,s3,s4,-⟩:=M;obtain⟨ax,m,c',rfl,x1,x2,x3,x4,-⟩:=V;have done: ∀(k:Nat) (w':World),k<=n->Good K env B w'->Step env B w [] env w'->(Builtin.copy_ #[t,t] o.type #[.slice as n c,.slice ax m c']).run P w=.ok (goInt k) w'->
    ∃v env' w',(execOp a.eval o).run P w=.ok (.value v) w'/\ja K env B i w (uQ ⟨i,0⟩) v env' w':=by
   intro k w' H aj s hr;obtain⟨env',N⟩:=ja.jZ (i:=i) hK aj S R (n:=k) (by unfold kP;omega);refine⟨_,env',w',G _ _ hr,N.ext,N.kY,⟨?_,?_,?_,?_,?_,s.io.trans N.step.io⟩,N.tv,N.f⟩
   ·exact eZ s.sz N.step.sz
   ·intro b W hH H;rw[N.step.keep b (bP W s.sz) hH H];exact s.keep b W hH H
   ·intro b h;exact(N.step.Hn b h).elim .inl fun h=>.inr (eZ s.sz h)
   ·intro b c T f h;exact(N.step.hn b c T f h).elim .inl fun h=>.inr (eZ s.sz h)
   ·intro k h;exact absurd rfl h
  by_cases ak:Nat.min m n=0
  ·exact done 0 w oG D (Step.refl _ _ _ _ rfl rfl) (run_copy_none w t t _ el as ax n c m c' hu g ak)
  ·have ay:Nat.min m n=min m n:=rfl;cases as with
   |none=>have:=s4 rfl;omega
   |some ads=>
   cases ax with
   |none=>have:=x4 rfl;omega
   |some adx=>
   obtain⟨bs,os,zs,rfl,ag,az,ah,-,-,-,-⟩:=D.slice ae;obtain⟨⟨row,g1,g2,g3⟩,g4,-⟩:=D.hH bs Q zs ag;obtain⟨bx,ox,zx,rfl,-,-,-,-,-,-,hcx⟩:=D.slice aw;obtain⟨E,n1,n2,n3⟩:=hcx (min m n) oG;rw[c1,jR] at n1;rw[c1,jR] at ah;have hr:=run_copy_cells (P:=P) w t t o.type el bs os n c (pA bx ox) m c' E hu g n1 (fun j u hj=>by rw[add_lit];exact n2 j u hj) (fun j hj=>by
    rw[cell_of_row w _ _ _ _ _ g1];simp;omega) (fun j hj=>frozen_of_row w _ _ _ _ g1) (fun u aq=>by
    obtain⟨j,hj⟩:=gz.1 aq;obtain⟨p,-,N⟩:=n3 j u hj;exact PC.one hK N)
   obtain⟨X,s⟩:=D.Ds ag (o:=os) (vs:=E) (fun j u hj=>by obtain⟨p,p1,p2⟩:=n3 j u hj;refine⟨p,?_,p2⟩;rw[<-p1,c1,pC,pC]);exact done E _ oG X s hr
theorem Mg (A:o.op=.call {callee:=.builtin .append,args:=args,argTypes:=ts}) (ai:ts.toList=[t,t]) (aa:args.toList=[x,y]) (D:Good K env B w) (S:K.ng<=i) (R:uc B i) (V:ln env.ρ F)
  (q:OV K env sx (a.eval x)) (Y:OV K env sy (a.eval y)) (h:G2 K T F i t sx sy=some r): ∃v env' w',(execOp a.eval o).run P w=.ok (.value v) w'/\ja K env B i w r v env' w':=by
 have h0:env.ρ 0=0:=by rw[D.gl 0 hK.zero.1,hK.zero.2]
 obtain rfl:ts= #[t,t]:=by cases ts;simp_all
 obtain rfl:args= #[x,y]:=by cases args;simp_all
 obtain⟨cs,W⟩:=tI (a:=a) A;have N:(⟨0,500000000⟩:E).ev env.ρ=500000000:=by simp[E.ev,h0]
 have G: ∀v w',(Builtin.append_ #[t,t] o.type #[a.eval x,a.eval y]).run P w=.ok v w'->(execOp a.eval o).run P w=.ok (.value v) w':=fun v w' C=>by rw[W];simp[builtin,C]
 unfold G2 at h;split at h
 ·rename_i Q l af O;split at h;rotate_left
  ·cases h
  rename_i z hz;obtain⟨el,C⟩:=rF hz;cases L:(Hd K (K.pat Q) 0 z.1.zero.cells.toList&&Nat.beq Q af&&o9 F l ⟨0,500000000⟩ 0&&o9 F O ⟨0,500000000⟩ 0&&out i l.s&&out i O.s) with
  |false=>rw[L] at h;cases h
  |true=>
   rw[L] at h;cases h;simp only[a6,nb] at L;obtain⟨⟨⟨⟨⟨J,rfl⟩,c2⟩,c3⟩,c4⟩,c5⟩:=L;have c2:=jy V c2;have c3:=jy V c3;rw[N] at c2 c3;have ag:0<=l.ev env.ρ:=by obtain⟨_,n,_,_,I,_⟩:=q;omega
   have U:0<=O.ev env.ρ:=by obtain⟨_,n,_,_,I,_⟩:=Y;omega
   obtain⟨v,e,w',hr,ae,b,g,M⟩:=vw hT hK C J D (ty:=o.type) q Y oG oG;have c: ∃n,(Rz l O i).1.ev (fun s=>if s=i then n else env.ρ s)=l.ev env.ρ+O.ev env.ρ/\ln (fun s=>if s=i then n else env.ρ s) (Rz l O i).2:=by
    have k:(0:Nat)≠i:=by have:=hK.zero.1;omega
    have el: ∀n,l.ev (fun s=>if s=i then n else env.ρ s)=l.ev env.ρ:=fun n=>by unfold E.ev;simp only[if_neg (nT c4)]
    have j: ∀n,O.ev (fun s=>if s=i then n else env.ρ s)=O.ev env.ρ:=fun n=>by unfold E.ev;simp only[if_neg (nT c5)]
    have f: ∀n,(⟨i,0⟩:E).ev (fun s=>if s=i then n else env.ρ s)=n:=fun n=>by simp[E.ev]
    unfold Rz;cases X:Nat.beq O.s 0 with
    |true=>
     rw[nb] at X;refine⟨0,?_,fF _⟩;simp only[cond_true];have:O.ev env.ρ=O.c:=by unfold E.ev;rw[X,h0];omega
     rw[this];simp only[E.ev,if_neg (nT c4)];omega
    |false=>
     cases k2:Nat.beq l.s 0 with
     |true=>
      rw[nb] at k2;refine⟨0,?_,fF _⟩;simp only[cond_true,cond_false];have:l.ev env.ρ=l.c:=by unfold E.ev;rw[k2,h0];omega
      rw[this];simp only[E.ev,if_neg (nT c5)];omega
     |false=>
      simp only[cond_false];refine⟨l.ev env.ρ+O.ev env.ρ,f _,jD.2 ⟨nc.2 (by rw[el,f];omega),jD.2 ⟨nc.2 (by rw[j,f];omega),wH ?_⟩⟩⟩;show(if i=i then _ else _)<=(if 0=i then _ else _)+(1000000000:Int);rw[if_pos rfl,if_neg k,h0];omega
   obtain⟨n,m,p⟩:=c;have d:Ext (out i) {env with H:=e} {ρ:=fun s=>if s=i then n else env.ρ s,β:=env.β,H:=e,h:=env.h}:=
    ⟨fun s Z=>if_neg (nT Z),fun _ _=>rfl,fun _ _ h=>h,Sub.refl _⟩
   refine⟨v,{ρ:=fun s=>if s=i then n else env.ρ s,β:=env.β,H:=e,h:=env.h},w',G v w' hr,(ae.Pn fun _ _=>rfl).trans d,b.ids hK S R d rfl rfl,⟨g.sz,g.keep,g.Hn,g.hn,g.Bn,g.io⟩,?_,p⟩;show jd K _ Q v _;rw[m];exact M
 ·rename_i Q O;split at h;rotate_left
  ·cases h
  rename_i z hz;obtain⟨el,C⟩:=rF hz;cases L:(Hd K (K.pat Q) 0 z.1.zero.cells.toList&&o9 F O ⟨0,500000000⟩ 0) with
  |false=>rw[L] at h;cases h
  |true=>
   rw[L] at h;cases h;rw[a6] at L;obtain⟨J,L⟩:=L;have c2:=jy V L;rw[N] at c2;have u:jd K env Q (a.eval x) 0:=by rw[show a.eval x=_ from q];exact yR K env Q
   obtain⟨v,e,w',hr,ae,b,g,M⟩:=vw hT hK C J D (ty:=o.type) u Y oG oG;refine⟨v,_,w',G v w' hr,ae.Pn fun _ _=>rfl,b,g,?_,fF _⟩;rw[Int.zero_add] at M;exact M
 ·cases h
end
theorem J4: ∀{l:List Spec},Nk b ig F i a l=some r-> ∃d∈l,∃g,JI b ig F i a d g=some r
 | [],h=>by cases h
 |d::l,h=>by
  unfold Nk at h;split at h
  ·rename_i x q;cases h;exact⟨d,.head _,_,q⟩
  ·obtain⟨s,J,I⟩:=J4 h;exact⟨s,.tail _ J,I⟩
theorem SA {B:jM} {d:Spec} {g:Sg} (h:JI b ig F i a d g=some r) (W: ∀k∈r.Cd,ig k=B k):JI b B F i a d g=some r:=by
 have f:r.Cd=d.pre.map fun x=>J9 g x.1:=by
  unfold JI at h;generalize (Bt b d&&_&&_&&_&&_&&_&&_)=c at h;cases c with
  |false=>cases h
  |true=>cases h;rfl
 have e:zd ig F (LQ g) (J9 g) d.pre=zd B F (LQ g) (J9 g) d.pre:=by
  have: ∀l:Wr,(∀x∈l,ig (J9 g x.1)=B (J9 g x.1))->zd ig F (LQ g) (J9 g) l=zd B F (LQ g) (J9 g) l:=by
   intro l
   induction l with
   |nil=>intro _;rfl
   |cons x l ih=>
    intro hl;have J:=ih fun y Y=>hl y (.tail _ Y);unfold zd at J|-
    rw[gi,gi,J,hl x (.head _)]
  exact this _ fun x q=>W _ (by rw[f];exact fq.2 ⟨x,q,rfl⟩)
 unfold JI at h|-
 rw[<-e];exact h
theorem Ml {a:TV} (h:FF O (some a)=some r):r=⟨a,[],[],[]⟩\/ ∃Q,a=one .nil/\r=⟨one (.sl Q ⟨0,0⟩),[],[],[]⟩:=by
 unfold FF at h;split at h
 ·rename_i Q C;cases C;cases h;exact .inr ⟨Q,rfl,rfl⟩
 ·rename_i C _;cases C;cases h;exact .inl rfl
 ·rename_i C;cases C
section
variable {P:Program} {cx:Cx} (hcx:DZ P cx) {env:Env} {B ig:jM} {w:World} {i:Nat} {F:List LC} {a:Act} {o:Oper}
include hcx
theorem SR {f:Operand} (A:o.op=.call {callee:=.value f,args:=args,argTypes:=ts}) (D:Good cx.K env B w) (S:cx.K.ng<=i) (R:uc B i) (V:ln env.ρ F)
  (hl: ∀t,OV cx.K env (G g t) (a.tmps.getD t undef)) (h:SQ cx ig F i (uO (G g) f) (args.toList.map (uO (G g)))=some r) (W: ∀k∈r.Cd,ig k=B k):
  Yields P o a w fun v w'=> ∃env',ja cx.K env B i w r v env' w':=by
 have p:=fun x=>AH hcx.K D.gl (a:=a) hl x;unfold SQ at h;split at h;rotate_left
 ·cases h
 rename_i E xs ys H;have l:=p f;rw[H] at l;obtain⟨us,ws,M,s,y⟩:=l;obtain⟨d,U,K,Z⟩:=J4 h;have Z:=SA Z W;have n:=hcx.sp E d U;have m:xs.length=us.length:=s.get.1;have z:ys.length=ws.length:=y.get.1;refine .inr (.inr ⟨E,us.toArray++args.map a.eval++ws.toArray,w,?_,?_⟩)
 ·simp only[execOp,A,resolve,M,Deferred.ofValue];simp[invoke,n.1]
 ·refine Tu hcx.K n D S R V (by simp[m,z]) (fun j e v C b=>?_) Z;simp only[aar,Mn] at b;rw[gD,jG,fm] at C;rw[gD,jG] at b;split at C
  ·rename_i hj;rw[if_pos oG] at b;rw[fh] at C;cases q:xs[j]? with
   |none=>rw[q] at C;cases C
   |some x=>
    rw[q] at C;cases C;obtain⟨u,J,I⟩:=s.get.2 j x q;rw[J] at b;cases b;exact I
  ·rename_i hj;rw[if_neg oG,<-m] at b;rw[jG,fm] at C;rw[jG,fm] at b;split at C
   ·rename_i c;rw[if_pos c,fh] at b;rw[fh] at C;cases q:args.toList[j-xs.length]? with
    |none=>rw[q] at C;cases C
    |some x=>rw[q] at C b;cases C;cases b;exact p x
   ·rename_i c;rw[if_neg c] at b;rw[fh] at C;cases q:ys[j-xs.length-args.toList.length]? with
    |none=>rw[q] at C;cases C
    |some x=>
     rw[q] at C;cases C;obtain⟨u,J,I⟩:=y.get.2 _ x q;rw[J] at b;cases b;exact I
theorem Xf (D:Good cx.K env B w) (S:cx.K.ng<=i) (R:uc B i) (V:ln env.ρ F) (X:zL a g)
  (hl: ∀g t,zL a g->OV cx.K env (G g t) (a.tmps.getD t undef)) (h:xop cx G g ig F i O o.op=some r) (W: ∀k∈r.Cd,ig k=B k):
  Yields P o a w fun v w'=> ∃env',ja cx.K env B i w r v env' w':=by
 have h0:env.ρ 0=0:=by rw[D.gl 0 hcx.K.zero.1,hcx.K.zero.2]
 have p:=fun x=>AH hcx.K D.gl (a:=a) (fun t=>hl g t X) x;have val:(∃v env',(execOp a.eval o).run P w=.ok (.value v) w/\ja cx.K env B i w r v env' w)->Yields P o a w fun v w'=> ∃env',ja cx.K env B i w r v env' w':=by rintro⟨v,env',J,I⟩;exact .inl ⟨v,w,J,env',I⟩
 have Q:(∃v env' w',(execOp a.eval o).run P w=.ok (.value v) w'/\ja cx.K env B i w r v env' w')->Yields P o a w fun v w'=> ∃env',ja cx.K env B i w r v env' w':=by rintro⟨v,env',w',J,I⟩;exact .inl ⟨v,w',J,env',I⟩
 have mv: ∀x,execOp a.eval o=pure (.value (a.eval x))->FF O (uO (G g) x)=some r->Yields P o a w fun v w'=> ∃env',ja cx.K env B i w r v env' w':=fun x C U=>by
  have q:=p x;refine val ⟨a.eval x,env,by rw[C];rfl,?_⟩;cases Z:uO (G g) x with
  |none=>rw[Z,show FF O none=none by cases O <;>rfl] at U;cases U
  |some tv=>
   rw[Z] at U q
   rcases Ml U with rfl|⟨tg,rfl,rfl⟩
   ·exact ja.pK D q (fF _)
   ·refine ja.pK D ?_ (fF _);show jd cx.K env tg (a.eval x) ((⟨0,0⟩:E).ev env.ρ);rw[show a.eval x=_ from q,show(⟨0,0⟩:E).ev env.ρ=0 by simp[E.ev,h0]];exact yR _ _ _
 cases A:o.op with
 |move x=>rw[A] at h;exact mv x (by simp only[execOp,A]) h
 |assign x=>rw[A] at h;exact mv x (by simp only[execOp,A]) h
 |pick c x y=>
  rw[A] at h;obtain⟨v,J,I⟩:=S2 A hcx.K D X hl h;exact val ⟨v,env,J,I⟩
 |convert s d x=>rw[A] at h;exact val (SU hcx.T hcx.K A D S R (Ls hcx.K (p x)) h)
 |binOp op xT x y yT=>rw[A] at h;exact val (UU hcx.K A D S R V (Ls hcx.K (p x)) (Ls hcx.K (p y)) h)
 |unOp op xT x=>rw[A] at h;exact val (Xe hcx.K A D S R (p x) h)
 |load t x=>rw[A] at h;exact val (S0 hcx.T hcx.K A D S R (p x) h W)
 |store t x y=>
  rw[A] at h;obtain⟨w',J,I⟩:=Py hcx.T hcx.K (i:=i) A D V (p x) (p y) h W;exact .inr (.inl ⟨w',J,env,I⟩)
 |fieldAddr s x f=>rw[A] at h;exact val (Pw hcx.T A hcx.K D (p x) h)
 |indexAddr t x ix=>rw[A] at h;exact val (Px hcx.T hcx.K A D V (p x) (p ix) h)
 |alloc t=>rw[A] at h;exact Q (Pu hcx.T hcx.K A D S R h)
 |box t x=>rw[A] at h;exact Q (UW hcx.K A D S R (p x) h)
 |build t ps=>
  rw[A] at h;obtain⟨v,J,I⟩:=Pv hcx.T hcx.K (i:=i) A D (fun t=>hl g t X) h;exact val ⟨v,env,J,I⟩
 |buildSlice t n ps=>rw[A] at h;exact Q (J3 hcx.T hcx.K A D V (fun t=>hl g t X) h)
 |makeSlice t l c=>rw[A] at h;exact Q (Mk hcx.T hcx.K A D V (p l) (p c) h)
 |nilCheck x=>
  rw[A] at h;have q:=p x;have H:Xd (uO (G g) x)=some r:=h;unfold Xd at H;refine val ⟨a.eval x,env,?_⟩;split at H
  ·rename_i k f Z;cases H;rw[Z] at q;have N:a.eval x=_:=q;exact⟨by simp[execOp,A,N],ja.pK D q (fF _)⟩
  ·rename_i t f Z;cases H;rw[Z] at q;obtain⟨b,of,z,N,_⟩:=(show∃b o z,a.eval x=.pointer (pA b o)/\_ from q);exact⟨by simp[execOp,A,N],ja.pK D q (fF _)⟩
  ·rename_i t m f Z;cases H;rw[Z] at q;obtain⟨b,of,cs,N,_⟩:=(show∃b o cs,a.eval x=.pointer (pA b (o+f))/\_ from q);exact⟨by simp[execOp,A,N],ja.pK D q (fF _)⟩
  ·rename_i f xs ys Z;cases H;rw[Z] at q;obtain⟨us,ws,N,_⟩:=(show∃us ws:List Value,a.eval x=.func (.func f) us.toArray ws.toArray/\_ from q);exact⟨by simp[execOp,A,N],ja.pK D q (fF _)⟩
  ·cases H
 |extract x j=>
  rw[A] at h;have q:=p x;have H:Xb (uO (G g) x) j=some r:=h;unfold Xb at H;split at H
  ·rename_i l Z;rw[Z] at q;split at H
   ·rename_i c L;cases H;obtain⟨vs,M,aa⟩:=q;have: ∀(l:List CV) (vs:List Value) (j:Nat) c,uD cx.K env l vs->l[j]? =some c-> ∃v,vs[j]? =some v/\c.ok cx.K env v:=by
     intro l
     induction l with
     |nil=>intro vs j c _ h;simp at h
     |cons y l ih=>
      intro vs j c aa hj;cases vs with
      |nil=>exact aa.elim
      |cons u vs=>
       cases j with
       |zero=>simp at hj;subst hj;exact⟨u,rfl,aa.1⟩
       |succ j=>simpa using ih vs j c aa.2 (by simpa using hj)
    obtain⟨u,J,I⟩:=this l vs j c aa L;exact val ⟨u,env,by simp[execOp,A,M,Instr.extract,J],ja.pK D I (fF _)⟩
   ·cases H
  ·cases H
 |makeFunc fn xs ys=>
  rw[A] at h;cases fn with
  |func f=>
   have H:(match Ct (xs.toList.map (uO (G g))),Ct (ys.toList.map (uO (G g))) with
    |some us,some ws=>some (⟨.cv (.one (.cl f us ws)),[],[],[]⟩:sZ)
    |_,_=>none)=some r:=h
   replace h:=H;split at h
   ·rename_i us ws J I;cases h;have b1:=Cu (env:=env) (K:=cx.K) (vs:=xs.toList.map a.eval) J sI (fun j e v C M=>by
     rw[fh] at C M;cases q:xs.toList[j]? with
     |none=>rw[q] at C;cases C
     |some x=>rw[q] at C M;cases C;cases M;exact p x)
    have b2:=Cu (env:=env) (K:=cx.K) (vs:=ys.toList.map a.eval) I sI (fun j e v C M=>by
     rw[fh] at C M;cases q:ys.toList[j]? with
     |none=>rw[q] at C;cases C
     |some x=>rw[q] at C M;cases C;cases M;exact p x)
    refine val ⟨.func (.func f) (xs.map a.eval) (ys.map a.eval),env,by simp[execOp,A,Instr.makeFunc],ja.pK D ⟨_,_,?_,b1,b2⟩ (fF _)⟩;have e1: ∀z:Array Operand,(z.toList.map a.eval).toArray=z.map a.eval:=fun z=>by rw[<-Mn]
    rw[e1,e1]
   ·cases h
  |_=>cases h
 |call c=>
  rw[A] at h;obtain⟨callee,args,ts⟩:=c;cases callee with
  |value f=>exact SR hcx A D S R V (fun t=>hl g t X) h W
  |invoke r n=>cases h
  |builtin b=>
   have H:DS cx F i b ts.toList (args.toList.map (uO (G g)))=some r:=h;unfold DS at H;have ae: ∀{s1 s2:Option TV},args.toList.map (uO (G g))=[s1,s2]-> ∃x y,args.toList=[x,y]/\OV cx.K env s1 (a.eval x)/\OV cx.K env s2 (a.eval y):=fun{s1 s2} e=>by
    match U:args.toList,e with
    | [x,y],e=>simp at e;exact⟨x,y,rfl,e.1▸p x,e.2▸p y⟩
   split at H
   ·rename_i t sx e1 T
    match U:args.toList,T with
    | [x],T=>
     simp at T;exact val (UX hcx.K hcx.T A e1 U D (by rw[<-T];exact p x) H)
   ·rename_i t t' s1 s2 e1 T;obtain⟨x,y,e3,q,Y⟩:=ae T;cases L:Nat.beq t t' with
    |false=>rw[L] at H;cases H
    |true=>
     rw[L] at H;rw[nb] at L;subst L;exact Q (Mg hcx.T hcx.K A e1 e3 D S R V q Y H)
   ·rename_i t t' s1 s2 e1 T;obtain⟨x,y,e3,q,Y⟩:=ae T;cases L:Nat.beq t t' with
    |false=>rw[L] at H;cases H
    |true=>
     rw[L] at H;rw[nb] at L;subst L;exact Q (SY hcx.T hcx.K A e1 e3 D S R q Y H)
   ·rename_i s1 s2 T;obtain⟨x,y,e3,q,Y⟩:=ae T;exact val (Nj (mx:=false) hcx.K A e3 D S R V q Y H)
   ·rename_i s1 s2 T;obtain⟨x,y,e3,q,Y⟩:=ae T;exact val (Nj (mx:=true) hcx.K A e3 D S R V q Y H)
   ·cases H
 |_=>rw[A] at h;cases h
end
end Ra
namespace Ra
open Go
def lw {α:Type} (f:Nat->Option α) (p:Nat->Bool) (init:α):Nat->α
 |0=>init
 |n+1=>cond (p n) (match f n with|some v=>v|none=>lw f p init n) (lw f p init n)
def ur {α:Type} {f:Nat->Option α} {p q:Nat->Bool} {init:α}: ∀{n:Nat},(∀i,i<n->(q i=p i\/f i=none))->lw f q init n=lw f p init n
 |0,_=>rfl
 |n+1,h=>by
  have ih:=ur (n:=n) (f:=f) (p:=p) (q:=q) (init:=init) fun i hi=>h i (by omega);unfold lw
  rcases h n oG with h1|h1
  ·rw[h1,ih]
  ·rw[h1,ih];cases q n <;>cases p n <;>rfl
def KX {α:Type} {f:Nat->Option α} {p q:Nat->Bool} {init:α} {j:Nat} {v:α} (c: ∀i,i≠j->q i=p i) (d:q j=true) (a:f j=some v): ∀{n:Nat},j<n->(∀i,i<n->i≠j->p i=true->f i=none\/i<j)->lw f q init n=v
 |0,h,_=>by omega
 |n+1,h,hl=>by
  unfold lw;by_cases l:n=j
  ·subst l;rw[d,a];rfl
  ·have e:=KX (init:=init) c d a (n:=n) (by omega) fun i A=>hl i (by omega);rw[c n l];cases b:p n with
   |false=>exact e
   |true=>
    rcases hl n oG l b with h1|h1
    ·rw[h1];exact e
    ·omega
def MN {f:Nat->Option α} {q:Nat->Bool} {init:α} {j:Nat} (c: ∀i,i≠j->q i=p i) (a:f j=none) (n:Nat):lw f q init n=lw f p init n:=
 ur fun i _=>if h:i=j then .inr (h▸a) else .inl (c i h)
def Gk {f:Nat->Option (Option α)} {init:Option α} {x:α}: ∀{n:Nat},lw f p init n=some x->init=some x\/ ∃i,i<n/\p i=true/\f i=some (some x)
 |0,h=>.inl h
 |n+1,h=>by
  unfold lw at h;cases b:p n with
  |false=>
   rw[b] at h
   rcases Gk h with h1|⟨i,h1,h2⟩
   ·exact .inl h1
   ·exact .inr ⟨i,oG,h2⟩
  |true=>
   rw[b] at h;simp only[cond_true] at h;cases a:f n with
   |none=>
    rw[a] at h
    rcases Gk h with h1|⟨i,h1,h2⟩
    ·exact .inl h1
    ·exact .inr ⟨i,oG,h2⟩
   |some v=>rw[a] at h;exact .inr ⟨n,oG,b,by rw[a];exact congrArg _ h⟩
structure ub where
 g:Gd
 d:Option Nat
 r:sZ
 rd:List Nat
structure St where
 n:Nat
 sl:List (Option TV)
 B:Wr
 F:List LC
 W:List Nat
def gEq:Gd->Gd->Bool
 |some (s,b),some (s',b')=>Nat.beq s s'&&(b==b')
 |none,none=>true
 |_,_=>false
def Wd {a b:Gd} (h:gEq a b=true):a=b:=by
 unfold gEq at h;split at h
 ·rw[a6,nb,beq_iff_eq] at h;rw[h.1,h.2]
 ·rfl
 ·cases h
def Ip (e:Gd) (g:Gd):Bool:=match e with
 |none=>true
 |some _=>gEq e g
def LS (xs:List ub) (g:Gd) (t i:Nat):Option (Option TV):=match xs[i]? with
 |some e=>match e.d with
  |some d=>cond (Nat.beq d t) (some (cond (Ip e.g g) (some e.r.tv) none)) none
  |none=>none
 |none=>none
def mg (S:St) (xs:List ub) (n:Nat) (D:Nat->Bool) (g:Gd) (t:Nat):Option TV:=lw (LS xs g t) D (S.sl.getD t none) n
def Tt (xs:List ub) (k i:Nat):Option (Option (TypeId×List BV)):=match xs[i]? with
 |some e=>match lk e.r.wr k with
  |some x=>some (some x)
  |none=>none
 |none=>none
def te (S:St) (xs:List ub) (n:Nat) (D:Nat->Bool) (k:Nat):Option (TypeId×List BV):=lw (Tt xs k) D (lk S.B k) n
def tb (m i:Nat):Bool:=Nat.beq (Nat.land (Nat.shiftRight m i) 1) 1
def qx (xs:List ub) (g:Gd) (D:Nat->Bool):Nat->List LC
 |0=>[]
 |n+1=>cond (D n) (match xs[n]? with
  |some e=>cond (Ip e.g g) (e.r.f++qx xs g D n) (qx xs g D n)
  |none=>qx xs g D n) (qx xs g D n)
def uP (o:Oper):List Nat:=o.op.operands.toList.filterMap fun
 | .tmp t=>some t
 |_=>none
def isW (l:List (Nat×Nat)) (d:Option Nat):Option Nat:=match d with
 |some t=>lk l t
 |none=>none
def gWr:Gd->Wr->Bool
 |none,_=>true
 |some _,wr=>wr.isEmpty
def gRd:Gd->List Nat->List Nat
 |none,rd=>rd
 |some (s,_),rd=>s::rd
def gFs (x:Nat->Option TV):Gd->List LC
 |none=>[]
 |some (s,b)=>match FU (x s) with
  |some p=>cond b p.1 p.2
  |none=>[]
def Vt (xs:List ub) (m:Nat):Option (Nat×Bool)->Option Gd
 |none=>some none
 |some (r,b)=>match xs[r]? with
  |some e=>match e.d with
   |some s=>cond (tb m r) (some (some (s,b))) none
   |none=>none
  |none=>none
def Ep (a:Cx) (d:List (Nat×Nat)) (S:St) (xs:List ub) (m j:Nat) (o:Oper):Option ub:=
 match Vt xs m o.guard with
 |none=>none
 |some g=>
  match xop a (fun b t=>cond ((uP o).any (Nat.beq t)) (mg S xs j (tb m) b t) none) g (te S xs j (tb m)) (gFs (mg S xs j (tb m) none) g++qx xs g (tb m) j++S.F) (S.n+32*j) (isW d o.dst) o.op with
  |some r=>cond (gWr g r.wr) (some ⟨g,o.dst,r,gRd g (uP o)⟩) none
  |none=>none
def indep (a b:ub):Bool:=
 (match a.d with
 |some d=> !b.rd.any (Nat.beq d)&&(match b.d with
  |some d'=> !Nat.beq d d'
  |none=>true)
 |none=>true)&&a.r.wr.all fun x=> !b.r.Cd.any (Nat.beq x.1)&&(lk b.r.wr x.1).isNone
def pid (S:St) (m j:Nat) (s:Nat):Bool:=Nat.blt s S.n||(Nat.beq ((s-S.n)/32) j||tb m ((s-S.n)/32))
def xK (p:Nat->Bool) (e:ub):Bool:=e.r.tv.all p&&e.r.f.all (LC.all p)&&e.r.wr.all fun x=>p x.1&&x.2.2.all (BV.all p)
def C7 (n s:Nat):Bool:=Nat.blt s n
def zo (S:St):Bool:=S.sl.all (fun x=>match x with
 |some tv=>tv.all (C7 S.n)
 |none=>true)&&S.B.all (fun x=>C7 S.n x.1&&x.2.2.all (BV.all (C7 S.n)))&&S.F.all (LC.all (C7 S.n))
structure Fr (env0:Env) (B0:jM) (w0:World) (n0:Nat) (eb:Nat->Int) (nq:Nat) (W:List Nat) (env:Env) (B:jM) (w:World):Prop where
 sz:w0.heap.size<=w
 ext:Ext (C7 n0) env0 env
 keep: ∀b,b<w0.heap.size->env0.H b=none->(∀k∈W,B0 k≠none->env0.β k≠b)->w.heap[b]? =w0.heap[b]?
 Hn: ∀b,env.H b≠none->env0.H b≠none\/w0.heap.size<=b
 hn: ∀b c T f,env.h.heap[b]? =some (.cells c T f)->env0.h.heap[b]? =some (.cells c T f)\/w0.heap.size<=b
 Bn: ∀k,B k≠none->B0 k≠none\/w0.heap.size<=env.β k
 B0: ∀k,B0 k≠none->k<n0
 bs: ∀s,s<nq->env.ρ s=eb s
 io:S9 w0 w
def Fr.step {env0:Env} {B0 B:jM} {w0 w w':World} {p q i:Nat} {r:Nat->Int} {W:List Nat} {env env':Env} {wr:Wr} (h:Fr env0 B0 w0 p r q W env B w) (d:Step env B w wr env' w') (o:Ext (out i) env env') (A:p<=i) (C:q<=i) (v: ∀k,B k≠none->out i k=true)
  (hW: ∀k,lk wr k≠none->B0 k≠none->k∈W):Fr env0 B0 w0 p r q W env' (wU B wr) w':=by
 refine⟨eZ h.sz d.sz,h.ext.trans (o.Pn fun s d=>by unfold C7 at d;rw[fT] at d;exact nf.2 (.inl oG)),fun b u t g=>?_,fun b l=>?_,fun b c T f y=>?_,fun k g=>?_,h.B0,fun s m=>(o.ρ s (nf.2 (.inl oG))).trans (h.bs s m),h.io.trans d.io⟩
 ·rw[d.keep b (bP u h.sz) ?_ ?_]
  ·exact h.keep b u t g
  ·cases j:env.H b with
   |none=>rfl
   |some x=>
    rcases h.Hn b (by rw[j];simp) with h1|h1
    ·exact absurd t h1
    ·omega
  ·intro k n a z
   rcases h.Bn k a with h1|h1
   ·exact g k (hW k n h1) h1 (by rw[<-z];exact(h.ext.β k (by unfold C7;rw[fT];exact h.B0 k h1)).symm)
   ·omega
 ·rcases d.Hn b l with h1|h1
  ·exact h.Hn b h1
  ·exact .inr (eZ h.sz h1)
 ·rcases d.hn b c T f y with h1|h1
  ·exact h.hn b c T f h1
  ·exact .inr (eZ h.sz h1)
 ·by_cases a:B k=none
  ·have n:lk wr k≠none:=fun e=>by rw[qg e] at g;exact g a
   exact .inr (eZ h.sz (d.Bn k n a))
  ·rcases h.Bn k a with h1|h1
   ·exact .inl h1
   ·exact .inr (by rw[o.β k (v k a)];exact h1)
structure FN (cx:Cx) (env0:Env) (B0:jM) (w0:World) (n0:Nat) (eb:Nat->Int) (nq:Nat) (W:List Nat) (S:St) (xs:List ub) (n:Nat) (D:Nat->Bool) (a:Act) (w:World) (env:Env):Prop where
 gd:Good cx.K env (te S xs n D) w
 sl: ∀g t,zL a g->OV cx.K env (mg S xs n D g t) (a.tmps.getD t undef)
 F:ln env.ρ S.F
 f: ∀i e,i<n->D i=true->xs[i]? =some e->zL a e.g->ln env.ρ e.r.f
 fr:Fr env0 B0 w0 n0 eb nq W env (te S xs n D) w
 df:a.defers=[]
 ts:a.tmps.size=S.sl
end Ra
namespace Ra
open Go
variable {q:Nat->Bool} {S:St} {b e:ub} {d m t:Nat} {g:Gd} {xs:List ub}
theorem BV.kA (h: ∀s,p s=true->q s=true) {x:BV} (d:x.all p=true):x.all q=true:=by
 cases x with
 |int e=>exact h _ d
 |sl t l=>exact h _ d
 |tr t l m=>
  simp only[BV.all,a6] at d|-
  exact⟨h _ d.1,h _ d.2⟩
 |ptr k o=>exact h _ d
 |pr t m o=>exact h _ d
 |_=>rfl
theorem jH.kA (h: ∀s,p s=true->q s=true) {x:List BV} (d:x.all (BV.all p)=true):x.all (BV.all q)=true:=
 dT.2 fun y a=>BV.kA h (dT.1 d y a)
theorem bQ.kA (h: ∀s,p s=true->q s=true) {x:List LC} (d:x.all (LC.all p)=true):x.all (LC.all q)=true:=
 dT.2 fun y a=>by
  have:=dT.1 d y a;simp only[LC.all,a6] at this|-
  exact⟨h _ this.1,h _ this.2⟩
theorem CV.kA (h: ∀s,p s=true->q s=true) {x:CV} (d:x.all p=true):x.all q=true:=by
 cases x with
 |agg l=>exact jH.kA h d
 |one s=>
  cases s with
  |bv x=>exact BV.kA h d
  |bl a b=>
   simp only[CV.all,SV.all,a6] at d|-
   exact⟨bQ.kA h d.1,bQ.kA h d.2⟩
  |cl f xs ys=>
   simp only[CV.all,SV.all,a6] at d|-
   exact⟨jH.kA h d.1,jH.kA h d.2⟩
theorem TV.kA (h: ∀s,p s=true->q s=true) {x:TV} (d:x.all p=true):x.all q=true:=by
 cases x with
 |cv c=>exact CV.kA h d
 |uY l=>exact dT.2 fun y a=>CV.kA h (dT.1 d y a)
structure Xw (S:St) (ms:Nat->Nat) (xs:List ub) (j:Nat) (o:Oper) (e:ub):Prop where
 d:e.d=o.dst
 lt: ∀d,e.d=some d->d<S.sl.length
 ids:xK (pid S (ms j) j) e=true
 Vo: ∀i,tb (ms j) i=true->i<j
 gd: ∀s b,e.g=some (s,b)-> ∀i e',xs[i]? =some e'->e'.d=some s->tb (ms j) i=true
structure Mw (cx:Cx) (hs:List (Nat×Nat)) (S:St) (xs:List ub) (ops:Array Oper) (ms:Nat->Nat):Prop where
 len:xs.length=ops.size
 ng:cx.K.ng<=S.n
 all:zo S=true
 TH: ∀j o e,ops[j]? =some o->xs[j]? =some e->Ep cx hs S xs (ms j) j o=some e
 ok: ∀j o e,ops[j]? =some o->xs[j]? =some e->Xw S ms xs j o e
theorem FG {cx:Cx} {hs:List (Nat×Nat)} {o:Oper} (h:Ep cx hs S xs m j o=some e):
  Vt xs m o.guard=some e.g/\e.d=o.dst/\gWr e.g e.r.wr=true/\e.rd=gRd e.g (uP o)/\
   xop cx (fun c t=>cond ((uP o).any (Nat.beq t)) (mg S xs j (tb m) c t) none) e.g (te S xs j (tb m)) (gFs (mg S xs j (tb m) none) e.g++qx xs e.g (tb m) j++S.F) (S.n+32*j) (isW hs o.dst) o.op=some e.r:=by
 unfold Ep at h;split at h
 ·cases h
 rename_i g b;split at h;rotate_left
 ·cases h
 rename_i r d;cases a:gWr g r.wr with
 |false=>rw[a] at h;cases h
 |true=>rw[a] at h;cases h;exact⟨b,rfl,a,rfl,d⟩
theorem Io {q:Option (Nat×Bool)} (h:Vt xs m q=some g):(q=none/\g=none)\/ ∃r b e s,q=some (r,b)/\xs[r]? =some e/\e.d=some s/\tb m r=true/\g=some (s,b):=by
 unfold Vt at h;split at h
 ·cases h;exact .inl ⟨rfl,rfl⟩
 ·rename_i r b;split at h
  ·rename_i e d;split at h
   ·rename_i s c;cases a:tb m r with
    |false=>rw[a] at h;cases h
    |true=>rw[a] at h;cases h;exact .inr ⟨r,b,e,s,rfl,d,c,a,rfl⟩
   ·cases h
  ·cases h
theorem xO {f:LC}: ∀{n:Nat},f∈qx xs g D n-> ∃i e,i<n/\D i=true/\xs[i]? =some e/\Ip e.g g=true/\f∈e.r.f
 |0,h=>by cases h
 |n+1,h=>by
  unfold qx at h;have a:f∈qx xs g D n-> ∃i e,i<n+1/\D i=true/\xs[i]? =some e/\Ip e.g g=true/\f∈e.r.f:=fun h=>by obtain⟨i,e,k,j⟩:=xO h;exact⟨i,e,oG,j⟩
  cases c:D n with
  |false=>rw[c] at h;exact a h
  |true=>
   rw[c] at h;simp only[cond_true] at h;cases d:xs[n]? with
   |none=>rw[d] at h;exact a h
   |some e=>
    rw[d] at h;dsimp only at h;cases b:Ip e.g g with
    |false=>rw[b] at h;exact a h
    |true=>
     rw[b] at h
     rcases fO.1 h with h|h
     ·exact⟨n,e,oG,c,d,b,h⟩
     ·exact a h
theorem zL.of {e:Gd} (h:Ip e g=true) (b:zL a g):zL a e:=by
 unfold Ip at h;cases e with
 |none=>trivial
 |some q=>rw[Wd h];exact b
theorem Uk (h:pid S m i s=true) (b:D i=true) (g: ∀k,tb m k=true->D k=true) (a:D j=false):out (S.n+32*j) s=true:=by
 unfold pid at h;rw[hU,hU,fT,nb] at h;rw[nf]
 rcases h with h|h|h
 ·exact .inl oG
 ·have:(s-S.n)/32≠j:=fun e=>by rw[h] at e;subst e;rw[b] at a;cases a
  omega
 ·have:(s-S.n)/32≠j:=fun e=>by have:=g _ h;rw[e,a] at this;cases this
  omega
theorem Qv {v:Value} (c:d<a.tmps.size) (t:Nat):(a.put (some d) v).tmps.getD t undef=if t=d then v else a.tmps.getD t undef:=by
 show(a.tmps.setIfInBounds d v).getD t undef=_;by_cases h:t=d
 ·subst h;simp[c]
 ·rw[if_neg h];simp only[iS];rw[iQ (jN h)]
section
variable {P:Program} {cx:Cx} (hcx:DZ P cx) {hs:List (Nat×Nat)} {S:St} {xs:List ub} {ops:Array Oper} {ms:Nat->Nat} {env0:Env} {B0:jM} {w0:World} {n0:Nat} {W:List Nat} {Q:Exit->Act->World->Prop}
theorem UG (h:zo S=true) {b:TV} (a:S.sl.getD t none=some b):b.all (C7 S.n)=true:=by
 unfold zo at h;simp only[a6,dT] at h;have g:some b∈S.sl:=by
  rw[gR] at a;cases d:S.sl[t]? with
  |none=>rw[d] at a;cases a
  |some x=>rw[d] at a;simp at a;subst a;exact a8 d
 exact h.1.1 _ g
theorem WV (h:zo S=true) {x:TypeId×List BV} (a:lk S.B k=some x):C7 S.n k=true/\x.2.all (BV.all (C7 S.n))=true:=by unfold zo at h;simp only[a6,dT] at h;have:=h.1.2 _ (oR a);exact⟨this.1,dT.2 this.2⟩
theorem aca (h:zo S=true):S.F.all (LC.all (C7 S.n))=true:=by unfold zo at h;simp only[a6] at h;exact h.2
theorem Gi (h:C7 S.n s=true):out (S.n+32*j) s=true:=by unfold C7 at h;rw[fT] at h;rw[nf];exact .inl oG
theorem zj {x:Option TV} (h:LS xs g t i=some x): ∃e,xs[i]? =some e/\e.d=some t/\x=cond (Ip e.g g) (some e.r.tv) none:=by
 unfold LS at h;split at h
 ·rename_i e f;split at h
  ·rename_i d c;cases a:Nat.beq d t with
   |false=>rw[a] at h;cases h
   |true=>rw[a] at h;cases h;rw[nb] at a;subst a;exact⟨e,f,c,rfl⟩
  ·cases h
 ·cases h
theorem WI (f:xs[i]? =some e) (c:e.d=some t):LS xs g t i=some (cond (Ip e.g g) (some e.r.tv) none):=by unfold LS;rw[f];dsimp only;rw[c];dsimp only;rw[jJ];rfl
theorem yD {x:Option (TypeId×List BV)} (h:Tt xs k i=some x): ∃e y,xs[i]? =some e/\lk e.r.wr k=some y/\x=some y:=by
 unfold Tt at h;split at h
 ·rename_i e f;split at h
  ·rename_i y a;cases h;exact⟨e,y,f,a,rfl⟩
  ·cases h
 ·cases h
theorem EW {a:ub} (h:indep a b=true) (c:a.d=some d):d∉b.rd/\b.d≠some d:=by unfold indep at h;rw[a6,c] at h;obtain⟨h,-⟩:=h;simp only[a6,ql,J6] at h;refine⟨fun g=>by have:=h.1 d g;rw[nb] at this;exact this rfl,fun f=>?_⟩;rw[f] at h;have:=h.2;simp only[jJ] at this;simp at this
theorem Iz {a:ub} (h:indep a b=true) (d:lk a.r.wr k≠none):k∉b.r.Cd/\lk b.r.wr k=none:=by
 unfold indep at h;rw[a6] at h;obtain⟨-,h⟩:=h;cases c:lk a.r.wr k with
 |none=>exact absurd c d
 |some y=>
  have:=dT.1 h _ (oR c);simp only[a6,ql,J6,wY] at this;exact⟨fun g=>by have j:=this.1 k g;rw[nb] at j;exact j rfl,this.2⟩
theorem II {α:Type} {f:Nat->Option (Option α)} {init:Option α} {n:Nat} {x:α} (h:lw f p init n=some x):init=some x\/ ∃i,i<n/\p i=true/\f i=some (some x):=Gk h
end
end Ra
namespace Ra
open Go
section
variable {P:Program} {cx:Cx} (hcx:DZ P cx) {hs:List (Nat×Nat)} {S:St} {xs:List ub} {ops:Array Oper} {ms:Nat->Nat} {env0:Env} {B0:jM} {w0:World} {n0 nq:Nat} {eb:Nat->Int} {W:List Nat} {Q:Exit->Act->World->Prop}
def vu (D:Nat->Bool) (j:Nat):Nat->Bool:=fun i=>D i||Nat.beq i j
theorem pj {i:Nat} (h:i≠j):vu D j i=D i:=by
 unfold vu;cases I:Nat.beq i j with
 |true=>rw[nb] at I;exact absurd I h
 |false=>simp
theorem qX:vu D j j=true:=by unfold vu;rw[jJ];simp
theorem zL.R3 {d:Option Nat} {v:Value} {s:Nat} {b:Bool} (h:d≠some s):zL (a.put d v) (some (s,b))↔zL a (some (s,b)):=by
 cases d with
 |none=>exact oF
 |some d=>
  have ah:d≠s:=fun e=>h (by rw[e]);show(a.tmps.setIfInBounds d v).getD s undef=_↔_;simp only[iS];rw[iQ ah];simp only[zL,iS]
theorem KY {α:Type} {f:Nat->Option α} {p:Nat->Bool} {init:α} {n:Nat} (L: ∀i,p i=true->i<n): ∀{m:Nat},n<=m->lw f p init m=lw f p init n
 |0,h=>by obtain rfl:n=0:=oG;rfl
 |m+1,h=>by
  by_cases b:n=m+1
  ·rw[b]
  ·have c:=KY L (f:=f) (init:=init) (m:=m) oG;rw[<-c]
   conv=>lhs;unfold lw
   cases a:p m with
   |false=>rfl
   |true=>have:=L m a;omega
include hcx
theorem VN (l:Mw cx hs S xs ops ms) (aW:n0<=S.n) (aX:nq<=S.n) {o:Oper} {e:ub} (ho:ops[j]? =some o) (he:xs[j]? =some e) (hj:D j=false) (hD: ∀i,tb (ms j) i=true->D i=true)
  (aI: ∀i,D i=true-> ∀k,tb (ms i) k=true->D k=true) (aP: ∀i,D i=true->i<ops.size) (Y: ∀i U,xs[i]? =some U->D i=true->tb (ms j) i=false->indep U e=true)
  (hW: ∀e∈xs,∀x∈e.r.wr,x.1<n0->x.1∈W) {w:World} {env:Env} (h:FN cx env0 B0 w0 n0 eb nq W S xs ops.size D a w env):
  wpOp P ops Q j (fun a' w'=> ∃env',FN cx env0 B0 w0 n0 eb nq W S xs ops.size (vu D j) a' w' env') a w:=by
 have O:=l.ok j o e ho he;obtain⟨aK,aJ,aL,az,aN⟩:=FG (l.TH j o e ho he);have ak:j<ops.size:=(aah.1 ho).1;have ay: ∀i,D i=true-> ∃oi m,ops[i]? =some oi/\xs[i]? =some m:=fun i C=>by have:=aP i C;exact⟨ops[i],xs[i]'(by rw[l.len];exact this),fM this,fp _⟩
 have af: ∀i m,D i=true->xs[i]? =some m->xK (out (S.n+32*j)) m=true:=fun i m C E=>by
  obtain⟨oi,_,c,_⟩:=ay i C;have:=(l.ok i oi m c E).ids;unfold xK at this|-
  simp only[a6,dT] at this|-
  have L: ∀s,pid S (ms i) i s=true->out (S.n+32*j) s=true:=fun s hs=>Uk hs C (aI i C) hj;exact⟨⟨TV.kA L this.1.1,fun f hf=>dT.1 (bQ.kA L (dT.2 this.1.2)) f hf⟩,fun x E=>⟨L _ (this.2 x E).1,fun y hy=>BV.kA L ((this.2 x E).2 y hy)⟩⟩
 have X: ∀i m s b,D i=true->xs[i]? =some m->m.g=some (s,b)->e.d≠some s:=fun i m s b C E A M=>by obtain⟨oi,_,c,_⟩:=ay i C;have:=(l.ok i oi m c E).gd s b A j e he M;rw[aI i C j this] at hj;cases hj
 have aF: ∀s b,e.g=some (s,b)->e.d≠some s:=fun s b A M=>by have:=O.gd s b A j e he M;have:=O.Vo j this;omega
 have aa:uc (te S xs ops.size D) (S.n+32*j):=fun k T ys hk=>by
  rcases II hk with c|⟨i,c,u,h3⟩
  ·have:=WV l.all c;exact⟨Gi this.1,jH.kA (fun s hs=>Gi hs) this.2⟩
  ·obtain⟨m,y,h4,h5,h6⟩:=yD h3;cases h6;have:=af i m u h4;unfold xK at this;simp only[a6,dT] at this;have:=this.2 _ (oR h5);exact⟨this.1,dT.2 this.2⟩
 have G: ∀g t,e.d≠some t->mg S xs ops.size (vu D j) g t=mg S xs ops.size D g t:=fun g t ht=>by
  refine MN (fun i C=>pj C) ?_ _;cases E:LS xs g t j with
  |none=>rfl
  |some x=>
   obtain⟨U,c,u,_⟩:=zj E;rw[he] at c;cases c;exact absurd u ht
 have Z: ∀g t,e.d=some t->mg S xs ops.size (vu D j) g t=cond (Ip e.g g) (some e.r.tv) none:=fun g t ht=>
  KX (fun i C=>pj C) qX (WI he ht) ak fun i C N B=>by
   cases E:LS xs g t i with
   |none=>exact .inl rfl
   |some x=>
    obtain⟨U,c,u,_⟩:=zj E;cases I:tb (ms j) i with
    |true=>exact .inr (O.Vo i I)
    |false=>exact absurd ht (EW (Y i U c B I) u).2
 have K: ∀s b t,e.d=some s->mg S xs ops.size D (some (s,b)) t=mg S xs ops.size D none t:=fun s b t hs=>by
  unfold mg;have: ∀n,n<=ops.size->lw (LS xs (some (s,b)) t) D (S.sl.getD t none) n=lw (LS xs none t) D (S.sl.getD t none) n:=by
   intro n
   induction n with
   |zero=>intro _;rfl
   |succ n ih=>
    intro hn;unfold lw;rw[ih oG];cases aG:D n with
    |false=>rfl
    |true=>
     have:LS xs (some (s,b)) t n=LS xs none t n:=by
      unfold LS;cases E:xs[n]? with
      |none=>rfl
      |some m=>
       have:Ip m.g (some (s,b))=Ip m.g none:=by
        cases A:m.g with
        |none=>rfl
        |some q=>
         obtain⟨s',b'⟩:=q;have ah:s'≠s:=fun U=>X n m s' b' aG E A (by rw[hs,U]);have c:Nat.beq s' s=false:=by
          cases I:Nat.beq s' s with
          |true=>rw[nb] at I;exact absurd I ah
          |false=>rfl
         simp[Ip,gEq,c]
       dsimp only;rw[this]
     rw[this]
  exact this _ lE
 have aB: ∀d,e.d=some d->d<a.tmps.size:=fun d M=>by rw[h.ts];exact O.lt d M
 have R: ∀(v:Value) (w':World) (env':Env),Good cx.K env' (te S xs ops.size (vu D j)) w'->Ext (out (S.n+32*j)) env env'->(∀g,zL a e.g->Ip e.g g=true->e.d.isSome=true->e.r.tv.ok cx.K env' v)->(zL a e.g->ln env'.ρ e.r.f)->Fr env0 B0 w0 n0 eb nq W env' (te S xs ops.size (vu D j)) w'->
   FN cx env0 B0 w0 n0 eb nq W S xs ops.size (vu D j) (a.put e.d v) w' env':=by
  intro v w' env' aD E aU hf aR;have V: ∀i m,vu D j i=true->xs[i]? =some m->zL (a.put e.d v) m.g->zL a m.g:=fun i m C J A=>by
   cases aC:m.g with
   |none=>trivial
   |some q=>
    obtain⟨s,b⟩:=q;have ah:e.d≠some s:=by
     by_cases N:i=j
     ·subst N;rw[he] at J;cases J;exact aF s b aC
     ·rw[pj N] at C;exact X i m s b C J aC
    rw[aC,zL.R3 ah] at A;exact A
  refine⟨aD,fun g t A=>?_,ln.ext E (bQ.kA (fun s hs=>Gi hs) (aca l.all)) h.F,fun i m C B J A=>?_,aR,?_,?_⟩
  ·
   have aA: ∀t',e.d≠some t'->OV cx.K env' (mg S xs ops.size D g t') (a.tmps.getD t' undef):=fun t' aY=>by
    have c: ∃g',mg S xs ops.size D g t'=mg S xs ops.size D g' t'/\zL a g':=by
     cases g with
     |none=>exact⟨none,rfl,trivial⟩
     |some q=>
      obtain⟨s,b⟩:=q;by_cases hs:e.d=some s
      ·exact⟨none,K s b t' hs,trivial⟩
      ·exact⟨some (s,b),rfl,(zL.R3 hs).1 A⟩
    obtain⟨g',u,h3⟩:=c;rw[u];have h4:=h.sl g' t' h3;cases aM:mg S xs ops.size D g' t' with
    |none=>trivial
    |some tv=>
     rw[aM] at h4;refine TV.ext hcx.K E ?_ h4
     rcases II aM with h5|⟨i,h5,h6,h7⟩
     ·exact TV.kA (fun s hs=>Gi hs) (UG l.all h5)
     ·obtain⟨m,h8,h9,aj⟩:=zj h7;have:=af i m h6 h8;unfold xK at this;simp only[a6] at this;cases ae:Ip m.g g' with
      |false=>rw[ae] at aj;cases aj
      |true=>rw[ae] at aj;cases aj;exact this.1.1
   cases M:e.d with
   |none=>
    rw[G g t (by rw[M];simp)];exact aA t (by rw[M];simp)
   |some d=>
    rw[Qv (aB d M)];by_cases aq:t=d
    ·subst aq;rw[if_pos rfl,Z g t M];cases ae:Ip e.g g with
     |false=>trivial
     |true=>
      have z:zL a e.g:=V j e qX he (zL.of ae A);exact aU g z ae (by rw[M];rfl)
    ·rw[if_neg aq,G g t (by rw[M];simpa using jN aq)];exact aA t (by rw[M];simpa using jN aq)
  ·have z:=V i m B J A;by_cases N:i=j
   ·subst N;rw[he] at J;cases J;exact hf z
   ·rw[pj N] at B;have:=af i m B J;unfold xK at this;simp only[a6] at this;exact ln.ext E this.1.2 (h.f i m C B J z)
  ·cases M:e.d <;>exact h.df
  ·cases M:e.d with
   |none=>exact h.ts
   |some d=>show(a.tmps.setIfInBounds d v).size=_;rw[yq];exact h.ts
 have aH: ∀k,te S xs ops.size (vu D j) k=wU (te S xs ops.size D) e.r.wr k:=fun k=>by
  cases hl:lk e.r.wr k with
  |none=>
   rw[qg hl];refine MN (fun i C=>pj C) ?_ _;cases E:Tt xs k j with
   |none=>rfl
   |some x=>
    obtain⟨U,y,c,u,_⟩:=yD E;rw[he] at c;cases c;rw[hl] at u;cases u
  |some y=>
   rw[oW hl];refine KX (fun i C=>pj C) qX (by unfold Tt;rw[he];dsimp only;rw[hl]) ak fun i C N B=>?_;cases E:Tt xs k i with
   |none=>exact .inl rfl
   |some x=>
    obtain⟨U,y',c,u,_⟩:=yD E;cases I:tb (ms j) i with
    |true=>exact .inr (O.Vo i I)
    |false=>
     have:=(Iz (Y i U c B I) (k:=k) (by rw[u];simp)).2;rw[hl] at this;cases this
 have F:te S xs ops.size (vu D j)=wU (te S xs ops.size D) e.r.wr:=funext aH;unfold wpOp;rw[ho];dsimp only;have ai:Region.wanted o (yielded ops a.tmps)=true↔zL a e.g:=by
  unfold Region.wanted
  rcases Io aK with ⟨c,u⟩|⟨r,b,er,s,c,u,h3,h4,h5⟩
  ·rw[c,u];exact⟨fun _=>trivial,fun _=>rfl⟩
  ·rw[c,h5];have hr:r<ops.size:=by rw[<-l.len];exact(bX.1 u).1
   have aE:ops[r]? =some ops[r]:=fM hr;have aQ:=(l.ok r _ er aE u).d;have hs:s<a.tmps.size:=by rw[h.ts];exact(l.ok r _ er aE u).lt s h3
   have aT:a.tmps[s]? =some a.tmps[s]:=fM hs;have aD:a.tmps.getD s undef=a.tmps[s]:=by simp[hs]
   dsimp only;unfold yielded;rw[aE];simp only[kn,<-aQ,h3,aT];unfold zL;dsimp only;rw[aD];cases hv:a.tmps[s] <;>simp
 by_cases aw:Region.wanted o (yielded ops a.tmps)=true
 ·rw[if_pos aw];have z:=ai.1 aw;refine .inl ?_;have H: ∀g t,t∈e.rd->mg S xs j (tb (ms j)) g t=mg S xs ops.size D g t:=fun g t ag=>by
   have c:mg S xs ops.size (tb (ms j)) g t=mg S xs ops.size D g t:=ur fun i C=>by
    cases I:tb (ms j) i with
    |true=>exact .inl (hD i I).symm
    |false=>
     cases B:D i with
     |false=>exact .inl rfl
     |true=>
      refine .inr ?_;cases E:LS xs g t i with
      |none=>rfl
      |some x=>
       obtain⟨U,c,u,_⟩:=zj E;exact absurd ag (EW (Y i U c B I) u).1
   rw[<-c];exact(KY O.Vo (pF ak)).symm
  have aS: ∀t∈uP o,t∈e.rd:=fun t ht=>by
   rw[az];cases e.g with
   |none=>exact ht
   |some q=>exact .tail _ ht
  have hl: ∀g t,zL a g->OV cx.K env ((fun g' t=>cond ((uP o).any (Nat.beq t)) (mg S xs j (tb (ms j)) g' t) none) g t) (a.tmps.getD t undef):=fun g t A=>by
   dsimp only;cases hr:(uP o).any (Nat.beq t) with
   |false=>trivial
   |true=>
    simp only[cond_true];have ag:t∈e.rd:=by rw[mS] at hr;obtain⟨t',c,u⟩:=hr;rw[nb] at u;subst u;exact aS t c
    rw[H g t ag];exact h.sl g t A
  have hF:ln env.ρ (gFs (mg S xs j (tb (ms j)) none) e.g++qx xs e.g (tb (ms j)) j++S.F):=by
   refine lP.2 ⟨lP.2 ⟨?_,fun f hf=>?_⟩,h.F⟩
   ·cases A:e.g with
    |none=>exact fF _
    |some q=>
     obtain⟨s,b⟩:=q;have hs:s∈e.rd:=by rw[az,A];exact .head _
     simp only[gFs];rw[H none s hs];cases L:FU (mg S xs ops.size D none s) with
     |none=>exact fF _
     |some p=>
      obtain⟨b',c,u,h3⟩:=wm L (h.sl none s trivial);rw[A] at z;have h4:a.tmps.getD s undef=.bool b:=z;rw[h4] at c;cases c;cases b with
      |true=>exact u rfl
      |false=>exact h3 rfl
   ·obtain⟨i,m,c,u,h3,h4,h5⟩:=xO hf;exact h.f i m oG (hD i u) h3 (zL.of h4 z) f h5
  have I: ∀k∈e.r.Cd,te S xs j (tb (ms j)) k=te S xs ops.size D k:=fun k hk=>by
   have c:te S xs ops.size (tb (ms j)) k=te S xs ops.size D k:=ur fun i C=>by
    cases I:tb (ms j) i with
    |true=>exact .inl (hD i I).symm
    |false=>
     cases B:D i with
     |false=>exact .inl rfl
     |true=>
      refine .inr ?_;cases E:Tt xs k i with
      |none=>rfl
      |some x=>
       obtain⟨U,y,c,u,_⟩:=yD E;exact absurd hk (Iz (Y i U c B I) (k:=k) (by rw[u];simp)).1
   rw[<-c];exact(KY O.Vo (pF ak)).symm
  refine(Xf hcx h.gd (by have:=l.ng;omega) aa hF z hl aN I).wp ?_;rintro v w' ⟨env',L⟩;rw[<-aJ];refine⟨env',R v w' env' (by rw[F];exact L.kY) L.ext (fun _ _ _ _=>L.tv) (fun _=>L.f) ?_⟩;rw[F];exact h.fr.step L.step L.ext oG oG (fun k hk=>aa.get hk) fun k hk aO=>by
   cases hl:lk e.r.wr k with
   |none=>exact absurd hl hk
   |some y=>exact hW e (a8 he) _ (oR hl) (h.fr.B0 k aO)
 ·rw[if_neg aw];have z: ¬zL a e.g:=fun A=>aw (ai.2 A);have aV:e.r.wr=[]:=by
   cases A:e.g with
   |none=>rw[A] at z;exact absurd trivial z
   |some q=>rw[A] at aL;simpa[gWr] using aL
  rw[aV,Nc] at F;rw[<-aJ];refine⟨env,R undef w env (by rw[F];exact h.gd) (Ext.refl _ _) (fun g A _ _=>absurd A z) (fun A=>absurd A z) (by rw[F];exact h.fr)⟩
end
end Ra
namespace Ra
open Go
def QH (o:Oper):List Nat:=o.after.toList.filterMap fun e=>cond (Region.binds .any e) (some e.on) none
def Qb (a:List Nat) (o:Oper):Nat:=(QH o).foldl (fun s k=>Nat.lor (Nat.lor s (Nat.shiftLeft 1 k)) (a.getD k 0)) 0
def Uu (c:Cx) (d:List (Nat×Nat)) (S:St) (a:Bool):List Oper->Nat->List ub->List Nat->Option (List ub×List Nat)
 | [],_,xs,ml=>some (xs,ml)
 |o::r,j,xs,ml=>match Ep c d S xs (cond a (Qb ml o) (2^j-1)) j o with
  |some e=>Uu c d S a r (j+1) (xs++[e]) (ml++[cond a (Qb ml o) (2^j-1)])
  |none=>none
def FT (e:ub) (g:List (Option TV)):List (Option TV):=match e.d with
 |some d=>g.set d (cond (Ip e.g none) (some e.r.tv) none)
 |none=>g
def apB (e:ub) (B:Wr):Wr:=e.r.wr++B.filter fun x=>(lk e.r.wr x.1).isNone
def Aj (f:Nat) (xs:List ub):List Nat:=xs.flatMap fun e=>e.r.wr.filterMap fun x=>cond (Nat.blt x.1 f) (some x.1) none
def TI (S:St) (xs:List ub) (a:List Nat) (j:Nat) (e:ub):Bool:=
 (match e.d with
 |some d=>Nat.blt d S.sl
 |none=>true)&&xK (pid S (a.getD j 0) j) e&&Nat.blt (a.getD j 0) (2^j)&&
 (match e.g with
 |some (s,_)=>(List.range xs).all fun i=>match xs[i]? with
  |some e'=>match e'.d with
   |some d=> !Nat.beq d s||tb (a.getD j 0) i
   |none=>true
  |none=>true
 |none=>true)
def EK (xs:List ub) (a:List Nat) (j:Nat) (o:Oper) (e:ub):Bool:=
 (QH o).all (fun m=>tb (a.getD j 0) m)&&(List.range j).all fun i=>cond (tb (a.getD j 0) i) ((QH o).any fun m=>Nat.beq m i||tb (a.getD m 0) i) (match xs[i]? with
  |some e'=>indep e' e&&indep e e'
  |none=>true)
def V1 (f:Nat->Oper->ub->Bool) (b:List Oper) (xs:List ub):Bool:=(List.range b).all fun j=>match b[j]?,xs[j]? with
 |some o,some e=>f j o e
 |_,_=>false
def Xg (c:Cx) (d:List (Nat×Nat)) (f:Nat) (S:St) (b:Array Oper) (a:Bool):Option St:=
 match Uu c d S a b.toList 0 [] [] with
 |none=>none
 |some (xs,ml)=>cond (zo S&&Nat.ble c.K.ng S.n&&Nat.ble f S.n&&V1 (fun j o e=>TI S xs ml j e&&cond a (EK xs ml j o e) true) b.toList xs)
   (some ⟨S.n+32*b.size,xs.foldl (fun g e=>FT e g) S.sl,xs.foldl (fun B e=>apB e B) S.B,qx xs none (fun _=>true) b.size++S.F,Aj f xs++S.W⟩) none
structure Sat (cx:Cx) (env0:Env) (B0:jM) (w0:World) (n0:Nat) (eb:Nat->Int) (nq:Nat) (S:St) (a:Act) (w:World) (env:Env):Prop where
 gd:Good cx.K env (lk S.B) w
 sl: ∀t,OV cx.K env (S.sl.getD t none) (a.tmps.getD t undef)
 F:ln env.ρ S.F
 fr:Fr env0 B0 w0 n0 eb nq S.W env (lk S.B) w
 df:a.defers=[]
 ts:a.tmps.size=S.sl
 nq:nq<=S.n
def VU (m i:Nat):tb m i=m.testBit i:=by
 unfold tb;have b:Nat.land (Nat.shiftRight m i) 1=(m>>>i)%2:=Nat.and_one_is_mod _;rw[b,J7,Nat.shiftRight_eq_div_pow];cases a:Nat.beq (m/2^i%2) 1 with
 |true=>rw[nb] at a;simp[a]
 |false=>
  have:m/2^i%2≠1:=fun e=>by rw[e] at a;cases a
  simp[this]
def Z8 {m:Nat} (h:m<2^j) (a:tb m i=true):i<j:=by
 rw[VU] at a
 rcases iU i j with h1|h1
 ·exact h1
 ·have b:m<2^i:=bP h (jk oG h1);rw[Nat.testBit_lt_two_pow b] at a;cases a
def GP:tb (2^j-1) i=decide (i<j):=by rw[VU,Nat.testBit_two_pow_sub_one]
end Ra
namespace Ra
open Go
variable {B:jM} {S:St} {cx:Cx} {e:ub} {env:Env} {hs:List (Nat×Nat)} {xs ys:List ub}
theorem Aw {f b:Nat->Option α} {init:α}: ∀{n:Nat},(∀i,i<n->f i=b i)->lw f p init n=lw b p init n
 |0,_=>rfl
 |n+1,h=>by unfold lw;rw[h n oG,Aw (n:=n) fun i a=>h i oG]
theorem B9 {i:Nat} (h:i<xs):(xs++ys)[i]? =xs[i]? :=fu h
theorem S3 {m:Nat} (h:Ep cx hs S xs m j o=some e) (u:xs.length=j):Ep cx hs S (xs++ys) m j o=some e:=by
 have c: ∀g t,mg S (xs++ys) j (tb m) g t=mg S xs j (tb m) g t:=fun g t=>Aw fun i a=>by unfold LS;rw[B9 oG]
 have w:te S (xs++ys) j (tb m)=te S xs j (tb m):=funext fun k=>Aw fun i a=>by unfold Tt;rw[B9 oG]
 have x: ∀g n,n<=j->qx (xs++ys) g (tb m) n=qx xs g (tb m) n:=fun g n=>by
  induction n with
  |zero=>intro _;rfl
  |succ n ih=>intro v;unfold qx;rw[B9 oG,ih oG]
 have y:Vt (xs++ys) m o.guard=Vt xs m o.guard:=by
  unfold Ep at h;cases f:Vt xs m o.guard with
  |none=>rw[f] at h;cases h
  |some g=>
   rcases Io f with ⟨d,rfl⟩|⟨r,b,A,s,d,l,p,q,rfl⟩
   ·rw[d];rfl
   ·have z:r<xs.length:=(bX.1 l).1;rw[d];unfold Vt;dsimp only;rw[B9 z,l];dsimp only;rw[p];dsimp only;rw[q];rfl
 unfold Ep at h|-
 rw[y,w];simp only[c,x _ j lE];have d:mg S (xs++ys) j (tb m) none=mg S xs j (tb m) none:=funext fun t=>c none t;rw[d];exact h
theorem Fo {b:Bool}: ∀{ops:List Oper} {j:Nat} {c xs:List ub} {a g:List Nat},Uu cx hs S b ops j c a=some (xs,g)->c.length=j->a.length=j->
  ∃ys i,xs=c++ys/\g=a++i/\ys.length=ops/\i.length=ops/\ ∀k o,ops[k]? =some o-> ∃e,xs[j+k]? =some e/\Ep cx hs S xs (g.getD (j+k) 0) (j+k) o=some e/\(b=false->g.getD (j+k) 0=2^(j+k)-1)
 | [],j,c,xs,a,g,h,_,_=>by cases h;exact⟨[],[],by simp,by simp,rfl,rfl,fun k o h=>by simp at h⟩
 |o::r,j,c,xs,a,g,h,h1,h2=>by
  unfold Uu at h;split at h;rotate_left
  ·cases h
  rename_i e n;obtain⟨ys,i,rfl,rfl,d,l,p⟩:=Fo h (by simp[h1]) (by simp[h2]);refine⟨e::ys,cond b (Qb a o) (2^j-1)::i,by simp,by simp,by simp[d],by simp[l],fun k w f=>?_⟩;cases k with
  |zero=>
   simp at f;subst f;have t:(a++[cond b (Qb a o) (2^j-1)]++i).getD j 0=cond b (Qb a o) (2^j-1):=by rw[gD,gR,fo oG,h2];simp
   refine⟨e,?_,?_,fun s=>?_⟩
   ·rw[gv,gD,fo oG,h1];simp
   ·rw[gv,t,gD];exact S3 n h1
   ·rw[gv,t,s];rfl
  |succ k=>
   obtain⟨u,q,v,m⟩:=p k w (by simpa using f);rw[show j+(k+1)=j+1+k by omega];exact⟨u,q,v,m⟩
theorem P6 (e:ub) (b:List (Option TV)):(FT e b).length=b.length:=by unfold FT;split <;>simp
theorem CJ (xs:List ub): ∀b,(xs.foldl (fun b e=>FT e b) b).length=b.length:=by
 induction xs with
 |nil=>intro b;rfl
 |cons e xs ih=>intro b;rw[rM,ih,P6]
theorem se {l:List α} {n:Nat} {x:α} (h:l[n]? =some x):l.take (n+1)=l.take n++[x]:=by rw[gk,h];rfl
theorem Wb (j: ∀e∈xs,∀d,e.d=some d->d<S.sl.length) (t:Nat): ∀n,n<=xs.length->((xs.take n).foldl (fun b e=>FT e b) S.sl).getD t none=mg S xs n (fun _=>true) none t:=by
 intro n
 induction n with
 |zero=>intro _;rfl
 |succ n ih=>
  intro v;have g:xs[n]? =some (xs[n]'oG):=fp _;generalize i:(xs[n]'oG)=e at g;rw[se g,nW];simp only[rM,List.foldl_nil];unfold mg lw;simp only[cond_true];have a:=ih oG;unfold mg at a;have f:((xs.take n).foldl (fun b e=>FT e b) S.sl).length=S.sl.length:=CJ _ _;clear ih;generalize (xs.take n).foldl (fun b e=>FT e b) S.sl=L at a f|-
  unfold FT LS;rw[g];dsimp only;cases s:e.d with
  |none=>exact a
  |some d=>
   dsimp only;have h:d<L.length:=by rw[f];exact j e (a8 g) d s
   cases c:Nat.beq d t with
   |true=>
    rw[nb] at c;subst c;simp[gR,xz,h]
   |false=>
    have k:d≠t:=fun e=>by rw[e,jJ] at c;cases c
    simp only[cond_false,gR,iu k];rw[<-gR];exact a
theorem tC (j:Nat) (x:α) (l:List (Nat×α)) (k:Nat):lk ((j,x)::l) k=cond (Nat.beq j k) (some x) (lk l k):=rfl
theorem E4 (a b:List (Nat×α)) (k:Nat):lk (a++b) k=match lk a k with|some x=>some x|none=>lk b k:=by
 induction a with
 |nil=>rfl
 |cons x a ih=>
  obtain⟨j,x⟩:=x;rw[fY,tC,tC];cases Nat.beq j k with
  |true=>rfl
  |false=>exact ih
theorem E5 {B:Wr} {k:Nat} (h:p k=true):lk (B.filter fun x=>p x.1) k=lk B k:=by
 induction B with
 |nil=>rfl
 |cons x B ih=>
  obtain⟨j,x⟩:=x;rw[Mo];cases c:Nat.beq j k with
  |true=>
   rw[nb] at c;subst c;rw[if_pos h,tC,tC,jJ];rfl
  |false=>
   rw[tC,c];cases a:p j with
   |true=>simp only[if_true];rw[tC,c];exact ih
   |false=>simp only[ach,if_false];exact ih
theorem XW (k:Nat): ∀n,n<=xs.length->lk ((xs.take n).foldl (fun B e=>apB e B) S.B) k=te S xs n (fun _=>true) k:=by
 intro n
 induction n with
 |zero=>intro _;rfl
 |succ n ih=>
  intro v;have g:xs[n]? =some (xs[n]'oG):=fp _;generalize i:(xs[n]'oG)=e at g;rw[se g,nW];simp only[rM,List.foldl_nil];unfold te lw;simp only[cond_true];have a:=ih oG;unfold te at a;unfold apB Tt;rw[g,E4];dsimp only;cases u:lk e.r.wr k with
  |some y=>rfl
  |none=>
   dsimp only;rw[E5 (p:=fun k=>(lk e.r.wr k).isNone) (by rw[u];rfl)];exact a
theorem Nw {f:Nat->Oper->ub->Bool} {ops:List Oper} (h:V1 f ops xs=true) (a:ops[j]? =some o) (n:xs[j]? =some e):f j o e=true:=by have:=dT.1 h j (jz.2 (bX.1 a).1);rw[a,n] at this;exact this
section
variable {P:Program} {cx:Cx} (hcx:DZ P cx) {hs:List (Nat×Nat)} {S S':St} {xs:List ub} {ops:Array Oper} {env0:Env} {B0:jM} {w0:World} {n0 nq:Nat} {eb:Nat->Int} {Q:Exit->Act->World->Prop}
theorem Fr.mono {e:List Nat} (h:Fr env0 B0 w0 n0 eb nq W env B w) (hW: ∀k,B0 k≠none->k∈W->k∈e):Fr env0 B0 w0 n0 eb nq e env B w:=
 ⟨h.sz,h.ext,fun b c d f=>h.keep b c d fun k a g=>f k (hW k g a) g,h.Hn,h.hn,h.Bn,h.B0,h.bs,h.io⟩
theorem Fr.heap {w':World} (h:Fr env0 B0 w0 n0 eb nq W env B w) (e:w'.heap=w.heap) (a:S9 w w'):Fr env0 B0 w0 n0 eb nq W env B w':=
 ⟨by rw[e];exact h.sz,h.ext,fun b c d f=>by rw[e];exact h.keep b c d f,h.Hn,h.hn,h.Bn,h.B0,h.bs,h.io.trans a⟩
end
end Ra
namespace Ra
open Go
section
variable {P:Program} {cx:Cx} (hcx:DZ P cx) {hs:List (Nat×Nat)} {S S':St} {xs:List ub} {ops:Array Oper} {ms:Nat->Nat} {env0:Env} {B0:jM} {w0:World} {n0 nq:Nat} {eb:Nat->Int} {W:List Nat} {Q:Exit->Act->World->Prop}
include hcx
theorem RW (d:Mw cx hs S xs ops ms) (O:n0<=S.n) (R:nq<=S.n) (g: ∀j,j<ops.size->ms j=2^j-1) (hW: ∀e∈xs,∀x∈e.r.wr,x.1<n0->x.1∈W)
  (hQ: ∀(D:Nat->Bool) a w env,(∀i,i<ops.size->D i=true)->FN cx env0 B0 w0 n0 eb nq W S xs ops.size D a w env->Q .normal a w):
  ∀(l k:Nat) (D:Nat->Bool) (a:Act) (w:World) (env:Env),l+k=ops.size->(∀i,D i=true↔i<k)->FN cx env0 B0 w0 n0 eb nq W S xs ops.size D a w env->wpOps P ops Q (List.range' k l) a w:=by
 intro l
 induction l with
 |zero=>intro k D a w env hk s h;exact hQ D a w env (fun i c=>(s i).2 oG) h
 |succ l ih=>
  intro k D a w env hk s h;rw[zE,wpOps_cons];have b:k<ops.size:=oG;have f:ops[k]? =some ops[k]:=fM b;have v:xs[k]? =some (xs[k]'(by rw[d.len];exact b)):=fp _;refine wpOp_mono (fun a' w' z=>?_) (VN hcx d O R f v ?_ ?_ ?_ ?_ ?_ hW h)
  ·obtain⟨env',z⟩:=z;refine ih (k+1) (vu D k) a' w' env' oG (fun i=>?_) z;by_cases c:i=k
   ·subst c;rw[qX];simp
   ·rw[pj c,s i];omega
  ·cases X:D k with
   |false=>rfl
   |true=>have:=(s k).1 X;omega
  ·intro i c;rw[g k b,GP,decide_eq_true_eq] at c;exact(s i).2 c
  ·intro i c n m;have q:=(s i).1 c;rw[g i oG,GP,decide_eq_true_eq] at m;exact(s n).2 oG
  ·intro i c;have:=(s i).1 c;omega
  ·intro i e' _ c E;have:=(s i).1 c;rw[g k b,GP,decide_eq_false_iff_not] at E;exact absurd this E
def cntF (D:Nat->Bool):Nat->Nat
 |0=>0
 |n+1=>cntF D n+cond (D n) 0 1
omit hcx in
theorem H6 {D:Nat->Bool} {j:Nat} (K:D j=false): ∀{n:Nat},j<n->cntF (vu D j) n+1=cntF D n
 |0,h=>by omega
 |n+1,h=>by
  unfold cntF;by_cases a:n=j
  ·subst a;rw[qX,K];have: ∀m,m<=n->cntF (vu D n) m=cntF D m:=fun m=>by
    induction m with
    |zero=>intro _;rfl
    |succ m ih=>intro g;unfold cntF;rw[ih oG,pj oG]
   rw[this n lE];rfl
  ·rw[pj a];have:=H6 K (n:=n) oG;omega
omit hcx in
theorem EG {D:Nat->Bool}: ∀{n:Nat},cntF D n=0-> ∀i,i<n->D i=true
 |n+1,h,i,hi=>by
  unfold cntF at h;by_cases a:i=n
  ·subst a;cases X:D i with
   |true=>rfl
   |false=>rw[X] at h;simp at h
  ·exact EG (n:=n) oG i oG
theorem TC (d:Mw cx hs S xs ops ms) (O:n0<=S.n) (R:nq<=S.n) (hW: ∀e∈xs,∀x∈e.r.wr,x.1<n0->x.1∈W)
  (J: ∀j o,ops[j]? =some o-> ∀m∈QH o,tb (ms j) m=true) (H: ∀j o,ops[j]? =some o-> ∀i,tb (ms j) i=true-> ∃m∈QH o,m=i\/tb (ms m) i=true)
  (C: ∀i j ei ej,i<j->xs[i]? =some ei->xs[j]? =some ej->tb (ms j) i=false->indep ei ej=true/\indep ej ei=true)
  (hQ: ∀(D:Nat->Bool) a w env,(∀i,i<ops.size->D i=true)->FN cx env0 B0 w0 n0 eb nq W S xs ops.size D a w env->Q .normal a w):
  ∀(p:Nat) (b:Array Bool) (D:Nat->Bool) (a:Act) (w:World) (env:Env),b.size=ops.size->(∀i,i<ops.size->b.getD i false=D i)->(∀i,D i=true->i<ops.size)->cntF D ops.size=p->
   (∀i o,ops[i]? =some o->D i=true-> ∀m∈QH o,D m=true)->FN cx env0 B0 w0 n0 eb nq W S xs ops.size D a w env->wpAny P .any ops Q p b a w:=by
 have B: ∀(D:Nat->Bool),(∀i,D i=true->i<ops.size)->(∀i o,ops[i]? =some o->D i=true-> ∀m∈QH o,D m=true)-> ∀i,D i=true-> ∀k,tb (ms i) k=true->D k=true:=by
  intro D u A i
  induction i using Nat.strongRecOn with
  |_ i ih=>
   intro c k hk;have Z:=u i c;have f:ops[i]? =some ops[i]:=fM Z;have v:xs[i]? =some (xs[i]'(by rw[d.len];exact Z)):=fp _;obtain⟨m,g,q⟩:=H i _ f k hk;have F:=A i _ f c m g
   rcases q with rfl|q
   ·exact F
   ·exact ih m ((d.ok i _ _ f v).Vo m (J i _ f m g)) F k q
 have I: ∀(b:Array Bool) (D:Nat->Bool),b.size=ops.size->(∀i,i<ops.size->b.getD i false=D i)-> ∀i,i<ops.size->b.getD i true=D i:=fun b D t h i c=>by
  rw[<-h i c];have:i<b.size:=by rw[t];exact c
  simp[this]
 have n: ∀(b:Array Bool) (D:Nat->Bool),b.size=ops.size->(∀i,i<ops.size->b.getD i false=D i)-> ∀j,j∈Region.ready .any ops b↔D j=false/\ ∃o,ops[j]? =some o/\ ∀m∈QH o,m<ops.size/\D m=true:=by
  intro b D t h j;rw[mem_ready];constructor
  ·rintro⟨q,o,f,L⟩;have K:j<ops.size:=(aah.1 f).1;refine⟨by rw[<-I b D t h j K];exact q,o,f,fun m g=>?_⟩;unfold QH at g;rw[G6] at g;obtain⟨e,v,g⟩:=g;cases E:Region.binds .any e with
   |false=>rw[E] at g;cases g
   |true=>
    rw[E] at g;cases g;have:=L e (by simpa using v) E;have y:e.on<ops.size:=by
     rcases iU e.on b.size with h'|h'
     ·rw[<-t];exact h'
     ·simp[S8.2 h'] at this
    exact⟨y,by rw[<-h _ y];exact this⟩
  ·rintro⟨q,o,f,L⟩;have K:j<ops.size:=(aah.1 f).1;refine⟨by rw[I b D t h j K];exact q,o,f,fun e v E=>?_⟩;have g:e.on∈QH o:=by unfold QH;rw[G6];exact⟨e,by simpa using v,by rw[E];rfl⟩
   obtain⟨V,h4⟩:=L _ g;rw[h _ V];exact h4
 have T: ∀(b:Array Bool) (D:Nat->Bool),b.size=ops.size->(∀i,i<ops.size->b.getD i false=D i)->Region.ready .any ops b=[]-> ∀i,i<ops.size->D i=true:=by
  intro b D t h z i
  induction i using Nat.strongRecOn with
  |_ i ih=>
   intro c;cases X:D i with
   |true=>rfl
   |false=>
    have f:ops[i]? =some ops[i]:=fM c;have v:xs[i]? =some (xs[i]'(by rw[d.len];exact c)):=fp _;have:i∈Region.ready .any ops b:=(n b D t h i).2 ⟨X,_,f,fun m g=>by have y:=(d.ok i _ _ f v).Vo m (J i _ f m g);exact⟨oG,ih m y oG⟩⟩;rw[z] at this;cases this
 intro p
 induction p with
 |zero=>
  intro b D a w env t s u hc A h;have G:=EG hc;refine⟨?_,hQ D a w env G h⟩;cases z:Region.ready .any ops b with
  |nil=>rfl
  |cons j r=>
   obtain⟨q,o,f,_⟩:=(n b D t s j).1 (by rw[z];exact .head _);have:=G j (aah.1 f).1;rw[this] at q;cases q
 |succ p ih=>
  intro b D a w env t s u hc A h;refine⟨fun z=>hQ D a w env (T b D t s z) h,fun j K=>?_⟩;obtain⟨q,o,f,L⟩:=(n b D t s j).1 K;have N:j<ops.size:=(aah.1 f).1;have v:xs[j]? =some (xs[j]'(by rw[d.len];exact N)):=fp _;have M:=B D u A;refine wpOp_mono (fun a' w' z=>?_) (VN hcx d O R f v q ?_ M u ?_ hW h)
  ·obtain⟨env',z⟩:=z;refine ih (b.setIfInBounds j true) (vu D j) a' w' env' (by simp[t]) (fun i c=>?_) (fun i c=>?_) ?_ (fun i o' U c m g=>?_) z
   ·by_cases l:i=j
    ·subst l;rw[qX];simp[t,c]
    ·rw[pj l,<-s i c];simp only[iS];rw[iQ (jN l)]
   ·by_cases l:i=j
    ·subst l;exact N
    ·rw[pj l] at c;exact u i c
   ·have:=H6 q N;omega
   ·have F:D m=true:=by
     by_cases l:i=j
     ·subst l;rw[f] at U;cases U;exact(L m g).2
     ·rw[pj l] at c;exact A i o' U c m g
    by_cases aa:m=j
    ·subst aa;exact qX
    ·rw[pj aa];exact F
  ·intro i c;obtain⟨m,g,V⟩:=H j o f i c
   rcases V with rfl|V
   ·exact(L _ g).2
   ·exact M m (L m g).2 i V
  ·intro i e' Y c E
   rcases Nat.lt_trichotomy i j with y|heq|hgt
   ·exact(C i j e' _ y Y v E).1
   ·subst heq;rw[q] at c;cases c
   ·refine(C j i _ e' hgt v Y ?_).2;cases ae:tb (ms i) j with
    |false=>rfl
    |true=>have:=M i c j ae;rw[q] at this;cases this
end
end Ra
namespace Ra
open Go
section
variable {P:Program} {cx:Cx} (hcx:DZ P cx) {hs:List (Nat×Nat)} {S S':St} {ops:Array Oper} {env0:Env} {B0:jM} {w0:World} {n0 nq:Nat} {eb:Nat->Int} {Q:Exit->Act->World->Prop}
theorem Lc {xs:List ub} {k:Nat} (hk:k<n0) {e:ub} (u:e∈xs) {x:Nat×TypeId×List BV} (hx:x∈e.r.wr) (a:x.1=k):k∈Aj n0 xs:=by unfold Aj;rw[qR];refine⟨e,u,G6.2 ⟨x,hx,?_⟩⟩;rw[a,AZ hk];rfl
include hcx
theorem UZ (hm:P.follows .mixedOrders=true) {q:Bool} {id:Nat} {a:Act} {w:World} {env:Env} (h:Xg cx hs n0 S ops q=some S') (p:Sat cx env0 B0 w0 n0 eb nq S a w env)
  (hQ: ∀a' w' env',Sat cx env0 B0 w0 n0 eb nq S' a' w' env'->Q .normal a' w'):(Code.region id ops q).wp P Q a w:=by
 unfold Xg at h;split at h
 ·cases h
 rename_i xs C T;cases V:(zo S&&Nat.ble cx.K.ng S.n&&Nat.ble n0 S.n&&V1 (fun j o e=>TI S xs C j e&&cond q (EK xs C j o e) true) ops.toList xs) with
 |false=>rw[V] at h;cases h
 |true=>
 rw[V] at h;cases h;simp only[a6,mE] at V;obtain⟨⟨⟨c1,c2⟩,c3⟩,c4⟩:=V;obtain⟨ys,zs,h1,h2,h3,h4,Y⟩:=Fo T rfl rfl;simp only[gQ] at h1 h2;subst h1;simp only[gW,fA] at Y;have c:xs.length=ops.size:=by rw[h3];simp
 have W: ∀j o e,ops[j]? =some o->xs[j]? =some e->TI S xs C j e=true/\(q=true->EK xs C j o e=true):=fun j o e v u=>by have:=Nw c4 (by rw[fA];exact v) u;rw[a6] at this;exact⟨this.1,fun L=>by have r:=this.2;rw[L] at r;exact r⟩
 have G: ∀j o e,ops[j]? =some o->xs[j]? =some e->Ep cx hs S xs (C.getD j 0) j o=some e:=fun j o e v u=>by obtain⟨e',r,h7,_⟩:=Y j o v;rw[u] at r;cases r;exact h7
 have y:Mw cx hs S xs ops (fun j=>C.getD j 0):=by
  refine⟨c,c2,c1,G,fun j o e v u=>?_⟩;have E:=(W j o e v u).1;unfold TI at E;simp only[a6,fT] at E;obtain⟨⟨⟨U,b2⟩,b3⟩,X⟩:=E;refine⟨(FG (G j o e v u)).2.1,fun d L=>?_,b2,fun i A=>Z8 b3 A,fun s b hg i e' M ae=>?_⟩
  ·rw[L] at U;dsimp only at U;rw[fT] at U;exact U
  ·rw[hg] at X;dsimp only at X;have:=dT.1 X i (jz.2 (bX.1 M).1);rw[M] at this;dsimp only at this;rw[ae] at this;simpa[jJ] using this
 have hW: ∀e∈xs,∀x∈e.r.wr,x.1<n0->x.1∈Aj n0 xs++S.W:=fun e u x hx I=>fO.2 (.inl (Lc I u hx rfl));have z: ∀w',w'.heap=w.heap->S9 w w'->FN cx env0 B0 w0 n0 eb nq (Aj n0 xs++S.W) S xs ops.size (fun _=>false) a w' env:=fun w' hw ag=>by
  have R: ∀{α:Type} (f:Nat->Option α) (init:α) (n:Nat),lw f (fun _=>false) init n=init:=fun{α} f init n=>by
   induction n with
   |zero=>rfl
   |succ n ih=>unfold lw;exact ih
  have E:te S xs ops.size (fun _=>false)=lk S.B:=funext fun k=>R _ _ _;exact⟨by rw[E];exact p.gd.heap hw,fun g t _=>by unfold mg;rw[R];exact p.sl t,p.F,fun i e _ h=>(by cases h),by rw[E];exact(p.fr.heap hw ag).mono fun k _ hk=>fO.2 (.inr hk),p.df,p.ts⟩
 have F: ∀(D:Nat->Bool) a w env,(∀i,i<ops.size->D i=true)->FN cx env0 B0 w0 n0 eb nq (Aj n0 xs++S.W) S xs ops.size D a w env->Q .normal a w:=fun D a w env Z J=>by
  have I: ∀e∈xs,∀d,e.d=some d->d<S.sl.length:=fun e u d L=>by
   obtain⟨j,O⟩:=gz.1 u;have l:j<ops.size:=by rw[<-c];exact(bX.1 O).1
   exact(y.ok j _ e (fM l) O).lt d L
  have K:lk (xs.foldl (fun B e=>apB e B) S.B)=te S xs ops.size D:=funext fun k=>by have:=XW (S:=S) (xs:=xs) k xs lE;rw[gh] at this;rw[this,c];exact ur fun i A=>.inl (Z i A).symm
  have ai: ∀t,(xs.foldl (fun sl e=>FT e sl) S.sl).getD t none=mg S xs ops.size D none t:=fun t=>by have:=Wb (S:=S) (xs:=xs) I t xs lE;rw[gh] at this;rw[this,c];exact ur fun i A=>.inl (Z i A).symm
  refine hQ a w env ⟨by dsimp only;rw[K];exact J.gd,fun t=>by dsimp only;rw[ai];exact J.sl none t trivial,lP.2 ⟨fun f hf=>?_,J.F⟩,by dsimp only;rw[K];exact J.fr,J.df,by dsimp only;rw[CJ];exact J.ts,by have:=p.nq;show nq<=S.n+32*ops.size;omega⟩;obtain⟨i,e,g1,g2,g3,g4,g5⟩:=xO hf;exact J.f i e g1 (Z i g1) g3 (zL.of g4 trivial) f g5
 cases q with
 |false=>
  refine wp_region ?_;have:=RW hcx y c3 p.nq (ms:=fun j=>C.getD j 0) (fun j l=>by obtain⟨e,_,_,r⟩:=Y j _ (fM l);exact r rfl) hW F ops.size 0 (fun _=>false) a w env rfl (fun i=>⟨fun h=>(by cases h),fun h=>oG⟩) (z w rfl ⟨rfl,rfl,rfl⟩);rw[<-DV] at this;exact this
 |true=>
  refine wp_region_any hm ?_;refine TC hcx y c3 p.nq hW (fun j o v m ah=>?_) (fun j o v i A=>?_) (fun i j ei ej H A N E=>?_) F ops.size _ (fun _=>false) a _ env sI (fun i A=>by simp[A]) (fun i h=>by cases h) ?_ (fun i o _ h=>by cases h) (z _ rfl ⟨rfl,rfl,rfl⟩)
  ·have l:j<ops.size:=(aah.1 v).1;have:=(W j o _ v (fp (by rw[c];exact l))).2 rfl;unfold EK at this;rw[a6] at this;exact dT.1 this.1 m ah
  ·have l:j<ops.size:=(aah.1 v).1;have u:xs[j]? =some (xs[j]'(by rw[c];exact l)):=fp _;have:=(W j o _ v u).2 rfl;unfold EK at this;rw[a6] at this;have H:=(y.ok j o _ v u).Vo i A;have r:=dT.1 this.2 i (jz.2 H);have af:tb (C.getD j 0) i=true:=A;rw[af] at r;simp only[cond_true,mS,hU,nb] at r;exact r
  ·have l:j<ops.size:=by rw[<-c];exact(bX.1 N).1
   have v:ops[j]? =some ops[j]:=fM l;have:=(W j _ ej v N).2 rfl;unfold EK at this;rw[a6] at this;have r:=dT.1 this.2 i (jz.2 H);have aa:tb (C.getD j 0) i=false:=E;rw[aa,A] at r;simp only[cond_false,a6] at r;exact r
  ·have: ∀n,cntF (fun _=>false) n=n:=fun n=>by
    induction n with
    |zero=>rfl
    |succ n ih=>unfold cntF;rw[ih];rfl
   exact this _
end
end Ra
namespace Ra
open Go
variable {env:Env} {g:List (Nat×E)}
inductive Ex where
 |normal
 |exit (id:Nat)
 |ret
def Ex.of:Ex->Exit
 | .normal=>.normal
 | .exit id=>.exit id
 | .ret=>.ret
structure LA where
 sl:List (Nat×TV)
 B:Wr
 F:List LC
 m:E×E
 W:List Nat
def Ea:Code->List Nat
 | .region _ ops _=>ops.toList.filterMap (·.dst)
 | .seq a b=>Ea a++Ea b
 | .cond _ a b=>Ea a++Ea b
 | .block _ b=>Ea b
 | .loop b=>Ea b
 |_=>[]
def F7:Code->Nat
 | .region id _ _=>id
 | .seq a _=>F7 a
 | .block _ b=>F7 b
 | .loop b=>F7 b
 |_=>0
def Sb:List (Nat×TV)->List (Option TV)->List (Option TV)
 | [],l=>l
 |(t,x)::r,l=>Sb r (l.set t (some x))
def clr:List Nat->List (Option TV)->List (Option TV)
 | [],l=>l
 |t::r,l=>clr r (l.set t none)
def vH (S:St) (b:Code) (L:LA):St:=
 ⟨S.n+64,Sb L.sl (clr (Ea b) S.sl),L.B++S.B.filter (fun x=>(lk L.B x.1).isNone),L.F++S.F,L.W++S.W⟩
def Vx (k:Nat):Nat:=k
def It (i:Nat) (L:LA) (d:St):List (Nat×E):=
 let g:=L.sl.foldl (fun(g:Sg) p=>match p.2,d.sl.getD p.1 none with
  | .cv q,some (.cv e)=>q.mt g e
  |_,_=>g) ([],[])
 let g:=L.B.foldl (fun(g:Sg) p=>match lk d.B p.1 with
  |some y=>BV.PG g p.2.2 y.2
  |none=>g) g
 g.1.filter fun p=>Nat.ble i p.1
def PI (g:List (Nat×E)) (s:Nat):E:=match lk g s with
 |some e=>e
 |none=>⟨s,0⟩
def Fv (F:List LC) (σ:Nat->E):List (Option TV)->List (Option TV)->Bool
 | [],[]=>true
 |x::xs,y::ys=>OV.sub F x (y.map (TV.re σ Vx))&&Fv F σ xs ys
 |_,_=>false
def Nd (i:Nat) (S e:St) (g:List (Nat×E)):Bool:=
 Fv S.F (PI g) S.sl e.sl&&e.B.all (fun x=>match lk S.B x.1 with
  |some y=>Nat.beq y.1 x.2.1&&BV.uW S.F y.2 (x.2.2.map (BV.re (PI g) Vx))
  |none=>false)&&e.F.all (fun f=>NN S.F (f.re (PI g)))&&S.W.all (fun k=>e.W.any (Nat.beq k))&&g.all fun p=>Nat.ble i p.1
def Vr (F:List LC) (σ:Nat->E) (m:E×E):Bool:=
 o9 F (m.2.re σ) (m.1.re σ) 0&&((TJ F (m.1.re σ) m.1&&o9 F m.2 (m.2.re σ) 1)||(TJ F (m.2.re σ) m.2&&o9 F (m.1.re σ) m.1 1))
def xc (cx:Cx) (hs:List (Nat×Nat)) (n0:Nat) (an:Nat->St->Code->Option LA):Code->St->(Ex->St->Bool)->Bool
 | .skip,S,k=>k .normal S
 | .region _ ops draw,S,k=>match Xg cx hs n0 S ops draw with
  |some d=>k .normal d
  |none=>false
 | .seq a b,S,k=>xc cx hs n0 an a S fun e d=>match e with
  | .normal=>xc cx hs n0 an b d k
  | .exit id=>k (.exit id) d
  | .ret=>k .ret d
 | .cond c t e,S,k=>match FU (uO (fun t=>S.sl.getD t none) c) with
  |some p=>(p.1.any (Ig S.F)||xc cx hs n0 an t {S with F:=p.1++S.F} k)&&(p.2.any (Ig S.F)||xc cx hs n0 an e {S with F:=p.2++S.F} k)
  |none=>false
 | .block id b,S,k=>xc cx hs n0 an b S fun e d=>match e with
  | .normal=>k .normal d
  | .exit j=>cond (Nat.beq j id) (k .normal d) (k (.exit j) d)
  | .ret=>k .ret d
 | .loop b,S,k=>match an (F7 b) S b with
  |none=>false
  |some L=>Nat.ble n0 S.n&&Nat.ble cx.K.ng S.n&&Nd S.n S (vH S b L) (It S.n L S)&&xc cx hs n0 an b (vH S b L) fun e d=>match e with
   | .normal=>Nd S.n d (vH S b L) (It S.n L d)&&Vr d.F (PI (It S.n L d)) L.m&&Nat.blt L.m.1.s (S.n+64)&&Nat.blt L.m.2.s (S.n+64)
   | .exit id=>k (.exit id) d
   | .ret=>k .ret d
 | .exit id,S,k=>k (.exit id) S
 | .ret,S,k=>k .ret S
 |_,_,_=>false
theorem SP {P:Program} {c:Code} {Q:Exit->Act->World->Prop} (I:Nat->Act->World->Prop) {n:Nat} (o:I n a w)
  (round: ∀n a w,I n a w->c.wp P (Exit.then (fun g w'=> ∃m,m<n/\I m g w') Q) a w):(Code.loop c).wp P Q a w:=by
 have b: ∀(a:Act) (w:World),(∃n,I n a w)-> ∃m,I m a w/\ ∀k,I k a w->m<=k:=by
  intro a w ⟨n,l⟩
  induction n using Nat.strongRecOn with
  |_ n ih=>
   by_cases h: ∃k,k<n/\I k a w
   ·obtain⟨k,d,f⟩:=h;exact ih k d f
   ·exact⟨n,l,fun k d=>by
     rcases iU k n with h'|h'
     ·exact absurd ⟨k,h',d⟩ h
     ·exact h'⟩
 let μ:Act->World->Nat:=fun a w=>open Classical in if h: ∃n,I n a w then Classical.choose (b a w h) else 0
 have hμ: ∀a w,(∃n,I n a w)->I (μ a w) a w/\ ∀k,I k a w->μ a w<=k:=fun a w h=>by
  show I (open Classical in if h: ∃n,I n a w then Classical.choose (b a w h) else 0) a w/\_;have e:μ a w=Classical.choose (b a w h):=by show(open Classical in if h: ∃n,I n a w then Classical.choose (b a w h) else 0)=_;rw[dif_pos h]
  rw[dif_pos h,e];exact Classical.choose_spec (b a w h)
 refine wp_loop (fun a w=> ∃n,I n a w) μ ⟨n,o⟩ fun a w h=>?_;obtain⟨C,J⟩:=hμ a w h;refine wp_mono (round _ a w C) fun e g w' i=>?_;cases e with
 |normal=>
  obtain⟨m,j,f⟩:=i;exact⟨⟨m,f⟩,G8 ((hμ g w' ⟨m,f⟩).2 m f) j⟩
 |_=>exact i
section
variable {P:Program} {cx:Cx} (hcx:DZ P cx) {hs:List (Nat×Nat)} {env0:Env} {B0:jM} {w0:World} {n0:Nat} {an:Nat->St->Code->Option LA}
theorem WH (h:g.all (fun p=>Nat.ble i p.1)=true) {s:Nat} (hs:s<i):PI g s=⟨s,0⟩:=by
 unfold PI;cases D:lk g s with
 |none=>rfl
 |some e=>
  have:=dT.1 h _ (oR D);rw[mE] at this;dsimp only at this;omega
theorem Ju {K:gX} (c:tS K) (o:env.ρ 0=0) {F:List LC} (b:ln env.ρ F) {σ:Nat->E}: ∀{xs ys:List (Option TV)},Fv F σ xs ys=true->xs.length=ys/\ ∀t v,OV K env (xs.getD t none) v->OV K (env.re σ Vx) (ys.getD t none) v
 | [],[],_=>⟨rfl,fun t v _=>by simp;trivial⟩
 |x::xs,y::ys,h=>by
  simp only[Fv,a6] at h;obtain⟨C,J⟩:=Ju c o b h.2;refine⟨by simp[C],fun t v a=>?_⟩;cases t with
  |zero=>
   simp only[List.getD_cons_zero] at a|-
   have:=OV.lX c o b h.1 a;cases y with
   |none=>trivial
   |some y=>exact TV.nk.1 this
  |succ t=>
   simp only[List.getD_cons_succ] at a|-
   exact J t v a
 | [],_::_,h=>by simp[Fv] at h
 |_::_,[],h=>by simp[Fv] at h
include hcx
theorem Nf {O:Nat->Int} {G:Nat} {S e:St} (h:Sat cx env0 B0 w0 n0 O G S a w env) (m:Nd i S e g=true) (C:n0<=i) (J:G<=i) (h3:cx.K.ng<=i) (Y:G<=e.n):
  Sat cx env0 B0 w0 n0 O G e a w (env.re (PI g) Vx):=by
 have o:env.ρ 0=0:=by rw[h.gd.gl 0 hcx.K.zero.1,hcx.K.zero.2]
 unfold Nd at m;simp only[a6] at m;obtain⟨⟨⟨⟨R,U⟩,V⟩,W⟩,X⟩:=m;obtain⟨s1,s2⟩:=Ju hcx.K o h.F R;have q: ∀s,s<i->(env.re (PI g) Vx).ρ s=env.ρ s:=fun s hs=>by show(PI g s).ev env.ρ=_;rw[WH X hs];simp[E.ev]
 have A: ∀k x,lk e.B k=some x-> ∃y,lk S.B k=some y/\y.1=x.1/\BV.uW S.F y.2 (x.2.map (BV.re (PI g) Vx))=true:=fun k x F=>by
  have:=dT.1 U _ (oR F);dsimp only at this;cases D:lk S.B k with
  |none=>rw[D] at this;cases this
  |some y=>
   rw[D] at this;simp only[a6,nb] at this;exact⟨y,rfl,this.1,this.2⟩
 have l: ∀k,lk e.B k≠none->lk S.B k≠none:=fun k d=>by
  cases F:lk e.B k with
  |none=>exact absurd F d
  |some x=>obtain⟨y,I,_⟩:=A k x F;rw[I];simp
 have hW: ∀k,k∈S.W->k∈e.W:=fun k d=>by have:=dT.1 W k d;rw[mS] at this;obtain⟨N,I,Q⟩:=this;rw[nb] at Q;subst Q;exact I
 refine⟨⟨fun P K=>(q P oG).trans (h.gd.gl P K),fun b c T f m=>?_,fun b t n m=>?_,fun k T xs d=>?_,fun k N d L he=>h.gd.hd k N (l k d) (l N L) he⟩,fun t=>s2 t _ (h.sl t),fun f hf=>?_,?_,h.df,by rw[h.ts,s1],Y⟩
 ·obtain⟨r,v,z⟩:=h.gd.hh b c T f m;exact⟨r,v,fun k d=>z k (l k d)⟩
 ·obtain⟨⟨c,r,v,z⟩,B,H⟩:=h.gd.hH b t n m;exact⟨⟨c,r,v,fun j u hj=>let ⟨p,q1,q2⟩:=z j u hj;⟨p,q1,PC.re.1 q2⟩⟩,B,fun k d=>H k (l k d)⟩
 ·obtain⟨y,r,v,z⟩:=A k (T,xs) d;obtain⟨c,B,H⟩:=h.gd.hB k y.1 y.2 r;rw[v] at B;exact⟨c,B,jH.nk.1 (jH.lX hcx.K o h.F z H)⟩
 ·exact LC.nk.1 (B7 h.F (dT.1 V f hf))
 ·refine⟨h.fr.sz,⟨fun s hs=>?_,fun s hs=>h.fr.ext.β s hs,h.fr.ext.H,h.fr.ext.h⟩,fun b m hH d=>h.fr.keep b m hH fun k M Z=>d k (hW k M) Z,h.fr.Hn,h.fr.hn,fun k d=>h.fr.Bn k (l k d),h.fr.B0,fun s hs=>(q s oG).trans (h.fr.bs s hs),h.fr.io⟩;have:s<n0:=by unfold C7 at hs;rw[fT] at hs;exact hs
  exact(q s oG).trans (h.fr.ext.ρ s hs)
end
end Ra
namespace Ra
open Go
variable {S:St} {env:Env} {i:Nat->Int} {o:Nat}
section
variable {P:Program} {cx:Cx} (hcx:DZ P cx) {hs:List (Nat×Nat)} {env0:Env} {B0:jM} {w0:World} {n0:Nat} {an:Nat->St->Code->Option LA}
theorem Sat.base {c:Nat->Int} {b:Nat} (h:Sat cx env0 B0 w0 n0 i o S a w env) (C:b<=S.n) (D: ∀s,s<b->env.ρ s=c s):Sat cx env0 B0 w0 n0 c b S a w env:=
 ⟨h.gd,h.sl,h.F,⟨h.fr.sz,h.fr.ext,h.fr.keep,h.fr.Hn,h.fr.hn,h.fr.Bn,h.fr.B0,D,h.fr.io⟩,h.df,h.ts,C⟩
theorem Sat.facts (h:Sat cx env0 B0 w0 n0 i o S a w env) {p:List LC} (N:ln env.ρ p):Sat cx env0 B0 w0 n0 i o {S with F:=p++S.F} a w env:=
 ⟨h.gd,h.sl,lP.2 ⟨N,h.F⟩,h.fr,h.df,h.ts,h.nq⟩
include hcx
theorem aac (M:P.follows .mixedOrders=true): ∀(c:Code) (S:St) (k:Ex->St->Bool) (Q:Exit->Act->World->Prop) (i:Nat->Int) (o:Nat) (a:Act) (w:World) (env:Env),xc cx hs n0 an c S k=true->Sat cx env0 B0 w0 n0 i o S a w env->
  (∀e r t w' env',k e r=true->Sat cx env0 B0 w0 n0 i o r t w' env'->Q e.of t w')->c.wp P Q a w:=by
 intro c
 induction c with
 |skip=>intro S k Q i o a w env h g q;exact wp_skip (q .normal S a w env h g)
 |region id ops draw=>
  intro S k Q i o a w env h g q;unfold xc at h;split at h
  ·rename_i r J;exact UZ hcx M J g fun t w' env' d=>q .normal r t w' env' h d
  ·cases h
 |seq x y ihx ihy=>
  intro S k Q i o a w env h g q;refine wp_seq (ihx S _ _ i o a w env h g fun e r t w' env' u d=>?_);cases e with
  |normal=>exact ihy r k Q i o t w' env' u d q
  |exit id=>exact q (.exit id) r t w' env' u d
  |ret=>exact q .ret r t w' env' u d
 |cond c x y ihx ihy=>
  intro S k Q i o a w env h g q;unfold xc at h;split at h
  ·rename_i p N;rw[a6,hU,hU] at h;obtain⟨b,Z,C,D⟩:=wm N (AH hcx.K g.gd.gl g.sl c);have A: ∀l:List LC,l.any (Ig S.F)=true-> ¬ln env.ρ l:=fun l W ho=>by rw[mS] at W;obtain⟨f,hf,I⟩:=W;exact Ih g.F I (ho f hf)
   refine wp_cond_split Z (fun e=>?_) (fun e=>?_)
   ·rcases h.1 with I|J
    ·exact absurd (C e) (A _ I)
    ·exact ihx _ k Q i o a w env J (g.facts (C e)) q
   ·rcases h.2 with I|J
    ·exact absurd (D e) (A _ I)
    ·exact ihy _ k Q i o a w env J (g.facts (D e)) q
  ·cases h
 |block id b ih=>
  intro S k Q i o a w env h g q;refine wp_block (ih S _ _ i o a w env h g fun e r t w' env' u d=>?_);cases e with
  |normal=>exact q .normal r t w' env' u d
  |exit j=>
   show(if j=id then Q .normal t w' else Q (.exit j) t w');cases F:Nat.beq j id with
   |true=>
    dsimp only at u;rw[F] at u;rw[nb] at F;rw[if_pos F];exact q .normal r t w' env' u d
   |false=>
    dsimp only at u;rw[F] at u;rw[if_neg (fun e=>by rw[e,jJ] at F;cases F)];exact q (.exit j) r t w' env' u d
  |ret=>exact q .ret r t w' env' u d
 |loop b ih=>
  intro S k Q i o a w env h g q;unfold xc at h;split at h
  ·cases h
  rename_i L hL;simp only[a6,mE] at h;obtain⟨⟨⟨C,D⟩,X⟩,Y⟩:=h;have H:(vH S b L).n=S.n+64:=rfl;have z:=Nf hcx g X C g.nq D (by rw[H];have:=g.nq;omega);refine SP (fun n a w=> ∃env,Sat cx env0 B0 w0 n0 i o (vH S b L) a w env/\n=(L.m.1.ev env.ρ-L.m.2.ev env.ρ).toNat) ⟨_,z,rfl⟩ ?_;rintro n a w ⟨env,V,rfl⟩;have K:Sat cx env0 B0 w0 n0 env.ρ (S.n+64) (vH S b L) a w env:=V.base lE fun _ _=>rfl;refine ih (vH S b L) _ _ env.ρ (S.n+64) a w env Y K fun e r t w' env' u d=>?_;have v:Sat cx env0 B0 w0 n0 i o r t w' env':=d.base (by have:=d.nq;have:=g.nq;omega) fun s hs=>by rw[d.fr.bs s (by have:=g.nq;omega)];exact V.fr.bs s hs
  cases e with
  |normal=>
   simp only[a6,fT] at u;obtain⟨⟨⟨k1,O⟩,k3⟩,k4⟩:=u;have hw:=Nf hcx v k1 C g.nq D (by rw[H];have:=g.nq;omega);refine⟨_,?_,_,hw,rfl⟩;have T: ∀m:E,m.ev (env'.re (PI (It S.n L r)) Vx).ρ=(m.re (PI (It S.n L r))).ev env'.ρ:=fun m=>(E.Fk (θ:=Vx)).symm;have U: ∀m:E,m.s<S.n+64->m.ev env.ρ=m.ev env'.ρ:=fun m M=>by unfold E.ev;rw[d.fr.bs _ M]
   rw[T,T,U _ k3,U _ k4];unfold Vr at O;simp only[a6,hU] at O;obtain⟨R,B⟩:=O;have R:=jy d.F R
   rcases B with ⟨B,G⟩|⟨B,G⟩
   ·have B:=xN d.F B;have G:=jy d.F G;omega
   ·have B:=xN d.F B;have G:=jy d.F G;omega
  |exit id=>exact q (.exit id) r t w' env' u v
  |ret=>exact q .ret r t w' env' u v
 |exit id=>intro S k Q i o a w env h g q;exact wp_exit (q (.exit id) S a w env h g)
 |ret=>intro S k Q i o a w env h g q;exact wp_ret (q .ret S a w env h g)
 |_=>intro S k Q i o a w env h;cases h
end
def Up (cx:Cx) (S:St):ResultVar->Option CV
 | .tmp t=>match S.sl.getD t none with
  |some (.cv c)=>some c
  |_=>none
 | .cell a ty=>match lk cx.T ty,S.sl.getD a none with
  |some e,some (.cv (.one (.bv (.ptr k off))))=>match lk S.B k with
   |some x=>match fin e ((x.2.drop off).take e.size) [] [] with
    |some r=>match r.tv with
     | .cv c=>some c
     |_=>none
    |none=>none
   |none=>none
  |_,_=>none
def MZ (cx:Cx) (S:St):List ResultVar->Option (List CV)
 | []=>some []
 |r::l=>match Up cx S r,MZ cx S l with
  |some c,some cs=>some (c::cs)
  |_,_=>none
def Ur:List CV->TV
 | [c]=>.cv c
 |l=>.uY l
def TV.mt (g:Sg):TV->TV->Sg
 | .cv p,.cv e=>p.mt g e
 | .uY ps,.uY es=>(ps.zip es).foldl (fun g x=>x.1.mt g x.2) g
 |_,_=>g
def Qr (np:Nat) (g:Sg) (s:Nat):E:=cond (Nat.blt s np) ⟨s,0⟩ (LQ g s)
def Il (np:Nat) (g:Sg) (k:Nat):Nat:=cond (Nat.blt k np) k (J9 g k)
def M0 (a:Spec):Wr:=a.pre.filter fun x=>(lk a.post x.1).isNone
def Ut (cx:Cx) (a:Spec) (d:List ResultVar) (S:St):Bool:=
 match MZ cx S d with
 |none=>false
 |some cs=>
  let g:=(a.post.foldl (fun(g:Sg) x=>match lk S.B (Il a.np g x.1) with
   |some y=>BV.PG g x.2.2 y.2
   |none=>g) (TV.mt ([],[]) a.res (Ur cs)))
  (Ur cs).sub S.F (a.res.re (Qr a.np g) (Il a.np g))&&zd (lk S.B) S.F (Qr a.np g) (Il a.np g) (a.post++M0 a)&&a.pf.all (fun f=>NN S.F (f.re (Qr a.np g)))&&
  nodupB ((a.post++M0 a).map fun x=>Il a.np g x.1)&&a.post.all (fun x=>Nat.blt x.1 a.np||(lk a.pre (Il a.np g x.1)).isNone)&&S.W.all (fun k=>(lk a.post k).isSome||(lk a.pre k).isNone)
def st0 (a:Spec) (b:Nat):St:=⟨a.np,a.args.map some++List.replicate (b-a.args.length) none,a.pre,a.facts,[]⟩
def fnB (cx:Cx) (hs:List (Nat×Nat)) (an:Nat->St->Code->Option LA) (a:Spec) (b:Nat) (d:List ResultVar) (c:Code):Bool:=
 Bt cx.K.ng a&&xc cx hs a.np an c (st0 a b) fun e S=>match e with
  | .exit _=>false
  |_=>Ut cx a d S
end Ra
namespace Ra
open Go
variable {S:St} {d:Spec} {env:Env} {j:Func}
def rv (a:Act):ResultVar->Sem Value
 | .tmp t=>pure (a.tmps.getD t undef)
 | .cell x t=>do loadVar t (<-asAddr (a.tmps.getD x undef))
theorem LN (j:Func) (a:Act):results j a.tmps=(do
  let vs<-j.results.mapM (rv a)
  pure (if h:vs.size=1 then vs[0] else .tuple vs)):=by
 have e:(fun(r:ResultVar)=>(match r with
  | .tmp t=>pure (a.tmps.getD t undef)
  | .cell x t=>do loadVar t (<-asAddr (a.tmps.getD x undef)):Sem Value))=rv a:=funext fun r=>by cases r <;>rfl
 rw[<-e];rfl
section
variable {P:Program} {cx:Cx} (hcx:DZ P cx) {env0:Env} {B0:jM} {w0:World} {n0:Nat} {eb:Nat->Int} {nq:Nat}
include hcx
theorem Uq (h:Sat cx env0 B0 w0 n0 eb nq S a w env) {r:ResultVar} {c:CV} (g:Up cx S r=some c):
  ∃v,(rv a r).run P w=.ok v w/\c.ok cx.K env v:=by
 cases r with
 |tmp t=>
  simp only[Up] at g;have E:=h.sl t;split at g
  ·rename_i c' q;cases g;rw[q] at E;exact⟨_,rfl,E⟩
  ·cases g
 |cell x t=>
  simp only[Up] at g;have E:=h.sl x;split at g
  ·rename_i e k d G q;rw[q] at E;have F:a.tmps.getD x undef=.pointer (pA (env.β k) d):=E;split at g
   ·rename_i y H;split at g
    ·rename_i J o;split at g
     ·rename_i c' D;cases g;obtain⟨cs,i,z⟩:=h.gd.hB k y.1 y.2 H;have n: ∀j u,((cs.drop d).take e.size)[j]? =some u->w.cell? (((pA (env.β k) d):Addr).add j)=some u:=fun j u s=>by
       rw[add_lit,cell_of_row w _ _ _ _ _ i];rw[gq] at s;split at s
       ·rw[gS] at s;simpa using s
       ·cases s
      have b:=z.part d e.size;have B:=b.get.1;unfold fin at o;cases l:(Nat.beq ((y.2.drop d).take e.size).length e.size&&Nat.ble e.size 32) with
      |false=>rw[l] at o;cases o
      |true=>
       rw[l] at o;rw[a6,nb] at l;cases A:e.agg with
       |true=>
        rw[A] at o;cases o;cases D;have m:=uT (P:=P) (w:=w) hcx.T G (pA (env.β k) d) _ (by rw[<-B];exact l.1) n (by rw[A];intro h;cases h);rw[A] at m;exact⟨_,by simp[rv,F,asAddr,m],_,rfl,b⟩
       |false=>
        rw[A] at o;cases f:Nat.beq e.size 1 with
        |false=>rw[f] at o;cases o
        |true=>
         rw[f] at o;cases o;cases D;rw[nb] at f;have m:=uT (P:=P) (w:=w) hcx.T G (pA (env.β k) d) _ (by rw[<-B];exact l.1) n (fun _=>f);rw[A] at m;refine⟨_,by simp[rv,F,asAddr,m];rfl,?_⟩;have C:((y.2.drop d).take e.size).length=1:=by rw[l.1,f]
         generalize (y.2.drop d).take e.size=ys at C b|-
         generalize (cs.drop d).take e.size=I at b|-
         match ys,I,C,b with
         | [p],[u],_,b=>exact b.1
     ·cases g
    ·cases g
   ·cases g
  ·cases g
theorem Jd (h:Sat cx env0 B0 w0 n0 eb nq S a w env): ∀{b:List ResultVar} {cs:List CV},MZ cx S b=some cs->
  ∃vs,(b.mapM (rv a)).run P w=.ok vs w/\uD cx.K env cs vs
 | [],cs,hr=>by cases hr;exact⟨[],by simp,trivial⟩
 |r::b,cs,hr=>by
  simp only[MZ] at hr;split at hr
  ·rename_i c d i z;cases hr;obtain⟨v,C,F⟩:=Uq hcx h i;obtain⟨vs,e,f⟩:=Jd h z;refine⟨v::vs,?_,F,f⟩;rw[List.mapM_cons];simp only[ks,C,e,Result.andThen];rfl
  ·cases hr
omit hcx in
theorem Us {K:gX} {env:Env}: ∀{cs:List CV} {vs:List Value},uD K env cs vs->(Ur cs).ok K env (if h:vs.toArray.size=1 then vs.toArray[0] else .tuple vs.toArray)
 | [],[],_=>⟨[],rfl,trivial⟩
 | [c],[v],h=>h.1
 |c::d::cs,v::u::vs,h=>⟨_,rfl,h⟩
theorem WC (c:Bt cx.K.ng d=true) (h:Sat cx env0 (lk d.pre) w0 d.np eb nq S a w env) (l:Ut cx d j.results.toList S=true):
  ∃v,(results j a.tmps).run P w=.ok v w/\ ∃env',Ext (fun s=>Nat.blt s d.np) env0 env'/\Good cx.K env' (wU (lk d.pre) d.post) w/\Step env0 (lk d.pre) w0 d.post env' w/\d.res.ok cx.K env' v/\ln env'.ρ d.pf:=by
 have U:env.ρ 0=0:=by rw[h.gd.gl 0 hcx.K.zero.1,hcx.K.zero.2]
 unfold Bt at c;simp only[a6,mE,dT,fT] at c;obtain⟨⟨⟨⟨⟨⟨⟨⟨s1,s2⟩,s3⟩,s4⟩,s5⟩,Y⟩,Z⟩,s8⟩,s9⟩:=c;unfold Ut at l;split at l
 ·cases l
 rename_i cs I;dsimp only at l;generalize (d.post.foldl (fun(g:Sg) x=>match lk S.B (Il d.np g x.1) with
   |some y=>BV.PG g x.2.2 y.2
   |none=>g) (TV.mt ([],[]) d.res (Ur cs)))=g at l
 simp only[a6] at l;obtain⟨⟨⟨⟨⟨H,G⟩,M⟩,N⟩,O⟩,R⟩:=l;generalize hσ:Qr d.np g=σ at H G M;generalize hθ:Il d.np g=θ at H G N O;obtain⟨vs,C,L⟩:=Jd hcx h I;have n: ∀s,s<d.np->σ s=⟨s,0⟩:=fun s q=>by rw[<-hσ];unfold Qr;rw[AZ q];rfl
 have t: ∀k,k<d.np->θ k=k:=fun k r=>by rw[<-hθ];unfold Il;rw[AZ r];rfl
 have J:=h.gd.inner hcx.K h.F G N (fun T W=>by rw[n T oG];exact⟨rfl,rfl⟩);have B: ∀k,lk d.pre k≠none->k<d.np:=fun k r=>by
  cases m:lk d.pre k with
  |none=>exact absurd m r
  |some x=>exact Y _ (oR m)
 have F:wU (lk d.pre) d.post=lk (d.post++M0 d):=funext fun k=>by
  rw[E4];unfold wU;cases m:lk d.post k with
  |some x=>rfl
  |none=>
   dsimp only;unfold M0;rw[E5 (p:=fun k=>(lk d.post k).isNone) (by rw[m];rfl)]
 have u:(results j a.tmps).run P w=.ok (if h:vs.toArray.size=1 then vs.toArray[0] else .tuple vs.toArray) w:=by rw[LN,Tc];simp only[ks,map_eq_pure_bind,C,Result.andThen];rfl
 refine⟨_,u,env.re σ θ,⟨fun s q=>?_,fun s q=>?_,h.fr.ext.H,h.fr.ext.h⟩,by rw[F];exact J,⟨h.fr.sz,fun b l V r=>h.fr.keep b l V fun k K Q=>?_,h.fr.Hn,h.fr.hn,fun k r X=>?_,h.fr.io⟩,TV.nk.1 (TV.lX hcx.K U h.F H (Us L)),fun f o=>?_⟩
 ·rw[fT] at q;show(σ s).ev env.ρ=_;rw[n s q];simp only[E.ev,fE];exact h.fr.ext.ρ s (by unfold C7;rw[fT];exact q)
 ·rw[fT] at q;show env.β (θ s)=_;rw[t s q];exact h.fr.ext.β s (by unfold C7;rw[fT];exact q)
 ·have:=dT.1 R k K;rw[hU] at this
  rcases this with i|i
  ·exact r k (by intro e;rw[e] at i;cases i) Q
  ·rw[wY] at i;exact absurd i Q
 ·cases m:lk d.post k with
  |none=>exact absurd m r
  |some x=>
   have D:=oR m;have i:=Z _ D;have z:=dT.1 O _ D;dsimp only at i z;rw[hU,fT] at z;have A:lk S.B (θ k)≠none:=fun e=>by have:=dT.1 G _ (fO.2 (.inl D));dsimp only at this;rw[e] at this;cases this
   rcases z with z|z
   ·rw[AZ z] at i;simp only[cond_true] at i;rw[X] at i;cases i.1
   ·rw[wY] at z
    rcases h.fr.Bn (θ k) A with h3|h3
    ·exact absurd z h3
    ·exact h3
 ·exact LC.nk.1 (B7 h.F (dT.1 M f o))
theorem XV (D:P.follows .mixedOrders=true) {q:List (Nat×Nat)} {K:Nat->St->Code->Option LA} {f:FuncId} {c:Code} (o:P.funcs[f]? =some j) (l:j.body=some c)
  (G: ∀args w,(callFunc f args).run P w=.ok (.enter f args) w) (h:fnB cx q K d j.ntmps j.results.toList c=true):Holds P cx.K f d:=by
 refine⟨G,fun env w args L A b=>?_⟩;unfold fnB at h;rw[a6] at h;obtain⟨i,z⟩:=h;have u:d.args.length=args.toList.length:=by
  have: ∀(ps:List TV) (vs:List Value),D6 cx.K env ps vs->ps.length=vs.length:=by
   intro ps
   induction ps with
   |nil=>intro vs h;cases vs with
    |nil=>rfl
    |cons _ _=>exact h.elim
   |cons p ps ih=>intro vs h;cases vs with
    |nil=>exact h.elim
    |cons v vs=>simp[ih vs h.2]
  exact this _ _ A
 have y: ∀(ps:List TV) (vs:List Value) (n:Nat),D6 cx.K env ps vs-> ∀t,OV cx.K env ((ps.map some++List.replicate n none).getD t none) ((vs.toArray++Array.replicate n undef).getD t undef):=by
  intro ps
  induction ps with
  |nil=>
   intro vs n _ t;have:(List.map some ([]:List TV)++List.replicate n none).getD t none=none:=by rw[gR];simp only[lG,gQ,rW];split <;>rfl
   rw[this];trivial
  |cons p ps ih=>
   intro vs n h t;cases vs with
   |nil=>exact h.elim
   |cons v vs=>
    cases t with
    |zero=>
     have e:((v::vs).toArray++Array.replicate n undef).getD 0 undef=v:=by simp[iS,Xq]
     rw[e];exact h.1
    |succ t=>
     have:=ih vs n h.2 t;simpa[iS,gR,Xq,jG] using this
 have B: ∀k,lk d.pre k≠none->k<d.np:=fun k r=>by
  cases m:lk d.pre k with
  |none=>exact absurd m r
  |some x=>
   unfold Bt at i;simp only[a6,dT] at i;have:=i.1.1.1.2 _ (oR m);rw[fT] at this;exact this
 refine calls_of_wp o l (aac hcx D c (st0 d j.ntmps) _ _ env.ρ d.np _ w env z (env0:=env) (B0:=lk d.pre) (w0:=w)
  ⟨L,fun t=>?_,b,⟨lE,Ext.refl _ _,fun _ _ _ _=>rfl,fun _ h=>.inl h,fun _ _ _ _ h=>.inl h,fun _ h=>.inl h,B,fun _ _=>rfl,⟨rfl,rfl,rfl⟩⟩,rfl,?_,lE⟩ fun e J H w' env' r E=>?_)
 ·have:=y d.args args.toList (j.ntmps-d.args.length) A t;simpa[st0,u] using this
 ·simp[st0,u]
 ·have key:Ut cx d j.results.toList J=true->H.defers=[]/\ ∃v,(results j H.tmps).run P w'=.ok v w'/\ ∃I,Ending.returned v=.returned I/\ ∃a,Ext (fun s=>Nat.blt s d.np) env a/\Good cx.K a (wU (lk d.pre) d.post) w'/\Step env (lk d.pre) w d.post a w'/\d.res.ok cx.K a I/\ln a.ρ d.pf:=fun g=>by obtain⟨v,C,F⟩:=WC hcx i E g;exact⟨E.df,v,C,v,rfl,F⟩
  cases e with
  |normal=>exact key r
  |exit id=>cases r
  |ret=>exact key r
end
end Ra
end Go.Proofs.YtgimnjldndkalaaGreatDoor
