/- Of the proof of TopCosts: What is known of a day ahead of a stop that is put in, in memory. -/
import Derived.Test.YtgimnjldndkalaaGreatDoorF14
import Derived.Test.YtgimnjldndkalaaGreatDoorF18
import Derived.Test.YtgimnjldndkalaaGreatDoorF20
import Derived.Test.YtgimnjldndkalaaGreatDoorF26
import Derived.Test.YtgimnjldndkalaaGreatDoorF28
set_option linter.all false
set_option maxHeartbeats 8000000
set_option maxRecDepth 100000
namespace Go.Proofs.YtgimnjldndkalaaGreatDoor
variable {tw:Bool} {cs:List Value} {b g i lb:Nat} {D D' O:Nat->Prop} {ev fv lv onv v:Value} {W W' w w' w0:World}
section
open Go.Proofs.Tryz
open Go.RowKit jm ko kN B4
variable {d:Dy} {l:List Int}
def RS.at {size n:Nat} {xs:List Value} (h:RS w size v n xs) (d: ∀g,v.ownBlock=some g->w'.heap[g]? =w.heap[g]?) (e:w.heap.size<=w'):RS w' size v n xs:=by obtain⟨A,c,rfl,l,m,p,q⟩:=h;refine⟨A,c,rfl,l,m,p,fun f=>?_⟩;obtain⟨b,o,rfl,a,i⟩:=q f;exact⟨b,o,rfl,bP a e,fun j u k=>(oD (d b rfl)).trans (i j u k)⟩
def OE.vo {g:Nat} {t:TypeId} {cs:List Value} {q:Addr} (h:OE lb w v l) (e:fc w g t cs) (b:t≠48) (a:q.block=g) (u:Value):OE lb (w.setCell q u) v l:=RR h e b a u
def OE.reads (h:OE lb w v l):gx w .i64 v l:=RS.jh h
def xA.keep {base:Nat} {e:TypeId} {d:Value} {f b:List Int} (h:xA lb w fv d lv f b l) (a:kQ e base w w') (c:3≠e):xA lb w' fv d lv f b l:=⟨h.hf.keep a c,h.hb.keep a c,h.hl.keep a c,h.d1,h.d2,h.d3⟩
abbrev xC (x:fS) (A1:Option Addr) (c1:Nat) (A2:Option Addr) (c2:Nat):List Value:=[x.days,x.mm,x.cap,x.len,.slice A1 x.eB c1,.slice A2 x.gn c2]
abbrev nD (x:fS) (A1:Option Addr) (c1:Nat) (A2:Option Addr) (c2:Nat) (Ad:Option Addr) (n cd:Nat) (onv:Value) (tw:Bool) (fv:Value) (bad:Int) (lv ev:Value):List Value:=
 (yX x A1 c1 A2 c2 [.slice Ad n cd,onv,tw,fv,bad,lv,ev])
def uq:(prog.info? 375).map (·.size)=some 13:=kR
structure vt (W:World) (d:Dy) (onv:Value) (tw:Bool) (fv lv ev:Value):Prop where
 tw:tw=false->(oN d).Nodup
 on:gx W .i64 onv (qU (oN d))
 f: ∃F,gx W .i64 fv F/\F.length=d
 l: ∃L,gx W .i64 lv L/\L.length=d
 e: ∃E,gx W .i64 ev E/\E.length=d
def FL (O:Nat->Prop) (v:Value):Prop:= ∀g,v.ownBlock=some g->O g
def gx.kept (h:gx W .i64 v l) (d:FL O v) (c: ∀k,O k->W'.heap[k]? =W.heap[k]?) (e:W.heap.size<=W'):gx W' .i64 v l:=RS.at h (fun g a=>c g (d g a)) e
def vt.kept (h:vt W d onv tw fv lv ev) (l:FL O onv) (m:FL O fv) (p:FL O lv) (q:FL O ev) (c: ∀k,O k->W'.heap[k]? =W.heap[k]?) (e:W.heap.size<=W'):
  vt W' d onv tw fv lv ev:=by
 obtain⟨a,b,⟨F,c1,c2⟩,⟨L,f,g⟩,E,i,j⟩:=h;exact⟨a,b.kept l c e,⟨F,c1.kept m c e,c2⟩,⟨L,f.kept p c e,g⟩,E,i.kept q c e,j⟩
def vt.below {B:Nat} (h:vt W d onv tw fv lv ev) (e:Below B W W') (c:W.heap.size<=B):vt W' d onv tw fv lv ev:=by obtain⟨a,b,⟨F,c1,c2⟩,⟨L,f,g⟩,E,i,j⟩:=h;exact⟨a,b.below e c,⟨F,c1.below e c,c2⟩,⟨L,f.below e c,g⟩,E,i.below e c,j⟩
structure PW (n:Nat) (d:Dy) (s:vg) (t p:Int):Prop where
 sok:xd n s
 nd:(oN d).Nodup
 nin:s.1∉oN d
 at_:(∃(k:Nat) (u:Tr) (j:Nat),t=k/\d[k]? =some u/\p=j/\j<=u)\/(t=d/\p=0)
def Sd (n:Nat) (d:Dy) (s:vg):Vi:=fun k _ _ x=> ∃t p m:Int,x= #[.agg #[t,p,m]]/\PW n d s t p/\k<=yw d
structure mi (n0 kb sb:Nat) (w0:World) (x:fS) (A1:Option Addr) (c1:Nat) (A2:Option Addr) (c2:Nat) (Ad:Option Addr) (cd:Nat) (d:Dy) (onv:Value) (tw:Bool) (fv:Value) (bad:Int) (lv ev:Value) (z q:Int) (O:Nat->Prop) (W:World):Prop where
 bl:Below n0 w0 W
 k:fc W kb 375 (nD x A1 c1 A2 c2 Ad d cd onv tw fv bad lv ev)
 s:fc W sb 84 [z,q]
 r:vt W d onv tw fv lv ev
 ok:O kb
 os:O sb
 o1:FL (fun b=>O b\/b<n0) onv
 o2:FL (fun b=>O b\/b<n0) fv
 o3:FL (fun b=>O b\/b<n0) lv
 o4:FL (fun b=>O b\/b<n0) ev
 lt: ∀k,O k->k<W.heap.size
section
variable {n0 kb sb:Nat} {x:fS} {A1:Option Addr} {c1:Nat} {A2:Option Addr} {c2:Nat} {Ad:Option Addr} {cd:Nat} {d:Dy} {bad:Int} {z q:Int}
def mi.step (h:mi n0 kb sb w0 x A1 c1 A2 c2 Ad cd d onv tw fv bad lv ev z q O W) (e:Below n0 W W') (c: ∀k,O k->W'.heap[k]? =W.heap[k]?):mi n0 kb sb w0 x A1 c1 A2 c2 Ad cd d onv tw fv bad lv ev z q O W':=
 ⟨h.bl.trans e,(c kb h.ok).trans h.k,(c sb h.os).trans h.s,h.r.kept h.o1 h.o2 h.o3 h.o4 (fun k a=>a.elim (c k) (e.block k)) e.size,h.ok,h.os,h.o1,h.o2,h.o3,h.o4,fun k a=>bP (h.lt k a) e.size⟩
def mi.more {b:Nat->Prop} (h:mi n0 kb sb w0 x A1 c1 A2 c2 Ad cd d onv tw fv bad lv ev z q O W) (c: ∀k,O k->b k) (e: ∀k,b k->k<W.heap.size):mi n0 kb sb w0 x A1 c1 A2 c2 Ad cd d onv tw fv bad lv ev z q b W:=
 ⟨h.bl,h.k,h.s,h.r,c _ h.ok,c _ h.os,fun g a=>(h.o1 g a).imp (c _) id,fun g a=>(h.o2 g a).imp (c _) id,fun g a=>(h.o3 g a).imp (c _) id,fun g a=>(h.o4 g a).imp (c _) id,e⟩
def mi.below (h:mi n0 kb sb w0 x A1 c1 A2 c2 Ad cd d onv tw fv bad lv ev z q O W) (e:Below W W W') (f:n0<=W):mi n0 kb sb w0 x A1 c1 A2 c2 Ad cd d onv tw fv bad lv ev z q O W':=
 h.step (e.mono f) fun k a=>e.block k (h.lt k a)
end
end
section
open Go.RowKit jm ko kN
variable {size:Nat} {α:Type} {L:List α} {R:World->List Value->α->Prop}
inductive Mu (n K:Nat) (w:World) (e:Ending) (w':World):Prop
 |mk (dv:Value) (d:Dy) (z:Int) (he:e=.returned (.tuple #[.agg #[dv],z])) (ho:OT w w' dv d) (hd:jS n K d) (hne: ∀t∈d,t≠[]) (hb:Below w w w')
inductive aay (n K:Nat) (w:World) (e:Ending) (w':World):Prop
 |mk (dv:Value) (d:Dy) (he:e=.returned (.agg #[dv])) (ho:OT w w' dv d) (hd:jS n K d) (hne: ∀t∈d,t≠[]) (hb:Below w w w')
inductive To (n K:Nat) (w:World) (e:Ending) (w':World):Prop
 |mk (dv:Value) (d:Dy) (b:Bool) (he:e=.returned (.tuple #[.agg #[dv],b])) (ho:OT w w' dv d) (hd:jS n K d) (hne: ∀t∈d,t≠[]) (hb:Below w w w')
def RL.atG {w w':World} {v:Value} (e: ∀cs x,R w cs x->R w' cs x) (h:RL size R w v L) (y: ∀g,v.ownBlock=some g->w'.heap[g]? =w.heap[g]?) (m:w.heap.size<=w'):RL size R w' v L:=by obtain⟨A,c,rfl,d,k,l⟩:=h;refine⟨A,c,rfl,d,k,fun p=>?_⟩;obtain⟨b,o,rfl,a,n⟩:=l p;refine⟨b,o,rfl,bP a m,fun i x f=>?_⟩;obtain⟨cs,q,r,s⟩:=n i x f;exact⟨cs,q,e _ _ r,fun j u t=>(oD (y b rfl)).trans (s j u t)⟩
def PZ (D:Nat->Prop) (w:World) (cs:List Value) (t:Tr):Prop:= ∃b,cs=[b]/\RL 2 iH w b t/\FL D b
def nN (D:Nat->Prop) (w:World) (v:Value) (d:Dy):Prop:=RL 1 (PZ D) w v d/\FL D v
section
variable {d:Dy}
def nN.at (h:nN D w v d) (i: ∀k,D k->w'.heap[k]? =w.heap[k]?) (m:w.heap.size<=w'):nN D w' v d:=
 ⟨RL.atG (w:=w) (R:=PZ D) (fun _ _ ⟨b,e,c,f⟩=>⟨b,e,RL.atG (w:=w) (R:=iH) (fun _ _ h=>h) c (fun g a=>i g (f g a)) m,f⟩) h.1 (fun g a=>i g (h.2 g a)) m,h.2⟩
def RL.imp {g:World->List Value->α->Prop} (e: ∀cs x,R w cs x->g w cs x) (h:RL size R w v L):RL size g w v L:=by obtain⟨A,c,rfl,d,k,l⟩:=h;refine⟨A,c,rfl,d,k,fun p=>?_⟩;obtain⟨b,o,rfl,a,n⟩:=l p;refine⟨b,o,rfl,a,fun i x f=>?_⟩;obtain⟨cs,q,r,s⟩:=n i x f;exact⟨cs,q,e _ _ r,s⟩
def nN.mono (h:nN D w v d) (i: ∀k,D k->D' k):nN D' w v d:=
 ⟨RL.imp (fun _ _ ⟨b,e,c,f⟩=>⟨b,e,c,fun g a=>i g (f g a)⟩) h.1,fun g a=>i g (h.2 g a)⟩
def nN.reads (h:nN D w v d):RL 1 jf w v d:=RL.imp (fun _ _ ⟨b,e,c,_⟩=>⟨b,e,c⟩) h.1
def nN.jL (D:Nat->Prop) (w:World):nN D w () []:=⟨⟨none,0,rfl,lE,by simp[maxLen],fun h=>by simp at h⟩,fun g h=>by cases h⟩
def nB (w:World) (k:Nat):Prop:= ∃o:Obj,w.heap[k]? =some o/\o.isCells=true
def nB.lt {w:World} {k:Nat} (h:nB w k):k<w.heap.size:=by obtain⟨o,h,-⟩:=h;exact(aah.1 h).1
def Fh {n:Nat} {e:TypeId} {w:World} {v:Value} {xs:List Value} (h:w.ownsRow lb e size v n xs): ∀g,v.ownBlock=some g->lb<=g/\nB w g:=fun g a=>by
 rcases h.2 with ⟨d,-⟩|⟨c,c2,b,d,k,l,-⟩
 ·rw[d] at a;cases a
 ·rw[d] at a;cases a;exact⟨k,_,l,rfl⟩
def nN.of (h:OT lb w v d):nN (fun k=>lb<=k/\nB w k) w v d:=by
 refine⟨RL.imp (R:=lI lb 84) (fun cs t c=>?_) (OL.reads h fun _ _ h=>h),?_⟩
 ·obtain⟨b,e,i⟩:=c;refine⟨b,e,OL.reads i fun _ _ h=>h,fun g a=>?_⟩;obtain⟨xs,f⟩:=OL.own i;exact Fh f g a
 ·intro g a;obtain⟨xs,f⟩:=OL.own h;exact Fh f g a
def nN.slice (h:nN D w v d): ∃A c,v=.slice A d c:=by obtain⟨A,c,e,-⟩:=h.1;exact⟨A,c,e⟩
end
end
namespace Ra
open Go.Proofs.Tryz
open Go Go.RowKit jm ko kN
variable {T:TypeId} {c:Array Value} {f:Nat×Nat}
def Ka (h w w':World) (N:Nat->Option (Nat×Nat)):World:={w' with heap:=w'.heap.mapIdx fun b o=>if b<w.heap.size then h.heap.getD b (.map #[] 0) else if (N b).isSome then .map #[] 0 else o}
def xM (env:Env) (ρ':Nat->Int) (w w':World) (N:Nat->Option (Nat×Nat)):Env:={env with ρ:=ρ',h:=Ka env.h w w' N,H:=fun b=>match N b with
 |some x=>some x
 |none=>env.H b}
section
variable {h:World} {N:Nat->Option (Nat×Nat)}
theorem M6 (d:w.heap.size<=b) (l:N b=none):(Ka h w w' N).heap[b]? =w'.heap[b]? :=by
 unfold Ka;rw[nz];cases w'.heap[b]? with
 |none=>rfl
 |some o=>simp[l,S8.2 d]
theorem M7 (d:b<w) (a:(Ka h w w' N).heap[b]? =some (.cells c T f)):h.heap[b]? =some (.cells c T f):=by
 unfold Ka at a;rw[nz] at a;cases e:w'.heap[b]? with
 |none=>rw[e] at a;cases a
 |some o=>
  rw[e] at a;simp only[lL,d,if_true,lH] at a;rw[iS] at a;cases g:h.heap[b]? with
  |none=>rw[g] at a;cases a
  |some q=>rw[g] at a;simp at a;rw[a]
theorem UC (d:w.heap.size<=b) (a:(Ka h w w' N).heap[b]? =some (.cells c T f)):w'.heap[b]? =some (.cells c T f)/\N b=none:=by
 unfold Ka at a;rw[nz] at a;cases e:w'.heap[b]? with
 |none=>rw[e] at a;cases a
 |some o=>
  rw[e] at a;cases l:N b with
  |some x=>simp[l,S8.2 d] at a
  |none=>simp[l,S8.2 d] at a;rw[a];exact⟨rfl,rfl⟩
theorem UD (e:w.heap.size<=w') (F: ∀b c T f,h.heap[b]? =some (.cells c T f)->b<w.heap.size):Sub h (Ka h w w' N):=fun b c T f a=>by have d:=F b c T f a;unfold Ka;rw[nz,fM (show b<w' by omega)];simp only[lL,d,if_true];rw[iS,a];rfl
theorem Good.new {K:gX} (I:tS K) {env:Env} (m:Good K env (lk []) w) (d:Below w w w') {ρ':Nat->Int} {np:Nat} (G:K.ng<=np) (hρ: ∀s,s<np->ρ' s=env.ρ s)
  (l: ∀b t n,N b=some (t,n)->w.heap.size<=b/\(∃c,w'.heap[b]? =some (.cells c (K.ty t) (0,0))/\c.size=n/\lA K (xM env ρ' w w' N) t c)/\n%(K.pat t).length=0):
  Ext (fun s=>Nat.blt s np) env (xM env ρ' w w' N)/\Good K (xM env ρ' w w' N) (lk []) w'/\Step env (lk []) w [] (xM env ρ' w w' N) w':=by
 have E: ∀b c T f,env.h.heap[b]? =some (.cells c T f)->b<w.heap.size:=fun b c T f h=>fP (m.hh b c T f h).1;have e: ∀b,env.H b≠none->b<w.heap.size:=fun b h=>by
  cases a:env.H b with
  |none=>exact absurd a h
  |some x=>obtain⟨⟨c,i,-,-⟩,-,-⟩:=m.hH b x.1 x.2 a;exact fP i
 have C: ∀b,b<w.heap.size->N b=none:=fun b z=>by
  cases a:N b with
  |none=>rfl
  |some x=>have:=(l b x.1 x.2 a).1;omega
 have j: ∀b,b<w.heap.size->(xM env ρ' w w' N).H b=env.H b:=fun b z=>by show(match N b with|some x=>some x|none=>env.H b)=_;rw[C b z]
 have u:Ext (fun s=>Nat.blt s np) env (xM env ρ' w w' N):=⟨fun s F=>hρ s (by rwa [fT] at F),fun _ _=>rfl,fun b x u=>by rw[j b (e b (by rw[u];simp))];exact u,UD d.size E⟩;have p: ∀{b:Nat} {o:Obj},w.heap[b]? =some o->w'.heap[b]? =some o:=fun{b o} h=>by rw[d.block b (fP h)];exact h
 refine⟨u,⟨fun g h=>(hρ g oG).trans (m.gl g h),fun b c T f a=>?_,fun b t n a=>?_,fun k T xs h=>?_,fun k J h _ _=>?_⟩,⟨d.size,fun b h _ _=>d.block b h,fun b a=>?_,fun b c T f a=>?_,fun k h=>absurd rfl h,⟨d.os,d.tape,d.output⟩⟩⟩
 ·rcases iU b w with hl|hl
  ·have A:=M7 hl a;obtain⟨i,q,y⟩:=m.hh b c T f A;exact⟨p i,by rw[j b hl];exact q,y⟩
  ·have A:=UC hl a;refine⟨A.1,?_,fun k D=>absurd rfl D⟩;show(match N b with|some x=>some x|none=>env.H b)=none;rw[A.2];cases r:env.H b with
   |none=>rfl
   |some x=>have:=e b (by rw[r];simp);omega
 ·rcases iU b w with hl|hl
  ·rw[j b hl] at a;obtain⟨⟨c,i,q,y⟩,B,H⟩:=m.hH b t n a;exact⟨⟨c,p i,q,y.ext I u⟩,B,H⟩
  ·have r:N b=some (t,n):=by
    change (match N b with|some x=>some x|none=>env.H b)=some (t,n) at a;cases v:N b with
    |some x=>rw[v] at a;exact a
    |none=>rw[v] at a;dsimp only at a;have:=e b (by rw[a];simp);omega
   obtain⟨-,i,q⟩:=l b t n r;exact⟨i,q,fun k D=>absurd rfl D⟩
 ·exact absurd h (by simp[lk])
 ·exact absurd rfl h
 ·rcases iU b w with hl|hl
  ·rw[j b hl] at a;exact .inl a
  ·exact .inr hl
 ·rcases iU b w with hl|hl
  ·exact .inl (M7 hl a)
  ·exact .inr hl
end
variable {x:fS}
theorem vJ (u:ga x) {f:FuncId} {j:Func} {a:Spec} (z:prog.funcs[f]? =some j) (d:j.body.isSome=true) (G:(j.name== "runtime.NumGoroutine")=false) (g:a.pre=[]) (h:a.post=[]) (k:6<=a.np)
  (r: ∀(env:Env) (w:World) (args:Array Value),Good (kinds x) env (lk []) w->D6 (kinds x) env a.args args.toList->ln env.ρ a.facts->
   Calls prog f args w fun e w'=> ∃v ρ' N,e=.returned v/\Below w w w'/\(∀s,s<a.np->ρ' s=env.ρ s)/\
    (∀b t n,N b=some (t,n)->w.heap.size<=b/\(∃c,w'.heap[b]? =some (.cells c ((kinds x).ty t) (0,0))/\c.size=n/\lA (kinds x) (xM env ρ' w w' N) t c)/\n%((kinds x).pat t).length=0)/\a.res.ok (kinds x) (xM env ρ' w w' N) v/\ln ρ' a.pf):ik x f a:=by
 refine⟨enters z d G,fun env w args m p o=>?_⟩;rw[g] at m;refine(r env w args m p o).mono ?_;rintro e w' ⟨v,ρ',N,rfl,i,q,l,y,B⟩;obtain⟨A,C,D⟩:=m.new (fR u) i k q l;rw[g,h];exact⟨v,rfl,_,A,C,D,y,B⟩
end Ra
namespace Ra
open Go.Proofs.Tryz
open Go Go.RowKit jm ko kN
variable {B:jM} {K:gX} {P:Program} {env env' env0:Env} {f:FuncId} {r:Spec}
theorem Step.vS {d e:Env} {w1 j:World} (h:Step env (lk []) w [] d w1) (k:Step d (lk []) w1 [] e j):Step env (lk []) w [] e j:=by
 have s: ∀b,b<w.heap.size->env.H b=none->d.H b=none:=fun b i a=>by
  cases g:d.H b with
  |none=>rfl
  |some x=>
   rcases h.Hn b (by rw[g];simp) with h1|h1
   ·exact absurd a h1
   ·omega
 refine⟨eZ h.sz k.sz,fun b i a _=>?_,fun b i=>?_,fun b c T f i=>?_,fun q g=>absurd rfl g,h.io.trans k.io⟩
 ·rw[k.keep b (by have:=h.sz;omega) (s b i a) (fun q g=>absurd rfl g)];exact h.keep b i a fun q g=>absurd rfl g
 ·rcases k.Hn b i with h1|h1
  ·exact h.Hn b h1
  ·exact .inr (eZ h.sz h1)
 ·rcases k.hn b c T f i with h1|h1
  ·exact h.hn b c T f h1
  ·exact .inr (eZ h.sz h1)
structure oE (K:gX) (env0:Env) (w0:World) (env:Env) (w:World):Prop where
 ext:Ext (fun _=>true) env0 env
 kY:Good K env (lk []) w
 step:Step env0 (lk []) w0 [] env w
section
variable {K:gX} (hK:tS K) {env0 env:Env} {w0 w w':World}
theorem oE.refl (g:Good K env (lk []) w):oE K env w env w:=⟨Ext.refl _ _,g,Step.refl _ _ _ _ rfl rfl⟩
include hK
theorem oE.new (h:oE K env0 w0 env w) (i:Below w w w') (N:Nat->Option (Nat×Nat))
  (a: ∀b t n,N b=some (t,n)->w.heap.size<=b/\(∃c,w'.heap[b]? =some (.cells c (K.ty t) (0,0))/\c.size=n/\lA K (xM env env.ρ w w' N) t c)/\n%(K.pat t).length=0):oE K env0 w0 (xM env env.ρ w w' N) w':=by
 obtain⟨y,m,l⟩:=h.kY.new hK i (ρ':=env.ρ) (np:=K.ng) lE (fun _ _=>rfl) a;exact⟨h.ext.trans ⟨fun _ _=>rfl,fun _ _=>rfl,y.H,y.h⟩,m,h.step.vS l⟩
theorem oE.below (h:oE K env0 w0 env w) (i:Below w w w'):oE K env0 w0 env w':=by obtain⟨-,m,l⟩:=Good.below hK h.kY i (ρ':=env.ρ) (np:=K.ng) lE (fun _ _=>rfl);exact⟨h.ext,m,h.step.vS l⟩
theorem oE.fin (h:oE K env0 w0 env w) {np:Nat} (k:K.ng<=np) {ρ':Nat->Int} (hρ: ∀s,s<np->ρ' s=env.ρ s):Ext (fun s=>Nat.blt s np) env0 {env with ρ:=ρ'}/\Good K {env with ρ:=ρ'} (lk []) w/\Step env0 (lk []) w0 [] {env with ρ:=ρ'} w:=by obtain⟨y,m,l⟩:=Good.below hK h.kY bF k hρ;exact⟨(h.ext.Pn fun _ _=>rfl).trans y,m,h.step.vS l⟩
end
theorem zk (g:Good K env B w) {t:Nat} {l:Int} (h:jd K env t v l) {i:Nat} (I:(i:Int)<l): ∃b o n c,v=.slice (pA b o) n c/\b<w.heap.size/\(n:Int)=l/\ ∀j,j<(K.pat t).length-> ∃u p,w.cell? (pA b (o+i*(K.pat t).length+j))=some u/\(K.pat t)[j]? =some p/\p.ok K env 0 u:=by
 obtain⟨a,n,c,rfl,k,G,A,f,q⟩:=h;cases a with
 |none=>have:=f rfl;omega
 |some ad=>
  obtain⟨b,o,r⟩:=ad;obtain⟨rfl,z,s,e,d⟩:=q _ rfl;obtain⟨⟨cs,C,H,E⟩,-,-⟩:=g.hH b t z s;have e:o%(K.pat t).length=0:=e;have d:o+c*(K.pat t).length<=z:=d;refine⟨b,o,n,c,rfl,fP C,k,fun j F=>?_⟩;have y:(i+1)*(K.pat t).length<=c*(K.pat t).length:=nZ _ oG;rw[pz,Nat.one_mul] at y;have m:o+i*(K.pat t).length+j<cs.size:=oG;obtain⟨p,D,x⟩:=E _ _ (fM m);refine⟨_,p,by rw[cell_of_row w b _ cs _ _ C,fM m],?_,x⟩;rw[show(o+i*(K.pat t).length+j)%(K.pat t).length=j by rw[mf,Nat.add_mod,e,gW,Nat.mod_mod,sY,wg,zJ F]] at D;exact D
def mW (env:Env) (b:Nat):Prop:=env.H b=none/\ ∀c T f,env.h.heap[b]? ≠some (.cells c T f)
theorem Step.free {wr:Wr} (h:Step env B w wr env' w') (i:b<w) (p:mW env b):mW env' b:=by
 refine⟨?_,fun c T f a=>?_⟩
 ·cases g:env'.H b with
  |none=>rfl
  |some x=>
   rcases h.Hn b (by rw[g];simp) with h1|h1
   ·exact absurd p.1 h1
   ·omega
 ·rcases h.hn b c T f a with h1|h1
  ·exact p.2 c T f h1
  ·omega
theorem Step.ig (h:Step env (lk []) w [] env' w') (i:b<w) (p:mW env b) {T:TypeId} {cs:List Value} (k:fc w b T cs):fc w' b T cs:=by
 unfold fc at k|-
 rw[h.keep b i p.1 fun q g=>absurd rfl g];exact k
theorem oE.put (h:oE K env0 w0 env w) (i:w0.heap.size<=b) (p:mW env b) (o:Nat) (v:Value):oE K env0 w0 env (w.setCell (pA b o) v):=by
 have j: ∀q,q≠b->(w.setCell (pA b o) v).heap[q]? =w.heap[q]? :=fun q g=>heap_setCell_other w (pA b o) q v g;have r:(w.setCell (pA b o) v).heap.size=w.heap.size:=by simp[World.setCell]
 obtain⟨y,m,l⟩:=h;refine⟨y,⟨m.gl,fun q c T f a=>?_,fun q t n a=>?_,fun k T xs a=>absurd a (by simp[lk]),fun k I a=>absurd rfl a⟩,⟨by rw[r];exact l.sz,fun q g a A=>?_,l.Hn,l.hn,fun q g=>absurd rfl g,l.io.trans ⟨rfl,rfl,rfl⟩⟩⟩
 ·have d:q≠b:=fun e=>p.2 c T f (e▸a);rw[j q d];exact m.hh q c T f a
 ·have d:q≠b:=fun e=>by rw[e,p.1] at a;cases a
  rw[j q d];exact m.hH q t n a
 ·rw[j q oG];exact l.keep q g a A
theorem GM (K:gX) (env:Env) (t:Nat):jd K env t () 0:=⟨none,0,0,rfl,rfl,lE,oG,fun _=>rfl,fun a h=>by cases h⟩
theorem oE.free (g:Good K env (lk []) w) {k:Nat} (j:w.heap.size<=k):mW env k:=by
 refine⟨?_,fun c T f a=>?_⟩
 ·cases a:env.H k with
  |none=>rfl
  |some z=>
   obtain⟨t,z⟩:=z;have:=g.ltH a;omega
 ·have:=g.lth a;omega
theorem oE.call (hK:tS K) (h:oE K env0 w0 env w) (H:Holds P K f r) (j:r.pre=[]) (o:r.post=[]) (ρ':Nat->Int) (hρ: ∀s,s<K.ng->ρ' s=env.ρ s) (args:Array Value)
  (D:D6 K {env with ρ:=ρ'} r.args args.toList) (C:ln ρ' r.facts):
  Calls P f args w fun e w'=> ∃v,e=.returned v/\ ∃env',oE K env0 w0 {env' with ρ:=env.ρ,β:=env.β} w'/\Ext (fun _=>true) env {env' with ρ:=env.ρ,β:=env.β}/\Step env (lk []) w [] {env' with ρ:=env.ρ,β:=env.β} w'/\(∀s,s<r.np->env'.ρ s=ρ' s)/\r.res.ok K env' v/\ln env'.ρ r.pf:=by
 obtain⟨-,E,-⟩:=Good.below hK h.kY bF lE hρ;have m:=H.2 {env with ρ:=ρ'} w args (by rw[j];exact E) D C;refine m.mono ?_;rintro e w' ⟨v,rfl,env',x,z,d,F,G⟩;rw[j,o] at z d;have u:Ext (fun _=>true) env {env' with ρ:=env.ρ,β:=env.β}:=⟨fun _ _=>rfl,fun _ _=>rfl,x.H,x.h⟩;have p:Step env (lk []) w [] {env' with ρ:=env.ρ,β:=env.β} w':=⟨d.sz,fun b i a _=>d.keep b i a (fun q g=>absurd rfl g),d.Hn,d.hn,fun q g=>absurd rfl g,d.io⟩;have A:Ext (fun _=>false) env' {env' with ρ:=env.ρ,β:=env.β}:=⟨fun _ h=>(by cases h),fun _ h=>(by cases h),fun _ _ h=>h,Sub.refl _⟩;refine⟨v,rfl,env',⟨h.ext.trans u,⟨h.kY.gl,fun b c T f a=>?_,fun b t n a=>?_,fun k T xs a=>absurd a (by simp[lk]),fun k I a=>absurd rfl a⟩,h.step.vS p⟩,u,p,fun s p=>x.ρ s (by rw[fT];exact p),F,G⟩
 ·obtain⟨y,m,-⟩:=z.hh b c T f a;exact⟨y,m,fun q g=>absurd rfl g⟩
 ·obtain⟨⟨c,y,m,l⟩,B,-⟩:=z.hH b t n a;exact⟨⟨c,y,m,l.ext hK A⟩,B,fun q g=>absurd rfl g⟩
variable {x:fS}
theorem CN (u:ga x) {a:Func} (p:prog.funcs[f]? =some a) (i:a.body.isSome=true) (k:(a.name== "runtime.NumGoroutine")=false) (j:r.pre=[]) (o:r.post=[]) (b:6<=r.np)
  (A: ∀(env:Env) (w:World) (args:Array Value),Good (kinds x) env (lk []) w->D6 (kinds x) env r.args args.toList->ln env.ρ r.facts->
   Calls prog f args w fun e w'=> ∃v d ρ',e=.returned v/\oE (kinds x) env w d w'/\(∀s,s<r.np->ρ' s=d.ρ s)/\r.res.ok (kinds x) {d with ρ:=ρ'} v/\ln ρ' r.pf):ik x f r:=by
 refine⟨enters p i k,fun env w args g D C=>?_⟩;rw[j] at g;refine(A env w args g D C).mono ?_;rintro e w' ⟨v,d,ρ',rfl,y,m,l,B⟩;obtain⟨c,E,h⟩:=y.fin (fR u) b m;rw[j,o];exact⟨v,rfl,_,c,E,h,l,B⟩
theorem ve {o:Oper} {a:Act} {b:Act->World->Prop} {Q:Exit->Act->World->Prop} (s y:Operand) (t:TypeId) (e:o.op=.call {callee:=.builtin .append,args:= #[s,y],argTypes:= #[t,t]})
  (c:(Builtin.append_ #[t,t] o.type #[a.eval s,a.eval y]).run P w=.ok v w') (h:b (a.put o.dst v) w'):Oper.wp P o a w b Q:=by
 unfold Oper.wp execOp;simp only[e,resolve,invoke,builtin,ks,pR,lO,mT,gN,lG,c];exact h
end Ra
namespace Ra
open Go Go.RowKit jm ko kN
variable {K:gX} {env env0:Env}
def oE.Cv (L:tS K) {P:Program} (h:oE K env0 w0 env w) {f:FuncId} {m:Spec} (hh:Holds P K f m) {q:Nat} {T:TypeId} {xs ys:List BV} (A:m.pre=[(q,T,xs)]) (E:m.post=[(q,T,ys)]\/m.post=[]/\ys=xs)
  (hg:w0.heap.size<=g) (M:mW env g) {cs:List Value} (p:fc w g T cs) (ρ':Nat->Int) (hρ: ∀s,s<K.ng->ρ' s=env.ρ s) (args:Array Value)
  (Y:jH K {env with ρ:=ρ',β:=fun _=>g} xs cs) (ha:D6 K {env with ρ:=ρ',β:=fun _=>g} m.args args.toList) (hF:ln ρ' m.facts) (l:q<m.np):
  Calls P f args w fun e w'=> ∃v,e=.returned v/\ ∃env' r,oE K env0 w0 {env' with ρ:=env.ρ,β:=env.β} w'/\Ext (fun _=>true) env {env' with ρ:=env.ρ,β:=env.β}/\w.heap.size<=w'/\(∀b,b<w.heap.size->b≠g->mW env b->w'.heap[b]? =w.heap[b]?)/\
   (∀b,b<w.heap.size->mW env b->mW env' b)/\fc w' g T r/\jH K env' ys r/\(∀s,s<m.np->env'.ρ s=ρ' s/\env'.β s=g)/\m.res.ok K env' v/\ln env'.ρ m.pf:=by
 have X:Ext (fun _=>false) env {env with ρ:=ρ',β:=fun _=>g}:=⟨fun _ h=>(by cases h),fun _ h=>(by cases h),fun _ _ h=>h,Sub.refl _⟩;have V: ∀k,lk [(q,T,xs)] k=if k=q then some (T,xs) else none:=fun k=>by
  unfold lk;cases y:Nat.beq q k with
  |true=>rw[nb] at y;subst y;simp
  |false=>rw[if_neg (by rintro rfl;rw[jJ] at y;cases y)];rfl
 have S:Good K {env with ρ:=ρ',β:=fun _=>g} (lk m.pre) w:=by
  rw[A];refine⟨fun s H=>(hρ s H).trans (h.kY.gl s H),fun b c T f d=>?_,fun b t n d=>?_,fun k T' aa d=>?_,fun k k' d C _=>?_⟩
  ·obtain⟨i,o,-⟩:=h.kY.hh b c T f d;exact⟨i,o,fun k _ e=>M.2 c T f ((show g=b from e)▸d)⟩
  ·obtain⟨⟨c,i,o,I⟩,J,-⟩:=h.kY.hH b t n d;exact⟨⟨c,i,o,I.ext L X⟩,J,fun k _ e=>by have d:env.H b=some (t,n):=d;rw[<-(show g=b from e),M.1] at d;cases d⟩
  ·rw[V] at d;split at d
   ·cases d;exact⟨cs,p,Y⟩
   ·cases d
  ·rw[V] at d C;split at d
   ·split at C
    ·rename_i a b;rw[a,b]
    ·exact absurd rfl C
   ·exact absurd rfl d
 refine(hh.2 _ w args S ha hF).mono ?_;rintro e w' ⟨v,rfl,env',G,N,z,e4,e5⟩;have F:Ext (fun _=>true) env {env' with ρ:=env.ρ,β:=env.β}:=⟨fun _ _=>rfl,fun _ _=>rfl,G.H,G.h⟩;have Z:Ext (fun _=>false) env' {env' with ρ:=env.ρ,β:=env.β}:=⟨fun _ h=>(by cases h),fun _ h=>(by cases h),fun _ _ h=>h,Sub.refl _⟩;have B: ∀b,b<w.heap.size->b≠g->env.H b=none->w'.heap[b]? =w.heap[b]? :=fun b j D d=>z.keep b j d fun k _ _ e=>D (show g=b from e).symm;have Q: ∀b,b<w.heap.size->env.H b=none->env'.H b=none:=fun b j d=>by
  cases l:env'.H b with
  |none=>rfl
  |some x=>
   rcases z.Hn b (by rw[l];simp) with i|i
   ·exact absurd d i
   ·omega
 have R: ∀b,b<w.heap.size->mW env b->mW env' b:=fun b j u=>⟨Q b j u.1,fun c T f d=>by
  rcases z.hn b c T f d with i|i
  ·exact u.2 c T f i
  ·omega⟩
 have W:wU (lk m.pre) m.post q=some (T,ys):=by
  rcases E with i|⟨i,rfl⟩
  ·exact oW (by rw[i];unfold lk;rw[jJ];rfl)
  ·rw[i,Nc,A,V,if_pos rfl]
 obtain⟨r,k1,k2⟩:=N.hB q T ys W;have hβ:env'.β q=g:=G.β q (by rw[fT];exact l);rw[hβ] at k1;have O:w0.heap.size<=w.heap.size:=h.step.sz;have H0: ∀b,b<w0.heap.size->env0.H b=none->env.H b=none:=fun b j d=>by
  cases l:env.H b with
  |none=>rfl
  |some x=>
   rcases h.step.Hn b (by rw[l];simp) with i|i
   ·exact absurd d i
   ·omega
 refine⟨v,rfl,env',r,⟨h.ext.trans F,⟨h.kY.gl,fun b c T f d=>?_,fun b t n d=>?_,fun k T xs d=>absurd d (by simp[lk]),fun k k' d=>absurd rfl d⟩,⟨eZ O z.sz,fun b j d _=>?_,fun b p=>?_,fun b c T f p=>?_,fun k U=>absurd rfl U,h.step.io.trans z.io⟩⟩,F,z.sz,fun b j D u=>B b j D u.1,R,k1,k2,fun s H=>⟨G.ρ s (by rw[fT];exact H),G.β s (by rw[fT];exact H)⟩,e4,e5⟩
 ·obtain⟨i,o,-⟩:=N.hh b c T f d;exact⟨i,o,fun q l=>absurd rfl l⟩
 ·obtain⟨⟨c,i,o,I⟩,J,-⟩:=N.hH b t n d;exact⟨⟨c,i,o,I.ext L Z⟩,J,fun q l=>absurd rfl l⟩
 ·rw[B b oG oG (H0 b j d)];exact h.step.keep b j d fun q l=>absurd rfl l
 ·rcases z.Hn b p with i|i
  ·exact h.step.Hn b i
  ·exact .inr (eZ O i)
 ·rcases z.hn b c T f p with i|i
  ·exact h.step.hn b c T f i
  ·exact .inr (eZ O i)
def oE.Hi (L:tS K) (h:oE K env0 w0 env w) {t n:Nat} (hg:w0.heap.size<=g) (M:mW env g) {c:Array Value} (p:w.heap[g]? =some (.cells c (K.ty t) (0,0))) (s:c.size=n) (u:lA K env t c) (r:n%(K.pat t).length=0):
  oE K env0 w0 {env with H:=fun b=>if b=g then some (t,n) else env.H b} w/\Ext (fun _=>true) env {env with H:=fun b=>if b=g then some (t,n) else env.H b}:=by
 have F:Ext (fun _=>true) env {env with H:=fun b=>if b=g then some (t,n) else env.H b}:=⟨fun _ _=>rfl,fun _ _=>rfl,fun b x a=>by show(if b=g then some (t,n) else env.H b)=_;rw[if_neg (by rintro rfl;rw[M.1] at a;cases a)];exact a,Sub.refl _⟩;refine⟨⟨h.ext.trans F,⟨h.kY.gl,fun b c T f d=>?_,fun b m j d=>?_,fun k T xs d=>absurd d (by simp[lk]),fun k k' d=>absurd rfl d⟩,⟨h.step.sz,h.step.keep,fun b p=>?_,h.step.hn,fun k U=>absurd rfl U,h.step.io⟩⟩,F⟩
 ·obtain⟨i,o,-⟩:=h.kY.hh b c T f d;refine⟨i,?_,fun q l=>absurd rfl l⟩;show(if b=g then some (t,n) else env.H b)=none;rw[if_neg (by rintro rfl;exact M.2 c T f d)];exact o
 ·change (if b=g then some (t,n) else env.H b)=some (m,j) at d;split at d
  ·rename_i e;cases d;subst e;exact⟨⟨c,p,s,u.ext L F⟩,r,fun q l=>absurd rfl l⟩
  ·obtain⟨⟨c,i,o,I⟩,J,-⟩:=h.kY.hH b m j d;exact⟨⟨c,i,o,I.ext L F⟩,J,fun q l=>absurd rfl l⟩
 ·by_cases e:b=g
  ·subst e;exact .inr hg
  ·change (if b=g then some (t,n) else env.H b)≠none at p;rw[if_neg e] at p;exact h.step.Hn b p
end Ra
namespace Ra
open Go.Proofs.Tryz
open Go Go.RowKit jm ko kN
section
variable {x:fS} (hx:ga x)
include hx
theorem aaY:ik x 164 YW:=vJ hx Tryz.func164 (by kernel_rfl) (by kernel_rfl) rfl rfl (by decide) fun env w args hg ha hF=>by
 obtain⟨v,b,rfl,h1,h2⟩:=xh ha;obtain⟨rfl,i2⟩:=jZ h2;have hz:=jW hx hg;have hd:env.ρ 2=x.days:=hg.gl 2 (show 2 <6 by decide);have hh:=hx.head;obtain⟨a,n,c,rfl,hn,hnc,hc,ha0,had⟩:=h1;have hn1:n=1:=by have e:(n:Int)=env.ρ 0+1:=hn;omega
 subst hn1;cases a with
 |none=>have:=ha0 rfl;omega
 |some ad=>
  obtain⟨b,o,sp⟩:=ad;obtain⟨rfl,z,hH,-,hle⟩:=had _ rfl;obtain⟨⟨cs,g1,g2,g3⟩,-,-⟩:=hg.hH b 0 z hH;have hle:o+c*1≤z:=hle;have ho:o <cs.size:=by omega
  obtain⟨p,hp,hpo⟩:=g3 o cs[o] (fM ho);have hp2:p= .int:=by change [PC.int][o%1]? =some p at hp;rw[pC] at hp;exact(fg hp).symm
  subst hp2;obtain⟨q,hq,hqi⟩: ∃n,cs[o]= .int .i64 n∧kP n:=hpo;have hcell:w.cell? ⟨b,o,none⟩=some (.int .i64 q):=by rw[cell_of_row w b o cs _ _ g1,fM ho,hq]
  obtain⟨m,hm⟩: ∃m:Nat,env.ρ 2=m:=⟨(env.ρ 2).toNat,by omega⟩;rw[hm];refine(LM w b o c q hcell (fP g1) m (by omega) (by omega)).mono ?_;rintro e w' ⟨L,rfl,hl,hu,hw,hb⟩;refine⟨_,env.ρ,fun k=>if k=w.heap.size then some (0,m) else none,rfl,hb,fun s h=>rfl,fun k t n hk=> ?_,?_,fF _⟩
  ·dsimp only at hk;split at hk
   ·rename_i e;cases hk;subst e;refine⟨ij _,⟨L.toArray,hw,by simpa using hl,fun j u hj=> ?_⟩,pC _⟩;obtain⟨y,rfl,hy⟩:=hu u (a8 (i:=j) (by simpa using hj));refine⟨.int,by change [PC.int][j%1]? =_;rw[pC];rfl,⟨y,rfl,?_⟩⟩
    rcases hy with rfl|rfl
    ·exact hqi
    ·unfold kP;decide
   ·cases hk
  ·refine⟨_,m,m,rfl,?_,ij _,by omega,(fun h=>by cases h),fun ad h=> ?_⟩
   ·show(m:Int)=env.ρ 2+0;omega
   ·cases h;refine⟨rfl,m,?_,AX _,by show 0+m*1≤m;omega⟩;show(match (if w.heap.size=w.heap.size then some (0,m) else none:Option (Nat×Nat)) with|some x=>some x|none=>env.H w.heap.size)=_;rw[if_pos rfl]
end
end Ra
namespace Ra
open Go.Proofs.Tryz
open Go Go.RowKit jm uf ko kN
variable {K:gX} {a d:Int} {c:Value} {env env0:Env} {l:List Value}
theorem Ui (s d n:Nat) (i:s<2^n) (g:d<n) (b:n<=64):bits BinOp.or IntKind.u64 (s:Int) (IntKind.u64.wrap (2^d))=((s|||2^d:Nat):Int)/\s|||2^d<2^n:=by have z:2^d<=2^63:=jk dE oG;have m:2^n<=2^64:=jk dE b;have e:((2:Int)^d)=((2^d:Nat):Int):=sI;refine⟨?_,Nat.or_lt_two_pow i (Nat.pow_lt_pow_right dE g)⟩;rw[e];generalize 2^d=q at*;rw[show IntKind.u64.wrap ((q:Nat):Int)=((q:Nat):Int) from IntWalk.u64_in _ ⟨oG,oG⟩,bits_or_u64_nat s q oG oG]
theorem Po (s d n:Nat) (w:World) (i:s<2^n) (g:d<n) (b:n<=64):
  Calls prog 195 #[.int .u64 (s:Int),(d:Int)] w fun e w'=> ∃c:Nat,e=.returned (.int .u64 (c:Int))/\c<2^n/\w'=w:=by
 have f:decide ((d:Int)<64)=true:=decide_eq_true oG;have a:=zH (Ui s d n i g b);clear i;go_enter func195,ntmps195;go_wp2;go_ret;rw[a.out.1];exact⟨_,rfl,a.2,rfl⟩
def TH:Option (Int×Int)->List Value
 |none=>[false,.int .i64 0,.int .i64 0]
 |some (c,l)=>[true,c,l]
def tab (f:Nat->Option (Int×Int)):List Value:=(List.range 65).flatMap fun i=>TH (f i)
structure Ci (f:Nat->Option (Int×Int)):Prop where
 lo: ∀i c l,f i=some (c,l)-> -1<=l/\l<i
 up: ∀i c (l:Nat),f i=some (c,(l:Int))->f l≠none
theorem B8 (o:Option (Int×Int)):(TH o).length=3:=by
 cases o with
 |none=>rfl
 |some p=>rfl
theorem JF (f:Nat->Option (Int×Int)) (j:Nat) (a:j<3): ∀(n i o:Nat),i<n->((List.range' o n).flatMap fun i=>TH (f i))[i*3+j]? =(TH (f (o+i)))[j]?
 |n+1,0,o,_=>by rw[zE,gG,fu (by rw[B8];omega),vq,gW,gv]
 |n+1,i+1,o,h=>by rw[zE,gG,fo (by rw[B8];omega),B8,show(i+1)*3+j-3=i*3+j by omega,JF f j a n i (o+1) oG,Nat.add_right_comm,mf]
theorem JG (f:Nat->Option (Int×Int)): ∀(n o:Nat),((List.range' o n).flatMap fun i=>TH (f i)).length=n*3
 |0,o=>rfl
 |n+1,o=>by rw[zE,gG,fa,B8,JG f n];omega
theorem zp (f:Nat->Option (Int×Int)) {j:Nat} (n:i<65) (a:j<3):(tab f)[i*3+j]? =(TH (f i))[j]? :=by unfold tab;rw[DV,JF f j a 65 i 0 n,gW]
theorem Cc (f:Nat->Option (Int×Int)):(tab f).length=195:=by unfold tab;rw[DV,JG]
def uY (f:Nat->Option (Int×Int)) (i:Nat) (c l:Int):Nat->Option (Int×Int):=fun k=>if k=i then some (c,l) else f k
theorem UK (f:Nat->Option (Int×Int)) (n:i<65) (c l:Int):(((tab f).set (i*3) true).set (i*3+1) c).set (i*3+2) l=tab (uY f i c l):=by
 apply mq;intro k
 rcases iU k 195 with hk|hk
 ·obtain⟨a,j,rfl,z,m⟩: ∃a j,k=a*3+j/\a<65/\j<3:=⟨k/3,k%3,oG,oG,oG⟩;rw[zp _ z m];simp only[xz,jt,Cc];by_cases e:a=i
  ·subst e;have b:uY f a c l a=some (c,l):=if_pos rfl;rw[b]
   match j,m with
   |0,_=>rw[if_neg oG,if_neg oG,if_pos oG,if_pos oG];rfl
   |1,_=>rw[if_neg oG,if_pos oG,if_pos oG];rfl
   |2,_=>rw[if_pos oG,if_pos oG];rfl
  ·have b:uY f i c l a=f a:=if_neg e;rw[b,if_neg oG,if_neg oG,if_neg oG,zp _ z m]
 ·rw[hX (by simp only[jt,Cc];omega),hX (by rw[Cc];omega)]
theorem Ci.zero:Ci fun _=>none:=⟨fun _ _ _ h=>(by cases h),fun _ _ _ h=>(by cases h)⟩
theorem Ci.put {f:Nat->Option (Int×Int)} (h:Ci f) {c l:Int} (z: -1<=l) (m:l<i) (j: ∀k:Nat,l=k->f k≠none):Ci (uY f i c l):=by
 have b: ∀k,f k≠none->uY f i c l k≠none:=fun k a=>by
  unfold uY;split
  ·simp
  ·exact a
 refine⟨fun k c' d a=>?_,fun k c' d a=>?_⟩
 ·unfold uY at a;split at a
  ·rename_i e;cases a;exact⟨z,oG⟩
  ·exact h.lo k c' d a
 ·refine b d ?_;unfold uY at a;split at a
  ·cases a;exact j d rfl
  ·exact h.up k c' d a
structure uE (K:gX) (env0:Env) (w0:World) (g:Nat) (cs:List Value) (f:Nat->Option (Int×Int)) (env:Env) (w:World):Prop where
 st:oE K env0 w0 env w
 bx:fc w g 47 cs
 tb:fc w (g+1) 307 (tab f)
 f1:mW env g
 f2:mW env (g+1)
 ok:Ci f
 le:w0.heap.size<=g
section
variable {K:gX} {env0 env env':Env} {f:Nat->Option (Int×Int)}
theorem uE.step (h:uE K env0 w0 g cs f env w) (i:Step env (lk []) w [] env' w') (a:oE K env0 w0 env' w'):uE K env0 w0 g cs f env' w':=
 ⟨a,i.ig h.bx.lt h.f1 h.bx,i.ig h.tb.lt h.f2 h.tb,i.free h.bx.lt h.f1,i.free h.tb.lt h.f2,h.ok,h.le⟩
theorem uE.below (b:tS K) (h:uE K env0 w0 g cs f env w) (a:Below w w w'):uE K env0 w0 g cs f env w':=
 ⟨h.st.below b a,h.bx.below a h.bx.lt,h.tb.below a h.tb.lt,h.f1,h.f2,h.ok,h.le⟩
theorem uE.Eh (h:uE K env0 w0 g cs f env w) (n:i<65) {c l:Int} (z: -1<=l) (m:l<i) (j: ∀k:Nat,l=k->f k≠none):
  uE K env0 w0 g cs (uY f i c l) env (((w.setCell (pA (g+1) (i*3)) true).setCell (pA (g+1) (i*3+1)) c).setCell (pA (g+1) (i*3+2)) l):=by
 have b: ∀o,g≠((pA (g+1) o):Addr).block:=fun o=>by show g≠g+1;omega
 have a:w0.heap.size<=g+1:=by have:=h.le;omega
 have q:=h.tb;have e:=UK f n c l;refine⟨((h.st.put a h.f2 _ _).put a h.f2 _ _).put a h.f2 _ _,((h.bx.kj (b _) _).kj (b _) _).kj (b _) _,?_,h.f1,h.f2,h.ok.put z m j,h.le⟩;generalize tab f=T at*;generalize tab (uY f i c l)=d at*;subst e;exact((q.gH _ _).gH _ _).gH _ _
theorem uE.there (h:uE K env0 w0 g cs f env w) (n:i<65):w.there (g+1) (i*3) 3:=fun j a=>by have q:=h.tb;have e:=Cc f;generalize tab f=T at*;refine⟨?_,q.frozen _⟩;rw[q.cell,fp oG];rfl
theorem uE.Yw (h:uE K env0 w0 g cs f env w) {q:Nat} (b:g+1<q) (a:mW env q) (o:Nat) (v:Value):uE K env0 w0 g cs f env (w.setCell (pA q o) v):=
 ⟨h.st.put (by have:=h.le;omega) a o v,h.bx.kj (show g≠q by omega) _,h.tb.kj (show g+1≠q by omega) _,h.f1,h.f2,h.ok,h.le⟩
theorem uE.get (h:uE K env0 w0 g cs f env w) (n:i<65) {a b:Value} (d:TH (f i)=[a,b,c]):w.cell? (pA (g+1) (i*3))=some a/\w.cell? (pA (g+1) (i*3+1))=some b/\w.cell? (pA (g+1) (i*3+2))=some c:=by
 have e:(tab f)[i*3+0]? =some a:=by rw[zp f n oG,d];rfl
 have z:(tab f)[i*3+1]? =some b:=by rw[zp f n oG,d];rfl
 have m:(tab f)[i*3+2]? =some c:=by rw[zp f n oG,d];rfl
 rw[gv] at e;have q:=h.tb;generalize tab f=T at*;rw[q.cell,q.cell,q.cell];exact⟨e,z,m⟩
end
theorem uD.cons {p:CV} {ps:List CV} (h:uD K env (p::ps) l): ∃v vs,l=v::vs/\p.ok K env v/\uD K env ps vs:=by
 cases l with
 |nil=>exact h.elim
 |cons v vs=>exact⟨v,vs,rfl,h.1,h.2⟩
theorem uD.nil (h:uD K env [] l):l=[]:=by
 cases l with
 |nil=>rfl
 |cons v vs=>exact h.elim
theorem wz (h:Ext (fun _=>true) env0 env) {np:Nat} {ρ':Nat->Int} (hρ: ∀s,s<np->ρ' s=env.ρ s):Ext (fun s=>Nat.blt s np) env0 {env with ρ:=ρ'}:=
 ⟨fun s i=>by rw[<-h.ρ s rfl];exact hρ s (by rwa [fT] at i),fun s _=>h.β s rfl,h.H,h.h⟩
theorem XA {p q r s:TV} {a:Array Value} (h:D6 K env [p,q,r,s] a.toList): ∃v u t y,a= #[v,u,t,y]/\p.ok K env v/\q.ok K env u/\r.ok K env t/\s.ok K env y:=by obtain⟨v,vs,z,m,j⟩:=h.cons;obtain⟨u,A,l,k,o⟩:=j.cons;obtain⟨t,ts,b,c,d⟩:=o.cons;obtain⟨y,ys,e,f,g⟩:=d.cons;rw[l,b,e,g.nil] at z;exact⟨v,u,t,y,zF.1 z,m,k,c,f⟩
theorem rH:(prog.info? 306).map (·.size)=some 3:=kR
theorem U0:zeroCells307=(tab fun _=>none).toArray:=kR
section
variable {x:fS} (hx:ga x)
include hx
theorem XC (h:oE (kinds x) env0 w0 env w) (q:(cu 6).ok (kinds x) env0 c) (m: -1<=a/\a<=64) (g:0<=d/\d<=64):
  Calls prog 268 #[c,.int .i64 a,.int .i64 d] w fun e w'=> ∃a b,e=.returned (.tuple #[.int .i64 a,.int .i64 b])/\kP a/\ ∃f,oE (kinds x) env0 w0 f w'/\Step env (lk []) w [] f w':=by
 have r:=jW hx h.kY;refine(h.call (fR hx) (Yj hx) rfl rfl (put (put env.ρ 14 a) 15 d) (fun s i=>?_) #[c,a,d] ⟨?_,⟨?_,?_⟩,⟨?_,?_⟩,trivial⟩ ?_).mono ?_
 ·have i:s<6:=i;rw[fy oG,fy oG]
 ·refine TV.ext (fR hx) (wz h.ext (np:=14) fun s i=>?_) rfl q;rw[fy oG,fy oG]
 ·show Value.int .i64 a=.int .i64 (put (put env.ρ 14 a) 15 d 14+0);rw[fy dE,ie,fE]
 ·show kP (put (put env.ρ 14 a) 15 d 14+0);rw[fy dE,ie];unfold kP;omega
 ·show Value.int .i64 d=.int .i64 (put (put env.ρ 14 a) 15 d 15+0);rw[ie,fE]
 ·show kP (put (put env.ρ 14 a) 15 d 15+0);rw[ie];unfold kP;omega
 ·have t:put (put env.ρ 14 a) 15 d 0=0:=by rw[fy dE,fy dE,r]
  have u:put (put env.ρ 14 a) 15 d 14=a:=by rw[fy dE,ie]
  have y:put (put env.ρ 14 a) 15 d 15=d:=ie;refine jD.2 ⟨?_,jD.2 ⟨?_,jD.2 ⟨?_,fF _⟩⟩⟩
  ·show put (put env.ρ 14 a) 15 d 0<=put (put env.ρ 14 a) 15 d 14+1;omega
  ·show put (put env.ρ 14 a) 15 d 0<=put (put env.ρ 14 a) 15 d 15+0;omega
  ·show put (put env.ρ 14 a) 15 d 15<=put (put env.ρ 14 a) 15 d 0+64;omega
 ·rintro e w' ⟨v,rfl,env',z,-,j,-,⟨A,rfl,l⟩,-⟩;obtain⟨D,B,rfl,⟨rfl,n⟩,k⟩:=uD.cons (p:=o1 (bi 16)) (ps:=[o1 (bi 17)]) l;obtain⟨E,C,rfl,⟨rfl,-⟩,o⟩:=uD.cons k;obtain rfl:=uD.nil o;exact⟨_,_,rfl,n,_,z,j⟩
theorem XD (h:oE (kinds x) env0 w0 env w) (q:(cu 6).ok (kinds x) env0 c) (m:kP a) (g:kP d):
  Calls prog 269 #[c,.int .i64 a,.int .i64 d] w fun e w'=> ∃a,e=.returned (.int .i64 a)/\ ∃f,oE (kinds x) env0 w0 f w'/\Step env (lk []) w [] f w':=by
 refine(h.call (fR hx) (Wi hx) rfl rfl (put (put env.ρ 14 a) 15 d) (fun s i=>?_) #[c,a,d] ⟨?_,⟨?_,?_⟩,⟨?_,?_⟩,trivial⟩ (fF _)).mono ?_
 ·have i:s<6:=i;rw[fy oG,fy oG]
 ·refine TV.ext (fR hx) (wz h.ext (np:=14) fun s i=>?_) rfl q;rw[fy oG,fy oG]
 ·show Value.int .i64 a=.int .i64 (put (put env.ρ 14 a) 15 d 14+0);rw[fy dE,ie,fE]
 ·show kP (put (put env.ρ 14 a) 15 d 14+0);rw[fy dE,ie,fE];exact m
 ·show Value.int .i64 d=.int .i64 (put (put env.ρ 14 a) 15 d 15+0);rw[ie,fE]
 ·show kP (put (put env.ρ 14 a) 15 d 15+0);rw[ie,fE];exact g
 ·rintro e w' ⟨v,rfl,env',z,-,j,-,⟨rfl,-⟩,-⟩;exact⟨_,rfl,_,z,j⟩
theorem XB (h:oE (kinds x) env0 w0 env w) {l:Value} {m:Int} (c:jd (kinds x) env0 0 l m) (k:0<=m) (g:kP d):
  Calls prog 211 #[l,.int .i64 d] w fun e w'=> ∃a,e=.returned (.int .i64 a)/\ ∃f,oE (kinds x) env0 w0 f w'/\Step env (lk []) w [] f w':=by
 have r:=jW hx h.kY;have b:put (put env.ρ 6 m) 7 d 6=m:=by rw[fy dE,ie]
 have t:put (put env.ρ 6 m) 7 d 0=0:=by rw[fy dE,fy dE,r]
 refine(h.call (fR hx) (Wh hx) rfl rfl (put (put env.ρ 6 m) 7 d) (fun s i=>?_) #[l,d] ⟨?_,⟨?_,?_⟩,trivial⟩ (wH ?_)).mono ?_
 ·have i:s<6:=i;rw[fy oG,fy oG]
 ·show jd (kinds x) _ 0 l (put (put env.ρ 6 m) 7 d 6+0);rw[b,fE];exact jd.ext h.ext c
 ·show Value.int .i64 d=.int .i64 (put (put env.ρ 6 m) 7 d 7+0);rw[ie,fE]
 ·show kP (put (put env.ρ 6 m) 7 d 7+0);rw[ie,fE];exact g
 ·show put (put env.ρ 6 m) 7 d 0<=put (put env.ρ 6 m) 7 d 6+0;omega
 ·rintro e w' ⟨v,rfl,env',z,-,j,-,⟨rfl,-⟩,-⟩;exact⟨_,rfl,_,z,j⟩
theorem aaI (h:oE (kinds x) env0 w0 env w) (q:(cu 6).ok (kinds x) env0 c) (a:ln env0.ρ GF) {s:Nat} (i:s<2^x.days.toNat) (g:x.days.toNat<=64):
  Calls prog 270 #[c,.int .u64 s] w fun e w'=> ∃v,e=.returned v/\ ∃f n,oE (kinds x) env0 w0 f w'/\jd (kinds x) f 2 v n/\0<=n/\n<=64:=by
 have m:2^x.days.toNat<=2^64:=jk dE g;have t:=hx.head;refine(h.call (fR hx) (aby hx) rfl rfl env.ρ (fun s i=>rfl) #[c,.int .u64 s] ⟨?_,⟨s,rfl,?_,oG⟩,trivial⟩ ?_).mono ?_
 ·exact TV.ext (fR hx) h.ext rfl q
 ·rw[show x.days=((x.days.toNat:Nat):Int) by omega];exact Di i
 ·exact ln.ext h.ext rfl a
 ·rintro e w' ⟨v,rfl,env',z,-,j,o,l,k⟩;have r:env'.ρ 0=0:=(o 0 (show 0<14 by decide)).trans (jW hx h.kY);have d:env'.ρ 0<=env'.ρ 14+0:=k ⟨0,14,0⟩ (.head _);have p:env'.ρ 14<=env'.ρ 0+64:=k ⟨14,0,64⟩ (.tail _ (.head _));have b:jd (kinds x) env' 2 v (env'.ρ 14+0):=l;rw[fE] at b;exact⟨v,rfl,_,_,z,b,oG,oG⟩
end
end Ra
namespace Ra
open Go.Proofs.Tryz
open Go Go.RowKit jm ko kN
variable {env env0:Env}
theorem XH (x:fS): ∃el ee zs,Hf (kinds x) VV 26 0 el ee zs/\Hd (kinds x) ((kinds x).pat 0) 0 ee.zero.cells.toList=true:=by obtain⟨z,hz,p⟩: ∃z,xl (kinds x) VV 26 0=some z/\Hd (kinds x) ((kinds x).pat 0) 0 z.1.zero.cells.toList=true:=⟨_,rfl,rfl⟩;obtain⟨el,he⟩:=rF hz;exact⟨el,_,_,he,p⟩
abbrev hC (x:fS) (A1:Option Addr) (c1:Nat) (A2:Option Addr) (c2:Nat) (v:Value) (b:Int) (p f g:Value):List Value:=(yX x A1 c1 A2 c2 [v,b,p,f,g])
structure uG (K:gX) (env0:Env) (w0:World) (gw gp:Nat) (D0:Nat->Prop) (w1:World) (cs ps:List Value) (f:Nat->Int) (env:Env) (w:World):Prop where
 st:oE K env0 w0 env w
 bw:fc w gw 234 cs
 bp:fc w gp 26 ps
 f1:mW env gw
 f2:mW env gp
 l1:w0.heap.size<=gw
 l2:w0.heap.size<=gp
 ne:gw≠gp
 ok: ∀j v,ps[j]? =some v->jd K env 0 v (f j)
 kp: ∀b,D0 b->mW env b/\b<w.heap.size/\b≠gp/\w.heap[b]? =w1.heap[b]?
section
variable {K:gX} {env0 env env':Env} {w1:World} {gw gp:Nat} {D0:Nat->Prop} {ps:List Value} {f:Nat->Int}
theorem uG.step (h:uG K env0 w0 gw gp D0 w1 cs ps f env w) (o:Step env (lk []) w [] env' w') (hx:Ext (fun _=>true) env env') (c:oE K env0 w0 env' w'):uG K env0 w0 gw gp D0 w1 cs ps f env' w':=
 ⟨c,o.ig h.bw.lt h.f1 h.bw,o.ig h.bp.lt h.f2 h.bp,o.free h.bw.lt h.f1,o.free h.bp.lt h.f2,h.l1,h.l2,h.ne,fun j v m=>jd.ext hx (h.ok j v m),fun b a=>let ⟨k1,k2,k3,k4⟩:=h.kp b a;⟨o.free k2 k1,bP k2 o.sz,k3,(o.keep b k2 k1.1 fun q d=>absurd rfl d).trans k4⟩⟩
theorem uG.below (k:tS K) (h:uG K env0 w0 gw gp D0 w1 cs ps f env w) (a:Below w w w'):uG K env0 w0 gw gp D0 w1 cs ps f env w':=
 ⟨h.st.below k a,h.bw.below a h.bw.lt,h.bp.below a h.bp.lt,h.f1,h.f2,h.l1,h.l2,h.ne,h.ok,fun b c=>let ⟨k1,k2,k3,k4⟩:=h.kp b c;⟨k1,bP k2 a.size,k3,(a.block b k2).trans k4⟩⟩
theorem uG.V7 {g:Nat->Int} (h:uG K env0 w0 gw gp D0 w1 cs ps f env w) (o: ∀j,j<ps.length->f j=g j):uG K env0 w0 gw gp D0 w1 cs ps g env w:=
 ⟨h.st,h.bw,h.bp,h.f1,h.f2,h.l1,h.l2,h.ne,fun j v m=>by rw[<-o j (bX.1 m).1];exact h.ok j v m,h.kp⟩
theorem uG.Eh (h:uG K env0 w0 gw gp D0 w1 cs ps f env w) {i:Nat} {l:Int} (c:jd K env 0 v l):uG K env0 w0 gw gp D0 w1 cs (ps.set i v) (fun j=>if j=i then l else f j) env (w.setCell (pA gp i) v):=
 ⟨h.st.put h.l2 h.f2 _ _,h.bw.kj h.ne _,h.bp.gH i v,h.f1,h.f2,h.l1,h.l2,h.ne,fun j u m=>by
  rw[xz] at m;split at m
  ·rename_i e;subst e;rw[if_pos rfl];split at m
   ·cases m;exact c
   ·cases m
  ·rename_i e;rw[if_neg (jN e)];exact h.ok j u m,fun b a=>let ⟨k1,k2,k3,k4⟩:=h.kp b a;⟨k1,by simpa[World.setCell] using k2,k3,(heap_setCell_other w (pA gp i) b v k3).trans k4⟩⟩
end
section
variable {x:fS} (hx:ga x)
include hx
theorem MI (h:oE (kinds x) env0 w0 env w) (g:Nat) (o:g=w) (i:Int) (hi:kP i):
  ∃l,oE (kinds x) env0 w0 l (w.alloc (cB 3 [i]))/\Ext (fun _=>true) env l/\Step env (lk []) w [] l (w.alloc (cB 3 [i]))/\jd (kinds x) l 0 (.slice g 1 1) 1:=by
 subst o;obtain⟨N,q⟩: ∃N:Nat->Option (Nat×Nat),N=fun k=>if k=w.heap.size then some (0,1) else none:=⟨_,rfl⟩;have a:=(bS w w).alloc lE (cB 3 [i]);have d: ∀b t n,N b=some (t,n)->w.heap.size<=b/\(∃c,(w.alloc (cB 3 [i])).heap[b]? =some (.cells c ((kinds x).ty t) (0,0))/\c.size=n/\lA (kinds x) (xM env env.ρ w (w.alloc (cB 3 [i])) N) t c)/\n%((kinds x).pat t).length=0:=fun b t n a=>by
  rw[q] at a;dsimp only at a;split at a
  ·rename_i e;cases a;subst e;refine⟨lE,⟨_,World.alloc_heap_new w _,rfl,fun j u m=>?_⟩,show 1%1=0 from rfl⟩
   match j,m with
   |0,m=>cases m;exact⟨.int,rfl,i,rfl,hi⟩
   |j+1,m=>simp at m
  ·cases a
 obtain⟨f,p,r⟩:=h.kY.new (fR hx) a (ρ':=env.ρ) (np:=6) lE (fun _ _=>rfl) d;refine⟨_,h.new (fR hx) a N d,⟨fun _ _=>rfl,fun _ _=>rfl,f.H,f.h⟩,r,?_⟩;refine⟨_,1,1,rfl,rfl,lE,oG,nF,fun s h=>?_⟩;cases h;refine⟨rfl,1,?_,rfl,lE⟩;show(match N w with|some x=>some x|none=>env.H w)=_;rw[q];simp
theorem Uj {w1:World} {D0:Nat->Prop} {gw gp:Nat} {A1:Option Addr} {c1:Nat} {A2:Option Addr} {c2:Nat} {p f:Value} {b:Int} {ps:List Value} {g:Nat}
  (h:uG (kinds x) env0 w0 gw gp D0 w1 (hC x A1 c1 A2 c2 v b p f (.slice gp x.eB x.eB)) ps (fun _=>g) env w) (W:xv.ok (kinds x) env0 (.agg (xC x A1 c1 A2 c2).toArray)) (n:ps.length=x.eB) (af:g<=64):
  Calls prog 170 #[.pointer gw,(g:Int)] w fun e w'=>e=.returned (.tuple #[])/\ ∃r env',uG (kinds x) env0 w0 gw gp D0 w1 (hC x A1 c1 A2 c2 v b p f (.slice gp x.eB x.eB)) r (fun _=>(g:Int)+1) env' w'/\Ext (fun _=>true) env env'/\r.length=x.eB.length:=by
 have hh:=hx.head;have d:=h.bw.iY;simp only[im,Nat.reduceAdd] at d;obtain⟨d0,d1,d2,d3,d4,d5,d6,d7,d8,d9,aa,-⟩:=d;obtain⟨a,HX⟩:=Zb h W;clear h W;go_enter func170,ntmps170;go_wp2_with fail;go_loopw [11] (fun iv wr=> ∃(i:Nat) (r:List Value) (l:Env),i<=x.eB/\iv=.int .i64 i/\Hid (uG (kinds x) env0 w0 gw gp D0 w1 (hC x A1 c1 A2 c2 v b p f (.slice gp x.eB x.eB)) r (fun j=>if j<i then(g:Int)+1 else g) l wr)/\Hid (Ext (fun _=>true) env l)/\r.length=x.eB) (fun iv _=>x.eB.length-(intOf iv).toNat)
 case atStart=>exact⟨0,ps,env,eC _,rfl,zH ⟨a.st,a.bw,a.bp,a.f1,a.f2,a.l1,a.l2,a.ne,fun j u m=>by rw[if_neg (Nat.not_lt_zero _)];exact a.ok j u m,a.kp⟩,(Ext.refl _ _),n⟩
 case round=>
  clear a n d0 d1 d2 d3 d4 d5 d6 d7 d8 d9 aa;obtain⟨i,ps,l,hi,rfl,a,t,n⟩:=hrel;by_cases ag:i<x.eB
  ·obtain⟨pv,G⟩:=ec (show i<ps by omega);have y:=a.ok i pv G;rw[if_neg (FH _)] at y;obtain⟨al,nl,cl,rfl,-⟩:=id y;have c:=zH y;have bw:=a.bw;have J:=a.bp;have lw:=bw.lt;have lp:=J.lt;have Y:wr.cell? (pA gp i)=some (.slice al nl cl):=by rw[J.cell];exact G
   have ae:(i:Int)<x.eB.length:=oG;clear y G;go_wp2_with fail;refine rG (fun wS=>fc wS gw 234 (hC x A1 c1 A2 c2 v b p f (.slice gp x.eB x.eB))/\wS.cell? (pA gp i)=some (.slice al nl cl)) [22] (⟨bw.drew,Y⟩) fun hS=>?_;refine kL [0,1,2,3,4,5,6,7,8,9,10,11,12,13,14,15,16] ?_;refine tO 17 fun K k=>?_;go_simp;have a:=zH (a.below (fR hx) bF.drew);obtain⟨Z,M,A,T,Q⟩:=MI hx a.st wr rfl (i:Int) (by unfold kP;omega);obtain⟨c,t,a,HL⟩:=Zd (jd.ext A c) (t.trans A) (a.step T A M) Q;clear M A T Q;have hS:=And.intro a.bw ((a.bp.cell i).trans ((J.cell i).symm.trans Y));refine k _ _ (hS) ?_;refine tO 18 fun K k=>?_;go_simp;have hz:=jW hx a.st.kY;refine(a.st.call (fR hx) (abc hx) rfl rfl (put Z.ρ 6 1) (fun s o=>fy o) #[_,_] ⟨TV.ext (fR hx) (wz a.st.ext (np:=6) fun s o=>fy o) rfl HX,?_,trivial⟩ (wH ?_)).mono ?_
   ·show jd (kinds x) _ 0 _ (put Z.ρ 6 1 6+0);rw[ie];exact HL
   ·show put Z.ρ 6 1 0<=put Z.ρ 6 1 6+0;rw[ie,fy dE,hz];decide
   rintro e wb ⟨_,rfl,L,N,B,U,-,⟨rfl,F⟩,-⟩;obtain⟨z,I⟩:=nR ((⟨7,0⟩:E).ev L.ρ);rw[I] at F;simp only[I];obtain⟨a,c,t,HZ⟩:=Zd (a.step U B N) (jd.ext B c) (t.trans B) F;have hS:=And.intro a.bw (show wb.cell? (pA gp i)=some (.slice al nl cl) from(a.bp.cell i).trans ((J.cell i).symm.trans Y));clear N B U F HL hz I;refine k _ _ (hS) ?_;refine tO 19 fun K k=>?_;go_simp;obtain⟨e4,O,C,V,R⟩:=MI hx a.st wb rfl z HZ;obtain⟨c,t,a⟩:=Zc (jd.ext C c) (t.trans C) (a.step V C O);have hS:=And.intro a.bw ((a.bp.cell i).trans ((J.cell i).symm.trans Y));refine k _ _ (hS) ?_;refine tO 20 fun K k=>?_;obtain⟨el,ee,zs,he,X⟩:=XH x;obtain⟨v5,H',w5,S,D,P,q,H⟩:=vw UM (fR hx) (ty:=26) he X a.st.kY c R oG oG;obtain⟨a,t⟩:=Zb (a.step q D ⟨a.st.ext.trans D,P,a.st.step.vS q⟩) (t.trans D);obtain⟨a5,n5,c5,rfl,-⟩:=id H;have HV:=zH H;refine ve (.tmp 25) (.tmp 33) 26 rfl S ?_;have hS:=And.intro a.bw ((a.bp.cell i).trans ((J.cell i).symm.trans Y));clear S D P q H he X O C V R;refine k _ _ (hS) ?_;refine kL [21] ?_;refine tL 22 fun K k=>?_;have d5:=hS.2;have d6:=a.bp.frozen i;go_simp;refine k _ _ ?_;refine tD ?_;go_wp2_with fail;go_roundw
   case rel=>exact⟨i+1,_,_,oG,by go_num,((a.Eh HV).V7 fun j _=>by(try dsimp only);split <;>split <;>first|omega|rfl),t,by rw[jt];exact n⟩
   case measure=>exact mI
  ·obtain rfl:i=x.eB.length:=oG;go_wp2_with fail
   go_end0
   exact⟨rfl,ps,l,a.V7 fun j m=>by rw[if_pos oG],t,n⟩
end
end Ra
section
open Go Go.RowKit jm ko kN B4
variable {m:Value} {t:Tr}
def OT.jh {lb:Nat} {w:World} {v:Value} {d:Dy} {tvs:List Value} (h:w.ownsRow lb 44 1 v d tvs) (b: ∀(i:Nat) (t:Tr),d[i]? =some t-> ∃m,tvs[i]? =some m/\OS lb w m t):OT lb w v d:=by
 have c:tvs.length=d.length:=by have:=h.1;omega
 have I:(tvs.map fun u=>[u]).flatten=tvs:=by
  clear h b c
  induction tvs with
  |nil=>rfl
  |cons a l ih=>simp[ih]
 refine⟨tvs.map fun u=>[u],by simpa using c,fun cs e=>?_,by rw[I];exact h,fun i x cs g f=>?_⟩
 ·obtain⟨u,-,rfl⟩:=fq.1 e;rfl
 ·obtain⟨m,j,p⟩:=b i x g;rw[fh,j] at f;cases f;exact⟨m,rfl,OS.ol p⟩
def PJ (a b:Value):Prop:= ∀g,a.ownBlock=some g->b.ownBlock≠some g
structure CT (lb:Nat) (w:World) (v:Value) (tvs:List Value) (d:Dy):Prop where
 own:w.ownsRow lb 44 1 v d tvs
 os: ∀(i:Nat) (t:Tr),d[i]? =some t-> ∃tv,tvs[i]? =some tv/\OS lb w tv t
 lt: ∀u∈tvs,∀g,u.ownBlock=some g->g<w.heap.size
 ap:tvs.Pairwise PJ
section
variable {tvs:List Value} {d:Dy}
def CT.jL (lb:Nat) (w:World):CT lb w () [] []:=⟨gL _ _ _ _,fun i t h=>by simp at h,fun u h=>by simp at h,List.Pairwise.nil⟩
def CT.below (h:CT lb w v tvs d) (o:Below w w w'):CT lb w' v tvs d:=
 ⟨jq h.own o lE,fun i t f=>by obtain⟨m,j,p⟩:=h.os i t f;exact⟨m,j,p.below o lE⟩,fun u l g r=>bP (h.lt u l g r) o.size,h.ap⟩
def CT.fG (h:CT lb w v tvs d) {q:Addr} (a:q.block<lb) (u:Value):CT lb (w.setCell q u) v tvs d:=
 ⟨jo h.own a u,fun i t f=>by obtain⟨m,j,p⟩:=h.os i t f;exact⟨m,j,p.fG a u⟩,fun u l g r=>by simpa using h.lt u l g r,h.ap⟩
def CT.mono {lb':Nat} (h:CT lb w v tvs d) (c:lb'<=lb):CT lb' w v tvs d:=⟨kZ h.own c,fun i t f=>by obtain⟨m,j,p⟩:=h.os i t f;exact⟨m,j,p.mono c⟩,h.lt,h.ap⟩
def CT.slice (h:CT lb w v tvs d): ∃A c,v=.slice A d c/\d.length<=c/\c<=maxLen:=by obtain⟨A,c,j,p,q,-⟩:=RS.jh h.own;exact⟨A,c,j,p,q⟩
def CT.cell (h:CT lb w v tvs d) (U:0<d.length): ∃g c,v=.slice (pB g) d c/\lb<=g/\g<w.heap.size/\(∃a,w.heap[g]? =some (.cells a 44 (0,0)))/\ ∀i m,tvs[i]? =some m->w.cell? (pA g i)=some m/\w.frozen? (pA g i)=false:=by
 rcases h.own.2 with ⟨-,k⟩|⟨g,c,a,e,o,r,l,Z,n,f⟩
 ·omega
 ·refine⟨g,c,e,o,(aah.1 r).1,⟨a,r⟩,fun i m b=>⟨?_,by simp[World.frozen?,r]⟩⟩;have j:i<d.length*1:=by have:=(bX.1 b).1;have:=h.own.1;omega
  rw[cell_of_row w g _ _ _ _ r,<-fA,<-iG j,f];exact b
def CT.ot (h:CT lb w v tvs d):OT lb w v d:=OT.jh h.own h.os
def CT.more {n:Value} (h:CT lb w v tvs d) (L:w'.ownsRow lb 44 1 n (d+1) (tvs++[m])) (D:kQ 44 lb w w') (f:OS lb w m t) (c: ∀g,m.ownBlock=some g->g<w.heap.size) (I: ∀u∈tvs,PJ u m):CT lb w' n (tvs++[m]) (d++[t]):=by
 have E:tvs.length=d.length:=by have:=h.own.1;omega
 refine⟨by rw[fa];exact L,fun i u l=>?_,fun u l g r=>?_,?_⟩
 ·rcases iU i d with hi|hi
  ·rw[fu hi] at l;obtain⟨x,j,p⟩:=h.os i u l;exact⟨x,by rw[fu oG];exact j,p.keep D dE⟩
  ·rw[fo hi] at l;have k:=(bX.1 l).1;have e:i-d.length=0:=by simp at k;omega
   rw[e] at l;cases l;exact⟨m,by rw[fo oG,E,e];rfl,f.keep D dE⟩
 ·refine bP ?_ D.size
  rcases fO.1 l with j|j
  ·exact h.lt u j g r
  ·simp at j;subst j;exact c g r
 ·refine List.pairwise_append.2 ⟨h.ap,List.pairwise_singleton _ _,fun a q b o=>?_⟩;simp at o;subst o;exact I a q
def CT.put {g n c k:Nat} {y:Value} {Y:Tr} (h:CT lb w (.slice g n c) tvs d) (D:d[k]? =some t) (F:tvs[k]? =some m) (r:w.grownBy w' m.ownBlock) (L:OS lb w' y Y) (f:Tr->Tr) (I:f t=Y):
  OT lb (w'.setCell (pA g k) y) (.slice g n c) (d.modify k f):=by
 have E:tvs.length=d.length:=by have:=h.own.1;omega
 have aa:=(bX.1 D).1;obtain⟨ae,e,T⟩:=h.os k t D;rw[F] at e;cases e
 rcases h.own.2 with ⟨H,-⟩|⟨v,A,a,H,M,z,Q,Z,V,X⟩
 ·cases H
 have S:n=d.length:=by cases H;rfl
 have e3:A=c:=by cases H;rfl
 have e1:v=g:=by cases H;rfl
 subst e1 e3 S;have P:=(aah.1 z).1;have R:some v≠m.ownBlock:=fun e=>by
  rcases T.2 with ⟨j,-⟩|⟨g2,c2,G,j,p,q,-⟩
  ·rw[j] at e;cases e
  ·rw[j] at e;cases e;rw[z] at q;injection q with q
   injection q with _ q
   exact absurd q dE
 have s:w'.heap[v]? =some (.cells a 44 (0,0)):=(r.block v P R).trans z;have J:(w'.setCell (pA v k) y).heap[v]? =some (.cells (a.setIfInBounds k y) 44 (0,0)):=by rw[setCell_eq_setRow w' v k a 44 (0,0) y s];exact setRow_heap _ _ _ _ _ _ s
 have B: ∀b,b≠v->(w'.setCell (pA v k) y).heap[b]? =w'.heap[b]? :=fun b o=>by rw[setCell_eq_setRow w' v k a 44 (0,0) y s];exact setRow_other _ _ _ _ o
 have K: ∀(u:Value) (x:Tr) (W:World),OS lb W u x->W.heap[v]? =some (.cells a 44 (0,0))->u.ownBlock≠some v:=fun u x W l hW e=>by
  rcases l.2 with ⟨j,-⟩|⟨g2,c2,G,j,p,q,-⟩
  ·rw[j] at e;cases e
  ·rw[j] at e;cases e;rw[hW] at q;injection q with q
   injection q with _ q
   exact absurd q dE
 refine OT.jh (lb:=lb) (tvs:=tvs.set k y) ⟨by simp[E],.inr ⟨v,A,a.setIfInBounds k y,by simp,M,J,by simpa using Q,Z,by simpa using V,?_⟩⟩ fun i u l=>?_
 ·rw[List.length_modify,vY,Vg,X]
 ·rw[aaf] at l;by_cases C:k=i
  ·subst C;rw[D] at l;simp[I] at l;subst l;refine⟨y,by rw[iT oG],?_⟩;exact sM L fun b o=>B b fun e=>K y Y w' L s (by rw[o,e])
  ·simp[C] at l;obtain⟨x,j,p⟩:=h.os i u l;refine⟨x,by rw[iu oG];exact j,?_⟩;refine sM p fun b o=>?_;have N:=h.lt x (a8 j) b o;have O:some b≠m.ownBlock:=fun e=>by
    have U:=h.ap
    rcases Nat.lt_or_gt_of_ne C with hlt|hlt
    ·exact(wW.1 U k i oG (by have:=(bX.1 j).1;omega) hlt) b (by rw[(bX.1 F).2];exact e.symm) (by rw[(bX.1 j).2];exact o)
    ·exact(wW.1 U i k (by have:=(bX.1 j).1;omega) oG hlt) b (by rw[(bX.1 j).2];exact o) (by rw[(bX.1 F).2];exact e.symm)
   rw[B b (fun e=>K x u w p z (by rw[o,e])),r.block b N O]
end
end
section
open Go.Proofs.Tryz
open Go.RowKit jm ko kN B4
attribute [local go_sem] iO
def H4 (R:Option Addr) (V:Nat) (d:Dy) (w:World) (hd:RL 1 jf w (.slice R d V) d) (hl: ∀t∈d,t.length<=1000000) (aq:d.length<=1000000):
  Calls prog 322 #[.agg #[.slice R d V]] w fun e w'=> ∃A c tvs,e=.returned (.agg #[.slice A d c])/\CT w w' (.slice A d c) tvs d/\Below w w w':=by
 obtain⟨ah,ai,hv,-,-,N⟩:=iK.open_ hd;cases hv;obtain⟨HC,HL⟩:=Zb N hl;clear hd N hl;go_enter func322,ntmps322;go_wp2_with fail;go_loopw [9] (fun iv wr=> ∃(i:Nat) (ov:Value) (tvs:List Value),i<=d/\iv=.int .i64 i/\fc wr w 39 [.slice R d V]/\fc wr (w+1) 39 [()]/\fc wr (w+1+1) 39 [ov]/\Hid (CT (w+1+1+1) wr ov tvs (d.take i))/\Below w w wr) (fun iv _=>d.length-(intOf iv).toNat)
 case atStart=>exact⟨0,_,[],eC _,rfl,((fc.new w _ _).alloc _).alloc _,(fc.fW _ _ _ sI).alloc _,fc.fW _ _ _ sI,(CT.jL _ _),bL (bL (bL bF _) _) _⟩
 case round=>
  obtain⟨i,ov,tvs,hi,rfl,G,h,n,E,a⟩:=hrel;have z0:=G.lt;have z1:=h.lt;have z2:=n.lt;by_cases af:i<d
  ·obtain⟨t,Q⟩:=ec af;obtain⟨b,o,rfl,hb,tv,B,y⟩:=HC i _ Q;have ag:=HL t (a8 Q);obtain⟨D,F,rfl,-⟩:=fQ.open_ B;replace y:=a7 a lE y;have ak:=bP hb a.size;have HT:=zH B;have HS:Hid (d.take (i+1)=d.take i++[t]):=zH (iC Q);obtain⟨L,Y⟩:=nR (d.take i);rw[Y] at E HS;have ae:L.length<=1000000000:=by rw[<-Y,fB];omega
   clear Q Y B;obtain⟨S,W,rfl,-⟩:=E.slice;have c2:=n.c 0;go_upto_region 5 with fail
   have P:=fc.new wr 44 [.slice D t F];have C:=bL (bS wr wr) (cB 44 [.slice D t F]);have z5:wr.heap.size<(wr.alloc (cB 44 [.slice D t F])).heap.size:=sI;revert P C z5;show∀(P:fc (wr.alloc (cB 44 [.slice D t F])) _ _ _),_;generalize wr.alloc (cB 44 [.slice D t F])=w5;intro P C z5;have f:=a.trans (C.mono a.size);replace c2:=a7 C lE c2;have aA:=Xm z2 z5;have c5:=P.c 0;refine rB [7,8,9] fun hS=>?_;refine kL [0,1,2,3] ?_;refine tO 4 fun K m=>?_;go_simp;refine(uH _ t _ (fQ.below HT (f.trans (hS.mono f.size)) lE) ag).mono ?_;rintro e w6 ⟨lv,rfl,z,aa⟩;obtain⟨T,X,rfl,-⟩:=z.slice;have hS:=hS.trans (aa.mono hS.size);have r:=zH z;have l:=C.trans (hS.mono C.size);have aB:=hS.size;have s:=E.below l;refine m _ _ (hS) ?_;refine kL [5] ?_;refine tO 6 fun K m=>?_;go_simp;refine m _ _ ((hS.alloc hS.size _)) ?_;have q:OS (w.heap.size+1+1+1) w6 (.slice T t X) t:=r.mono (by show _<=w5.heap.size;omega);refine tL 7 fun K m=>?_;refine ma w6 _ _ 37 rfl (w+1+1+1) 44 _ 1 24 underlying37 uz rfl dE dE _ L tvs s.own rfl [.slice T t X] _ rfl rfl rfl ae oG ?_;intro g cap w7 O aw ay k az;refine m _ _ ?_;refine tL 8 fun K m=>?_;go_simp;refine m _ _ ?_;have J:=k.below oG;have M:CT (w+1+1+1) w7 (.slice (pB g) (L+1) cap) (tvs++[.slice T t X]) (L++[t]):=s.more O k q (fun g hg=>(r.lt g hg).2) (fun u hu b hb e=>by have h1:=E.lt u hu b hb;have h2:w5.heap.size<=b:=(r.lt b e).1;omega);have j:=k.ig (n.below l z2) dE;have I:=k.ig (h.below l z1) dE;have H:=k.ig (G.below l z0) dE;have c27:=j.c 0;have aj:=j.frozen 0;have x:=(f.trans (hS.mono f.size)).trans (J.mono oG);have U:=zH M;clear M O q s z;refine tL 9 fun K m=>?_;go_simp;refine m _ _ ?_;refine tD ?_;go_wp2_with fail;go_roundw
   case rel=>exact⟨i+1,_,_,oG,by go_num,H.kj (p:=pB (w+1+1)) dO _,I.kj (p:=pB (w+1+1)) dO _,j.gH 0 _,zH (by rw[HS.out];exact U.fG dO _),x.setCell (p:=pB (w+1+1)) dO _⟩
   case measure=>exact mI
  ·obtain rfl:i=d.length:=oG;have Z:=E.out;rw[fj sI] at Z;obtain⟨S,W,rfl,-⟩:=Z.slice;have c2:=n.c 0;have c1:=h.c 0;have f1:=h.frozen 0;go_wp2;refine bodyPost_ret (v:=.agg #[.slice S d W]) (ia rfl _ _ (w+1) 39 [.slice S d W] _ rfl (h.gH 0 _) underlying39 rfl kR) rfl ⟨_,_,tvs,rfl,CT.mono (Z.fG dO _) oG,?_⟩;exact a.setCell (p:=pB (w+1)) (iW _) _
end
section
open Go.RowKit jm ko kN
variable {c n:Nat}
structure wj (ty:TypeId) (D:Nat->Prop) (w:World) (v:Value) (T:List Tr):Prop where
 own: ∃vs,w.ownsRow 0 ty 1 v T vs/\ ∀(i:Nat) (t:Tr),T[i]? =some t-> ∃u,vs[i]? =some u/\RL 2 iH w u t/\FL D u
 nd: ∀g,v.ownBlock=some g-> ¬D g
def RL.zU {t:Tr} (h:RL 2 iH w v t) (y: ∀g,v.ownBlock=some g->w'.heap[g]? =w.heap[g]?) (j:w.heap.size<=w'):RL 2 iH w' v t:=RL.atG (w:=w) (R:=iH) (fun _ _ h=>h) h y j
section
variable {ty:TypeId} {v' u:Value} {T:List Tr} {t:Tr}
def wj.jL (ty:TypeId) (D:Nat->Prop) (w:World):wj ty D w () []:=⟨⟨[],gL _ _ _ _,fun i t h=>by simp at h⟩,fun g h=>by cases h⟩
def wj.at (h:wj ty D w v T) (o: ∀k,D k\/v.ownBlock=some k->w'.heap[k]? =w.heap[k]?) (j:w.heap.size<=w'):wj ty D w' v T:=by obtain⟨⟨vs,a,f⟩,m⟩:=h;refine⟨⟨vs,sM a fun g d=>o g (.inr d),fun i t e=>?_⟩,m⟩;obtain⟨u,p,l,q⟩:=f i t e;exact⟨u,p,RL.zU l (fun g d=>o g (.inl (q g d))) j,q⟩
def wj.more (h:wj ty D w v T) (A: ∀k,D k->D' k) (E: ∀g,v.ownBlock=some g-> ¬D' g):wj ty D' w v T:=by obtain⟨⟨vs,a,f⟩,m⟩:=h;refine⟨⟨vs,a,fun i t e=>?_⟩,E⟩;obtain⟨u,p,l,q⟩:=f i t e;exact⟨u,p,l,fun g d=>A g (q g d)⟩
def wj.cur {o:Nat} (h:wj ty D w (.slice (pA g o) n c) T):o=0/\n=T/\g<w/\ ∃cur,fc w g ty cur:=by
 obtain⟨vs,a,-⟩:=h.own
 rcases a.2 with ⟨e,-⟩|⟨l,c2,cur,e,f,m,-⟩
 ·cases e
 ·cases e;exact⟨rfl,rfl,(aah.1 m).1,cur.toList,by unfold fc;simpa using m⟩
def wj.lt (h:wj ty D w v T): ∀g,v.ownBlock=some g->g<w.heap.size:=fun g d=>by obtain⟨vs,a,-⟩:=h.own;exact(iB a g d).2
def wj.cells (h:wj ty D w v T): ∀g,v.ownBlock=some g-> ∃o,w.heap[g]? =some o/\o.isCells=true:=fun g d=>by
 obtain⟨vs,a,-⟩:=h.own
 rcases a.2 with ⟨e,-⟩|⟨l,c2,cur,e,f,m,-⟩
 ·rw[e] at d;cases d
 ·rw[e] at d;cases d;exact⟨_,m,rfl⟩
def wj.slice (h:wj ty D w v T): ∃A c,v=.slice A T c/\T.length<=c/\c<=9223372036854775807:=by obtain⟨vs,a,-⟩:=h.own;obtain⟨A,c,y,p,l,-⟩:=RS.jh a;exact⟨A,c,y,p,by simpa[maxLen] using l⟩
def wj.get {A:Option Addr} (h:wj ty D w (.slice A n c) T) (e:T[i]? =some t): ∃g u,A=some ⟨g,0,none⟩/\g<w.heap.size/\RL 2 iH w u t/\FL D u/\w.cell? (pA g i)=some u:=by obtain⟨vs,a,f⟩:=h.own;obtain⟨u,p,l,q⟩:=f i t e;obtain⟨j,c',y,-,-,K,z⟩:=RS.jh a;cases y;have m:=(bX.1 e).1;obtain⟨b,o,rfl,k,d⟩:=z oG;obtain⟨rfl,-,-,-⟩:=h.cur;exact⟨b,u,rfl,k,l,q,by simpa using d i u p⟩
def wj.put {k:Nat} (h:wj ty D w (.slice g n c) T) (o:k<T) (H:RL 2 iH w u t) (A:FL D u):wj ty D (w.setCell (pA g k) u) (.slice g n c) (T.set k t):=by
 obtain⟨⟨vs,a,f⟩,q⟩:=h;have d:=q g rfl;have F:vs.length=T.length:=by have:=a.1;omega
 have r: ∀{x:Value} {s:Tr},RL 2 iH w x s->FL D x->RL 2 iH (w.setCell (pA g k) u) x s:=fun G E=>RL.zU G (fun b B=>fX _ _ _ _ _ fun e=>d (e▸E b B)) sI;refine⟨⟨vs.set k u,⟨by simpa using a.1,?_⟩,fun i s j=>?_⟩,q⟩
 ·rcases a.2 with ⟨e,-⟩|⟨l,c2,cur,e,f,m,z,v,y,C⟩
  ·cases e
  ·cases e;refine .inr ⟨g,c,cur.setIfInBounds k u,by rw[jt],f,heap_setCell_same w g k cur _ _ m,by rw[jt];exact z,v,by simpa using y,?_⟩;rw[vY,jt,Vg,C]
 ·by_cases p:i=k
  ·subst p;rw[iT o] at j;cases j;exact⟨u,iT oG,r H A,A⟩
  ·rw[iu (jN p)] at j;obtain⟨I,m,z,v⟩:=f i s j;exact⟨I,by rw[iu (jN p)];exact m,r z v,v⟩
def wj.reads (h:wj ty D w v T):RL 1 jf w v T:=by
 obtain⟨vs,a,f⟩:=h.own;obtain⟨A,c,rfl,p,l,q,m⟩:=RS.jh a;refine⟨A,c,rfl,p,l,fun E=>?_⟩;obtain⟨b,o,rfl,k,d⟩:=m E;refine⟨b,o,rfl,k,fun i t e=>?_⟩;obtain⟨u,n,r,-⟩:=f i t e;exact⟨[u],rfl,⟨u,rfl,r⟩,fun j x g=>by
  cases j with
  |zero=>simp at g;subst g;simpa using d i u n
  |succ j=>simp at g⟩
def wj.push {vs:List Value} (h:wj ty D w v T) (a:w.ownsRow 0 ty 1 v T vs) (r:w'.ownsRow 0 ty 1 v' (T+1) (vs++[u])) (d:w.grownBy w' v.ownBlock) (K: ∀k,D k->k<w.heap.size) (H:RL 2 iH w u t) (A:FL D u) (E: ∀g,v'.ownBlock=some g-> ¬D g):wj ty D w' v' (T++[t]):=by
 obtain⟨⟨n,f,m⟩,z⟩:=h;have e:n=vs:=by
  have y: ∀{xs},w.ownsRow 0 ty 1 v T xs->xs.length=T.length:=fun h=>by have:=h.1;omega
  rcases a.2 with ⟨C,P⟩|⟨g,c,cur,C,-,J,-,-,-,N⟩
  ·have:=y a;have:=y f;rw[gj (show n.length=0 by omega),gj (show vs.length=0 by omega)]
  ·rcases f.2 with ⟨G,-⟩|⟨Q,c',I,G,-,L,-,-,-,M⟩
   ·rw[G] at C;cases C
   ·rw[G] at C;cases C;rw[L] at J;cases J;rw[<-M,<-N]
 subst e;have o: ∀k,D k->w'.heap[k]? =w.heap[k]? :=fun k o=>d.block k (K k o) fun e=>z k e.symm o;have F:n.length=T.length:=by have:=a.1;omega
 refine⟨⟨n++[u],by rw[fa];exact r,fun i s j=>?_⟩,E⟩
 rcases iU i T with hi|hi
 ·rw[fu hi] at j;obtain⟨x,p,l,q⟩:=m i s j;exact⟨x,by rw[fu oG];exact p,RL.zU l (fun b B=>o b (q b B)) d.size,q⟩
 ·rw[fo hi] at j;have O:=(bX.1 j).1;have e:i-T.length=0:=by simp at O;omega
  rw[e] at j;cases j;exact⟨u,by rw[fo oG,F,e];rfl,RL.zU H (fun b B=>o b (A b B)) d.size,A⟩
end
def nO.ne {f:Int->Option Int} (h:nO w b f) (d:w.cell? (pA g i)=some v):g≠b:=fun e=>by subst e;obtain⟨c,a,B,-⟩:=h.ex;simp[World.cell?,B] at d
def gI.cell (h:gI O w w') (d:w.cell? (pA b i)=some v) (r: ¬O b):w'.cell? (pA b i)=some v:=(oD (h.block b (block_lt_of_cell d) r)).trans d
def gI.ig (h:gI O w w') {t:TypeId} {cs:List Value} (d:fc w b t cs) (r: ¬O b):fc w' b t cs:=(h.block b d.lt r).trans d
end
section
open Go.Proofs.Tryz
open Go.RowKit jm ko kN J8
theorem Rl{p:Prop}(h:p:=by
 clear S P aF;have o:=ah.below c aZ;have O:=bm.below c l2;have N:=Z.below c l1;have M:=T.below c bh;have I:=b3.below c aH;have J:=b4.below c aI;have r:Below w w W:=f.trans (c.mono f.size);have s:l.heap.size+1<=W.heap.size:=eZ ay c.size;obtain⟨Av,cv,rfl,-⟩:=HO.slice;have c11:=o.c 0;have G:=zH (HO.below c lE);have ai:D.length<=1000000000:=by have q1:=zC D;have q2:=HW.out;have q3:=aL.out;omega
 by_cases C:L.length=0
 ·have aJ: ¬0<L.length:=oG;have bB:=zH C;clear C;go_wp2_with fail;go_roundw
  case rel=>exact⟨i+1,_,D,oG,by go_num,o,G,HT,zH (by rw[H.out];have:=HW.out;omega),N,O,M,I,J,r,s⟩
  case measure=>exact mI
 ·have aj:0<L.length:=oG;clear C;go_wp2_with (at_builtin;refine yA _ rfl (.tmp 55) (.tmp 58) rfl (l+1) _ D G rfl _ L ae rfl sI ai s ?_;intro g cap w5 az aD bZ aw aY;have j:=aw.below s;have F:=o.below j oG;have f1:=F.frozen 0;have c12:w5.cell? l=some (.slice Av D cv):=F.cell 0);have cj: ∀B,B<l.heap.size->B≠l.heap.size:=fun B h=>by omega
  go_roundw
  case rel=>
   refine⟨i+1,_,D++[L],oG,by go_num,F.gH 0 _,(az.fG dO _),(fun t' aA=>(fO.1 aA).elim (HT.out t') (fun h=>by simp at h;subst h;exact⟨af.out,jQ.1 aj⟩)),zH (by rw[H.out,zD];have:=HW.out;omega),
    (N.below j oG).kj (p:=l) dO _,(O.below j oG).kj (p:=l) dO _,
    (M.below j oG).kj (p:=l) dO _,(I.below j oG).kj (p:=l) dO _,(J.below j oG).kj (p:=l) dO _,?_,?_⟩
   ·exact(r.trans (j.mono oG)).setCell (p:=l) dO _
   ·show _<=(w5.setCell _ _).heap.size;simp;omega
  case measure=>exact mI):p:=h
def xU (dv:Value) (d:Dy) (k a b i j:Int) (w:World) (hd:RL 1 jf w dv d) (c: ∀t∈d,t.length<=1000000):
  Calls prog 311 #[.agg #[dv],.agg #[k,a,b,i,j]] w (Cg d a b w):=by
 by_cases h:(0<=k/\k<=3)/\(0<=a/\a<d)/\(0<=b/\b<d)
 ·obtain⟨⟨h1,h2⟩,⟨e,g⟩,f,m⟩:=h;obtain⟨z,rfl⟩:=fw e;obtain⟨A,rfl⟩:=fw f;obtain⟨ta,X⟩:=ec (l:=d) (i:=z) oG;obtain⟨tb,Y⟩:=ec (l:=d) (i:=A) oG;exact KV dv d k z A i j ta tb w hd oG X Y (c ta (a8 X)) (c tb (a8 Y))
 ·exact Oc dv d k a b i j w hd oG
def Ux {d:Dy} {a b x y:Nat}: ∀{i j:Nat},i<=j->sW d a b x y i<=sW d a b x y j:=by
 intro i j h
 induction h with
 |refl=>exact ij _
 |step _ ih=>exact eZ ih (by rw[sW];omega)
def F3:(prog.info? 39).map (·.size)=some 1:=kR
inductive PN (n K:Nat) (w:World) (e:Ending) (w':World):Prop
 |mk (dv:Value) (d:Dy) (E:Int) (he:e=.returned (.tuple #[.agg #[dv],E])) (ho:OT w w' dv d) (hd:jS n K d) (hne: ∀t∈d,t≠[]) (hb:Below w w w')
def Lb (xv dv:Value) (x:fS) (d:Dy) (n K:Nat) (k a b i0 j0:Int) (w:World) (hx:iz w xv x) (hd:RL 1 jf w dv d) (hk:jS n K d) (hK:K<=1000000):
  Calls prog 282 #[xv,.agg #[dv],.agg #[k,a,b,i0,j0]] w (PN n K w):=by
 obtain⟨A1,c1,A2,c2,rfl⟩:=hx.agg;obtain⟨Ad,cd,rfl,h1,h2,bY⟩:=iK.open_ hd;obtain⟨HD,HC,HK,HL⟩:=Zd hd bY hk (fun t (ht:t∈d)=>eZ (Nat.le_of_succ_le (hk.Su ht)) hK);clear hx hd bY hk;go_enter func282,ntmps282;go_wp2_with fail;have Z:=((fc.fW (w.alloc (cB 25 [x.days,x.mm,x.cap,x.len,.slice A1 x.eB c1,.slice A2 x.gn c2])) 39 [.slice Ad d cd] (g:=w.heap.size+1) sI).alloc (cB 320 [k,a,b,i0,j0])).alloc (cB 39 [()]);have bm:=(fc.fW ((w.alloc (cB 25 [x.days,x.mm,x.cap,x.len,.slice A1 x.eB c1,.slice A2 x.gn c2])).alloc (cB 39 [.slice Ad d cd])) 320 [k,a,b,i0,j0] (g:=w.heap.size+1+1) sI).alloc (cB 39 [()]);have T:=fc.fW (((w.alloc (cB 25 [x.days,x.mm,x.cap,x.len,.slice A1 x.eB c1,.slice A2 x.gn c2])).alloc (cB 39 [.slice Ad d cd])).alloc (cB 320 [k,a,b,i0,j0])) 39 [()] (g:=w.heap.size+1+1+1) sI;have f:=bL (bL (bL (bL (bS w w) (cB 25 [x.days,x.mm,x.cap,x.len,.slice A1 x.eB c1,.slice A2 x.gn c2])) (cB 39 [.slice Ad d cd])) (cB 320 [k,a,b,i0,j0])) (cB 39 [()]);refine(xU _ d k a b i0 j0 _ (iK.below HD f lE) HL).mono ?_;rintro e w2 ⟨r1,r2,ok,rfl,aE,ak⟩;replace Z:=Z.below ak Z.lt;replace bm:=bm.below ak bm.lt;replace T:=T.below ak T.lt;have u:=f.trans (ak.mono f.size);have n1:=lC r1;have n2:=lC r2;rw[aE.o1.1] at n1;rw[aE.o2.1] at n2;have I1:=zH (show(prog.info? 355).map (·.size)=some (kJ r1).length by rw[n1];exact gZ);have I2:=zH (show(prog.info? 355).map (·.size)=some (kJ r2).length by rw[n2];exact gZ);obtain⟨N1,N2,aK⟩:=Zc n1 n2 aE;obtain⟨R1,aP⟩:=nR (kJ r1);obtain⟨R2,aQ⟩:=nR (kJ r2);have a1:=oU r1;have a2:=oU r2;rw[aP] at I1 N1 a1|-
 rw[aQ] at I2 N2 a2|-
 obtain⟨cH,cI,cD,cE⟩:=Zd aP aQ a1 a2;have ld:=Z.lt;have lm:=bm.lt;have l6:=T.lt;clear aE ak f n1 n2 aP aQ a1 a2;go_upto_region 2 with (first
  |(refine fH _ rfl 355 (.tmp 8) (.tmp 19) rfl w2 355 gO R1 ((fc.fW w2 355 gO (g:=w2.heap.size) rfl).alloc _) rfl rfl I1 N1.symm cD ?_;intro w3 b3 U aX)
  |(refine fH _ rfl 355 (.tmp 9) (.tmp 20) rfl (w2+1) 355 gO R2 ((fc.fW (w2.alloc (cB 355 gO)) 355 gO (g:=w2.heap.size+1) sI).grown U sI) rfl rfl I2 N2.symm cE ?_;intro l b4 V cC))
 have aC:=(((Z.alloc _).alloc _).grown U oS).grown V oS;have aN:=(((bm.alloc _).alloc _).grown U oS).grown V oS;have aB:=(((T.alloc _).alloc _).grown U oS).grown V oS;have aM:=b3.grown V oS;have v:Below w w l:=(((u.alloc u.size _).alloc (by have:=u.size;simp;omega) _).grown U (by have:=u.size;simp;omega) (fun q hq=>by cases hq;exact u.size)).grown V (by have:=u.size;rw[aX];simp;omega) (fun q hq=>by cases hq;have:=u.size;omega);have dh:w2.heap.size+2<=l.heap.size:=by rw[cC,aX];simp
 clear U V aX cC Z bm T b3;have l3:=aM.lt;have l4:=b4.lt;cases ok
 ·go_wp2_with (refine fH _ rfl 39 (.tmp 6) (.tmp 24) rfl (w+1+1+1) 39 _ _ aB rfl rfl F3 rfl rfl ?_;intro w5 b5 aD aY);refine bodyPost_ret (iw rfl _ _ (w+1+1+1) 39 [()] _ (.int .i64 17) rfl rfl b5 underlying39 rfl F3) rfl ⟨.slice none 0 0,[],17,rfl,OT.jL _ _,jS.jL _ _,(fun t h=>by simp at h),?_⟩;exact v.grown aD v.size (fun q hq=>by cases hq;omega)
 ·obtain⟨bJ,bO,ta,tb,X,Y,cw,cA⟩:=aK.ab rfl;obtain⟨z,rfl⟩:=fw bJ;obtain⟨A,rfl⟩:=fw bO;rw[gu] at X Y;have q1:=wL r1;have q2:=wL r2;obtain⟨Q,aG⟩:=fw q1;obtain⟨R,aW⟩:=fw q2;have aR:sW d z A Q R d.length<=K:=eZ (YC X Y (fun h=>by have:=cw oG;rw[aG,aW] at this;omega) (fun h=>by have:=cA oG;rw[aG] at this;omega)) HK.wt;have cJ:=zH aR;have ag:Hid (∀i,i<=d.length->sW d z A Q R i<=K):=zH (fun i hi=>eZ (Ux hi) aR);obtain⟨bE,bG⟩:=Zb aG aW;clear bJ bO X Y cw cA q1 q2 aG aW aR;have e1:=aC.c 0;have dm:=aC.lt;have dn:=aN.lt;have dj:=aB.lt;have dg:=v.size;go_wp2_with fail;clear e1;go_loopw [28] (fun iv wr=> ∃(i:Nat) (ov:Value) (D:Dy),i<=d/\iv=.int .i64 i/\fc wr l 39 [ov]/\Hid (OT (l+1) wr ov D)/\Hid (∀t∈D,jK n t/\t≠[])/\Hid (yw D<=sW d z A Q R i)/\
   fc wr (w+1) 39 [.slice Ad d cd]/\fc wr (w+1+1) 320 [k,(z:Int),(A:Int),i0,j0]/\fc wr (w+1+1+1) 39 [()]/\
   fc wr w2 355 R1/\fc wr (w2+1) 355 R2/\Below w w wr/\l.heap.size+1<=wr) (fun iv _=>d.length-(intOf iv).toNat)
  case atStart=>exact⟨0,_,[],eC _,rfl,fc.new l _ _,(OT.jL _ _),(fun t h=>by simp at h),(eC _),aC.alloc _,aN.alloc _,aB.alloc _,aM.alloc _,b4.alloc _,v.alloc v.size _,by simp⟩
  case round=>
   clear aC aN aB aM b4 v;obtain⟨i,ov,D,hi,rfl,ah,HO,HT,HW,Z,bm,T,b3,b4,f,ay⟩:=hrel;have l1:=Z.lt;have l2:=bm.lt;have aH:=b3.lt;have aI:=b4.lt;have bh:=T.lt;have aZ:=ah.lt;by_cases aT:i<d
   ·obtain⟨t,hz⟩:=ec aT;obtain⟨bt,ot,rfl,cU,tv,aV,y⟩:=HC i _ hz;have cX:=HL t (a8 hz);have cV:Hid (i≠z->i≠A->sW d z A Q R (i+1)=sW d z A Q R i+(t.length+1)):=zH (fun h1 h2=>by rw[sW,cW,if_neg h1,if_neg h2,hz];rfl);have bU:Hid (i=z->sW d z A Q R (i+1)=sW d z A Q R i+(Q+1)):=zH (fun h1=>by rw[sW,cW,if_pos h1]);have bW:Hid (i≠z->i=A->sW d z A Q R (i+1)=sW d z A Q R i+(R+1)):=zH (fun h1 h2=>by rw[sW,cW,if_neg h1,if_pos h2]);have bI:=HK.st t (a8 hz);have cK:=zH bI;obtain⟨A3,c3,rfl,-⟩:=fQ.open_ aV;have cM:=zH (fQ.below aV (f.alloc f.size (cB 44 [.slice A3 t c3])) lE);replace y:=a7 f lE y;have cZ:=bP cU f.size;clear hz aV bI;go_wp2_with fail;refine(uH _ t _ cM cX).mono ?_;rintro e wc ⟨lv,rfl,aU,cT⟩;have m:=(bL (bS wr wr) (cB 44 [.slice A3 t c3])).trans (cT.mono sI);have aL:Hid (sW d z A Q R i<=1000000000):=zH (by have:=ag.out i hi;omega);have aO:=bm.below m l2;have bH:=Z.below m l1;have cN:=b3.below m aH;have cO:=b4.below m aI;have mA:=aO.c 1;have mB:=aO.c 2;have mD:=bH.c 0;have t1:=aO.lt;have t2:=bH.lt;have aq:Below w w wc:=f.trans (m.mono f.size);have cg:=aU.slice;obtain⟨Al,cl,rfl,-⟩:=cg;have cG:=zH aU;clear aU;by_cases hA:i=z
    ·have cQ:((i:Int)==(z:Int))=true:=by rw[beq_iff_eq];omega
     have E:=yK (.slice (pA bt ot) d cd) d n r1 wc (iK.below HD.out aq lE) HK.out.st aK.out.o1 (by have:=bE.out;have:=ag.out (i+1) aT;have:=bU.out hA;omega) HL.out;rw[cH.out] at E;have aa:=zH E;clear E;go_wp2_with (refine mJ _ rfl 355 (.tmp 8) rfl w2 355 R1 _ rfl cN underlying355 rfl I1 ?_);refine aa.mono ?_;rintro e W ⟨cY,L,rfl,S,P,aF,aS⟩;obtain⟨cF,cP,rfl,-⟩:=S.slice;have c:=m.trans (aS.mono m.size);obtain⟨ae,af⟩:=Zb (S.mono (show l.heap.size+1<=wc from eZ ay m.size)) P;have H:Hid (sW d z A Q R (i+1)=sW d z A Q R i+(L.length+1)):=zH (by rw[bU.out hA];have:=bE.out;omega);have di:=zH aF;exact Rl
    ·have cQ:((i:Int)==(z:Int))=false:=by rw[beq_eq_false_iff_ne];omega
     by_cases hB:i=A
     ·have cR:((i:Int)==(A:Int))=true:=by rw[beq_iff_eq];omega
      have E:=yK (.slice (pA bt ot) d cd) d n r2 wc (iK.below HD.out aq lE) HK.out.st aK.out.o2 (by have:=bG.out;have:=ag.out (i+1) aT;have:=bW.out hA hB;omega) HL.out;rw[cI.out] at E;have aa:=zH E;clear E;go_wp2_with (refine mJ _ rfl 355 (.tmp 9) rfl (w2+1) 355 R2 _ rfl cO underlying355 rfl I2 ?_);refine aa.mono ?_;rintro e W ⟨cY,L,rfl,S,P,aF,aS⟩;obtain⟨cF,cP,rfl,-⟩:=S.slice;have c:=m.trans (aS.mono m.size);obtain⟨ae,af⟩:=Zb (S.mono (show l.heap.size+1<=wc from eZ ay m.size)) P;have H:Hid (sW d z A Q R (i+1)=sW d z A Q R i+(L.length+1)):=zH (by rw[bW.out hA hB];have:=bG.out;omega);exact Rl
     ·have cR:((i:Int)==(A:Int))=false:=by rw[beq_eq_false_iff_ne];omega
      have H:Hid (sW d z A Q R (i+1)=sW d z A Q R i+(t.length+1)):=zH (cV hA hB);have c:=m;have ae:=zH (cG.mono (show l.heap.size+1<=(wr.alloc (cB 44 [.slice A3 t.length c3])).heap.size by simp;omega));have af:=cK;have o:=ah.below c aZ;have O:=bm.below c l2;have N:=Z.below c l1;have M:=T.below c bh;have I:=b3.below c aH;have J:=b4.below c aI;have r:Below w w wc:=f.trans (c.mono f.size);have s:l.heap.size+1<=wc.heap.size:=eZ ay c.size;obtain⟨Av,cv,rfl,-⟩:=HO.slice;have c11:=o.c 0;have G:=zH (HO.below c lE);have ai:D.length<=1000000000:=by have q1:=zC D;have q2:=HW.out;have q3:=aL.out;omega
      by_cases C:t.length=0
      ·have aJ: ¬0<t.length:=oG;have bB:=zH C;clear C;go_wp2_with fail;go_roundw
       case rel=>exact⟨i+1,_,D,oG,by go_num,o,G,HT,zH (by rw[H.out];have:=HW.out;omega),N,O,M,I,J,r,s⟩
       case measure=>exact mI
      ·have aj:0<t.length:=oG;clear C;go_wp2_with (at_builtin;refine yA _ rfl (.tmp 55) (.tmp 58) rfl (l+1) _ D G rfl _ t ae rfl sI ai s ?_;intro g cap w5 az aD bZ aw aY;have j:=aw.below s;have F:=o.below j oG;have f1:=F.frozen 0;have c12:w5.cell? l=some (.slice Av D cv):=F.cell 0);have cj: ∀B,B<l.heap.size->B≠l.heap.size:=fun B h=>by omega
       go_roundw
       case rel=>
        refine⟨i+1,_,D++[t],oG,by go_num,F.gH 0 _,(az.fG dO _),(fun t' aA=>(fO.1 aA).elim (HT.out t') (fun h=>by simp at h;subst h;exact⟨af.out,jQ.1 aj⟩)),zH (by rw[H.out,zD];have:=HW.out;omega),
         (N.below j oG).kj (p:=l) dO _,(O.below j oG).kj (p:=l) dO _,
         (M.below j oG).kj (p:=l) dO _,(I.below j oG).kj (p:=l) dO _,(J.below j oG).kj (p:=l) dO _,?_,?_⟩
        ·exact(r.trans (j.mono oG)).setCell (p:=l) dO _
        ·show _<=(w5.setCell _ _).heap.size;simp;omega
       case measure=>exact mI
   ·obtain rfl:i=d.length:=oG;obtain⟨Al,cl,rfl,-⟩:=HO.slice;have c11:=ah.c 0;have c6:=T.c 0;have f6:=T.frozen 0;go_wp2_with fail;refine bodyPost_ret (iw rfl _ _ (w+1+1+1) 39 [.slice Al D cl] _ Zo rfl rfl (T.gH 0 _) underlying39 rfl F3) rfl ⟨.slice Al D cl,D,0,rfl,(HO.fG dO _).mono oG,⟨fun t ht=>(HT t ht).1,eZ HW cJ⟩,(fun t ht=>(HT t ht).2),?_⟩;exact f.setCell (p:=pB (w+1+1+1)) dO _
theorem K8{p:Prop}(h:p:=by refine tO 9 fun K a=>?_;refine T.aaG _ _ _ rfl A rfl Y (eZ n c) rfl E ?_;intro g2 c9 W9 T bB C;have hS:=C.ig hS dE;have m:=m.trans (C.below (eZ n c));replace o:=C.ig o dE;refine a _ _ (hS) ?_;refine tL 11 fun K a=>?_;have q0:=hS.c 0;have q1:=hS.frozen 0;have q2:=hS.c 1;have q3:=hS.frozen 1;go_simp;have T:=T.vo (q:=s) hS dE rfl (.slice R (f+1) c4);have m:=m.setCell (p:=s) dO (.slice R (f+1) c4);replace o:=o.kj (p:=s) dO (.slice R (f+1) c4);have hS:=hS.gH 0 (.slice R (f+1) c4);refine a _ _ ?_;refine tL 12 fun K a=>?_;go_simp;refine a _ _ ?_;refine tL 13 fun K a=>?_;go_simp;refine a _ _ ?_;refine tD ?_;go_wp2_with fail;go_meet;exact⟨_,_,hS.gH 1 _,(T.vo (q:=(pA s 1)) hS dE rfl _),m.setCell (p:=pA s 1) dO _,o.kj (p:=pA s 1) dO _⟩):p:=h
inductive PT (x:fS) (d:Dy) (w:World) (e:Ending) (w':World):Prop
 |mk (g:Nat) (he:e=.returned (.pointer g)) (hg:w.heap.size<=g) (hr:pI w' g x d) (hb:Below w w w')
def Sm:(prog.info? 390).map (fun i=>(i.zero,i.size,i.bytes))=some (some (.agg #[(),(),(),Zo]),4,80):=kR
def LG (xv dv:Value) (x:fS) (d:Dy) (K:Nat) (w:World) (hx:iz w xv x) (ho:ga x) (hd:RL 1 jf w dv d) (hk:jS x.eB K d) (a:K<=1000000):
  Calls prog 309 #[xv,.agg #[dv]] w (PT x d w):=by
 obtain⟨A1,c1,A2,c2,rfl⟩:=hx.agg;obtain⟨Ad,cd,rfl,h1,h2,aZ⟩:=iK.open_ hd;obtain⟨HX,HO,HD,HC,HK⟩:=Ze hx ho hd aZ hk;clear hx ho hd aZ hk;go_enter func309,ntmps309;go_wp2_with fail;go_loopw [22] (fun iv wr=> ∃(i:Nat) (ov:Value),i<=d/\iv=.int .i64 i/\fc wr w 25 [x.days,x.mm,x.cap,x.len,.slice A1 x.eB c1,.slice A2 x.gn c2]/\
  fc wr (w+1+1) 388 (yX x A1 c1 A2 c2 [.slice Ad d cd,ov])/\
  Hid (wZ (w+1+1+1) wr ov (d.take i))/\Below w w wr/\w.heap.size+1+1+1<=wr) (fun iv _=>d.length-(intOf iv).toNat)
 case atStart=>exact⟨0,_,eC _,rfl,((fc.new w _ _).alloc _).alloc _,fc.fW _ _ _ sI,(OL.jL _ _ _ _ _),bL (bL (bL bF _) _) _,by simp⟩
 case round=>
  obtain⟨i,ov,hi,rfl,bx,br,ay,j,dA⟩:=hrel;have lx:=bx.lt;have lr:=br.lt;by_cases cM:i<d
  ·obtain⟨t,hz⟩:=ec cM;obtain⟨bt,ot,rfl,cH,tv,aF,y⟩:=HC i _ hz;obtain⟨bH,dG⟩:=HK.get hz;obtain⟨At,ct,rfl,dj,dm,aY⟩:=fQ.open_ aF;obtain⟨aJ,HT,HR,bW⟩:=Zd aY aF bH (iC hz);replace y:=a7 j lE y;have cY:=bP cH j.size;obtain⟨d0,d1,d2,d3,d4,d5⟩:=bx.jI;clear hz aF bH aY;go_wp2_with fail;have ae:=(bL (bL (bS wr wr) (cB 44 [.slice At t ct])) (cB 3 [Zo]));refine(qE _ _ x t _ (HX.below (j.trans (ae.mono j.size)) lE) HO (fQ.below HT (j.trans (ae.mono j.size)) lE) oG HR).mono ?_;rintro e wl ⟨rfl,E⟩;generalize Mc x.gn (t.map Prod.fst)=L;have P:=ae.trans (E.mono ae.size);have cA:=bx.below P lx;have bZ:=br.below P lr;have U:=((fc.new wr 44 [.slice At t ct]).alloc (cB 3 [Zo])).below E sO;have aQ:=(fc.fW (wr.alloc (cB 44 [.slice At t ct])) 3 [Zo] (g:=wr.heap.size+1) sI).below E sI;go_upto_region 6 with fail
   have b5:=fc.new wl 390 [(),(),.slice (pB (wr+1)) 1 1,L];have S:=bL P (cB 390 [(),(),.slice (pB (wr+1)) 1 1,L]);have T5:xA (wr+1) (wl.alloc (cB 390 [(),(),.slice (pB (wr+1)) 1 1,L])) () () (.slice (pB (wr+1)) 1 1) [] [] [0]:=
    ⟨OI.jL _ _,OI.jL _ _,(OI.Wu aQ lE).alloc _,FK.nil _,FK.nil _,FK.nil _⟩
   replace U:=U.alloc (cB 390 [(),(),.slice (pB (wr+1)) 1 1,L]);have bh:wr.heap.size+1+1<=wl.heap.size:=by have:=E.size;simpa using this
   have bE:=S.size;revert b5 S T5 U bE bh;generalize wl.heap.size=s;generalize wl.alloc (cB 390 [(),(),.slice (pB (wr+1)) 1 1,L])=w5;intro b5 S T5 U bE bh;have dK:=b5.lt;clear cA bZ aQ E P ae wl;obtain⟨M,J⟩:=nE (wr:World);subst J;have t0:=U.c 0;go_wp2_with fail;go_loopw [34,9,10] (fun iv D A wr=> ∃(k:Nat) (f b l:List Int) (W V Q:Value) (yf yb:Int),k<=t/\iv=.int .i64 k/\D=.int .i64 yf/\A=.int .i64 yb/\fc wr s 390 [W,V,Q,L]/\fc wr M 44 [.slice At t ct]/\
    Hid (xA (M+1) wr W V Q f b l)/\f.length=k/\b.length=k/\l.length=k+1/\Below M M wr) (fun iv _ _ _=>t.length-(intOf iv).toNat)
   case atStart=>exact⟨0,_,_,_,_,_,_,0,0,eC _,rfl,rfl,rfl,b5,U,T5,rfl,rfl,rfl,S⟩
   case round=>
    obtain⟨k,f,b,l,W,V,Q,yf,yb,hk,rfl,rfl,rfl,bs,af,N,lf,lb,ll,G⟩:=hrel;have ls:=bs.lt;have bO:=af.lt;have t6:=af.c 0;have cQ:=G.size;by_cases aw:k<t
    ·obtain⟨⟨z,q⟩,aG⟩:=ec aw;obtain⟨aa,ak,rfl,aW,y0,y1⟩:=aJ k _ aG;have J:=j.trans (G.mono j.size);replace y0:=a7 J lE y0;replace y1:=a7 J lE y1;have aX:=bP aW J.size;have aB:=bx.below G lx;have YP:Hid (0<k-> ∃p r,(t[k-1]? =some (p,r))/\wr.cell? (pA aa (ak+(k-1)*2))=some p):=zH (fun h0=>by
      obtain⟨⟨p,r⟩,hp⟩:=ec (l:=t) (i:=k-1) oG;obtain⟨b4,o4,e4,h4,y4,-⟩:=aJ (k-1) _ hp;obtain⟨rfl,rfl⟩:aa=b4/\ak=o4:=by simpa using e4
      exact⟨p,r,hp,a7 J lE y4⟩)
     have bY:=zH (HR.get aG);clear aG
     go_upto_if 40 with fail
     have O:=fc.new wr 84 [z,q];have v:=bL (bS wr wr) (cB 84 [z,q]);revert O v;generalize wr.alloc (cB 84 [z,q])=Z;intro O v;have cX:=O.lt;have s0:=O.c 0;have s1:=O.c 1;have t7:Z.cell? M=some (.slice (pA aa ak) t ct):=a7 v lE t6;obtain⟨d0,d1,d2,d3,d4,d5⟩:=(aB.below v oG).jI;have dL:M.heap.size<Z.heap.size:=bP bO v.size;have dJ:aa<Z.heap.size:=bP aX v.size;have bJ:=J.trans (v.mono J.size);have dI:=bY.1
     go_cut [9,10] from 39 to 63 (fun D A wc=> ∃yf yb:Int,D=.int .i64 yf/\A=.int .i64 yb/\Below Z Z wc)
     case first=>
      by_cases h0:0<k
      ·obtain⟨p,r,hp,yp⟩:=YP h0;have dB:=(HR.get hp).1;replace yp:=a7 v lE yp;have dq:IntKind.i64.wrap ((k:Int)-1)=((k-1:Nat):Int):=by rw[jB];omega
       have dr:k-1<t.length:=oG;go_upto_region 11 with fail
       refine rB [] fun hS=>?_;refine kL [0,1,2,3,4,5,6,7,8,9,10,11,12] ?_;refine tD ?_;go_wp2_with fail;refine(pk _ x _ _ _ ((HX.below bJ lE).below bF.drew lE)).mono ?_;rintro e wa ⟨rfl,aS⟩;generalize sm x.gn _ _=za;have I:Below Z Z wa:=(bS _ Z).drew.trans aS;obtain⟨d0,d1,d2,d3,d4,d5⟩:=((aB.below v oG).below I oG).jI;go_wp2_with fail;refine(pk _ x _ _ _ ((HX.below bJ lE).below I lE)).mono ?_;rintro e wb ⟨rfl,aT⟩;generalize sm x.gn _ _=A;have aU:=I.trans (aT.mono I.size);clear aS I aT d0 d1 d2 d3 d4 d5;go_wp2_with fail;go_meet;exact⟨_,_,rfl,rfl,aU⟩
      ·go_wp2_with fail;go_meet
       exact⟨yf,yb,rfl,rfl,bS _ _⟩
     case rest=>
      obtain⟨D,A,rfl,rfl,aC⟩:=hcut;obtain⟨w8,cT⟩:=nE (wc:World);subst cT;have H:=v.trans (aC.mono v.size);have aO:=bs.below H ls;have aq:=O.below aC cX;have cw:=af.below H bO;have T8:=N.below H lE;have aV:=G.trans (H.mono cQ);have dD:=H.size;clear d0 d1 d2 d3 d4 d5 s0 s1 t7 t6 y0 y1 aC v O bs aB;have n:M.heap.size+1<=w8.heap.size:=oG;go_upto_region 14 with fail
      go_cut [] from 64 to 75 (fun wd=> ∃ah ag,fc wd s 390 [ah,ag,Q,L]/\Hid (xA (M+1) wd ah ag Q (f++[D]) (b++[A]) l)/\Below (M+1) w8 wd/\fc wd wr 84 [z,q])
      case first=>
       refine rG (fun wS=>fc wS s 390 [W,V,Q,L]) [11,12,13] (aO.drew) fun hS=>?_;refine kL [0,1,2,5,6,7] ?_;have T:xA (M+1) w8.drew W V Q f b l:=T8.drew;have m:Below (M+1) w8 w8.drew:=bF.drew;have o:=aq.drew;have c:w8.heap.size<=w8.drew.heap.size:=ij _;have l0:=T.lt.1;obtain⟨LF,LB⟩:=Zb lf lb;have aE:f.length<=1000000000:=oG;have E:b.length<=1000000000:=oG;clear lf lb ll;refine pU ?_;refine mL 3 8 rfl rfl rfl rfl kR (fun K a=>?_) (fun K a=>?_)
       ·go_simp;have e3:=fc.new w8.drew 3 [D];have l3:=(T.lt).1;replace T:=T.alloc (cB 3 [Value.int .i64 D]);have m:=m.alloc (eZ n c) (cB 3 [Value.int .i64 D]);replace o:=o.alloc (cB 3 [Value.int .i64 D]);have hS:=hS.alloc (cB 3 [Value.int .i64 D]);have c:=m.size;refine a _ _ (hS) ?_;refine pU ?_;refine mL 4 8 rfl rfl rfl rfl kR (fun K a=>?_) (fun K a=>?_)
        ·refine T.V2 _ _ _ rfl D rfl e3 (eZ n c) rfl aE ?_;intro R c4 W4 T ai B;have hS:=B.ig hS dE;have m:=m.trans (B.below (eZ n c));replace o:=B.ig o dE;have c:=m.size;refine a _ _ (hS) ?_;refine kL [10] ?_;refine tO 8 fun K a=>?_;go_simp;have Y:=fc.new W4 3 [A];have l8:=(T.lt).1;replace T:=T.alloc (cB 3 [Value.int .i64 A]);have m:=m.alloc (eZ n c) (cB 3 [Value.int .i64 A]);replace o:=o.alloc (cB 3 [Value.int .i64 A]);have hS:=hS.alloc (cB 3 [Value.int .i64 A]);have c:=m.size;refine a _ _ (hS) ?_;exact K8
        ·go_simp;have Y:=fc.new (w8.drew.alloc (cB 3 [Value.int .i64 D])) 3 [A];have l8:=(T.lt).1;replace T:=T.alloc (cB 3 [Value.int .i64 A]);have m:=m.alloc (eZ n c) (cB 3 [Value.int .i64 A]);replace o:=o.alloc (cB 3 [Value.int .i64 A]);have hS:=hS.alloc (cB 3 [Value.int .i64 A]);have c:=m.size;refine a _ _ (hS) ?_;replace e3:=e3.alloc (cB 3 [Value.int .i64 A]);refine tO 4 fun K a=>?_;refine T.V2 _ _ _ rfl D rfl e3 (eZ n c) rfl aE ?_;intro R c4 W4 T ai B;have hS:=B.ig hS dE;have m:=m.trans (B.below (eZ n c));replace o:=B.ig o dE;have c:=m.size;refine a _ _ (hS) ?_;refine kL [10] ?_;have Y:=ES ai Y (fun e=>FH _ (bP (l3 _ e) sI));rw[lz] at Y;exact K8
       ·go_simp;have Y:=fc.new w8.drew 3 [A];have l8:=(T.lt).1;replace T:=T.alloc (cB 3 [Value.int .i64 A]);have m:=m.alloc (eZ n c) (cB 3 [Value.int .i64 A]);replace o:=o.alloc (cB 3 [Value.int .i64 A]);have hS:=hS.alloc (cB 3 [Value.int .i64 A]);have c:=m.size;refine a _ _ (hS) ?_;refine tO 3 fun K a=>?_;go_simp;have e3:=fc.new (w8.drew.alloc (cB 3 [Value.int .i64 A])) 3 [D];have l3:=(T.lt).1;replace T:=T.alloc (cB 3 [Value.int .i64 D]);have m:=m.alloc (eZ n c) (cB 3 [Value.int .i64 D]);replace o:=o.alloc (cB 3 [Value.int .i64 D]);have hS:=hS.alloc (cB 3 [Value.int .i64 D]);have c:=m.size;refine a _ _ (hS) ?_;replace Y:=Y.alloc (cB 3 [Value.int .i64 D]);rw[lz] at e3;refine tO 4 fun K a=>?_;refine T.V2 _ _ _ rfl D rfl e3 (eZ n c) rfl aE ?_;intro R c4 W4 T ai B;have hS:=B.ig hS dE;have m:=m.trans (B.below (eZ n c));replace o:=B.ig o dE;have c:=m.size;refine a _ _ (hS) ?_;refine kL [10] ?_;have Y:=ES ai Y (fun e=>FH _ (l0 _ e));exact K8
      case rest=>
       obtain⟨ah,ag,aP,aK,aD,aN⟩:=hcut;obtain⟨Al,cl,cN,dw,dx,bG⟩:=gx.open_ aK.hl.reads;obtain⟨zl,cV⟩:=ec (l:=l) (i:=k) oG;obtain⟨gl,ol,rfl,dp,yl⟩:=bG k zl cV;obtain rfl:=cN;have dF:=aD.size;have dt:(k:Int)<(l.length:Int):=oG;have cZ:k<l.length:=oG;have cK:l.length<=1000000000:=oG;have LL:=zH ll;have aI:M.heap.size+1<=wc.heap.size:=oG;clear ll bG aO aq T8;go_upto_region 15 with fail
       refine rG (fun wS=>fc wS s 390 [ah,ag,.slice (pA gl ol) l cl,L]/\fc wS wr 84 [z,q]/\wS.cell? (pA gl (ol+k))=some zl) [11,12,13] (⟨aP.drew,aN.drew,yl⟩) fun hS=>?_;refine kL [0,1,2,3,4,5,6,7,8,9] ?_;refine tO 10 fun K a=>?_;go_simp;generalize IntKind.i64.wrap (zl+q)=zn;have aR:=fc.new wc.drew 3 [zn];have aM:=aK.drew.alloc (cB 3 [Value.int .i64 zn]);have az:=aP.drew.alloc (cB 3 [Value.int .i64 zn]);have F:=(bS _ wc).drew.alloc lE (cB 3 [Value.int .i64 zn]);have aH:=F.size;refine a _ _ (⟨az,aN.drew.alloc _,a7 F lE yl⟩) ?_;refine tL 11 fun K a=>?_;refine aM.aaH _ _ _ rfl zn rfl aR (eZ aI aH) rfl cK ?_;intro g3 c3 W3 T3 cI aj;have b3:=aj.ig az dE;have dC:=aV.size;have cF:=aV.trans ((aD.mono oG).trans ((F.mono (show M.heap.size<=wc by omega)).trans ((aj.below (eZ aI aH)).mono oG)));have q2:=b3.c 2;have q3:=b3.frozen 2;have cg:=((cw.below aD oG).below F (show M.heap.size<wc by omega)).below (aj.below (eZ aI aH)) oG;clear aR aM az cI aj F;refine a _ _ ?_;refine tL 12 fun K a=>?_;go_simp;refine a _ _ ?_;refine tL 13 fun K a=>?_;go_simp;refine a _ _ ?_;refine tD ?_;go_wp2_with fail;have T4:=T3.vo (q:=(pA s 2)) b3 dE rfl (.slice g3 (l+1) c3);have cG:=cF.setCell (p:=pA s 2) dO (.slice g3 (l+1) c3);have cj:fc (W3.setCell (pA s 2) (.slice g3 (l+1) c3)) M 44 [.slice (pA aa ak) t ct]:=cg.kj (p:=pA s 2) dO _;exact⟨⟨k+1,f++[D],b++[A],l++[zn],_,_,_,D,A,aw,rfl,rfl,rfl,b3.gH 2 _,cj,T4,by simp;omega,by simp;omega,by simp;have:=LL.out;omega,cG⟩,by simp[intOf];omega⟩
    ·obtain rfl:k=t.length:=oG;have aA:=br.below G lr;have cE:=ay.below G lE;have P:=j.trans (G.mono j.size);have aL:zR (w+1+1+1) wr [W,V,Q,L] t:=⟨W,V,Q,f,b,l,L,rfl,N.hf.mono oG,N.hb.mono oG,N.hl.mono oG,lf,lb,ll⟩;have cD:([W,V,Q,L]:List Value).all (fun u=>u.oneCell')=true:=by obtain⟨_,_,rfl,-⟩:=N.hf.slice;obtain⟨_,_,rfl,-⟩:=N.hb.slice;obtain⟨_,_,rfl,-⟩:=N.hl.slice;rfl
     have cP: ∀g,ov.ownBlock=some g->g<M.heap.size:=by obtain⟨_,_,_,h,_⟩:=ay.out;exact fun g e=>(iB h g e).2
     obtain⟨dh,h3,h4,h5,h6⟩:=cE;have cR:(d.take i).length<=1000000000:=by rw[fB];have:=HK.out.len;omega
     have cC:=bx.below G lx;clear bx af t6;go_upto_region 17 with fail
     refine rG (fun wS=>fc wS (w+1+1) 388 (yX x A1 c1 A2 c2 [.slice (pA bt ot) d cd,ov])/\fc wS s 390 [W,V,Q,L]) [10] (⟨aA.drew,bs.drew⟩) fun hS=>?_;refine kL [0,1,2,3,4,5] ?_;refine tO 6 fun K a=>?_;go_simp;have b1:=aA.drew.alloc (cB 390 [W,V,Q,L]);have O1:=aL.below ((bS _ wr).drew.alloc lE (cB 390 [W,V,Q,L])) lE;have di:=P.drew.alloc (by show w.heap.size<=wr;omega) (cB 390 [W,V,Q,L]);refine a _ _ (⟨b1,bs.drew.alloc _⟩) ?_;refine tO 7 fun K a=>?_;refine vX wr.drew _ _ 386 rfl (w.heap.size+1+1+1) 390 _ 4 80 underlying386 Sm rfl dE dE _ _ _ h5 rfl _ _ rfl rfl cD cR (by show _<=wr.heap.size;omega) ?_;intro g7 c7 Z cO dn dz X cJ;have b7:=X.ig aA.drew dE;have v:=P.drew.trans ((X.below (by show _<=wr.heap.size;omega)).mono oG);have O7:=OL.push rfl h3 h4 rfl cO (fun i x cs hx hc=>(h6 i x cs hx hc).keep (w:=wr.drew) X dE) (aL.keep (w:=wr.drew) X dE);have hS:fc Z _ _ _/\fc Z s 390 [W,V,Q,L]:=⟨b7,(cJ.block s sO (fun e=>by have:=cP s e.symm;omega)).trans (bs.drew.alloc _)⟩;refine a _ _ (hS) ?_;refine kL [8,9] ?_;have dg:=b7.c 7;have f7:=b7.frozen 7;refine tL 10 fun K a=>?_;go_simp;refine a _ _ ?_;refine tD ?_;go_wp2_with fail;have bI:(d.take i).length=i:=by rw[fB];omega
     rw[<-bW.out,bI] at O7;have cU:=X.size;have dH:wr.heap.size<=Z.heap.size:=cU;refine⟨⟨i+1,_,oG,rfl,(X.ig cC.drew dE).kj (p:=pA (w+1+1) 7) dO _,b7.gH 7 _,(wZ.fG (q:=(pA (w+1+1) 7)) O7 dO _),v.setCell (p:=pA (w+1+1) 7) dO _,by simp;omega⟩,by simp[intOf];omega⟩
  ·obtain rfl:i=d.length:=oG;have hO:=ay.out;rw[gh] at hO;have bU:=zH hO;clear hO;go_wp2_with fail;go_ret;exact⟨w.heap.size+1+1,rfl,oG,⟨A1,c1,A2,c2,_,ov,br,HX.below j lE,iK.below HD j lE,bU.reads⟩,j⟩
end
end Go.Proofs.YtgimnjldndkalaaGreatDoor
