/- Of the proof of TopGreat: A variable of several cells that is a block of its own, known whole: loaded, stored, handed back. -/
import Derived.Deep.MidRow
import Derived.Test.YtgimnjldndkalaaGreatDoorF7
set_option linter.all false
set_option maxHeartbeats 1600000
set_option maxRecDepth 100000
namespace Go.Proofs.YtgimnjldndkalaaGreatDoor
variable {a:Act} {K:Act->World->Prop} {Q:Exit->Act->World->Prop} {o:Oper} {P:Program}
section
open Go.RowKit
variable {b c t:TypeId} {e:List Value} {g:Nat} {m:Func} {p q r:Tmp} {w:World}
def fc.setRow (h:fc w g t e) (b:List Value):fc (w.setRow g b.toArray) g t b:=setRow_heap w g _ _ _ _ h
def fc.Is {b:Array Value}:w.grownBy (w.setRow g b) (some g):=
 ⟨rfl,rfl,rfl,by simp,fun k c a=>setRow_other w g k b (fun e=>a (by rw[e]))⟩
def fc.range (h:fc w g t e):w.rangeAt g 0 e:=fun j v a=>by rw[gW,h.cell];exact a
section
variable {ops:Array Oper} {rest:List Oper}
def gY (w:World) (c:TypeId) (x y:Operand) (m:o.op=.store c x y) (g:Nat) (t:TypeId) (d b:List Value) (i:fc w g t d) (n:a.eval x=.pointer g) (p:a.eval y=.agg b.toArray)
  (f:(P.info? c).map (·.size)=some b) (l:d.length=b) (e:b.all (fun u=>u.oneCell')=true)
  (h: ∀w',fc w' g t b->w.grownBy w' (some g)->w'.heap.size=w->K (a.put o.dst undef) w'):o.wp P a w K Q:=
 wp_store_row c x y m g b.toArray n p t d.toArray i (by simpa using f) (by simpa using l) (by rw[Array.all_eq_true_iff_forall_mem];intro u j;exact dT.1 e u (by simpa using j)) (h _ (i.setRow b) fc.Is sI)
def fH (w:World) (k:o.guard=none) (c:TypeId) (x y:Operand) (m:o.op=.store c x y) (g:Nat) (t:TypeId) (d b:List Value) (i:fc w g t d) (n:a.eval x=.pointer g) (p:a.eval y=.agg b.toArray)
  (f:(P.info? c).map (·.size)=some b) (l:d.length=b) (e:b.all (fun u=>u.oneCell')=true)
  (h: ∀w',fc w' g t b->w.grownBy w' (some g)->w'.heap.size=w->wpList P ops Q rest (a.put o.dst undef) w'):wpList P ops Q (o::rest) a w:=
 wpList_plain k fun _ r=>gY w c x y m g t d b i n p f l e fun w' e j q=>r _ _ (h w' e j q)
def nK (w:World) (c:TypeId) (x:Operand) (m:o.op=.load c x) (g:Nat) (t:TypeId) (e:List Value) (d:TypeDesc) (n:a.eval x=.pointer g) (i:fc w g t e)
  (j:P.underlying c=some d) (l:d.isRow=true) (f:(P.info? c).map (·.size)=some e):(execOp a.eval o).run P w=.ok (.value (.agg e.toArray)) w:=by
 unfold execOp;simp only[m,n,Instr.loadAt,Instr.sureAddr,ks,pR,lO,run_loadVar_mid w g 0 c e d i.range j l f]
def mJ (w:World) (k:o.guard=none) (c:TypeId) (x:Operand) (m:o.op=.load c x) (g:Nat) (t:TypeId) (e:List Value) (d:TypeDesc) (n:a.eval x=.pointer g) (i:fc w g t e)
  (j:P.underlying c=some d) (l:d.isRow=true) (f:(P.info? c).map (·.size)=some e) (h:wpList P ops Q rest (a.put o.dst (.agg e.toArray)) w):wpList P ops Q (o::rest) a w:=
 wpList_load_mid k c x m g 0 n e d i.range j l f h
end
def tH (h:m.results= #[.cell p c,.cell q b]) (tmps:Array Value) (w:World) (g k:Nat) (t C:TypeId) (e a:List Value) (d n:TypeDesc)
  (B:tmps.getD p undef=.pointer g) (D:tmps.getD q undef=.pointer k) (A:fc w g t e) (s:fc w k C a)
  (j:P.underlying c=some d) (l:(match d with| .struct _| .array _ _=>true|_=>false)=true) (f:(P.info? c).map (·.size)=some e)
  (z:P.underlying b=some n) (o:(match n with| .struct _| .array _ _=>true|_=>false)=true) (v:(P.info? b).map (·.size)=some a):
  (results m tmps).run P w=.ok (.tuple #[.agg e.toArray,.agg a.toArray]) w:=by
 have i:tmps[p]?.getD undef=.pointer g:=by simpa using B
 have x:tmps[q]?.getD undef=.pointer k:=by simpa using D
 simp[results,h,i,x,asAddr,run_loadVar_row w g t c e.toArray (0,0) d A j l (by simpa using f),run_loadVar_row w k C b a.toArray (0,0) n s z o (by simpa using v)]
def uS (h:m.results= #[.cell p c,.cell q b,.tmp r]) (tmps:Array Value) (w:World) (g k:Nat) (t C:TypeId) (e a:List Value) (d n:TypeDesc) (u:Value)
  (B:tmps.getD p undef=.pointer g) (D:tmps.getD q undef=.pointer k) (E:tmps.getD r undef=u) (A:fc w g t e) (s:fc w k C a)
  (j:P.underlying c=some d) (l:(match d with| .struct _| .array _ _=>true|_=>false)=true) (f:(P.info? c).map (·.size)=some e)
  (z:P.underlying b=some n) (o:(match n with| .struct _| .array _ _=>true|_=>false)=true) (v:(P.info? b).map (·.size)=some a):
  (results m tmps).run P w=.ok (.tuple #[.agg e.toArray,.agg a.toArray,u]) w:=by
 have i:tmps[p]?.getD undef=.pointer g:=by simpa using B
 have x:tmps[q]?.getD undef=.pointer k:=by simpa using D
 have y:tmps[r]?.getD undef=u:=by simpa using E
 simp[results,h,i,x,y,asAddr,run_loadVar_row w g t c e.toArray (0,0) d A j l (by simpa using f),run_loadVar_row w k C b a.toArray (0,0) n s z o (by simpa using v)]
def iw (h:m.results= #[.cell p c,.tmp r]) (tmps:Array Value) (w:World) (g:Nat) (t:TypeId) (e:List Value) (d:TypeDesc) (u:Value)
  (B:tmps.getD p undef=.pointer g) (E:tmps.getD r undef=u) (A:fc w g t e)
  (j:P.underlying c=some d) (l:(match d with| .struct _| .array _ _=>true|_=>false)=true) (f:(P.info? c).map (·.size)=some e):
  (results m tmps).run P w=.ok (.tuple #[.agg e.toArray,u]) w:=by
 have i:tmps[p]?.getD undef=.pointer g:=by simpa using B
 have y:tmps[r]?.getD undef=u:=by simpa using E
 simp[results,h,i,y,asAddr,run_loadVar_row w g t c e.toArray (0,0) d A j l (by simpa using f)]
end
section
open Go.Proofs.Tryz
open Go.RowKit jm ko kN
def DQ {P:Program} (w:World) (s x:Operand) (t:TypeId)
  (C:o.op=.call {callee:=.builtin .append,args:= #[s,x],argTypes:= #[t,t]})
  (base:Nat) (e:TypeId) (z:Value) (size g:Nat) (H:P.underlying t=some (.slice e)) (N:(P.info? e).map (fun i=>(i.zero,i.size,i.bytes))=some (some z,size,g))
  (J:z.cells.size=size) (G:0<size) (r:g<=100)
  (v:Value) (n:Nat) (L:List Value) (d:w.ownsRow base e size v n L) (E:a.eval s=v)
  (A:Option Addr) (m c:Nat) (f:List Value) (I:a.eval x=.slice A m c) (D:RS w size (.slice A m c) m f) (k:f.all (fun u=>u.oneCell')=true)
  (B:n+m<=1000000000) (b:base<=w)
  (h: ∀j w',w'.ownsRow base e size j (n+m) (L++f)->kQ e base w w'->K (a.put o.dst j) w'):o.wp P a w K Q:=by
 obtain⟨i,y,R,F,q⟩:=info_parts N;subst F;subst q;obtain⟨j,w',p,l,M⟩:=rP (P:=P) w base t o.type e i z H y R J G v n L d A m c f D (fun u O=>dT.1 k u O) B r b;unfold Oper.wp execOp;simp only[C,resolve,invoke,builtin,ks,pR,lO,mT,gN,lG,E,I,p];exact h _ _ l (kQ.ux d M)
def G1 (w:World) (s x:Operand) (C:o.op=.call {callee:=.builtin .append,args:= #[s,x],argTypes:= #[42,42]})
  (base:Nat) (v:Value) (L:Tr) (d:OS base w v L) (E:a.eval s=v) (A:Option Addr) (m c:Nat) (T:Tr) (I:a.eval x=.slice A m c) (D:RL 2 iH w (.slice A m c) T) (e:T.length=m) (B:L.length+m<=1000000000) (b:base<=w)
  (h: ∀j w',OS base w' j (L++T)->kQ 84 base w w'->K (a.put o.dst j) w'):o.wp prog a w K Q:=by
 subst e;refine DQ w s x 42 C base 84 _ 2 16 underlying42 nU rfl dE dE v L _ d E A T c (T.flatMap gV) I (fQ.rs D) (mK T) B b ?_;intro j w' k l;refine h j w' ?_ l;unfold OS;rw[fa,fU];exact k
def fQ.part {w:World} {b o c:Nat} {t:Tr} (h:RL 2 iH w (.slice (pA b o) t c) t) {i j:Nat} (d:i<=j) (e:j<=t) (c':Nat) (k:j-i<=c') (l:c'<=maxLen):
  RL 2 iH w (.slice (pA b (o+i*2)) (j-i) c') ((t.take j).drop i):=by
 have H:=RL.take h e;have a:(t.take j).length=j:=by rw[fB];omega
 have:=RL.drop (n:=i) (c':=c') (by rw[a];exact H) (by rw[a];exact d) (by rw[a];exact k) l;rw[a] at this;exact this
open Go.RowKit PF jm ko kN
theorem QZ{p:Prop}(h:p:=by go_simp;refine e _ _ (((hS.alloc hS.size _).alloc sI _)) ?_;refine tO 16 fun K e=>?_;go_simp;refine e _ _ (((hS.alloc hS.size _).alloc sI _)) ?_;refine tL 17 fun K e=>?_;go_simp;refine e _ _ ?_;refine tD ?_;go_wp2;all_goals (go_ret;exact .mk _ rfl (((bS w w).alloc lE _).alloc sI _).drew)):p:=h
def uj (O:Nat->Prop) (w:World) (p:Nat) (L:Hp) (v:Value) (mb:Nat) (f:Int->Option Int) (h:sg O w p L v mb f) (i j:Nat) (r:i<L) (s:j<L):
  Calls prog 399 #[.pointer p,i,j] w (ug w):=by
 obtain⟨g,c,o,rfl,A,B,n,d,m⟩:=h.cells oG;have c0:=h.ig.c 0;obtain⟨a,k⟩:=ec r;obtain⟨b,l⟩:=ec s;have u:=(d i a k).1;have x:=(d i a k).2;have y:=(d j b l).1;have z:=(d j b l).2;have t:=h.ig.lt;have q:=(aah.1 n).1;clear d k l m n h;go_enter func399,ntmps399;go_wp2;refine rB [17] fun hS=>?_;refine kL [0,1,2,3,4,5,6,7,8,9,10,11,12,13] ?_;refine pU ?_;refine mL 14 15 rfl rfl rfl rfl kR (fun K e=>?_) (fun K e=>?_)
 ·go_simp;refine e _ _ ((hS.alloc hS.size _)) ?_;refine tO 15 fun K e=>?_;exact QZ
 ·go_simp;refine e _ _ ((hS.alloc hS.size _)) ?_;refine tO 14 fun K e=>?_;exact QZ
open Go.RowKit PF jm ko kN
def CV (O:Nat->Prop) (w:World) (p:Nat) (L:Hp) (v:Value) (mb:Nat) (f:Int->Option Int) (h:sg O w p L v mb f) (i j:Nat) (hi:i<L) (hj:j<L):
  Calls prog 402 #[.pointer p,i,j] w fun e w'=>e=.returned (.tuple #[])/\(∃f',sg O w' p (qI L i j) v mb f')/\gI O w w'/\w'.heap.size=w.heap.size:=by
 obtain⟨g,c,aa,rfl,h1,h2,hg,d,l⟩:=h.cells oG;have c0:=h.ig.c 0;obtain⟨a,t⟩:=ec hi;obtain⟨b,u⟩:=ec hj;have a1:=(d i a t).1;have a2:=(d i a t).2;have V:=(d j b u).1;have X:=(d j b u).2;have f1:=l (i*2);have f2:=l (i*2+1);have f3:=l (j*2);have f4:=l (j*2+1);have M:=h.ig.lt;have I:=(aah.1 hg).1;have H:=zH h;obtain⟨y1,R⟩:=rr (p:=pA g (i*2)) (x:=.int .i64 b.1) V;obtain⟨y2,S⟩: ∃y,((w.setCell (pA g (i*2)) b.1).setCell (pA g (i*2+1)) b.2).cell? (pA g (j*2+1))=some y:=by obtain⟨y,hy⟩:=rr (p:=pA g (i*2)) (x:=.int .i64 b.1) X;exact rr hy
 have D:=h.swapped t u _ rfl;obtain⟨HA,HB⟩:=Zb t u;have q:=h.pm;have z:=h.gm (g:=g) rfl;clear d t u l hg h;go_enter func402,ntmps402;go_wp2
 go_region
 have E:=D;revert E;generalize ((((w.setCell (pA g (i*2)) b.1).setCell (pA g (i*2+1)) b.2).setCell (pA g (j*2)) a.1).setCell (pA g (j*2+1)) a.2)=W;rintro⟨T,k2,k3,F,k5,k6,k7⟩;have Y:=T.c 0;have Z:=T.c 1;obtain⟨s,N,J,C,m⟩:=nO.put (P:=prog) (k3.at (w':=W.drew.drew) rfl) underlying364 underlying3 b.1 i;clear D a1 a2 V X f1 f2 f3 f4 R S c0;go_wp2
 go_region
 have e0:s.cell? p=some (.slice g L c):=m.cell (a:=p) Y (fun e=>q (fg e));have e1:s.cell? (pA p 1)=some (.map (some mb)):=m.cell (a:=(pA p 1)) Z (fun e=>q (fg e));have e7:s.cell? (pA g (j*2))=some a.1:=m.cell (a:=(pA g (j*2))) k7 (fun e=>z (fg e));obtain⟨U,ae,K,Q,o⟩:=nO.put (P:=prog) (J.at (w':=s.drew) rfl) underlying364 underlying3 a.1 j;obtain⟨n,r⟩:=Zb m C;clear Y Z k6 k7 N m C;go_wp2
 go_region
 go_end0
 have hW: ∀k,k<w.heap.size->k≠mb->U.heap[k]? =W.heap[k]? :=fun k A B=>(o.block k (by show k<s.heap.size;rw[r.out];show k<W.heap.size;omega) (fun e=>B (fg e))).trans (n.block k (by show k<W.heap.size;omega) (fun e=>B (fg e)));have hz:U.heap.size=w.heap.size:=Q.trans (r.trans k5);have hl:=E1 L i j;refine⟨rfl,⟨_,(hW p M q).trans T,?_,K,H.ok.swap HA HB,H.op,H.om,H.ov,fun k A=>by rw[hz];exact H.ol k A⟩,?_,hz⟩
 ·rw[hl];exact sM k2 fun g' G=>by cases G;exact hW _ I z
 ·exact⟨o.os.trans (n.os.trans F.os),o.tape.trans (n.tape.trans F.tape),o.output.trans (n.output.trans F.output),oG,fun k A hn=>(hW k A fun e=>hn (e▸H.om)).trans (F.block k A hn)⟩
def FV (a b:Int) (w:World):(Instr.typeAssert (.iface 429 (.agg #[a,b])) 20 429 true).run prog w=.ok (.tuple #[.agg #[a,b],true]) w:=kR
def N3 (O:Nat->Prop) (w:World) (p:Nat) (L:Hp) (v:Value) (mb:Nat) (f:Int->Option Int) (h:sg O w p L v mb f) (id u:Int) (hn:f id=none) (hL:L.length<=1000000):
  Calls prog 401 #[.pointer p,.iface 429 (.agg #[id,u])] w fun e w'=>e=.returned (.tuple #[])/\(∃O' v' f',sg O' w' p (L++[(id,u)]) v' mb f'/\(∀k,O' k->O k\/w.heap.size<=k))/\gI O w w':=by
 obtain⟨A,c,rfl,h1,h2⟩:=h.slice;have o:=(h.ig.alloc (cB 429 [id,u]));have r:=(h.row.alloc (cB 429 [id,u]));have I:=h.map.at (w':=w.alloc (cB 429 [id,u])) (sV _ _ _ h.map.lt);have s:=fc.new w 429 [id,u];have M:=gI.alloc O w (cB 429 [id,u]);have E:=h.pm;have ai:=h.ig.lt;have ah:=h.map.lt;have H:=zH h;have aj:=FV id u;clear h;go_enter func401,ntmps401;go_wp2;revert o r I s M;have hz:w.heap.size<(w.alloc (cB 429 [id,u])).heap.size:=sI;revert hz;show∀(hz:_) (o:_) (r:_) (I:_) (s:fc (w.alloc (cB 429 [id,u])) _ _ _),_;generalize w.alloc (cB 429 [id,u])=W;intro hz o r I s M;have d0:=o.c 0;have d1:=o.c 1;have d2:=s.c 0;obtain⟨i,Z,B,F,d⟩:=nO.put (P:=prog) (I.at (w':=W.drew) rfl) underlying364 underlying3 id L;have y: ∀g,(Value.slice A L c).ownBlock=some g->g≠mb:=fun g q=>H.gm q;have N:fc i p 425 [.slice A L c,.map (some mb)]:=(d.block p (by show p<W;omega) (fun e=>E (fg e))).trans o;have r2:=sM (w':=i) r fun g q=>d.block g (r.lt g q).2 (fun e=>y g q (fg e));have r4:fc i w 429 [id,u]:=(d.block _ (by show w.heap.size<W;omega) (fun e=>absurd (fg e) oG)).trans s;have aa:W.heap.size<=i.heap.size:=by rw[F];exact ij _
 have s2:gI O w i:=M.trans ⟨d.os,d.tape,d.output,aa,fun k j n=>d.block k j fun e=>n (.inl ((fg e)▸H.om))⟩;obtain⟨Q,t,R⟩:=Zc r2 B s2;clear F d r2 B s2 r I s M y
 go_region
 have e0:=N.c 0;have e1:=N.c 1;have e2:=r4.c 0;have e3:=r4.c 1;have D:=N.lt;have ag:=r4.lt;clear d0 d1 d2 Z o;go_wp2;refine rG (fun wS=>wS.cell? p=some (.slice A L c)/\wS.cell? w=some id/\wS.cell? (pA w 1)=some u) [10] (⟨e0,e2,e3⟩) fun hS=>?_;refine kL [0,1,2,3,4,5] ?_;refine tO 6 fun K x=>?_;go_simp;have J:=(fc.new i 429 [id,u]).drewN 1;have l:Below i i ((i.alloc (cB 429 [id,u])).drew):=(bL bF _).drew;revert J l;show∀(J:fc ((i.alloc (cB 429 [id,u])).drew) _ _ _),_;generalize (i.alloc (cB 429 [id,u])).drew=W4;intro J l;have S:=a7 l lE e0;have T:=a7 l lE e2;have U:=a7 l lE e3;have ak:=l.size;have X:=H.row.lt;have z:=fun g q=>H.gp (g:=g) q;refine x _ _ (⟨S,T,U⟩) ?_;refine tO 7 fun K x=>?_;refine vW W4 _ _ 421 rfl 0 429 _ 2 16 underlying421 O9 rfl dE dE _ L _ (jq Q l lE) rfl [id,u] _ _ rfl J rfl rfl oG oG ?_;intro g cap m Y G V b;have n1:some p≠(Value.slice A L c).ownBlock:=fun e=>z p e.symm rfl;have n2:some w.heap.size≠(Value.slice A L c).ownBlock:=fun e=>by have:=(X _ e.symm).2;omega
 have x0:=b.cell (a:=p) S n1;have hS:m.cell? p=some (.slice A L c)/\m.cell? w=some id/\m.cell? (pA w 1)=some u:=⟨x0,b.cell (a:=w) T n2,b.cell (a:=(pA w 1)) U n2⟩;refine x _ _ (hS) ?_;have y1:fc m p 425 [.slice A L c,.map (some mb)]:=(b.block p oG n1).trans (N.below l D);have yf:=y1.frozen 0;have C:=t.lt;have y3:=t.at (w':=m) ((b.block mb oG (fun e=>H.gm e.symm rfl)).trans (l.block mb C));have af:=zH (y3.at (w':=m.setCell p (.slice g (L+1) cap)) (fX _ _ _ _ _ (jN E)));have y4:=y1.gH 0 (.slice g (L+1) cap);clear y1 y3 S T U J;refine kL [8,9] ?_;refine tL 10 fun K x=>?_;go_simp;refine x _ _ ?_;refine tD ?_
 go_end0
 have ae:=b.size;refine⟨rfl,⟨fun k=>O k\/k=g,.slice g (L+1) cap,qQ f id (some L),?_,fun k j=>?_⟩,?_⟩
 ·refine⟨y4,?_,af,H.ok.push u hn,.inl H.op,.inl H.om,fun k j=>?_,fun k j=>?_⟩
  ·rw[fa,fU];refine nJ Y (fun k j e=>?_) _;cases j
   rcases G with h7|h7
   ·exact z g h7 e
   ·simp at e;omega
  ·cases j;exact .inr rfl
  ·show k<(m.setCell _ _).heap.size;rw[World.size_setCell]
   rcases j with h7|rfl
   ·have:=H.out.ol k h7;omega
   ·exact V
 ·rcases j with h7|rfl
  ·exact .inl h7
  ·rcases G with h7|h7
   ·exact .inl (H.ov _ h7)
   ·exact .inr oG
 ·have s4:gI O w W4:=R.trans (gI.ke l);have s7:gI O w m:=s4.trans ⟨b.os,b.tape,b.output,ae,fun k j n=>b.block k j fun e=>n (.inl (H.ov k e.symm))⟩;exact s7.trans (gI.set m (.inl H.op) _ _)
open Go.RowKit PF jm ko kN
def Jw {L:Hp} {a:Int×Int}:(L++[a])[L.length]? =some a:=sI
def CO (O:Nat->Prop) (w:World) (p:Nat) (L:Hp) (v:Value) (mb:Nat) (f:Int->Option Int) (id u:Int) (h:sg O w p (L++[(id,u)]) v mb f):
  Calls prog 400 #[.pointer p] w fun e w'=>e=.returned (.iface 429 (.agg #[id,u]))/\(∃v' V,sg O w' p L v' mb V)/\gI O w w':=by
 obtain⟨g,c,T,rfl,h1,h2,K,b,j⟩:=h.cells sI;have n:(L++[(id,u)]).length=L.length+1:=sI;rw[n] at h h1;have c0:=h.ig.c 0;have X:=h.ig.frozen 0;have R:=(b L (id,u) Jw).1;have S:=(b L (id,u) Jw).2;have Y:=j (L.length*2);have Z:=j (L.length*2+1);have D:=h.ig.lt;have z:=(aah.1 K).1;have B:=h.map.lt;have o:=h.pm;have l:=h.gm (g:=g) rfl;have m:=h.gp (g:=g) rfl;obtain⟨H,Q⟩:=Zb h n;clear b j K h n;go_enter func400,ntmps400;go_wp2;have s:fc (((((w.setCell (pA g (L.length*2)) Zo).setCell (pA g (L.length*2+1)) Zo).setCell p (.slice g L c)).alloc (cB 429 [id,u]))) p 425 [.slice g L c,.map (some mb)]:=(((H.ig.kj (p:=pA g (L.length*2)) (jN m) _).kj (p:=pA g (L.length*2+1)) (jN m) _).gH 0 _).alloc _;have x:fc (((((w.setCell (pA g (L.length*2)) Zo).setCell (pA g (L.length*2+1)) Zo).setCell p (.slice g L c)).alloc (cB 429 [id,u]))) w 429 [id,u]:=fc.fW _ _ _ sI;have N:=H.row;rw[Q.out] at N;have t:=RT ((nJ ((N.stored (L.length*2) Zo).1.stored (L.length*2+1) Zo).1 (p:=p) (fun k i e=>by cases i;exact m e) (.slice g L c)).alloc (cB 429 [id,u])) (k:=L.length) (iW _);rw[Qs] at t;have I:gI O w ((((w.setCell (pA g (L.length*2)) Zo).setCell (pA g (L.length*2+1)) Zo).setCell p (.slice g L c)).alloc (cB 429 [id,u])):=
  (((gI.set w (H.ov g rfl) _ _).trans (gI.set _ (.inl (H.ov g rfl)) _ _)).trans (gI.set _ (.inl H.op) _ _)).trans (gI.alloc _ _ _)
 have M:((((w.setCell (pA g (L.length*2)) Zo).setCell (pA g (L.length*2+1)) Zo).setCell p (.slice g L c)).alloc (cB 429 [id,u])).heap.size=w.heap.size+1:=sI;have G:nO ((((w.setCell (pA g (L.length*2)) Zo).setCell (pA g (L.length*2+1)) Zo).setCell p (.slice g L c)).alloc (cB 429 [id,u])) mb f:=
  H.map.at ((sV _ _ _ (by simpa using B)).trans ((fX _ _ _ _ _ (jN o)).trans ((fX _ _ _ _ _ (jN l)).trans (fX _ _ _ _ _ (jN l)))))
 revert s x t I M G;generalize ((((w.setCell (pA g (L.length*2)) Zo).setCell (pA g (L.length*2+1)) Zo).setCell p (.slice g L c)).alloc (cB 429 [id,u]))=W;intro s x t I M G;have U:=s.c 1;have J:=x.c 0;obtain⟨r,u2,E,A,q,d⟩:=nO.del (P:=prog) (G.at (w':=W.drew) rfl) underlying364 underlying3 id 0;clear c0 X R S Y Z
 go_region
 have e0:r.cell? w=some id:=d.cell (a:=w) J (fun e=>absurd (fg e) dO);have e1:r.cell? (pA w 1)=some u:=d.cell (a:=(pA w 1)) (x.cell 1) (fun e=>absurd (fg e) dO);have y:=zH q;clear U J E q;go_wp2;go_ret;have F:W.heap.size<=r.heap.size:=by rw[y.out];exact ij _
 have hW: ∀k,k<w.heap.size->k≠mb->r.heap[k]? =W.heap[k]? :=fun k i C=>d.block k (by show k<W.heap.size;omega) (fun e=>C (fg e));refine⟨rfl,⟨_,_,(hW p D o).trans s,sM t fun k i=>?_,A,H.ok.pop,H.op,H.om,fun k i=>?_,fun k i=>?_⟩,?_⟩
 ·cases i;exact hW _ z l
 ·cases i;exact H.ov _ rfl
 ·have:=H.out.ol k i;omega
 ·exact I.trans ⟨d.os,d.tape,d.output,F,fun k i n=>d.block k i fun e=>n (.inl ((fg e)▸H.om))⟩
def Ru (n:Nat) (a:Addr) (w:World):(method (n+1) 427 (.pointer (some a)) "Less").run prog w=.ok (399,.pointer (some a)) w:=kR
def La (n:Nat) (a:Addr) (w:World):(method (n+1) 427 (.pointer (some a)) "Swap").run prog w=.ok (402,.pointer (some a)) w:=kR
def VH (n:Nat) (a:Addr) (w:World):(method (n+1) 427 (.pointer (some a)) "Len").run prog w=.ok (398,.pointer (some a)) w:=kR
def Wp (n:Nat) (a:Addr) (w:World):(method (n+1) 427 (.pointer (some a)) "Push").run prog w=.ok (401,.pointer (some a)) w:=kR
def Yu (n:Nat) (a:Addr) (w:World):(method (n+1) 427 (.pointer (some a)) "Pop").run prog w=.ok (400,.pointer (some a)) w:=kR
def MF (O:Nat->Prop) (w:World) (p:Nat) (L:Hp) (v:Value) (mb:Nat) (f:Int->Option Int) (h:sg O w p L v mb f) (j:Nat) (J:j<L) (G:L.length<=1000000):
  Calls prog 362 #[.iface 427 (.pointer p),j] w fun e w'=>e=.returned (.tuple #[])/\(∃L' a,sg O w' p L' v mb a/\D5 (j+1) L L')/\gI O w w':=by
 have H:=zH h;clear h;go_enter func362,ntmps362;go_wp2;go_loopw [1,4] (fun q t wr=> ∃(k:Nat) (L':Hp) (a:Int->Option Int),q=.int .i64 k/\k<=j/\sg O wr p L' v mb a/\D5 (j+1) L L'/\gI O w wr) (fun q _ _=>(intOf q).toNat)
 case atStart=>exact⟨j,L,f,rfl,lE,H,D5.refl _ _,gI.refl _ _⟩
 case round=>
  obtain⟨k,L',a,rfl,K,B,y,l⟩:=hrel;obtain⟨r,o,A⟩:=Zc B y l;clear B y l;by_cases x:k=0
  ·subst x;go_wp2
   go_end0
   exact⟨rfl,⟨L',a,r,o⟩,A⟩
  ·obtain⟨m,y⟩: ∃m:Nat,((k:Int)-1)/2=m:=⟨((k-1)/2),oG⟩;have D:m<k:=oG;have I:((m:Int)==(k:Int))=false:=by simp;omega
   have E:=Ru 562 p;have M:=o.len;go_wp2_with fail;refine(uj O _ p L' v mb a r k m oG oG).mono ?_;rintro e w1 ⟨b,rfl,c⟩;obtain⟨d,g⟩:=Zb (r.below c) (A.trans (gI.ke c));clear c;have F:=La 562 p;cases b
   ·go_wp2
    go_end0
    exact⟨rfl,⟨L',a,d,o⟩,g⟩
   ·go_wp2_with fail;refine(CV O _ p L' v mb a d m k oG oG).mono ?_;rintro e N ⟨rfl,⟨C,i⟩,n,z⟩;obtain⟨s,u⟩:=Zb i (g.trans (n.mono fun _=>.inl));clear i n z;go_wp2;go_roundw
    case rel=>exact⟨m,_,C,rfl,oG,s,o.trans (D5.swap oG oG),u⟩
    case measure=>exact mI
end
end Go.Proofs.YtgimnjldndkalaaGreatDoor
