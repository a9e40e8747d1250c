/- Of the proof of TopCosts: The steps of a region that draws, in few words. -/
import Derived.Test.YtgimnjldndkalaaGreatDoorF4
import Derived.Test.YtgimnjldndkalaaGreatDoorChecked
import Derived.Test.YtgimnjldndkalaaGreatDoorRows
set_option linter.all false
set_option maxHeartbeats 1000000
set_option maxRecDepth 100000
namespace Go.Proofs.YtgimnjldndkalaaGreatDoor
variable {ops:Array Oper} {Q:Exit->Act->World->Prop} {late:List Nat} {B lb:Nat} {P:Program} {ed es et:TypeId} {v:Value} {w w':World} {S:World->Prop}
section
open Go.RowKit
def im (w:World) (b:Nat):Nat->List Value->Prop
 |_,[]=>True
 |o,v::l=>w.cell? (pA b o)=some v/\im w b (o+1) l
theorem EE {w:World} {b:Nat} {cs:List Value} (h: ∀i v,cs[i]? =some v->w.cell? (pA b i)=some v): ∀(l:List Value) (o:Nat),(∀i v,l[i]? =some v->cs[o+i]? =some v)->im w b o l
 | [],_,_=>trivial
 |v::l,o,hl=>⟨h o v (hl 0 v rfl),EE h l (o+1) fun i u hu=>by rw[show o+1+i=o+(i+1) by omega];exact hl (i+1) u (by simpa using hu)⟩
theorem fc.iY {w:World} {b:Nat} {t:TypeId} {cs:List Value} (h:fc w b t cs):im w b 0 cs:=
 EE (fun i v hv=>by rw[h.cell i];exact hv) cs 0 fun i v hv=>by simpa using hv
section
theorem tk {n:Nat} {listed:Array Bool} {a a0 a':Act} {w:World} (i:Nat) {oi:Oper} {rs:List Oper} {v:Value} (hS:S w)
  (h:il P ops Q S late n (listed.setIfInBounds i true) a' w)
  (ha0:a=a0:=by refine pU ?_;try with_reducible rfl)
  (hi:ops.toList.drop i=oi::rs:=by rfl) (hg:oi.guard=none:=by rfl) (ht:sT ops late listed i=true:=by kernel_rfl)
  (hQ: ∀c a w,Q (.panic c) (a.put oi.dst v) w->Q (.panic c) a w:=by exact fun _ _ _ h=>h)
  (hy: ∀w,S w->(execOp a0.eval oi).run P w=.ok (.value v) w:=by
   intro wS hSw;try dsimp only at hSw
   try (have hSa:=fc.iY hSw;simp only[im,Nat.reduceAdd] at hSa)
   try (have hSb:=fc.iY hSw.1;simp only[im,Nat.reduceAdd] at hSb)
   try (have hSd:=fc.iY hSw.2;simp only[im,Nat.reduceAdd] at hSd)
   try (have hSe:=fc.iY hSw.2.1;simp only[im,Nat.reduceAdd] at hSe)
   try (have hSg:=fc.iY hSw.2.2;simp only[im,Nat.reduceAdd] at hSg)
   try (have hSh:=fc.iY hSw.2.2.1;simp only[im,Nat.reduceAdd] at hSh)
   try (have hSi:=fc.iY hSw.2.2.2;simp only[im,Nat.reduceAdd] at hSi)
   try (have hSc:=xi hSw;obtain⟨hSc,hSf⟩:=hSc)
   go_simp;try with_reducible rfl)
  (ha:a0.put oi.dst v=a':=by refine pU ?_;try with_reducible rfl):
  il P ops Q S late (n+1) listed a w:=by
 subst ha0;subst ha;exact ki i hi hg ht hQ hy hS h
structure Mt (l:List Nat) (p:Prop):Prop where
 o:p
theorem tkN {n:Nat} {i:Nat} {l:List Nat} {listed:Array Bool} {a a0 a':Act} {w:World} {oi:Oper} {rs:List Oper} {v:Value}
  (h:Mt l (il P ops Q S late n (listed.setIfInBounds i true) a' w)) (hs:S w:=by exact hS)
  (ha0:a=a0:=by refine pU ?_;try with_reducible rfl)
  (hi:ops.toList.drop i=oi::rs:=by rfl) (hg:oi.guard=none:=by rfl) (ht:sT ops late listed i=true:=by kernel_rfl)
  (hQ: ∀c a w,Q (.panic c) (a.put oi.dst v) w->Q (.panic c) a w:=by exact fun _ _ _ h=>h)
  (hy: ∀w,S w->(execOp a0.eval oi).run P w=.ok (.value v) w:=by
   intro wS hSw;try dsimp only at hSw
   try (have hSa:=fc.iY hSw;simp only[im,Nat.reduceAdd] at hSa)
   try (have hSb:=fc.iY hSw.1;simp only[im,Nat.reduceAdd] at hSb)
   try (have hSd:=fc.iY hSw.2;simp only[im,Nat.reduceAdd] at hSd)
   try (have hSe:=fc.iY hSw.2.1;simp only[im,Nat.reduceAdd] at hSe)
   try (have hSg:=fc.iY hSw.2.2;simp only[im,Nat.reduceAdd] at hSg)
   try (have hSh:=fc.iY hSw.2.2.1;simp only[im,Nat.reduceAdd] at hSh)
   try (have hSi:=fc.iY hSw.2.2.2;simp only[im,Nat.reduceAdd] at hSi)
   try (have hSc:=xi hSw;obtain⟨hSc,hSf⟩:=hSc)
   go_simp;try with_reducible rfl)
  (ha:a0.put oi.dst v=a':=by refine pU ?_;try with_reducible rfl):
  Mt (i::l) (il P ops Q S late (n+1) listed a w):=by
 subst ha0;subst ha;exact⟨ki i hi hg ht hQ hy hs h.o⟩
theorem Mt.nil {p:Prop} (h:p):Mt [] p:=⟨h⟩
theorem kL (l:List Nat) {p q:Prop} (k:q) (h:q->Mt l p:=by(intro hk;(repeat refine tkN ?_);exact Mt.nil hk)):p:=(h k).o
theorem xw {n:Nat} {listed:Array Bool} {a a0 a':Act} {w:World} (i:Nat) {oi:Oper} {rs:List Oper} {v:Value} (hS:S w)
  (h:il P ops Q S late n (listed.setIfInBounds i true) a' w)
  (ha0:a=a0:=by refine pU ?_;try with_reducible rfl)
  (hi:ops.toList.drop i=oi::rs:=by rfl) (hg:oi.guard=none:=by rfl) (ht:sT ops late listed i=true:=by kernel_rfl)
  (hQ: ∀c a w,Q (.panic c) (a.put oi.dst v) w->Q (.panic c) a w:=by exact fun _ _ _ h=>h)
  (hy: ∀w,S w->(execOp a0.eval oi).run P w=.ok (.value v) w:=by
   intro wS hSw;try dsimp only at hSw
   go_simp;rw[if_neg oG,<-HCC.out])
  (ha:a0.put oi.dst v=a':=by refine pU ?_;try with_reducible rfl):
  il P ops Q S late (n+1) listed a w:=by
 subst ha0;subst ha;exact ki i hi hg ht hQ hy hS h
theorem tO {n:Nat} {listed:Array Bool} {a a':Act} {w:World} (i:Nat) {oi:Oper} {rs:List Oper}
  (h: ∀K:Act->World->Prop,RowKit.Hid (∀a' w',S w'->il P ops Q S late n (listed.setIfInBounds i true) a' w'->K a' w')->oi.wp P a' w K Q)
  (hi:ops.toList.drop i=oi::rs:=by rfl) (hg:oi.guard=none:=by rfl) (hr:Region.ready .any ops listed=[i]:=by kernel_rfl)
  (ha:a=a':=by refine pU ?_;try with_reducible rfl):il P ops Q S late (n+1) listed a w:=by
 subst ha;exact vU i hi hg hr h
theorem tL {n:Nat} {listed:Array Bool} {a a':Act} {w:World} (i:Nat) {oi:Oper} {rs:List Oper}
  (h: ∀K:Act->World->Prop,RowKit.Hid (∀a' w',il P ops Q S late n (listed.setIfInBounds i true) a' w'->K a' w')->oi.wp P a' w K Q)
  (hi:ops.toList.drop i=oi::rs:=by rfl) (hg:oi.guard=none:=by rfl) (hr:Region.ready .any ops listed=[i]:=by kernel_rfl) (hl:late.contains i=true:=by kernel_rfl)
  (ha:a=a':=by refine pU ?_;try with_reducible rfl):il P ops Q S late (n+1) listed a w:=by
 subst ha;exact G0 i hi hg hr hl h
theorem tD {n:Nat} {listed:Array Bool} {a a':Act} {w:World} (h:Q .normal a' w) (hr:Region.ready .any ops listed=[]:=by kernel_rfl)
  (ha:a=a':=by refine pU ?_;try with_reducible rfl):il P ops (oB Q) S late n listed a w:=by
 subst ha;exact qi hr h
theorem rG (S:World->Prop) (late:List Nat) {id:Nat} {a:Act} {w:World} (hS:S w.drew)
  (h:S w.drew->il P ops (oB Q) S late ops.size (Array.replicate ops.size false) a w.drew) (hm:P.follows .mixedOrders=true:=by kernel_rfl):(Code.region id ops true).wp P Q a w:=rL S late hm hS h
theorem rB (late:List Nat) {id:Nat} {a:Act} {w:World}
  (h:Below w w w.drew->il P ops (oB Q) (fun wS=>Below w w wS) late ops.size (Array.replicate ops.size false) a w.drew) (hm:P.follows .mixedOrders=true:=by kernel_rfl):(Code.region id ops true).wp P Q a w:=rL _ late hm bF.drew h
end
end
section
open Go.Proofs.Tryz
open Go.RowKit ko
theorem VA{p:Prop}(h:p:=by obtain⟨A,c,n,f,g,k⟩:=RL.open_ h;refine⟨A,c,n,f,g,fun i s m=>?_⟩;obtain⟨b,o,l,a,cs,_,⟨e,rfl,q⟩,j⟩:=k i s m;have:=j 0 _ rfl;rw[jR] at this;exact⟨b,o,l,a,e,q,this⟩):p:=h
variable {cs:List Value} {d:Dy} {lb':Nat} {p:Pl} {t:Tr} {α:Type}
def gV (s:vg):List Value:=[s.1,s.2]
def iH (_:World) (cs:List Value) (s:vg):Prop:=cs=gV s
def jf (w:World) (cs:List Value) (t:Tr):Prop:= ∃v,cs=[v]/\RL 2 iH w v t
def PS (w:World) (cs:List Value) (d:Dy):Prop:= ∃v,cs=[v]/\RL 1 jf w v d
def jP (w:World) (v:Value) (p:Pl):Prop:=RL 1 PS w v p
def Vk (w:World) (v:Value) (p:Pl):Prop:= ∃a,v=.agg #[a]/\jP w a p
section
def fQ.below (h:RL 2 iH w v t) (a:Below B w w') (b:w.heap.size<=B):RL 2 iH w' v t:=RL.below h a b fun _ _ h=>h
def jf.below (h:jf w cs t) (a:Below B w w') (b:w.heap.size<=B):jf w' cs t:=by obtain⟨v,e,h⟩:=h;exact⟨v,e,fQ.below h a b⟩
def iK.below (h:RL 1 jf w v d) (a:Below B w w') (b:w.heap.size<=B):RL 1 jf w' v d:=RL.below h a b fun _ _ h=>jf.below h a b
def PS.below (h:PS w cs d) (a:Below B w w') (b:w.heap.size<=B):PS w' cs d:=by obtain⟨v,e,h⟩:=h;exact⟨v,e,iK.below h a b⟩
def jP.below (h:jP w v p) (a:Below B w w') (b:w.heap.size<=B):jP w' v p:=RL.below h a b fun _ _ h=>PS.below h a b
def fQ.open_ (h:RL 2 iH w v t): ∃A c,v=.slice A t c/\t.length<=c/\c<=9223372036854775807/\
  ∀i s,t[i]? =some s-> ∃b o,A=some ⟨b,o,none⟩/\b<w.heap.size/\w.cell? (pA b (o+i*2))=some s.1/\w.cell? (pA b (o+i*2+1))=some s.2:=by
 obtain⟨A,c,n,f,g,k⟩:=RL.open_ h;refine⟨A,c,n,f,g,fun i s m=>?_⟩;obtain⟨b,o,l,a,cs,_,rfl,j⟩:=k i s m;exact⟨b,o,l,a,j 0 _ rfl,j 1 _ rfl⟩
def iK.open_ (h:RL 1 jf w v d): ∃A c,v=.slice A d c/\d.length<=c/\c<=9223372036854775807/\
  ∀i t,d[i]? =some t-> ∃b o,A=some ⟨b,o,none⟩/\b<w.heap.size/\ ∃e,RL 2 iH w e t/\w.cell? (pA b (o+i))=some e:=by
 exact VA
def jP.open_ (h:jP w v p): ∃A c,v=.slice A p c/\p.length<=c/\c<=9223372036854775807/\
  ∀i d,p[i]? =some d-> ∃b o,A=some ⟨b,o,none⟩/\b<w.heap.size/\ ∃e,RL 1 jf w e d/\w.cell? (pA b (o+i))=some e:=by
 exact VA
end
def lI (lb:Nat) (es:TypeId) (w:World) (cs:List Value) (t:Tr):Prop:= ∃v,cs=[v]/\OL lb es 2 iH w v t
section
variable {base:Nat} {e':TypeId}
def zQ.below (h:OL lb es 2 iH w v t) (a:Below B w w') (b:w.heap.size<=B):OL lb es 2 iH w' v t:=OL.below h a b fun _ _ h=>h
def lI.below (h:lI lb es w cs t) (a:Below B w w') (b:w.heap.size<=B):lI lb es w' cs t:=by obtain⟨v,e,h⟩:=h;exact⟨v,e,zQ.below h a b⟩
def tT.below (h:OL lb et 1 (lI lb es) w v d) (a:Below B w w') (b:w.heap.size<=B):OL lb et 1 (lI lb es) w' v d:=OL.below h a b fun _ _ h=>lI.below h a b
def zQ.keep (h:OL lb es 2 iH w v t) (a:kQ e' base w w') (f:es≠e'):OL lb es 2 iH w' v t:=OL.keep h a f fun _ _ h=>h
def lI.keep (h:lI lb es w cs t) (a:kQ e' base w w') (f:es≠e'):lI lb es w' cs t:=by obtain⟨v,e,h⟩:=h;exact⟨v,e,zQ.keep h a f⟩
def tT.keep (h:OL lb et 1 (lI lb es) w v d) (a:kQ e' base w w') (f:et≠e') (g:es≠e'):OL lb et 1 (lI lb es) w' v d:=OL.keep h a f fun _ _ h=>lI.keep h a g
def lI.mono (h:lI lb es w cs t) (a:lb'<=lb):lI lb' es w cs t:=by obtain⟨v,e,h⟩:=h;exact⟨v,e,OL.mono h a⟩
def tT.mono (h:OL lb et 1 (lI lb es) w v d) (a:lb'<=lb):OL lb' et 1 (lI lb' es) w v d:=OL.imp (OL.mono h a) fun _ _ h=>lI.mono h a
def lI.reads (h:lI lb es w cs t):jf w cs t:=by obtain⟨v,e,h⟩:=h;exact⟨v,e,OL.reads h fun _ _ h=>h⟩
def tT.reads (h:OL lb et 1 (lI lb es) w v d):RL 1 jf w v d:=OL.reads h fun _ _ h=>lI.reads h
end
def OL.fG {lb:Nat} {e:TypeId} {size:Nat} {O:World->List Value->α->Prop} {L:List α} {p:Addr} (h:OL lb e size O w v L) (a:p.block<lb) (u:Value) (d: ∀cs x,O w cs x->O (w.setCell p u) cs x):OL lb e size O (w.setCell p u) v L:=by obtain⟨b,f,g,k,c⟩:=h;exact⟨b,f,g,jo k a u,fun i x cs l j=>d _ _ (c i x cs l j)⟩
section
variable {q:Addr}
def zQ.fG (h:OL lb es 2 iH w v t) (a:q.block<lb) (u:Value):OL lb es 2 iH (w.setCell q u) v t:=OL.fG h a u fun _ _ h=>h
def lI.fG (h:lI lb es w cs t) (a:q.block<lb) (u:Value):lI lb es (w.setCell q u) cs t:=by obtain⟨v,e,h⟩:=h;exact⟨v,e,zQ.fG h a u⟩
def tT.fG (h:OL lb et 1 (lI lb es) w v d) (a:q.block<lb) (u:Value):OL lb et 1 (lI lb es) (w.setCell q u) v d:=OL.fG h a u fun _ _ h=>lI.fG h a u
end
def bL {w0:World} (h:Below w0 w0 w) (o:Obj):Below w0 w0 (w.alloc o):=h.alloc h.size o
def nU:(prog.info? 84).map (fun i=>(i.zero,i.size,i.bytes))=some (some (.agg #[Zo,Zo]),2,16):=kR
def uz:(prog.info? 44).map (fun i=>(i.zero,i.size,i.bytes))=some (some (.agg #[()]),1,24):=kR
def iC {l:List α} {k:Nat} {a:α} (h:l[k]? =some a):l.take (k+1)=l.take k++[a]:=by rw[gk,h];rfl
end
namespace Ra
open Go.Proofs.Tryz
open Go
theorem K0{p:Prop}(h:p:=by obtain⟨L,⟨A,c,rfl,r,q,_⟩,rfl,_⟩:=k;exact⟨A,_,c,rfl,rfl,r,by rw[qf] at q;exact q⟩):p:=h
theorem QX{p:Prop}(h:p:=by
 show env.h.cell? (pA b (o+i*1+j))=some u
 match j,f with
 |0,f=>cases f;rw[jR];exact B i _ (by simp[H])
 |j+1,f=>simp at f):p:=h
variable {b:Func} {e:TE} {f:Nat} {h:World} {l:List (Nat×List Spec)} {s:Spec} {t:TypeId}
def xB.nil:xB P []:=fun t e h=>by cases h
def xB.cons {T:TT} (h:V0 P t e) (r:xB P T):xB P ((t,e)::T):=fun b c w=>by
 rw[tC] at w;cases a:Nat.beq t b with
 |true=>rw[a] at w;rw[nb] at a;subst a;cases w;exact h
 |false=>rw[a] at w;exact r b c w
def Z9:TypeDesc->TD
 | .struct fs=>.st (fs.toList.map fun f=>(f.offset,f.type))
 | .slice e=>.sl e
 | .array n e=>.ar n e
 | .int k=>.nm k
 |_=>.ot
def ky (E:(P.info? t).map (fun i=>(i.size,i.bytes,i.zero))=some (e.size,e.bytes,some e.zero)) (F:(P.underlying t).map Z9=some e.d):V0 P t e:=by
 constructor
 ·cases a:P.info? t with
  |none=>rw[a] at E;cases E
  |some i=>rw[a] at E;simp at E;exact⟨i,rfl,E.1,E.2.1,E.2.2⟩
 ·cases S:P.underlying t with
  |none=>rw[S] at F;cases F
  |some d=>
   rw[S] at F;simp only[lL,lH] at F;refine⟨d,rfl,?_⟩;rw[<-F];cases d <;>simp[Z9]
def VV:TT:=[
 (3,⟨.nm .i64,1,8,.int .i64 0⟩),
 (4,⟨.ot,1,1,.bool false⟩),
 (26,⟨.sl 3,1,24,.slice none 0 0⟩),
 (80,⟨.nm .u64,1,8,.int .u64 0⟩),
 (45,⟨.sl 80,1,24,.slice none 0 0⟩),
 (47,⟨.st [(0,3),(1,3),(2,45),(3,3),(4,3),(5,3),(6,3),(7,3)],8,80,.agg #[Zo,Zo,(),Zo,Zo,Zo,Zo,Zo]⟩),
 (25,⟨.st [(0,3),(1,3),(2,3),(3,3),(4,22),(5,23)],6,80,.agg #[Zo,Zo,Zo,Zo,(),()]⟩),
 (22,⟨.sl 47,1,24,.slice none 0 0⟩),
 (23,⟨.sl 26,1,24,.slice none 0 0⟩),
 (86,⟨.st [(0,3),(1,3)],2,16,.agg #[Zo,Zo]⟩),
 (52,⟨.sl 86,1,24,.slice none 0 0⟩),
 (120,⟨.sl 52,1,24,.slice none 0 0⟩),
 (48,⟨.nm .i64,1,8,.int .i64 0⟩),
 (232,⟨.sl 48,1,24,.slice none 0 0⟩),
 (84,⟨.st [(0,3),(1,3)],2,16,.agg #[Zo,Zo]⟩),
 (42,⟨.sl 84,1,24,.slice none 0 0⟩),
 (44,⟨.st [(0,42)],1,24,.agg #[()]⟩),
 (37,⟨.sl 44,1,24,.slice none 0 0⟩),
 (39,⟨.st [(0,37)],1,24,.agg #[()]⟩),
 (28,⟨.sl 39,1,24,.slice none 0 0⟩),
 (30,⟨.st [(0,28)],1,24,.agg #[()]⟩),
 (103,⟨.st [(0,26),(1,26)],2,48,.agg #[(),()]⟩),
 (223,⟨.st [(0,25),(6,26)],7,104,.agg #[Zo,Zo,Zo,Zo,(),(),()]⟩),
 (136,⟨.ot,1,8,.pointer none⟩),
 (191,⟨.st [(0,25),(6,103),(8,26)],9,152,.agg #[Zo,Zo,Zo,Zo,(),(),(),(),()]⟩),
 (306,⟨.st [(0,4),(1,3),(2,3)],3,24,.agg #[false,Zo,Zo]⟩),
 (234,⟨.st [(0,25),(6,120),(7,3),(8,30),(9,232),(10,23)],11,184,.agg #[Zo,Zo,Zo,Zo,(),(),(),Zo,(),(),()]⟩),
 (245,⟨.st [(0,25),(6,30),(7,3),(8,3),(9,3),(10,3)],11,136,.agg #[Zo,Zo,Zo,Zo,(),(),(),Zo,Zo,Zo,Zo]⟩),
 (210,⟨.st [(0,84),(2,3)],3,24,.agg #[Zo,Zo,Zo]⟩),
 (241,⟨.ot,1,8,.nilFunc⟩),
 (56,⟨.ot,1,8,.nilFunc⟩),
 (139,⟨.ot,1,8,.nilFunc⟩),
 (231,⟨.ot,1,8,.pointer none⟩),
 (228,⟨.nm .u64,1,8,.int .u64 0⟩),
 (246,⟨.sl 1,1,24,.slice none 0 0⟩),
 (189,⟨.ot,1,8,.pointer none⟩),
 (36,⟨.ot,1,8,.nilFunc⟩),
 (1,⟨.ot,1,8,.nilFunc⟩),
 (188,⟨.st [(0,80)],1,8,.agg #[.int .u64 0]⟩),
 (142,⟨.ot,1,8,.nilFunc⟩)]
def UM:xB prog VV:=
 (.cons (ky kR kR)
 (.cons (ky kR kR)
 (.cons (ky kR kR)
 (.cons (ky kR kR)
 (.cons (ky kR kR)
 (.cons (ky kR kR)
 (.cons (ky kR kR)
 (.cons (ky kR kR)
 (.cons (ky kR kR)
 (.cons (ky kR kR)
 (.cons (ky kR kR)
 (.cons (ky kR kR)
 (.cons (ky kR kR)
 (.cons (ky kR kR)
 (.cons (ky kR kR)
 (.cons (ky kR kR)
 (.cons (ky kR kR)
 (.cons (ky kR kR)
 (.cons (ky kR kR)
 (.cons (ky kR kR)
 (.cons (ky kR kR)
 (.cons (ky kR kR)
 (.cons (ky kR kR)
 (.cons (ky kR kR)
 (.cons (ky kR kR)
 (.cons (ky kR kR)
 (.cons (ky kR kR)
 (.cons (ky kR kR)
 (.cons (ky kR kR)
 (.cons (ky kR kR)
 (.cons (ky kR kR)
 (.cons (ky kR kR)
 (.cons (ky kR kR)
 (.cons (ky kR kR)
 (.cons (ky kR kR)
 (.cons (ky kR kR)
 (.cons (ky kR kR)
 (.cons (ky kR kR)
 (.cons (ky kR kR)
 (.cons (ky kR kR) .nil))))))))))))))))))))))))))))))))))))))))
def jC:Nat->List PC
 |0=>[.int]
 |1=>[.num .u64]
 |2=>[.zM 0 2 (-1),.int]
 |3=>[.sl 2 64]
 |4=>[.int]
 |5=>[.sl 0 1000000]
 |6=>[.zM 0 2 (-1)]
 |7=>[.Hb 0]
 |8=>[.tc 5 4000]
 |9=>[.int,.int]
 |10=>[.zM 0 1 (-1)]
 |11=>[.sx 0 0]
 |_=>[.any]
def tys:Nat->TypeId
 |0=>3
 |1=>80
 |2=>86
 |3=>52
 |4=>48
 |5=>26
 |6=>3
 |7=>80
 |8=>39
 |9=>84
 |10=>3
 |11=>26
 |_=>0
def Sn:TypeId->Option Nat
 |26=>some 0
 |45=>some 1
 |52=>some 2
 |120=>some 3
 |232=>some 4
 |23=>some 5
 |28=>some 8
 |42=>some 9
 |_=>none
open jm ko kN
def isNil (v:Value) (l:Int):Prop:=v=.slice none 0 0/\l=0
def MX (x:fS) (t:Nat) (h:World) (v:Value) (l m:Int):Prop:=0<=l/\l<=m/\(isNil v l\/match t with
 |0=>qp h v x.eB/\l=x.eB/\64<=m
 |1=> ∃L:List Nat,lu h v L/\l=L/\ ∀s∈L,lJ.next s x.days<0/\s<18446744073709551616
 |2=>rS h v x.gn/\l=x.gn
 |3=> ∃L:List Int,gx h .i64 v L/\l=L/\ ∀z∈L,kP z
 |4=> ∃t:Tr,RL 2 iH h v t/\l=t/\jK x.eB t
 |5=> ∃d:Dy,RL 1 jf h v d/\l=d/\jS x.eB m.toNat d/\ ∀t∈d,t≠[]
 |_=>False)
def Jz:Nat->List PC
 |0=>[.zM 1 0 2,.zM 0 0 2147483648,.tr 1,.zM 0 0 2147483648,.zM 0 0 2147483648,.zM 0 0 2147483648,.zM 0 0 2,.zM 0 0 1024]
 |1=>[.Hb 0]
 |2=>[.tr 3]
 |3=>[.int]
 |4=>[.zM 0 1 (-1),.int]
 |5=>[.tr 4]
 |_=>[.any]
def vE (x:fS):Nat->Int
 |1=>x.eB.length
 |2=>x.days
 |3=>x.mm
 |4=>x.cap
 |5=>x.len
 |_=>0
def isZ (v:Value):Bool:=match v with
 | .int .u64 0=>true
 |_=>false
def kinds (x:fS):gX where
 ng:=6
 gl:=vE x
 ty:=tys
 pat:=jC
 sty:=fun _=>0
 Dx:=Jz
 pred:=MX x
 q:=fun _ v=> ∃s:Nat,v=.int .u64 s/\lJ.next s x.days<0/\s<18446744073709551616
 qk:=fun _=>some .u64
 Xo:=fun g=>match g with
  |2=>1
  |_=>0
 qz:=fun _ v=>isZ v
def Gj (p:Sub h w) {b o:Nat} (B:h.cell? (pA b o)=some v):b<w.heap.size:=block_lt_of_cell (p.cell B)
def RS.sub (p:Sub h w) {n:Nat} {xs:List Value} (M:RS h 1 v n xs):RS w 1 v n xs:=by obtain⟨A,c,rfl,E,F,k,d⟩:=M;refine⟨A,c,rfl,E,F,k,fun I=>?_⟩;obtain⟨b,o,rfl,G,B⟩:=d I;obtain⟨u,a⟩:=ec (l:=xs) (i:=0) oG;exact⟨b,o,rfl,Gj p (B 0 u a),fun j u a=>p.cell (B j u a)⟩
def RL.sub {α:Type} (p:Sub h w) {size:Nat} {R:World->List Value->α->Prop} {L:List α} (U:0<size) (d: ∀cs x,R h cs x->R w cs x) (M:RL size R h v L):RL size R w v L:=by obtain⟨A,c,rfl,E,F,k⟩:=M;refine⟨A,c,rfl,E,F,fun I=>?_⟩;obtain⟨b,o,rfl,G,B⟩:=k I;obtain⟨x,C⟩:=ec I;obtain⟨cs,r,q,J⟩:=B 0 x C;obtain⟨u,a⟩:=ec (l:=cs) (i:=0) oG;refine⟨b,o,rfl,Gj p (J 0 u a),fun i x C=>?_⟩;obtain⟨cs,r,q,J⟩:=B i x C;exact⟨cs,r,d _ _ q,fun j u a=>p.cell (J j u a)⟩
def qp.sub (p:Sub h w) {L:List kc} (M:qp h v L):qp w v L:=by obtain⟨A,c,rfl,E,F,k⟩:=M;refine⟨A,c,rfl,E,F,fun I=>?_⟩;obtain⟨b,o,rfl,G,B⟩:=k I;obtain⟨x,C⟩:=ec I;obtain⟨R,K,c0,_⟩:=B 0 x C;refine⟨b,o,rfl,Gj p c0,fun i x C=>?_⟩;obtain⟨R,K,c0,c1,c2,c3,c4,c5,c6,c7⟩:=B i x C;exact⟨R,RS.sub p K,p.cell c0,p.cell c1,p.cell c2,p.cell c3,p.cell c4,p.cell c5,p.cell c6,p.cell c7⟩
def rS.sub (p:Sub h w) {L:List (List Int)} (M:rS h v L):rS w v L:=by obtain⟨A,c,rfl,E,F,k⟩:=M;refine⟨A,c,rfl,E,F,fun I=>?_⟩;obtain⟨b,o,rfl,G,B⟩:=k I;obtain⟨x,C⟩:=ec I;obtain⟨W,K,c0⟩:=B 0 x C;refine⟨b,o,rfl,Gj p c0,fun i x C=>?_⟩;obtain⟨W,K,c0⟩:=B i x C;exact⟨W,RS.sub p K,p.cell c0⟩
def jf.sub (p:Sub h w) {cs:List Value} {t:Tr} (M:jf h cs t):jf w cs t:=by obtain⟨v,e,M⟩:=M;exact⟨v,e,RL.sub p oG (fun _ _ h=>h) M⟩
def qf:(maxLen:Nat)=9223372036854775807:=by simp[maxLen]
def fR {x:fS} (C:ga x):tS (kinds x) where
 q1:=fun⟨s,h,_⟩=>by rw[h];rfl
 qn:=fun{j v kd} h ⟨s,N,_⟩=>by cases h;exact⟨s,N⟩
 Xo:=fun g=>by
  have hh:=C.head
  match g with
  |0=>exact Int.le_refl 0
  |1=>show(0:Int)<=x.eB;omega
  |2=>show(1:Int)<=x.days;omega
  |3=>show(0:Int)<=x.mm;omega
  |4=>show(0:Int)<=x.cap;omega
  |5=>show(0:Int)<=x.len;omega
  |g+6=>exact Int.le_refl 0
 qz:=fun{j v} h=>by
  show∃s:Nat,_;have w:isZ v=true:=h;unfold isZ at w;split at w
  ·refine⟨0,rfl,?_,oG⟩;have e:lJ.days 0 x.days=[]:=by unfold lJ.days;rw[AW];intro d _;simp[lJ.has]
   show(lJ.days 0 x.days).headD (-1)<0;rw[e];decide
  ·cases w
 pos:=fun t=>by show 0<(jC t).length;unfold jC;split <;>simp
 ab9:=fun t=>by show 0<(Jz t).length;unfold Jz;split <;>simp
 zero:=⟨by show 0<6;omega,rfl⟩
 two:=by show 2<6;omega
 mono:=fun{t h w v l m} K p=>by
  obtain⟨E,F,k⟩:=K;refine⟨E,F,k.imp id fun k=>?_⟩;split at k
  ·exact⟨qp.sub p k.1,k.2⟩
  ·obtain⟨L,r,q⟩:=k;exact⟨L,RS.sub p r,q⟩
  ·exact⟨rS.sub p k.1,k.2⟩
  ·obtain⟨L,r,q⟩:=k;exact⟨L,RS.sub p r,q⟩
  ·obtain⟨L,r,q⟩:=k;exact⟨L,RL.sub p oG (fun _ _ h=>h) r,q⟩
  ·obtain⟨L,r,q⟩:=k;exact⟨L,RL.sub p oG (fun _ _ h=>jf.sub p h) r,q⟩
  ·exact k
 le:=fun{t h v l m m'} K hm=>by
  obtain⟨E,F,k⟩:=K;refine⟨E,oG,k.imp id fun k=>?_⟩;split at k
  ·exact⟨k.1,k.2.1,oG⟩
  ·exact k
  ·exact k
  ·exact k
  ·exact k
  ·obtain⟨L,r,q,J,Q⟩:=k;exact⟨L,r,q,J.mono oG,Q⟩
  ·exact k
 nil:=fun h=>⟨oG,h,.inl ⟨rfl,rfl⟩⟩
 shape:=fun{t h v l m} K=>by
  obtain⟨E,F,k⟩:=K
  rcases k with ⟨rfl,rfl⟩|k
  ·exact⟨none,0,0,rfl,rfl,lE,oG⟩
  split at k
  ·obtain⟨⟨A,c,rfl,r,q,_⟩,rfl,_⟩:=k;exact⟨A,_,c,rfl,rfl,r,by rw[qf] at q;exact q⟩
  ·obtain⟨L,⟨A,c,rfl,r,q,_⟩,rfl,_⟩:=k;exact⟨A,_,c,rfl,by simp,r,by rw[qf] at q;exact q⟩
  ·obtain⟨⟨A,c,rfl,r,q,_⟩,rfl⟩:=k;exact⟨A,_,c,rfl,rfl,r,by rw[qf] at q;exact q⟩
  ·exact K0
  ·exact K0
  ·exact K0
  ·exact k.elim
 pg:=fun{t lo g c} h=>by show g<6;change PC.zM lo g c∈jC t at h;unfold jC at h;split at h <;>simp at h <;>omega
 spg:=fun{t lo g c} h=>by show g<6;change PC.zM lo g c∈Jz t at h;unfold Jz at h;split at h <;>simp at h <;>omega
 ptr:=fun{t s} h=>by change PC.tr s∈jC t at h;unfold jC at h;split at h <;>simp at h
 elem:=fun{t m} env {a n c l} K i hi=>by
  obtain⟨E,F,k⟩:=K
  rcases k with ⟨k,_⟩|k
  ·cases k;omega
  split at k
  ·obtain⟨⟨A,c',N,r,q,J⟩,rfl,hm⟩:=k;cases N;obtain⟨b,o,rfl,G,B⟩:=J oG;obtain⟨y,H⟩:=ec hi;obtain⟨R,K,c0,c1,c2,c3,c4,c5,c6,c7⟩:=B i y H;have D:=a8 H;have ha:=C.Tw D;have O:=C.kind D;have Z:=C.wf.2.2.2.2.1 y D;have Y:MX x 1 env.h R y.jC m:=⟨oG,oG,.inr ⟨y.jC,K,rfl,fun s p=>by
    refine⟨?_,Z.2.2.1 s p⟩
    rcases O with O|O
    ·exact(C.Dn D O).2.2.1 s p
    ·rw[(C.Sq D O).2.2.2.2.2.1] at p;cases p⟩⟩
   have ae:0<=y.lR/\y.lR<=2:=by
    rcases O with O|O
    ·have:=(C.Dn D O).2.2.2.2.2.2.1;omega
    ·have:=(C.Sq D O).2.2.2.1;omega
   refine⟨b,o,[y.kind,y.iL,R,y.jU,y.size,y.start,y.lR,y.hold],rfl,?_,fun j u f=>?_⟩
   ·have U:(kinds x).gl 0=0:=rfl;refine⟨⟨_,rfl,?_,?_,?_⟩,⟨_,rfl,?_,?_,?_⟩,⟨_,Y,oG,oG⟩,⟨_,rfl,?_,?_,?_⟩,⟨_,rfl,?_,?_,?_⟩,⟨_,rfl,?_,?_,?_⟩,⟨_,rfl,?_,?_,?_⟩,⟨_,rfl,?_,?_,?_⟩,trivial⟩ <;>first|(rw[U];omega)|(unfold kP;omega)|omega
   ·show env.h.cell? (pA b (o+i*8+j))=some u
    match j,f with
    |0,f=>cases f;exact c0
    |1,f=>cases f;exact c1
    |2,f=>cases f;exact c2
    |3,f=>cases f;exact c3
    |4,f=>cases f;exact c4
    |5,f=>cases f;exact c5
    |6,f=>cases f;exact c6
    |7,f=>cases f;exact c7
    |j+8,f=>simp at f
  ·obtain⟨L,⟨A,c',N,r,q,J,Q⟩,rfl,P⟩:=k;cases N;rw[fm] at hi;obtain⟨b,o,rfl,G,B⟩:=Q (by rw[fm];omega);obtain⟨y,H⟩:=ec hi;refine⟨b,o,[.int .u64 (y:Int)],rfl,⟨⟨y,rfl,P y (a8 H)⟩,trivial⟩,fun j u f=>?_⟩;exact QX
  ·obtain⟨⟨A,c',N,r,q,J⟩,rfl⟩:=k;cases N;obtain⟨b,o,rfl,G,B⟩:=J oG;obtain⟨y,H⟩:=ec hi;obtain⟨W,M,c0⟩:=B i y H;have S:=C.gn.2 y (a8 H);have aa:=C.gn.1;refine⟨b,o,[W],rfl,⟨⟨y.length,⟨oG,oG,.inr ⟨y,M,rfl,fun z U=>by have:=S.2 z U;unfold kP;omega⟩⟩,oG,oG⟩,trivial⟩,fun j u f=>?_⟩;show env.h.cell? (pA b (o+i*1+j))=some u
   match j,f with
   |0,f=>cases f;rw[jR];exact c0
   |j+1,f=>simp at f
  ·obtain⟨L,⟨A,c',N,r,q,J,Q⟩,rfl,P⟩:=k;cases N;obtain⟨b,o,rfl,G,B⟩:=Q oG;obtain⟨y,H⟩:=ec hi;refine⟨b,o,[y],rfl,⟨⟨y,rfl,P y (a8 H)⟩,trivial⟩,fun j u f=>?_⟩;exact QX
  ·obtain⟨L,⟨A,c',N,r,q,J⟩,rfl,P⟩:=k;cases N;obtain⟨b,o,rfl,G,B⟩:=J oG;obtain⟨y,H⟩:=ec hi;obtain⟨cs,k1,k2,V⟩:=B i y H;have T:=P y (a8 H);rw[show cs=gV y from k2] at V;have I:=C.head;exact⟨b,o,gV y,rfl,⟨⟨_,rfl,T.1.1,by show _<=(x.eB.length:Int)+(-1);have:=T.1.2;omega,by unfold kP;have:=T.1;omega⟩,⟨_,rfl,by unfold kP;have:=T.2;omega⟩,trivial⟩,V⟩
  ·obtain⟨L,⟨A,c',N,r,q,J⟩,rfl,P,_⟩:=k;cases N;obtain⟨b,o,rfl,G,B⟩:=J oG;obtain⟨y,H⟩:=ec hi;obtain⟨cs,k1,⟨tv,rfl,k2⟩,V⟩:=B i y H;have X:=P.get H;exact⟨b,o,[tv],rfl,⟨⟨y.length,⟨oG,by have:=X.2;omega,.inr ⟨y,k2,rfl,X.1⟩⟩,oG,by have:=X.2;omega⟩,trivial⟩,V⟩
  ·exact k.elim
def XF (x:fS) (e:List (Nat×List Spec)):Cx:=⟨kinds x,VV,Sn,fun f=>(lk e f).getD []⟩
abbrev ik (x:fS) (f:FuncId) (sp:Spec):Prop:=Holds prog (kinds x) f sp
def zS (x:fS) (l:List (Nat×List Spec)):Prop:= ∀f,∀s∈(lk l f).getD [],ik x f s
def zS.nil (x:fS):zS x []:=fun f s h=>by cases h
def zS.cons {x:fS} {ss:List Spec} (h: ∀s∈ss,ik x f s) (r:zS x l):zS x ((f,ss)::l):=fun b s p=>by
 rw[tC] at p;cases a:Nat.beq f b with
 |true=>rw[a] at p;rw[nb] at a;subst a;exact h s p
 |false=>rw[a] at p;exact r b s p
def zS.one {x:fS} (h:ik x f s) (r:zS x l):zS x ((f,[s])::l):=.cons (fun a p=>by cases p with|head=>exact h|tail _ h=>cases h) r
def zS.two {x:fS} {t:Spec} (h:ik x f s) (k:ik x f t) (r:zS x l):zS x ((f,[s,t])::l):=.cons (fun a p=>by
 simp only[fC,iy,or_false] at p
 rcases p with rfl|rfl
 ·exact h
 ·exact k) r
def aaK {x:fS} (C:ga x) (h:zS x l):DZ prog (XF x l):=⟨fR C,UM,h⟩
def enters {f:FuncId} (d:P.funcs[f]? =some b) (a:b.body.isSome=true) (I:(b.name== "runtime.NumGoroutine")=false) (args:Array Value) (w:World):(callFunc f args).run P w=.ok (.enter f args) w:=by
 have F: ¬b.body=none:=fun h=>by rw[h] at a;cases a
 have k: ¬b.name= "runtime.NumGoroutine" :=fun h=>by rw[h] at I;simp at I
 simp only[callFunc];simp[d,k,F]
def mixed:prog.follows .mixedOrders=true:=kR
def jl {x:fS} (C:ga x) (h:zS x l) (p:List (Nat×Nat)) (g:Nat->St->Code->Option LA) {f:FuncId} {e:Spec} (d:prog.funcs[f]? =some b) (a:b.body.isSome=true) (I:(b.name== "runtime.NumGoroutine")=false)
  (B:fnB (XF x l) p g e b.ntmps b.results.toList (b.body.getD .skip)=true):ik x f e:=
 XV (aaK C h) mixed d (c:=b.body.getD .skip) (by cases h:b.body with
  |none=>rw[h] at a;cases a
  |some c=>rfl) (enters d a I) B
def src (a:List Oper) (x:Operand):Operand:=match x with
 | .tmp t=>match a.find? fun o=>o.dst==some t with
  |some o=>match o.op with
   | .move y=>match y with
    | .tmp _=>y
    |_=>x
   |_=>x
  |none=>x
 |_=>x
def Ca:Code->List Oper
 | .region _ ops _=>ops.toList
 | .seq a _=>Ca a
 |_=>[]
def TN (b:Code):Option (Operand×Operand):=
 match (Ca b).find? fun o=>match o.op with
  | .binOp .lss .. =>true
  |_=>false with
 |some o=>match o.op with
  | .binOp .lss _ x y _=>some (src (Ca b) x,src (Ca b) y)
  |_=>none
 |none=>none
def eOf (S:St):Operand->Option E
 | .const (.int .i64 n)=>some ⟨0,n⟩
 | .tmp t=>match S.sl.getD t none with
  |some (.cv (.one (.bv (.int e))))=>some e
  |_=>none
 |_=>none
def Qu (i:Nat):BV->BV
 | .int _=>.int ⟨i,0⟩
 | .sl t _=>.sl t ⟨i,0⟩
 |x=>x
def MC:Nat->List BV->List BV
 |_,[]=>[]
 |i,x::xs=>Qu i x::MC (i+1) xs
def mj (S:St) (a:Option (Nat×E)):Nat->List Nat->List (Nat×TV)×List LC
 |_,[]=>([],[])
 |i,t::ts=>match S.sl.getD t none with
  |some (.cv (.one (.bv (.int e))))=>match a with
   |some (v,e0)=>cond (Nat.beq v t) ((t,one (.int ⟨S.n,0⟩))::(mj S a i ts).1,uC e0 ⟨S.n,0⟩ 0::(mj S a i ts).2) ((t,one (.int ⟨i,0⟩))::(mj S a (i+1) ts).1,(mj S a (i+1) ts).2)
   |none=>((t,one (.int ⟨i,0⟩))::(mj S a (i+1) ts).1,(mj S a (i+1) ts).2)
  |some (.cv (.one (.bv (.sl tg l))))=>((t,one (.sl tg ⟨i,0⟩))::(mj S a (i+1) ts).1,uC ⟨0,0⟩ ⟨i,0⟩ 0::(match a with
   |some (_,e0)=>cond (o9 S.F l e0 0) [uC ⟨i,0⟩ ⟨S.n,0⟩ 0] []
   |none=>[])++(mj S a (i+1) ts).2)
  |some (.cv (.one (.bl _ _)))=>((t,one .bool)::(mj S a i ts).1,(mj S a i ts).2)
  |some (.cv (.one x))=>((t,.cv (.one x))::(mj S a i ts).1,(mj S a i ts).2)
  |some (.cv (.agg xs))=>((t,.cv (.agg (MC i xs)))::(mj S a (i+xs.length) ts).1,(mj S a (i+xs.length) ts).2)
  |_=>mj S a i ts
def dedup:List Nat->List Nat
 | []=>[]
 |x::l=>cond (l.any (Nat.beq x)) (dedup l) (x::dedup l)
def auto (S:St) (b:Code):LA:=
 match TN b with
 |some (.tmp v,y)=>match eOf S (.tmp v),eOf S y with
  |some e0,some eb=>
   let p:=mj S (some (v,e0)) (S.n+1) (dedup (Ea b))
   ⟨p.1,[],cond (o9 S.F e0 eb 0) (uC ⟨S.n,0⟩ eb 0::p.2) p.2,(eb,⟨S.n,0⟩),[]⟩
  |_,_=>let p:=mj S none (S.n+1) (dedup (Ea b));⟨p.1,[],p.2,(⟨0,0⟩,⟨0,0⟩),[]⟩
 |_=>let p:=mj S none (S.n+1) (dedup (Ea b));⟨p.1,[],p.2,(⟨0,0⟩,⟨0,0⟩),[]⟩
def oz:Nat->St->Code->Option LA:=fun _ S b=>some (auto S b)
def XK (S:St) (t:Nat):Option E:=cond (Nat.ble 100000 t) (match S.sl.getD ((t-100000)/100) none with
  |some (.cv (.one (.bv (.ptr k _))))=>match lk S.B k with
   |some y=>match y.2[(t-100000)%100]? with
    |some (.int e)=>some e
    |some (.sl _ l)=>some l
    |some (.nil)=>some ⟨0,0⟩
    |_=>none
   |none=>none
  |_=>none) <|cond (Nat.ble 1000 t) (some ⟨t-1000,0⟩) <|match S.sl.getD t none with
 |some (.cv (.one (.bv (.int e))))=>some e
 |some (.cv (.one (.bv (.sl _ l))))=>some l
 |some (.cv (.one (.bv (.tr _ l _))))=>some l
 |_=>none
def Vp (S:St) (t:Nat):List Nat:=match S.sl.getD t none with
 |some (.cv (.one (.bv (.ptr k _))))=>[k]
 |some (.cv (.one (.cl _ xs ys)))=>(xs++ys).filterMap fun x=>match x with
  | .ptr k _=>some k
  |_=>none
 |_=>[]
def KD:Nat->Nat->List BV->List BV
 |_,_,[]=>[]
 |tg,i,.nil::xs=>cond (Nat.beq tg 99) .nil (.sl (tg%100) ⟨i,0⟩)::KD (cond (Nat.blt (tg%10000) 100) tg (tg/10000*10000+tg%10000/100)) (i+1) xs
 |tg,i,x::xs=>cond (Nat.blt tg 10000) (Qu i x) x::KD tg (i+1) xs
def Xz (xs:List (Nat×Nat×Int×Nat)) (d:List (Nat×Nat×Nat)) (f:List (Nat×Nat)) (r:Nat) (S:St) (b:Code):Option LA:=
 let A:=auto S b
 let e:=d.flatMap fun x=>cond (Nat.beq x.1 r) ((Vp S x.2.1).map fun k=>(k,x.2.2)) []
 let L:LA:={A with B:=e.zipIdx.filterMap (fun k=>(lk S.B k.1.1).map fun y=>(k.1.1,y.1,KD k.1.2 (S.n+26+12*k.2) y.2)),W:=dedup (e.map (·.1)++f.flatMap fun x=>cond (Nat.beq x.1 r) (Vp S x.2) [])}
 let H:=vH S b L
 some {L with F:=(xs.filterMap fun x=>cond (Nat.beq x.1 r) (match XK H x.2.1,XK H x.2.2.2 with
  |some a,some c=>some (uC a c x.2.2.1)
  |_,_=>none) none)++L.F}
def anX (xs:List (Nat×Nat×Int×Nat)):Nat->St->Code->Option LA:=Xz xs [] []
def anY (xs:List (Nat×Nat×Int×Nat)) (d:List (Nat×Nat)):Nat->St->Code->Option LA:=Xz xs (d.map fun x=>(x.1,x.2,99)) []
end Ra
namespace Ra
open Go
abbrev i3 (s:Nat):TV:=one (.int ⟨s,0⟩)
abbrev ic (c:Int):TV:=one (.int ⟨0,c⟩)
abbrev ls (t s:Nat):TV:=one (.sl t ⟨s,0⟩)
abbrev bo:TV:=one .bool
abbrev u6:TV:=one (.num .u64)
abbrev o0:TV:=one (.Hb 0)
abbrev bi (s:Nat):BV:=.int ⟨s,0⟩
abbrev xL:List BV:=[bi 2,bi 3,bi 4,bi 5,.tr 0 ⟨1,0⟩ ⟨0,2000⟩,.tr 2 ⟨1,1⟩ ⟨0,2001⟩]
abbrev xv:TV:=.cv (.agg xL)
abbrev tu (l:List BV):TV:=.uY (l.map fun x=>.one (.bv x))
abbrev GF:List LC:=[⟨0,1,0⟩,⟨1,0,2000⟩,⟨0,2,-1⟩,⟨2,0,64⟩,⟨0,3,0⟩,⟨3,0,2147483648⟩,⟨0,4,0⟩,⟨4,0,2147483648⟩,⟨0,5,0⟩,⟨5,0,2147483648⟩]
abbrev cL (k:Nat):List BV:=[bi k,bi (k+1),.tr 1 ⟨k+2,0⟩ ⟨0,2000⟩,bi (k+3),bi (k+4),bi (k+5),bi (k+6),bi (k+7)]
abbrev cu (k:Nat):TV:=.cv (.agg (cL k))
def abW:Spec:=⟨8,9,[i3 6,ic 0,i3 7],[],[⟨0,7,0⟩],i3 8,[],[⟨0,8,0⟩,⟨8,7,0⟩]⟩
def Z4:Spec:=⟨9,10,[i3 6,i3 7,i3 8],[],[],i3 9,[],[]⟩
def YI:Spec:=⟨8,9,[i3 6,i3 7],[],[],i3 8,[],[]⟩
def YG:Spec:=⟨8,9,[i3 6,i3 7],[],[],tu [bi 8,.bool],[],[]⟩
def YU:Spec:=⟨8,9,[i3 6,i3 7],[],[⟨0,7,-1⟩],tu [bi 8,.bool],[],[]⟩
def Zn:Spec:=⟨8,9,[xv,i3 6,i3 7],[],[],i3 8,[],[]⟩
def Zl:Spec:=⟨7,8,[xv,ls 0 6],[],[⟨0,6,0⟩],i3 7,[],[]⟩
def YZ:Spec:=⟨6,8,[xv],[],GF,tu [.sl 0 ⟨6,0⟩,.sl 0 ⟨7,0⟩],[],[⟨1,6,0⟩,⟨6,1,0⟩]⟩
def ZB:Spec:=⟨7,7,[i3 6],[],[],.cv (.one (.bl [⟨0,6,0⟩,⟨6,0,63⟩] [])),[],[]⟩
def ZK:Spec:=⟨7,7,[u6,i3 6],[],[],bo,[],[]⟩
def WO:Spec:=⟨7,7,[o0,i3 6],[],[⟨0,6,0⟩],.cv (.one (.bl [⟨6,2,-1⟩] [])),[],[]⟩
def Zm:Spec:=⟨7,7,[u6,i3 6],[],[],u6,[],[]⟩
def WN:Spec:=⟨6,7,[.cv (.one (.cl 263 [.Hb 0] [])),ic 0],[],[],ls 6 6,[],[⟨0,6,0⟩,⟨6,0,64⟩]⟩
def WS:Spec:=⟨6,7,[o0],[],[],ls 6 6,[],[⟨0,6,0⟩,⟨6,0,64⟩]⟩
def WR:Spec:=⟨6,7,[o0],[],[],i3 6,[],[]⟩
def WQ:Spec:=⟨6,7,[o0],[],[],i3 6,[],[]⟩
def ZM:Spec:=⟨8,10,[ls 7 6,ls 0 7],[],[⟨0,6,0⟩,⟨0,7,0⟩],tu [bi 8,bi 9],[],[⟨0,8,1⟩,⟨8,6,-1⟩]⟩
def ab7:Spec:=⟨15,16,[cu 6,ls 0 14],[],[⟨0,14,0⟩],i3 15,[],[]⟩
def YN:Spec:=⟨8,9,[ls 2 6,i3 7],[],[⟨0,6,0⟩],ls 0 8,[],[⟨0,8,0⟩,⟨8,0,64⟩]⟩
def ZS:Spec:=⟨7,8,[ls 0 6],[],[⟨0,6,0⟩,⟨6,2,0⟩,⟨2,0,64⟩],ls 2 7,[],[⟨0,7,0⟩,⟨7,6,0⟩]⟩
def YM:Spec:=⟨14,16,[cu 6],[],[],.cv (.one (.cl 186 [] [.ptr 14 0,.ptr 15 0])),[(14,3,[bi 11]),(15,47,cL 6)],[]⟩
end Ra
namespace Ra
open Go
abbrev cl (f:Nat) (l:List BV):TV:=.cv (.one (.cl f [] l))
abbrev bm (f:Nat) (l:List BV):TV:=.cv (.one (.cl f l []))
def Zk:Spec:=⟨18,21,[i3 6,one (.ptr 7 0),one (.ptr 8 0)],[(7,3,[bi 9]),(8,47,cL 10)],[],tu [bi 18,bi 19],[(7,3,[bi 20])],[]⟩
def ab6:Spec:=⟨15,17,[cu 6,ls 0 14],[],[⟨0,14,0⟩,⟨14,0,1000000⟩],tu [.sl 0 ⟨15,0⟩,bi 16],[],[⟨0,15,0⟩,⟨15,14,0⟩]⟩
def Zj:Spec:=⟨15,16,[cu 6,ls 0 14],[],[⟨0,14,0⟩,⟨14,0,1000000⟩],i3 15,[],[]⟩
def ZP:Spec:=⟨16,17,[cu 6,i3 14,i3 15],[],[],i3 16,[],[]⟩
def ZZ:Spec:=⟨18,19,[i3 6,one (.ptr 7 0),one (.ptr 8 0)],[(7,47,cL 10),(8,3,[bi 9])],[],i3 18,[],[]⟩
def Z0:Spec:=⟨18,19,[i3 6,one (.ptr 7 0),one (.ptr 8 0)],[(7,47,cL 10),(8,3,[bi 9])],[],i3 18,[],[]⟩
def ZY:Spec:=⟨28,29,[cu 6,i3 2,cl 292 [.ptr 15 0,.ptr 16 0]],[(15,47,cL 20),(16,3,[bi 17])],GF,tu [.sl 0 ⟨28,0⟩,.bool],[],[⟨0,28,0⟩,⟨28,2,0⟩]⟩
def WT:Spec:=⟨28,29,[cu 6,i3 2,cl 293 [.ptr 15 0,.ptr 16 0]],[(15,47,cL 20),(16,3,[bi 17])],GF,tu [.sl 0 ⟨28,0⟩,.bool],[],[⟨0,28,0⟩,⟨28,2,0⟩]⟩
def ZR:Spec:=⟨14,15,[cu 6,i3 2,i3 4],[],GF,tu [.sl 0 ⟨14,0⟩,.bool],[],[⟨0,14,0⟩,⟨14,2,0⟩]⟩
def ZT:Spec:=⟨14,15,[cu 6,i3 2,i3 4],[],GF,tu [.sl 0 ⟨14,0⟩,.bool],[],[⟨0,14,0⟩,⟨14,2,0⟩]⟩
def ZC:Spec:=⟨7,8,[one (.tr 1 ⟨6,0⟩ ⟨0,2000⟩)],[],[],i3 7,[],[]⟩
def Zq:Spec:=⟨14,15,[cu 6,i3 2],[],[],i3 14,[],[]⟩
def Zp:Spec:=⟨14,15,[cu 6,i3 2,i3 4],[],GF,i3 14,[],[]⟩
def Zu:Spec:=⟨14,15,[cu 6,i3 2],[],GF,i3 14,[],[]⟩
def Zt:Spec:=⟨8,9,[ls 0 6,i3 7],[],[⟨0,6,0⟩],i3 8,[],[]⟩
def ZL:Spec:=⟨14,15,[cu 6,i3 4],[],GF,ls 7 14,[],[⟨0,14,0⟩]⟩
def ZN:Spec:=⟨14,15,[cu 6,o0],[],[],ls 2 14,[],[⟨0,14,0⟩,⟨14,0,64⟩]⟩
def ZD:Spec:=⟨15,16,[cu 6,i3 4,ls 0 14],[],GF++[⟨0,14,0⟩],tu [.sl 2 ⟨15,0⟩,.bool],[],[⟨0,15,0⟩,⟨15,0,64⟩]⟩
def ZO:Spec:=⟨16,18,[cu 6,i3 14,i3 15],[],[⟨0,14,1⟩,⟨0,15,0⟩,⟨15,0,64⟩],tu [bi 16,bi 17],[],[]⟩
def ZQ:Spec:=⟨14,15,[cu 6,o0],[],GF,ls 2 14,[],[⟨0,14,0⟩,⟨14,0,64⟩]⟩
def Zs:Spec:=⟨16,17,[cu 6,i3 2,ls 0 14,ls 2 15],[],GF++[⟨0,14,0⟩,⟨0,15,0⟩],i3 16,[],[]⟩
def ZF:Spec:=⟨15,16,[cu 6,i3 2,i3 4,ls 0 14],[],GF++[⟨0,14,0⟩],tu [.sl 2 ⟨15,0⟩,.bool],[],[⟨0,15,0⟩,⟨15,0,64⟩]⟩
def ZE:Spec:=⟨15,16,[cu 6,i3 2,i3 4,ls 0 14],[],GF++[⟨0,14,0⟩],tu [.sl 2 ⟨15,0⟩,.bool],[],[⟨0,15,0⟩,⟨15,0,64⟩]⟩
def Zr:Spec:=⟨15,16,[cu 6,i3 2,i3 4,ls 0 14],[],GF++[⟨0,14,0⟩],tu [.sl 2 ⟨15,0⟩,.bool],[],[⟨0,15,0⟩,⟨15,0,64⟩]⟩
def YY:Spec:=⟨15,16,[cu 6,i3 2,i3 4,ls 0 14],[],GF++[⟨0,14,0⟩],i3 15,[],[]⟩
end Ra
namespace Ra
open Go
abbrev pL:List BV:=[.sl 0 ⟨1,1⟩,.sl 0 ⟨1,1⟩]
abbrev pv:TV:=.cv (.agg pL)
def YE:Spec:=⟨6,6,[xv],[],GF,one (.int ⟨1,1⟩),[],[]⟩
def YO:Spec:=⟨6,6,[xv],[],GF,pv,[],[]⟩
abbrev du (k:Nat):Wr:=[(k,223,xL++[.sl 0 ⟨1,1⟩])]
def YR:Spec:=⟨9,10,[one (.ptr 6 0),i3 7,i3 8],du 6,[],i3 9,[],[]⟩
def YS:Spec:=⟨9,10,[one (.ptr 6 0),i3 7,i3 8],du 6,[⟨0,8,0⟩,⟨8,1,0⟩],i3 9,[],[]⟩
def YQ:Spec:=⟨8,9,[one (.int ⟨1,1⟩),i3 6,bm 158 [.ptr 7 0]],du 7,GF,i3 8,[],[]⟩
def WL:Spec:=⟨8,9,[one (.int ⟨1,1⟩),i3 6,bm 159 [.ptr 7 0]],du 7,GF,i3 8,[],[]⟩
def YF:Spec:=⟨7,7,[xv,ls 0 6],[],GF++[⟨0,6,0⟩],pv,[],[]⟩
def abZ:Spec:=⟨6,6,[xv],[],GF,pv,[],[]⟩
def ab3:Spec:=⟨8,8,[xv,pv,i3 6,i3 7],[],GF,pv,[],[]⟩
abbrev bk (k:Nat) (l:List BV):Wr:=[(k,191,xL++l)]
abbrev iF (k:Nat):List LC:=[⟨0,k,0⟩,⟨k,1,-1⟩]
def YT:Spec:=⟨8,9,[one (.ptr 6 0),i3 7],bk 6 [.any,.any,.any],GF++iF 7,i3 8,[],[]⟩
def YV:Spec:=⟨8,9,[one (.ptr 6 0),i3 7],bk 6 [.any,.any,.any],GF++iF 7,i3 8,[],[]⟩
def Y1:Spec:=⟨8,9,[one (.ptr 6 0),i3 7],bk 6 [.any,.any,.sl 0 ⟨1,0⟩],GF++iF 7,i3 8,[],[]⟩
def YK:Spec:=⟨8,9,[one (.ptr 6 0),i3 7],bk 6 (pL++[.any]),GF++iF 7,i3 8,[],[]⟩
def YW:Spec:=⟨6,6,[one (.sl 0 ⟨0,1⟩),i3 2],[],GF,one (.sl 0 ⟨2,0⟩),[],[]⟩
def YX:Spec:=⟨7,8,[xv,pv,i3 6],[],GF,i3 7,[],[]⟩
def YJ:Spec:=⟨7,8,[xv,bm 162 [.ptr 6 0]],bk 6 [.any,.any,.any],GF,i3 7,[],[]⟩
def WJ:Spec:=⟨7,8,[xv,bm 129 [.ptr 6 0]],bk 6 (pL++[.any]),GF,i3 7,[],[]⟩
def WK:Spec:=⟨7,8,[xv,bm 168 [.ptr 6 0]],bk 6 [.any,.any,.sl 0 ⟨1,0⟩],GF,i3 7,[],[]⟩
def YH:Spec:=⟨6,7,[xv],[],GF,i3 6,[],[]⟩
def ab1:Spec:=⟨6,7,[xv,pv],[],GF,i3 6,[],[]⟩
def YL:Spec:=⟨6,7,[xv],[],GF,i3 6,[],[]⟩
def ab4:Spec:=⟨6,7,[xv,pv],[],GF,i3 6,[],[]⟩
abbrev rn (k:Nat):Wr:=[(k,188,[.num .u64])]
def ab0:Spec:=⟨7,8,[i3 6],[],[],one (.ptr 7 0),rn 7,[]⟩
def ab2:Spec:=⟨8,9,[one (.ptr 6 0),i3 7],rn 6,[],i3 8,rn 6,[]⟩
def Z5:Spec:=⟨8,9,[one (.ptr 6 0),i3 7],rn 6,[⟨0,7,-1⟩],i3 8,rn 6,[⟨0,8,0⟩,⟨8,7,-1⟩]⟩
def abX:Spec:=⟨8,9,[xv,i3 6,i3 7],[],GF,.uY [.agg pL,.one (.bv (bi 8))],[],[]⟩
end Ra
namespace Ra
open Go
abbrev dy (k:Nat):TV:=.cv (.agg [.tr 5 ⟨k,0⟩ ⟨0,4000⟩])
abbrev pn:TV:=.cv (.agg [.sl 8 ⟨2,0⟩])
abbrev er (l:List CV):TV:=.uY l
abbrev o1 (x:BV):CV:=.one (.bv x)
def ab5:Spec:=⟨7,8,[xv,dy 6],[],GF,i3 7,[],[]⟩
def ab8:Spec:=⟨7,8,[xv,dy 6],[],GF,i3 7,[],[]⟩
def abY:Spec:=⟨6,7,[xv,pn],[],GF,i3 6,[],[]⟩
def Y8:Spec:=⟨6,6,[pn],[],GF,pn,[],[]⟩
def ZG:Spec:=⟨8,10,[xv,ls 9 6,i3 7],[],GF++[⟨6,0,1000000⟩],er [.agg [.tr 5 ⟨8,0⟩ ⟨0,4000⟩],o1 (bi 9)],[],[]⟩
def Z3:Spec:=⟨9,10,[xv,dy 6,.cv (.agg [bi 7,bi 8])],[],GF++iF 7,er [.agg [.tr 5 ⟨9,0⟩ ⟨0,4000⟩],o1 .bool],[],[]⟩
def Z1:Spec:=⟨8,9,[dy 6,i3 7],[],GF,er [.agg [.tr 5 ⟨8,0⟩ ⟨0,4000⟩],o1 (.num .i64)],[],[]⟩
def ZJ:Spec:=⟨8,9,[xv,dy 6,i3 7],[],GF,er [.agg [.tr 5 ⟨8,0⟩ ⟨0,4000⟩],o1 (.num .i64)],[],[]⟩
def ZH:Spec:=⟨8,9,[xv,ls 3 6,i3 7],[],GF,ls 9 8,[],[⟨0,8,0⟩,⟨8,0,1000000⟩]⟩
abbrev hz (k:Nat) (l:List BV):Wr:=[(k,234,xL++l)]
def ZU:Spec:=⟨7,7,[xv,i3 6],[],GF,.cv (.one (.bl [⟨0,6,0⟩,⟨6,1,-1⟩] [])),[],[]⟩
def Zw:Spec:=⟨11,12,[one (.ptr 6 0)],hz 6 [.any,.any,.any,.sl 4 ⟨7,0⟩,.any],[],i3 11,[],[]⟩
def ZX:Spec:=⟨6,6,[xv,pn],[],GF,bo,[],[]⟩
def ZV:Spec:=⟨7,7,[pn,i3 6],[],GF,pn,[],[]⟩
def Z2:Spec:=⟨7,8,[xv,pn,i3 6],[],GF++iF 6,ls 0 7,[],[⟨0,7,0⟩]⟩
def ZW:Spec:=⟨7,8,[xv,pn,i3 6],[],GF++iF 6,er [.agg [.sl 8 ⟨7,0⟩],.one (.bl [⟨7,2,0⟩,⟨2,7,0⟩] [])],[],[]⟩
def ZI:Spec:=⟨7,7,[xv,pn,ls 10 6],[],GF,er [.agg [.sl 8 ⟨2,0⟩],o1 .bool],[],[]⟩
def Zy:Spec:=⟨7,7,[xv,pn,i3 6],[],GF++iF 6,er [.agg [.sl 8 ⟨2,0⟩],o1 .bool],[],[]⟩
def Zz:Spec:=⟨8,8,[xv,pn,i3 6,i3 7],[],GF++iF 6++iF 7,er [.agg [.sl 8 ⟨2,0⟩],o1 .bool],[],[]⟩
def ZA:Spec:=⟨8,8,[xv,pn,i3 6,i3 7],[],GF,er [.agg [.sl 8 ⟨2,0⟩],o1 .bool],[],[]⟩
def Zv:Spec:=⟨13,14,[one (.ptr 6 0),i3 7],hz 6 [.sl 3 ⟨8,0⟩,bi 9,.sl 8 ⟨10,0⟩,.sl 4 ⟨11,0⟩,.sl 11 ⟨12,0⟩],GF++[⟨0,10,0⟩,⟨0,11,0⟩,⟨10,0,64⟩,⟨11,0,64⟩],.uY [],hz 6 [.sl 3 ⟨8,0⟩,bi 9,.sl 8 ⟨10,1⟩,.sl 4 ⟨11,1⟩,.sl 11 ⟨12,0⟩],[]⟩
def Y3:Spec:=⟨7,9,[xv,ls 11 6],[],GF,er [o1 (.sl 3 ⟨7,0⟩),o1 (bi 8)],[],[⟨0,7,0⟩,⟨7,0,2000⟩]⟩
abbrev hp (a b:BV):Wr:=hz 6 [.sl 3 ⟨7,0⟩,bi 8,a,b,.sl 11 ⟨9,0⟩]
def Y2:Spec:=⟨10,10,[one (.ptr 6 0),bm 213 [.ptr 6 0]],hp .nil .nil,GF,.uY [],hp (.sl 8 ⟨2,0⟩) (.sl 4 ⟨2,0⟩),[]⟩
def Y4:Spec:=⟨10,11,[one (.ptr 6 0),ls 3 7],hz 6 [.any,bi 8,.any,.any,.sl 11 ⟨9,0⟩],GF,i3 10,hp (.sl 8 ⟨2,0⟩) (.sl 4 ⟨2,0⟩),[]⟩
def Y7:Spec:=⟨11,11,[one (.ptr 6 0),i3 10],hp (.sl 8 ⟨2,0⟩) (.sl 4 ⟨2,0⟩),GF++[⟨0,10,0⟩,⟨10,2,-1⟩],.uY [],[],[]⟩
def WM:Spec:=⟨10,10,[one (.ptr 6 0),bm 175 [.ptr 6 0]],hp (.sl 8 ⟨2,0⟩) (.sl 4 ⟨2,0⟩),GF,.uY [],[],[]⟩
def Y6:Spec:=⟨7,7,[i3 6],[],[],bo,[],[]⟩
def Zx:Spec:=⟨7,8,[ls 4 6,bm 174 []],[],[⟨0,6,0⟩],i3 7,[],[]⟩
def Y5:Spec:=⟨7,7,[ls 4 6,bm 174 []],[],[⟨0,6,0⟩],bo,[],[]⟩
abbrev sr (k:Nat) (l:List BV):Wr:=[(k,245,xL++l)]
def Y9:Spec:=⟨11,11,[one (.ptr 6 0)],sr 6 [.sl 8 ⟨2,0⟩,bi 7,bi 8,bi 9,bi 10],GF++iF 7++iF 8,.uY [],sr 6 [.sl 8 ⟨2,0⟩,bi 7,bi 8,bi 9,bi 10],[]⟩
def Za:Spec:=⟨11,11,[one (.ptr 6 0)],sr 6 [.sl 8 ⟨2,0⟩,bi 7,bi 8,bi 9,bi 10],GF++iF 7++iF 8,.uY [],sr 6 [.sl 8 ⟨2,0⟩,bi 7,bi 8,bi 9,bi 10],[]⟩
def Zi:Spec:=⟨11,11,[one (.ptr 6 0)],sr 6 [.sl 8 ⟨2,0⟩,bi 7,bi 8,bi 9,bi 10],GF++iF 7++iF 8,.uY [],sr 6 [.sl 8 ⟨2,0⟩,bi 7,bi 8,bi 9,bi 10],[]⟩
end Ra
section
open Go.Proofs.Tryz
open Go.RowKit
theorem VE{p:Prop}(h:p:=by clear c;go_enter func127,ntmps127;go_wp2_with fail;refine(My a b w g i).mono ?_;rintro e w' ⟨rfl,rfl⟩;rw[d.out,P4 d.out];go_wp2;go_ret;rw[f.out];exact⟨rfl,rfl⟩):p:=h
variable {a b z:Int}
def Je (h:a=b):Ending.returned a=.returned b:=by rw[h]
def kO (a c b:Int):Int:=min (max a c) b
def uh (a c b:Int) (w:World):Calls prog 48 #[a,c,b] w fun e w'=>e=.returned (kO a c b)/\w'=w:=by
 by_cases h:a<c
 ·by_cases d:c<=b
  ·have f:Hid (c=kO a c b):=zH (by unfold kO;omega);go_enter func48,ntmps48;go_wp2;go_ret;exact⟨Je f,rfl⟩
  ·have f:Hid (b=kO a c b):=zH (by unfold kO;omega);have g:b<c:=oG;go_enter func48,ntmps48;go_wp2;go_ret;exact⟨Je f,rfl⟩
 ·by_cases d:a<=b
  ·have f:Hid (a=kO a c b):=zH (by unfold kO;omega);have g:c<=a:=oG;go_enter func48,ntmps48;go_wp2;go_ret;exact⟨Je f,rfl⟩
  ·have f:Hid (b=kO a c b):=zH (by unfold kO;omega);have g:b<a:=oG;go_enter func48,ntmps48;go_wp2;go_ret;exact⟨Je f,rfl⟩
def Em (a b:Int):Int:=if 9223372036854775807<a+b then 9223372036854775807 else if a+b < -9223372036854775808 then -9223372036854775808 else a+b
def sE (z:Int):Bool:=decide (-9223372036854775808<=z)&&decide (z<=9223372036854775807)
def sd (h:sE z=true):IntKind.i64.wrap z=z:=by simp only[sE,a6,decide_eq_true_eq] at h;exact iM _ oG
def Ng (z:Int):IntKind.i64.wrap z=if 9223372036854775808<=z%18446744073709551616 then z%18446744073709551616-18446744073709551616 else z%18446744073709551616:=by
 show(if (true&&decide (9223372036854775808<=z%18446744073709551616))=true then z%18446744073709551616-18446744073709551616 else z%18446744073709551616)=_;rw[kh];by_cases h:9223372036854775808<=z%18446744073709551616
 ·rw[if_pos (decide_eq_true h),if_pos h]
 ·rw[if_neg (by simpa using h),if_neg h]
def Ps (h:9223372036854775807<z) (d:z<=18446744073709551614):IntKind.i64.wrap z=z-18446744073709551616:=by rw[Ng];split <;>omega
def Me (h:z < -9223372036854775808) (d: -18446744073709551616<=z):IntKind.i64.wrap z=z+18446744073709551616:=by rw[Ng];split <;>omega
def P3 (a b:Int):Int:=if sE (a+b) then a+b else 0
def P5 (h:sE (a+b)=true):P3 a b=a+b:=by unfold P3;rw[if_pos h]
def P4 (h:sE (a+b)=false):P3 a b=0:=by unfold P3;rw[h];rfl
def My (a b:Int) (w:World) (g: -9223372036854775808<=a/\a<=9223372036854775807) (i: -9223372036854775808<=b/\b<=9223372036854775807):
  Calls prog 163 #[a,b] w fun e w'=>e=.returned (.tuple #[(P3 a b),.bool (sE (a+b))])/\w'=w:=by
 obtain⟨s,k⟩:=nR (IntKind.i64.wrap (a+b));by_cases c:sE (a+b)=true
 ·have h:=c;simp only[sE,a6,decide_eq_true_eq] at h;have e:s=a+b:=by rw[<-k];exact sd c
  obtain⟨d,f⟩:=Zb c e;have j:(decide (s<a)==decide (b<0))=true:=by rw[beq_iff_eq,decide_eq_decide];omega
  clear c h e;go_enter func163,ntmps163;go_wp2
  go_ret2
  rw[d.out,P5 d.out,<-f.out];exact⟨rfl,rfl⟩
 ·have c:sE (a+b)=false:=by simpa using c
  have d:=zH c;have h:a+b < -9223372036854775808\/9223372036854775807<a+b:=by simp only[sE,pZ,decide_eq_false_iff_not] at c;omega
  have j:(decide (s<a)==decide (b<0))=false:=by
   rw[beq_eq_false_iff_ne,ne_eq,decide_eq_decide]
   rcases h with h|h
   ·have e:=Me h oG;omega
   ·have e:=Ps h oG;omega
  clear c h;go_enter func163,ntmps163;go_wp2
  go_ret2
  rw[d.out,P4 d.out];exact⟨rfl,rfl⟩
def WE (h:sE (a+b)=true):Em a b=a+b:=by simp only[sE,a6,decide_eq_true_eq] at h;unfold Em;rw[if_neg oG,if_neg oG]
def M4 (a b:Int) (w:World) (g: -9223372036854775808<=a/\a<=9223372036854775807) (i: -9223372036854775808<=b/\b<=9223372036854775807):
  Calls prog 127 #[a,b] w fun e w'=>e=.returned (Em a b)/\w'=w:=by
 by_cases c:sE (a+b)=true
 ·have d:=zH c;clear c;go_enter func127,ntmps127;go_wp2_with fail;refine(My a b w g i).mono ?_;rintro e w' ⟨rfl,rfl⟩;rw[d.out,P5 d.out];go_wp2;go_ret;rw[WE d.out];exact⟨rfl,rfl⟩
 ·have c:sE (a+b)=false:=by simpa using c
  have d:=zH c;simp only[sE,pZ,decide_eq_false_iff_not] at c;by_cases h:b<0
  ·have f:Hid (Em a b= -9223372036854775808):=zH (by unfold Em;rw[if_neg oG,if_pos oG]);exact VE
  ·have f:Hid (Em a b=9223372036854775807):=zH (by unfold Em;rw[if_pos oG]);have j:0<=b:=oG;exact VE
end
section
open Go.Proofs.Tryz
open Go.RowKit
def Pb (a b:Int) (w:World):
  Calls prog 125 #[a,b] w fun e w'=> ∃(z:Int) (f:Bool),e=.returned (.tuple #[z,f])/\(-9223372036854775808<=z/\z<=9223372036854775807)/\w'=w:=by
 by_cases c:b=0
 ·have d:(b==0)=true:=by rw[c];rfl
  clear c;go_enter func125,ntmps125;go_wp2;all_goals go_ret2
  all_goals exact⟨_,_,rfl,oG,rfl⟩
 ·have d:(b==0)=false:=by rw[beq_eq_false_iff_ne];exact c
  go_enter func125,ntmps125;go_wp2;all_goals go_ret2
  all_goals first
   |exact⟨_,_,rfl,oG,rfl⟩
   |exact⟨_,_,rfl,by unfold wrap64;omega,rfl⟩
end
section
open Go Go.RowKit
def Hk (w:World):List (TypeId×List Value)->World
 | []=>w
 |(t,c)::l=>Hk (w.alloc (cB t c)) l
def alF (w:World):Nat->List (TypeId×List Value)->Prop
 |_,[]=>True
 |g,(t,c)::l=>fc w g t c/\alF w (g+1) l
def FR: ∀(l:List (TypeId×List Value)) (w:World),Below w w (Hk w l)/\(Hk w l).heap.size=w.heap.size+l.length/\alF (Hk w l) w l
 | [],w=>⟨bS _ _,rfl,trivial⟩
 |(t,c)::l,w=>by obtain⟨a,b,d⟩:=FR l (w.alloc (cB t c));have e:(w.alloc (cB t c)).heap.size=w.heap.size+1:=sI;rw[e] at a b d;exact⟨(bF.alloc lE _).trans (a.mono (iW _)),by rw[Hk,b,ff];omega,(fc.new w t c).below a lS,d⟩
def sk (w:World) (l:List (TypeId×List Value)): ∃w1,Hk w l=w1/\alF w1 w l/\Below w w w1/\w1.heap.size=w.heap.size+l.length:=
 ⟨_,rfl,(FR l w).2.2,(FR l w).1,(FR l w).2.1⟩
end
section
open Go.RowKit ko
def mK (t:Tr):(t.flatMap gV).all (fun u=>u.oneCell')=true:=by
 rw[dT];intro u d;obtain⟨s,_,d⟩:=qR.1 d;simp only[gV,fC,iy,or_false] at d
 rcases d with rfl|rfl <;>rfl
def uI: ∀(t:Tr) (i j:Nat) (s:vg),t[i]? =some s->j<2->(t.flatMap gV)[i*2+j]? =(gV s)[j]?
 | [],i,j,s,h,_=>by simp at h
 |a::t,0,j,s,h,hj=>by
  obtain rfl:a=s:=by simpa using h
  rw[gG,vq,gW,fu (by simpa[gV] using hj)]
 |a::t,i+1,j,s,h,hj=>by rw[gG,fo (by simp[gV];omega),show(i+1)*2+j-(gV a).length=i*2+j by simp[gV];omega];exact uI t i j s (by simpa using h) hj
def fQ.rs {w:World} {v:Value} {t:Tr} (h:RL 2 iH w v t):RS w 2 v t (t.flatMap gV):=by
 obtain⟨A,c,rfl,k,m,n⟩:=h;have f: ∀t:Tr,(t.flatMap gV).length=t.length*2:=by
  intro t
  induction t with
  |nil=>rfl
  |cons a t ih=>rw[gG,fa,ih,ff];simp[gV];omega
 refine⟨A,c,rfl,k,m,f t,fun z=>?_⟩;obtain⟨b,o,p,q,r⟩:=n z;refine⟨b,o,p,q,fun j u d=>?_⟩;have x:=fP d;rw[f] at x;obtain⟨s,g⟩:=ec (l:=t) (i:=j/2) oG;obtain⟨cs,_,rfl,y⟩:=r (j/2) s g;have e:(t.flatMap gV)[j]? =(gV s)[j%2]? :=by have:=uI t (j/2) (j%2) s g oG;rw[<-this];congr 1;omega
 rw[e] at d;have:=y (j%2) u d;rw[mf,show j/2*2+j%2=j by omega] at this;exact this
end
section
open Go.Proofs.Tryz
open Go.RowKit
def me (l:List Int):Int:=l.foldl (fun s z=>wrap64 (s+z)) 0
def AQ (l:List Int) (z:Int):me (l++[z])=wrap64 (me l+z):=by unfold me;rw[nW];rfl
def wQ {l:List Int} {i:Nat} {z:Int} (h:l[i]? =some z):me (l.take (i+1))=wrap64 (me (l.take i)+z):=by rw[gk,h,lY,AQ]
def QD (f g:Int) (C:Value) (h j k m a:Int) (v:Value) (l:List Int) (w:World) (G: ∃A n c,C=.slice A n c) (B:gx w .i64 v l):
  Calls prog 91 #[.agg #[f,g,C,h,j,k,m,a],v] w fun e w'=>e=.returned (wrap64 (a*me l))/\Below w w w':=by
 obtain⟨p,t,c0,rfl⟩:=G;obtain⟨A,c,rfl,I,J,x⟩:=B.open_;have D:=zH x;clear B x;go_enter func91,ntmps91;go_wp2_with fail;have d:=(bS w w).alloc lE (cB 47 [f,g,.slice p t c0,h,j,k,m,a]);have u:=fc.new w 47 [f,g,.slice p t c0,h,j,k,m,a];have c7:=u.c 7;clear u;go_loopw [5,10] (fun H s wr=> ∃i:Nat,i<=l/\s=.int .i64 i/\H=.int .i64 (me (l.take i))/\wr=w.alloc (cB 47 [f,g,.slice p t c0,h,j,k,m,a])) (fun _ s _=>l.length-(intOf s).toNat)
 case atStart=>exact⟨0,eC _,rfl,rfl,rfl⟩
 case round=>
  obtain⟨i,K,rfl,rfl,rfl⟩:=hrel;by_cases q:i<l
  ·obtain⟨z,r⟩: ∃z,l[i]? =some z:=⟨_,fp q⟩;obtain⟨b,o,rfl,F,y⟩:=D i z r;have L:=((xi d).1 b (o+i) F).trans y;have E:=zH (wQ r);clear r y;go_wp2_with fail;go_roundw
   case rel=>exact⟨i+1,oG,by go_num,by rw[E.out],by first|rfl|trivial⟩
   case measure=>exact mI
  ·obtain rfl:i=l.length:=oG;go_wp2_with fail;go_ret;rw[gh];exact⟨rfl,d⟩
def SD (z:Int):0<=IntKind.u64.wrap z/\IntKind.u64.wrap z<=18446744073709551615:=by have e:IntKind.u64.wrap z=z%18446744073709551616:=rfl;rw[e];omega
def SC (c:BinOp) (a b:Int):0<=bits c .u64 a b/\bits c .u64 a b<=18446744073709551615:=by unfold bits;exact SD _
def SO (b:Nat) (st:Int) (w:World) (c:fc w b 188 [.int .u64 st]):
  Calls prog 130 #[.pointer b] w fun e w'=> ∃z a:Int,e=.returned (.int .u64 z)/\(0<=z/\z<=18446744073709551615)/\w'=w.setCell b (.int .u64 a):=by
 have c0:=c.c 0;have f:=c.frozen 0;have d:=c.gH 0 (.int .u64 (IntKind.u64.wrap (st+11400714819323198485)));have c1:=d.cell 0;simp only[fJ,fK] at c1;go_enter func130,ntmps130;go_wp2;go_ret;exact⟨_,_,rfl,SC _ _ _,rfl⟩
def EA (b:Nat) (st n:Int) (w:World) (c:fc w b 188 [.int .u64 st]) (q:n<=9223372036854775807):
  Calls prog 82 #[.pointer b,n] w fun e w'=> ∃k:Int,e=.returned k/\(1<=n->0<=k/\k<n)/\(n<1->k=0)/\(w'=w\/ ∃a:Int,w'=w.setCell b (.int .u64 a)):=by
 by_cases h:n<1
 ·have d:=zH h;go_enter func82,ntmps82;go_wp2;go_ret;exact⟨0,rfl,fun f=>absurd f (by have:=d.out;omega),fun _=>rfl,.inl rfl⟩
 ·have i:1<=n:=oG;have d:=zH i;have p:IntKind.u64.wrap n=n:=by show n%18446744073709551616=n;omega
  have g: ¬n=0:=oG;clear h;go_enter func82,ntmps82;go_wp2_with fail;refine(SO b st w c).mono ?_;rintro e r ⟨z,a,rfl,m,rfl⟩;have o:=zH m;go_wp2;go_ret;have f:=vf z g;have j:=rQ z (show 0<n by omega);have l:wrap64 (z%n)=z%n:=by unfold wrap64;omega
  exact⟨z%n,Je l,fun _=>⟨f,j⟩,fun h=>by have:=d.out;omega,.inr ⟨a,rfl⟩⟩
end
section
open Go.RowKit
section
theorem tkG {n:Nat} {listed:Array Bool} {a a0 a':Act} {w:World} (i:Nat) {oi:Oper} {rs:List Oper} {v:Value} (hS:S w)
  (h:il P ops Q S late n (listed.setIfInBounds i true) a' w)
  (ha0:a=a0:=by refine pU ?_;try with_reducible rfl)
  (hi:ops.toList.drop i=oi::rs:=by rfl) (hg:Region.wanted oi (yielded ops a0.tmps)=true:=by rfl) (ht:sT ops late listed i=true:=by kernel_rfl)
  (hQ: ∀c a w,Q (.panic c) (a.put oi.dst v) w->Q (.panic c) a w:=by exact fun _ _ _ h=>h)
  (hy: ∀w,S w->(execOp a0.eval oi).run P w=.ok (.value v) w:=by
   intro wS hSw;try dsimp only at hSw
   try (have hSa:=fc.iY hSw;simp only[im,Nat.reduceAdd] at hSa)
   try (have hSb:=fc.iY hSw.1;simp only[im,Nat.reduceAdd] at hSb)
   try (have hSd:=fc.iY hSw.2;simp only[im,Nat.reduceAdd] at hSd)
   try (have hSe:=fc.iY hSw.2.1;simp only[im,Nat.reduceAdd] at hSe)
   try (have hSg:=fc.iY hSw.2.2;simp only[im,Nat.reduceAdd] at hSg)
   try (have hSc:=xi hSw;obtain⟨hSc,hSf⟩:=hSc)
   go_simp;try with_reducible rfl)
  (ha:a0.put oi.dst v=a':=by refine pU ?_;try with_reducible rfl):
  il P ops Q S late (n+1) listed a w:=by
 subst ha0;subst ha;exact jE i hi hg ht hQ hy hS h
theorem sK {n:Nat} {listed:Array Bool} {a a0 a':Act} {w:World} (i:Nat) {oi:Oper} {rs:List Oper} (hS:S w)
  (h:il P ops Q S late n (listed.setIfInBounds i true) a' w)
  (ha0:a=a0:=by refine pU ?_;try with_reducible rfl)
  (hi:ops.toList.drop i=oi::rs:=by rfl) (ht:sT ops late listed i=true:=by kernel_rfl)
  (hQ: ∀c a w,Q (.panic c) (a.put oi.dst undef) w->Q (.panic c) a w:=by exact fun _ _ _ h=>h) (hw:Region.wanted oi (yielded ops a0.tmps)=false:=by rfl)
  (ha:a0.put oi.dst undef=a':=by refine pU ?_;try with_reducible rfl):
  il P ops Q S late (n+1) listed a w:=by
 subst ha0;subst ha;exact zA i hi ht hQ hw hS h
theorem acb {n:Nat} {i:Nat} {l:List Nat} {listed:Array Bool} {a a0 a':Act} {w:World} {oi:Oper} {rs:List Oper} {v:Value}
  (h:Mt l (il P ops Q S late n (listed.setIfInBounds i true) a' w)) (hs:S w:=by exact hS)
  (ha0:a=a0:=by refine pU ?_;try with_reducible rfl)
  (hi:ops.toList.drop i=oi::rs:=by rfl) (hg:Region.wanted oi (yielded ops a0.tmps)=true:=by rfl) (ht:sT ops late listed i=true:=by kernel_rfl)
  (hQ: ∀c a w,Q (.panic c) (a.put oi.dst v) w->Q (.panic c) a w:=by exact fun _ _ _ h=>h)
  (hy: ∀w,S w->(execOp a0.eval oi).run P w=.ok (.value v) w:=by
   intro wS hSw;try dsimp only at hSw
   try (have hSa:=fc.iY hSw;simp only[im,Nat.reduceAdd] at hSa)
   try (have hSb:=fc.iY hSw.1;simp only[im,Nat.reduceAdd] at hSb)
   try (have hSd:=fc.iY hSw.2;simp only[im,Nat.reduceAdd] at hSd)
   try (have hSe:=fc.iY hSw.2.1;simp only[im,Nat.reduceAdd] at hSe)
   try (have hSg:=fc.iY hSw.2.2;simp only[im,Nat.reduceAdd] at hSg)
   try (have hSc:=xi hSw;obtain⟨hSc,hSf⟩:=hSc)
   go_simp;try with_reducible rfl)
  (ha:a0.put oi.dst v=a':=by refine pU ?_;try with_reducible rfl):
  Mt (i::l) (il P ops Q S late (n+1) listed a w):=by
 subst ha0;subst ha;exact⟨jE i hi hg ht hQ hy hs h.o⟩
theorem sKN {n:Nat} {i:Nat} {l:List Nat} {listed:Array Bool} {a a0 a':Act} {w:World} {oi:Oper} {rs:List Oper}
  (h:Mt l (il P ops Q S late n (listed.setIfInBounds i true) a' w)) (hs:S w:=by exact hS)
  (ha0:a=a0:=by refine pU ?_;try with_reducible rfl)
  (hi:ops.toList.drop i=oi::rs:=by rfl) (ht:sT ops late listed i=true:=by kernel_rfl)
  (hQ: ∀c a w,Q (.panic c) (a.put oi.dst undef) w->Q (.panic c) a w:=by exact fun _ _ _ h=>h) (hw:Region.wanted oi (yielded ops a0.tmps)=false:=by rfl)
  (ha:a0.put oi.dst undef=a':=by refine pU ?_;try with_reducible rfl):
  Mt (i::l) (il P ops Q S late (n+1) listed a w):=by
 subst ha0;subst ha;exact⟨zA i hi ht hQ hw hs h.o⟩
theorem kG (l:List Nat) {p q:Prop} (k:q) (h:q->Mt l p:=by(intro hk;(repeat refine acb ?_);exact Mt.nil hk)):p:=(h k).o
theorem kS (l:List Nat) {p q:Prop} (k:q) (h:q->Mt l p:=by(intro hk;(repeat refine sKN ?_);exact Mt.nil hk)):p:=(h k).o
end
end
section
open Go.Proofs.Tryz
open Go.RowKit
def M8:(prog.info? 9).map (fun i=>(i.zero,i.size,i.bytes))=some (some (.string ByteArray.empty),1,16):=kR
end
end Go.Proofs.YtgimnjldndkalaaGreatDoor
