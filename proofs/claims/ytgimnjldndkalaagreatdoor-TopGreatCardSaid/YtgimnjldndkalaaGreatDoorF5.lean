/- Of the proof of TopGreat: The steps of a region that draws, in few words. -/
import Derived.Test.YtgimnjldndkalaaGreatDoorF4
import Derived.Test.YtgimnjldndkalaaGreatDoorChecked
import Derived.Test.YtgimnjldndkalaaGreatDoorRows
set_option linter.all false
set_option maxHeartbeats 4000000
set_option maxRecDepth 100000
namespace Go.Proofs.YtgimnjldndkalaaGreatDoor
variable {ops:Array Oper} {Q:Exit->Act->World->Prop} {late:List Nat} {B lb:Nat} {P:Program} {ed es et:TypeId} {w w':World} {S:World->Prop}
section
open Go.RowKit
def im (w:World) (b:Nat):Nat->List Value->Prop
 |_,[]=>True
 |o,v::l=>w.cell? (pA b o)=some v/\im w b (o+1) l
theorem EE {w:World} {b:Nat} {cs:List Value} (h: ∀i v,cs[i]? =some v->w.cell? (pA b i)=some v): ∀(l:List Value) (o:Nat),(∀i v,l[i]? =some v->cs[o+i]? =some v)->im w b o l
 | [],_,_=>trivial
 |v::l,o,hl=>⟨h o v (hl 0 v rfl),EE h l (o+1) fun i u hu=>by rw[show o+1+i=o+(i+1) by omega];exact hl (i+1) u (by simpa using hu)⟩
theorem fc.iY {w:World} {b:Nat} {t:TypeId} {cs:List Value} (h:fc w b t cs):im w b 0 cs:=
 EE (fun i v hv=>by rw[h.cell i];exact hv) cs 0 fun i v hv=>by simpa using hv
section
theorem tk {n:Nat} {listed:Array Bool} {a a0 a':Act} {w:World} (i:Nat) {oi:Oper} {rs:List Oper} {v:Value} (hS:S w)
  (h:il P ops Q S late n (listed.setIfInBounds i true) a' w)
  (ha0:a=a0:=by refine pU ?_;try with_reducible rfl)
  (hi:ops.toList.drop i=oi::rs:=by rfl) (hg:oi.guard=none:=by rfl) (ht:sT ops late listed i=true:=by kernel_rfl)
  (hQ: ∀c a w,Q (.panic c) (a.put oi.dst v) w->Q (.panic c) a w:=by exact fun _ _ _ h=>h)
  (hy: ∀w,S w->(execOp a0.eval oi).run P w=.ok (.value v) w:=by
   intro wS hSw;try dsimp only at hSw
   try (have hSa:=fc.iY hSw;simp only[im,Nat.reduceAdd] at hSa)
   try (have hSb:=fc.iY hSw.1;simp only[im,Nat.reduceAdd] at hSb)
   try (have hSd:=fc.iY hSw.2;simp only[im,Nat.reduceAdd] at hSd)
   try (have hSe:=fc.iY hSw.2.1;simp only[im,Nat.reduceAdd] at hSe)
   try (have hSg:=fc.iY hSw.2.2;simp only[im,Nat.reduceAdd] at hSg)
   try (have hSh:=fc.iY hSw.2.2.1;simp only[im,Nat.reduceAdd] at hSh)
   try (have hSi:=fc.iY hSw.2.2.2;simp only[im,Nat.reduceAdd] at hSi)
   try (have hSc:=xi hSw;obtain⟨hSc,hSf⟩:=hSc)
   go_simp;try with_reducible rfl)
  (ha:a0.put oi.dst v=a':=by refine pU ?_;try with_reducible rfl):
  il P ops Q S late (n+1) listed a w:=by
 subst ha0;subst ha;exact ki i hi hg ht hQ hy hS h
structure Mt (l:List Nat) (p:Prop):Prop where
 o:p
theorem tkN {n:Nat} {i:Nat} {l:List Nat} {listed:Array Bool} {a a0 a':Act} {w:World} {oi:Oper} {rs:List Oper} {v:Value}
  (h:Mt l (il P ops Q S late n (listed.setIfInBounds i true) a' w)) (hs:S w:=by exact hS)
  (ha0:a=a0:=by refine pU ?_;try with_reducible rfl)
  (hi:ops.toList.drop i=oi::rs:=by rfl) (hg:oi.guard=none:=by rfl) (ht:sT ops late listed i=true:=by kernel_rfl)
  (hQ: ∀c a w,Q (.panic c) (a.put oi.dst v) w->Q (.panic c) a w:=by exact fun _ _ _ h=>h)
  (hy: ∀w,S w->(execOp a0.eval oi).run P w=.ok (.value v) w:=by
   intro wS hSw;try dsimp only at hSw
   try (have hSa:=fc.iY hSw;simp only[im,Nat.reduceAdd] at hSa)
   try (have hSb:=fc.iY hSw.1;simp only[im,Nat.reduceAdd] at hSb)
   try (have hSd:=fc.iY hSw.2;simp only[im,Nat.reduceAdd] at hSd)
   try (have hSe:=fc.iY hSw.2.1;simp only[im,Nat.reduceAdd] at hSe)
   try (have hSg:=fc.iY hSw.2.2;simp only[im,Nat.reduceAdd] at hSg)
   try (have hSh:=fc.iY hSw.2.2.1;simp only[im,Nat.reduceAdd] at hSh)
   try (have hSi:=fc.iY hSw.2.2.2;simp only[im,Nat.reduceAdd] at hSi)
   try (have hSc:=xi hSw;obtain⟨hSc,hSf⟩:=hSc)
   go_simp;try with_reducible rfl)
  (ha:a0.put oi.dst v=a':=by refine pU ?_;try with_reducible rfl):
  Mt (i::l) (il P ops Q S late (n+1) listed a w):=by
 subst ha0;subst ha;exact⟨ki i hi hg ht hQ hy hs h.o⟩
theorem Mt.nil {p:Prop} (h:p):Mt [] p:=⟨h⟩
theorem kL (l:List Nat) {p q:Prop} (k:q) (h:q->Mt l p:=by(intro hk;(repeat refine tkN ?_);exact Mt.nil hk)):p:=(h k).o
theorem xw {n:Nat} {listed:Array Bool} {a a0 a':Act} {w:World} (i:Nat) {oi:Oper} {rs:List Oper} {v:Value} (hS:S w)
  (h:il P ops Q S late n (listed.setIfInBounds i true) a' w)
  (ha0:a=a0:=by refine pU ?_;try with_reducible rfl)
  (hi:ops.toList.drop i=oi::rs:=by rfl) (hg:oi.guard=none:=by rfl) (ht:sT ops late listed i=true:=by kernel_rfl)
  (hQ: ∀c a w,Q (.panic c) (a.put oi.dst v) w->Q (.panic c) a w:=by exact fun _ _ _ h=>h)
  (hy: ∀w,S w->(execOp a0.eval oi).run P w=.ok (.value v) w:=by
   intro wS hSw;try dsimp only at hSw
   go_simp;rw[if_neg oG,<-HCC.out])
  (ha:a0.put oi.dst v=a':=by refine pU ?_;try with_reducible rfl):
  il P ops Q S late (n+1) listed a w:=by
 subst ha0;subst ha;exact ki i hi hg ht hQ hy hS h
theorem tO {n:Nat} {listed:Array Bool} {a a':Act} {w:World} (i:Nat) {oi:Oper} {rs:List Oper}
  (h: ∀K:Act->World->Prop,RowKit.Hid (∀a' w',S w'->il P ops Q S late n (listed.setIfInBounds i true) a' w'->K a' w')->oi.wp P a' w K Q)
  (hi:ops.toList.drop i=oi::rs:=by rfl) (hg:oi.guard=none:=by rfl) (hr:Region.ready .any ops listed=[i]:=by kernel_rfl)
  (ha:a=a':=by refine pU ?_;try with_reducible rfl):il P ops Q S late (n+1) listed a w:=by
 subst ha;exact vU i hi hg hr h
theorem tL {n:Nat} {listed:Array Bool} {a a':Act} {w:World} (i:Nat) {oi:Oper} {rs:List Oper}
  (h: ∀K:Act->World->Prop,RowKit.Hid (∀a' w',il P ops Q S late n (listed.setIfInBounds i true) a' w'->K a' w')->oi.wp P a' w K Q)
  (hi:ops.toList.drop i=oi::rs:=by rfl) (hg:oi.guard=none:=by rfl) (hr:Region.ready .any ops listed=[i]:=by kernel_rfl) (hl:late.contains i=true:=by kernel_rfl)
  (ha:a=a':=by refine pU ?_;try with_reducible rfl):il P ops Q S late (n+1) listed a w:=by
 subst ha;exact G0 i hi hg hr hl h
theorem tD {n:Nat} {listed:Array Bool} {a a':Act} {w:World} (h:Q .normal a' w) (hr:Region.ready .any ops listed=[]:=by kernel_rfl)
  (ha:a=a':=by refine pU ?_;try with_reducible rfl):il P ops (oB Q) S late n listed a w:=by
 subst ha;exact qi hr h
theorem rG (S:World->Prop) (late:List Nat) {id:Nat} {a:Act} {w:World} (hS:S w.drew)
  (h:S w.drew->il P ops (oB Q) S late ops.size (Array.replicate ops.size false) a w.drew) (hm:P.follows .mixedOrders=true:=by kernel_rfl):(Code.region id ops true).wp P Q a w:=rL S late hm hS h
theorem rB (late:List Nat) {id:Nat} {a:Act} {w:World}
  (h:Below w w w.drew->il P ops (oB Q) (fun wS=>Below w w wS) late ops.size (Array.replicate ops.size false) a w.drew) (hm:P.follows .mixedOrders=true:=by kernel_rfl):(Code.region id ops true).wp P Q a w:=rL _ late hm bF.drew h
end
end
section
open Go.RowKit
section
theorem tkG {n:Nat} {listed:Array Bool} {a a0 a':Act} {w:World} (i:Nat) {oi:Oper} {rs:List Oper} {v:Value} (hS:S w)
  (h:il P ops Q S late n (listed.setIfInBounds i true) a' w)
  (ha0:a=a0:=by refine pU ?_;try with_reducible rfl)
  (hi:ops.toList.drop i=oi::rs:=by rfl) (hg:Region.wanted oi (yielded ops a0.tmps)=true:=by rfl) (ht:sT ops late listed i=true:=by kernel_rfl)
  (hQ: ∀c a w,Q (.panic c) (a.put oi.dst v) w->Q (.panic c) a w:=by exact fun _ _ _ h=>h)
  (hy: ∀w,S w->(execOp a0.eval oi).run P w=.ok (.value v) w:=by
   intro wS hSw;try dsimp only at hSw
   try (have hSa:=fc.iY hSw;simp only[im,Nat.reduceAdd] at hSa)
   try (have hSb:=fc.iY hSw.1;simp only[im,Nat.reduceAdd] at hSb)
   try (have hSd:=fc.iY hSw.2;simp only[im,Nat.reduceAdd] at hSd)
   try (have hSe:=fc.iY hSw.2.1;simp only[im,Nat.reduceAdd] at hSe)
   try (have hSg:=fc.iY hSw.2.2;simp only[im,Nat.reduceAdd] at hSg)
   try (have hSc:=xi hSw;obtain⟨hSc,hSf⟩:=hSc)
   go_simp;try with_reducible rfl)
  (ha:a0.put oi.dst v=a':=by refine pU ?_;try with_reducible rfl):
  il P ops Q S late (n+1) listed a w:=by
 subst ha0;subst ha;exact jE i hi hg ht hQ hy hS h
theorem sK {n:Nat} {listed:Array Bool} {a a0 a':Act} {w:World} (i:Nat) {oi:Oper} {rs:List Oper} (hS:S w)
  (h:il P ops Q S late n (listed.setIfInBounds i true) a' w)
  (ha0:a=a0:=by refine pU ?_;try with_reducible rfl)
  (hi:ops.toList.drop i=oi::rs:=by rfl) (ht:sT ops late listed i=true:=by kernel_rfl)
  (hQ: ∀c a w,Q (.panic c) (a.put oi.dst undef) w->Q (.panic c) a w:=by exact fun _ _ _ h=>h) (hw:Region.wanted oi (yielded ops a0.tmps)=false:=by rfl)
  (ha:a0.put oi.dst undef=a':=by refine pU ?_;try with_reducible rfl):
  il P ops Q S late (n+1) listed a w:=by
 subst ha0;subst ha;exact zA i hi ht hQ hw hS h
theorem acb {n:Nat} {i:Nat} {l:List Nat} {listed:Array Bool} {a a0 a':Act} {w:World} {oi:Oper} {rs:List Oper} {v:Value}
  (h:Mt l (il P ops Q S late n (listed.setIfInBounds i true) a' w)) (hs:S w:=by exact hS)
  (ha0:a=a0:=by refine pU ?_;try with_reducible rfl)
  (hi:ops.toList.drop i=oi::rs:=by rfl) (hg:Region.wanted oi (yielded ops a0.tmps)=true:=by rfl) (ht:sT ops late listed i=true:=by kernel_rfl)
  (hQ: ∀c a w,Q (.panic c) (a.put oi.dst v) w->Q (.panic c) a w:=by exact fun _ _ _ h=>h)
  (hy: ∀w,S w->(execOp a0.eval oi).run P w=.ok (.value v) w:=by
   intro wS hSw;try dsimp only at hSw
   try (have hSa:=fc.iY hSw;simp only[im,Nat.reduceAdd] at hSa)
   try (have hSb:=fc.iY hSw.1;simp only[im,Nat.reduceAdd] at hSb)
   try (have hSd:=fc.iY hSw.2;simp only[im,Nat.reduceAdd] at hSd)
   try (have hSe:=fc.iY hSw.2.1;simp only[im,Nat.reduceAdd] at hSe)
   try (have hSg:=fc.iY hSw.2.2;simp only[im,Nat.reduceAdd] at hSg)
   try (have hSc:=xi hSw;obtain⟨hSc,hSf⟩:=hSc)
   go_simp;try with_reducible rfl)
  (ha:a0.put oi.dst v=a':=by refine pU ?_;try with_reducible rfl):
  Mt (i::l) (il P ops Q S late (n+1) listed a w):=by
 subst ha0;subst ha;exact⟨jE i hi hg ht hQ hy hs h.o⟩
theorem sKN {n:Nat} {i:Nat} {l:List Nat} {listed:Array Bool} {a a0 a':Act} {w:World} {oi:Oper} {rs:List Oper}
  (h:Mt l (il P ops Q S late n (listed.setIfInBounds i true) a' w)) (hs:S w:=by exact hS)
  (ha0:a=a0:=by refine pU ?_;try with_reducible rfl)
  (hi:ops.toList.drop i=oi::rs:=by rfl) (ht:sT ops late listed i=true:=by kernel_rfl)
  (hQ: ∀c a w,Q (.panic c) (a.put oi.dst undef) w->Q (.panic c) a w:=by exact fun _ _ _ h=>h) (hw:Region.wanted oi (yielded ops a0.tmps)=false:=by rfl)
  (ha:a0.put oi.dst undef=a':=by refine pU ?_;try with_reducible rfl):
  Mt (i::l) (il P ops Q S late (n+1) listed a w):=by
 subst ha0;subst ha;exact⟨zA i hi ht hQ hw hs h.o⟩
theorem kG (l:List Nat) {p q:Prop} (k:q) (h:q->Mt l p:=by(intro hk;(repeat refine acb ?_);exact Mt.nil hk)):p:=(h k).o
theorem kS (l:List Nat) {p q:Prop} (k:q) (h:q->Mt l p:=by(intro hk;(repeat refine sKN ?_);exact Mt.nil hk)):p:=(h k).o
end
end
section
open Go.Proofs.Tryz
open Go.RowKit ko
theorem VA{p:Prop}(h:p:=by obtain⟨A,c,q,g,j,l⟩:=RL.open_ h;refine⟨A,c,q,g,j,fun i s n=>?_⟩;obtain⟨b,o,m,f,a,_,⟨e,rfl,r⟩,k⟩:=l i s n;have:=k 0 _ rfl;rw[jR] at this;exact⟨b,o,m,f,e,r,this⟩):p:=h
variable {a:List Value} {d:Dy} {lb':Nat} {p:Pl} {t:Tr} {v:Value} {α:Type}
def gV (s:vg):List Value:=[s.1,s.2]
def iH (_:World) (a:List Value) (s:vg):Prop:=a=gV s
def jf (w:World) (a:List Value) (t:Tr):Prop:= ∃v,a=[v]/\RL 2 iH w v t
def PS (w:World) (a:List Value) (d:Dy):Prop:= ∃v,a=[v]/\RL 1 jf w v d
def jP (w:World) (v:Value) (p:Pl):Prop:=RL 1 PS w v p
def Vk (w:World) (v:Value) (p:Pl):Prop:= ∃dv,v=.agg #[dv]/\jP w dv p
section
def fQ.below (h:RL 2 iH w v t) (f:Below B w w') (b:w.heap.size<=B):RL 2 iH w' v t:=RL.below h f b fun _ _ h=>h
def jf.below (h:jf w a t) (f:Below B w w') (b:w.heap.size<=B):jf w' a t:=by obtain⟨v,e,h⟩:=h;exact⟨v,e,fQ.below h f b⟩
def iK.below (h:RL 1 jf w v d) (f:Below B w w') (b:w.heap.size<=B):RL 1 jf w' v d:=RL.below h f b fun _ _ h=>jf.below h f b
def PS.below (h:PS w a d) (f:Below B w w') (b:w.heap.size<=B):PS w' a d:=by obtain⟨v,e,h⟩:=h;exact⟨v,e,iK.below h f b⟩
def jP.below (h:jP w v p) (f:Below B w w') (b:w.heap.size<=B):jP w' v p:=RL.below h f b fun _ _ h=>PS.below h f b
def fQ.open_ (h:RL 2 iH w v t): ∃A c,v=.slice A t c/\t.length<=c/\c<=9223372036854775807/\
  ∀i s,t[i]? =some s-> ∃b o,A=some ⟨b,o,none⟩/\b<w.heap.size/\w.cell? (pA b (o+i*2))=some s.1/\w.cell? (pA b (o+i*2+1))=some s.2:=by
 obtain⟨A,c,q,g,j,l⟩:=RL.open_ h;refine⟨A,c,q,g,j,fun i s n=>?_⟩;obtain⟨b,o,m,f,a,_,rfl,k⟩:=l i s n;exact⟨b,o,m,f,k 0 _ rfl,k 1 _ rfl⟩
def iK.open_ (h:RL 1 jf w v d): ∃A c,v=.slice A d c/\d.length<=c/\c<=9223372036854775807/\
  ∀i t,d[i]? =some t-> ∃b o,A=some ⟨b,o,none⟩/\b<w.heap.size/\ ∃e,RL 2 iH w e t/\w.cell? (pA b (o+i))=some e:=by
 exact VA
def jP.open_ (h:jP w v p): ∃A c,v=.slice A p c/\p.length<=c/\c<=9223372036854775807/\
  ∀i d,p[i]? =some d-> ∃b o,A=some ⟨b,o,none⟩/\b<w.heap.size/\ ∃e,RL 1 jf w e d/\w.cell? (pA b (o+i))=some e:=by
 exact VA
end
def lI (lb:Nat) (es:TypeId) (w:World) (a:List Value) (t:Tr):Prop:= ∃v,a=[v]/\OL lb es 2 iH w v t
def si (lb:Nat) (et es:TypeId) (w:World) (a:List Value) (d:Dy):Prop:= ∃v,a=[v]/\OL lb et 1 (lI lb es) w v d
def ft (lb:Nat) (ed et es:TypeId) (w:World) (v:Value) (p:Pl):Prop:=OL lb ed 1 (si lb et es) w v p
def afL (lb:Nat) (ed et es:TypeId) (w:World) (v:Value) (p:Pl):Prop:= ∃dv,v=.agg #[dv]/\ft lb ed et es w dv p
section
variable {base:Nat} {e':TypeId}
def zQ.below (h:OL lb es 2 iH w v t) (f:Below B w w') (b:w.heap.size<=B):OL lb es 2 iH w' v t:=OL.below h f b fun _ _ h=>h
def lI.below (h:lI lb es w a t) (f:Below B w w') (b:w.heap.size<=B):lI lb es w' a t:=by obtain⟨v,e,h⟩:=h;exact⟨v,e,zQ.below h f b⟩
def tT.below (h:OL lb et 1 (lI lb es) w v d) (f:Below B w w') (b:w.heap.size<=B):OL lb et 1 (lI lb es) w' v d:=OL.below h f b fun _ _ h=>lI.below h f b
def si.below (h:si lb et es w a d) (f:Below B w w') (b:w.heap.size<=B):si lb et es w' a d:=by obtain⟨v,e,h⟩:=h;exact⟨v,e,tT.below h f b⟩
def ft.below (h:ft lb ed et es w v p) (f:Below B w w') (b:w.heap.size<=B):ft lb ed et es w' v p:=OL.below h f b fun _ _ h=>si.below h f b
def zQ.keep (h:OL lb es 2 iH w v t) (b:kQ e' base w w') (g:es≠e'):OL lb es 2 iH w' v t:=OL.keep h b g fun _ _ h=>h
def lI.keep (h:lI lb es w a t) (b:kQ e' base w w') (g:es≠e'):lI lb es w' a t:=by obtain⟨v,e,h⟩:=h;exact⟨v,e,zQ.keep h b g⟩
def tT.keep (h:OL lb et 1 (lI lb es) w v d) (b:kQ e' base w w') (g:et≠e') (j:es≠e'):OL lb et 1 (lI lb es) w' v d:=OL.keep h b g fun _ _ h=>lI.keep h b j
def si.keep (h:si lb et es w a d) (b:kQ e' base w w') (g:et≠e') (j:es≠e'):si lb et es w' a d:=by obtain⟨v,e,h⟩:=h;exact⟨v,e,tT.keep h b g j⟩
def lI.mono (h:lI lb es w a t) (b:lb'<=lb):lI lb' es w a t:=by obtain⟨v,e,h⟩:=h;exact⟨v,e,OL.mono h b⟩
def tT.mono (h:OL lb et 1 (lI lb es) w v d) (b:lb'<=lb):OL lb' et 1 (lI lb' es) w v d:=OL.imp (OL.mono h b) fun _ _ h=>lI.mono h b
def si.mono (h:si lb et es w a d) (b:lb'<=lb):si lb' et es w a d:=by obtain⟨v,e,h⟩:=h;exact⟨v,e,tT.mono h b⟩
def ft.mono (h:ft lb ed et es w v p) (b:lb'<=lb):ft lb' ed et es w v p:=OL.imp (OL.mono h b) fun _ _ h=>si.mono h b
def lI.reads (h:lI lb es w a t):jf w a t:=by obtain⟨v,e,h⟩:=h;exact⟨v,e,OL.reads h fun _ _ h=>h⟩
def tT.reads (h:OL lb et 1 (lI lb es) w v d):RL 1 jf w v d:=OL.reads h fun _ _ h=>lI.reads h
def si.reads (h:si lb et es w a d):PS w a d:=by obtain⟨v,e,h⟩:=h;exact⟨v,e,tT.reads h⟩
def ft.reads (h:ft lb ed et es w v p):jP w v p:=OL.reads h fun _ _ h=>si.reads h
end
def OL.fG {lb:Nat} {e:TypeId} {size:Nat} {O:World->List Value->α->Prop} {L:List α} {p:Addr} (h:OL lb e size O w v L) (b:p.block<lb) (u:Value) (f: ∀a x,O w a x->O (w.setCell p u) a x):OL lb e size O (w.setCell p u) v L:=by obtain⟨c,g,j,l,d⟩:=h;exact⟨c,g,j,jo l b u,fun i x a m k=>f _ _ (d i x a m k)⟩
section
variable {q:Addr}
def zQ.fG (h:OL lb es 2 iH w v t) (b:q.block<lb) (u:Value):OL lb es 2 iH (w.setCell q u) v t:=OL.fG h b u fun _ _ h=>h
def lI.fG (h:lI lb es w a t) (b:q.block<lb) (u:Value):lI lb es (w.setCell q u) a t:=by obtain⟨v,e,h⟩:=h;exact⟨v,e,zQ.fG h b u⟩
def tT.fG (h:OL lb et 1 (lI lb es) w v d) (b:q.block<lb) (u:Value):OL lb et 1 (lI lb es) (w.setCell q u) v d:=OL.fG h b u fun _ _ h=>lI.fG h b u
def si.fG (h:si lb et es w a d) (b:q.block<lb) (u:Value):si lb et es (w.setCell q u) a d:=by obtain⟨v,e,h⟩:=h;exact⟨v,e,tT.fG h b u⟩
def ft.fG (h:ft lb ed et es w v p) (b:q.block<lb) (u:Value):ft lb ed et es (w.setCell q u) v p:=OL.fG h b u fun _ _ h=>si.fG h b u
end
def bL {a:World} (h:Below a a w) (o:Obj):Below a a (w.alloc o):=h.alloc h.size o
def nU:(prog.info? 84).map (fun i=>(i.zero,i.size,i.bytes))=some (some (.agg #[Zo,Zo]),2,16):=kR
def uz:(prog.info? 44).map (fun i=>(i.zero,i.size,i.bytes))=some (some (.agg #[()]),1,24):=kR
def ac8:(prog.info? 39).map (fun i=>(i.zero,i.size,i.bytes))=some (some (.agg #[()]),1,24):=kR
def iC {l:List α} {k:Nat} {a:α} (h:l[k]? =some a):l.take (k+1)=l.take k++[a]:=by rw[gk,h];rfl
end
section
open Go.RowKit ko
def mK (t:Tr):(t.flatMap gV).all (fun u=>u.oneCell')=true:=by
 rw[dT];intro u d;obtain⟨s,_,d⟩:=qR.1 d;simp only[gV,fC,iy,or_false] at d
 rcases d with rfl|rfl <;>rfl
def uI: ∀(t:Tr) (i j:Nat) (s:vg),t[i]? =some s->j<2->(t.flatMap gV)[i*2+j]? =(gV s)[j]?
 | [],i,j,s,h,_=>by simp at h
 |a::t,0,j,s,h,hj=>by
  obtain rfl:a=s:=by simpa using h
  rw[gG,vq,gW,fu (by simpa[gV] using hj)]
 |a::t,i+1,j,s,h,hj=>by rw[gG,fo (by simp[gV];omega),show(i+1)*2+j-(gV a).length=i*2+j by simp[gV];omega];exact uI t i j s (by simpa using h) hj
def fQ.rs {w:World} {v:Value} {t:Tr} (h:RL 2 iH w v t):RS w 2 v t (t.flatMap gV):=by
 obtain⟨A,c,rfl,k,m,n⟩:=h;have f: ∀t:Tr,(t.flatMap gV).length=t.length*2:=by
  intro t
  induction t with
  |nil=>rfl
  |cons a t ih=>rw[gG,fa,ih,ff];simp[gV];omega
 refine⟨A,c,rfl,k,m,f t,fun z=>?_⟩;obtain⟨b,o,p,q,r⟩:=n z;refine⟨b,o,p,q,fun j u d=>?_⟩;have x:=fP d;rw[f] at x;obtain⟨s,g⟩:=ec (l:=t) (i:=j/2) oG;obtain⟨B,_,rfl,y⟩:=r (j/2) s g;have e:(t.flatMap gV)[j]? =(gV s)[j%2]? :=by have:=uI t (j/2) (j%2) s g oG;rw[<-this];congr 1;omega
 rw[e] at d;have:=y (j%2) u d;rw[nm,show j/2*2+j%2=j by omega] at this;exact this
end
section
open Go Go.RowKit
def Hk (w:World):List (TypeId×List Value)->World
 | []=>w
 |(t,c)::l=>Hk (w.alloc (cB t c)) l
def alF (w:World):Nat->List (TypeId×List Value)->Prop
 |_,[]=>True
 |g,(t,c)::l=>fc w g t c/\alF w (g+1) l
def FR: ∀(l:List (TypeId×List Value)) (w:World),Below w w (Hk w l)/\(Hk w l).heap.size=w.heap.size+l.length/\alF (Hk w l) w l
 | [],w=>⟨bS _ _,rfl,trivial⟩
 |(t,c)::l,w=>by obtain⟨a,b,d⟩:=FR l (w.alloc (cB t c));have e:(w.alloc (cB t c)).heap.size=w.heap.size+1:=sI;rw[e] at a b d;exact⟨(bF.alloc lE _).trans (a.mono (iW _)),by rw[Hk,b,ff];omega,(fc.new w t c).below a lS,d⟩
def sk (w:World) (l:List (TypeId×List Value)): ∃w1,Hk w l=w1/\alF w1 w l/\Below w w w1/\w1.heap.size=w.heap.size+l.length:=
 ⟨_,rfl,(FR l w).2.2,(FR l w).1,(FR l w).2.1⟩
end
section
open Go.Proofs.Tryz
open Go.RowKit
theorem VE{p:Prop}(h:p:=by clear c;go_enter func127,ntmps127;go_wp2_with fail;refine(My a b w g i).mono ?_;rintro e w' ⟨rfl,rfl⟩;rw[d.out,P4 d.out];go_wp2;go_ret;rw[f.out];exact⟨rfl,rfl⟩):p:=h
variable {a b z:Int}
def Je (h:a=b):Ending.returned a=.returned b:=by rw[h]
def kO (a c b:Int):Int:=min (max a c) b
def uh (a c b:Int) (w:World):Calls prog 48 #[a,c,b] w fun e w'=>e=.returned (kO a c b)/\w'=w:=by
 by_cases h:a<c
 ·by_cases d:c<=b
  ·have f:Hid (c=kO a c b):=zH (by unfold kO;omega);go_enter func48,ntmps48;go_wp2;go_ret;exact⟨Je f,rfl⟩
  ·have f:Hid (b=kO a c b):=zH (by unfold kO;omega);have g:b<c:=oG;go_enter func48,ntmps48;go_wp2;go_ret;exact⟨Je f,rfl⟩
 ·by_cases d:a<=b
  ·have f:Hid (a=kO a c b):=zH (by unfold kO;omega);have g:c<=a:=oG;go_enter func48,ntmps48;go_wp2;go_ret;exact⟨Je f,rfl⟩
  ·have f:Hid (b=kO a c b):=zH (by unfold kO;omega);have g:b<a:=oG;go_enter func48,ntmps48;go_wp2;go_ret;exact⟨Je f,rfl⟩
def Em (a b:Int):Int:=if 9223372036854775807<a+b then 9223372036854775807 else if a+b < -9223372036854775808 then -9223372036854775808 else a+b
def sE (z:Int):Bool:=decide (-9223372036854775808<=z)&&decide (z<=9223372036854775807)
def afx (h:sE z=true):IntKind.i64.wrap z=z:=by simp only[sE,a6,decide_eq_true_eq] at h;exact iM _ oG
def Ng (z:Int):IntKind.i64.wrap z=if 9223372036854775808<=z%18446744073709551616 then z%18446744073709551616-18446744073709551616 else z%18446744073709551616:=by
 show(if (true&&decide (9223372036854775808<=z%18446744073709551616))=true then z%18446744073709551616-18446744073709551616 else z%18446744073709551616)=_;rw[kh];by_cases h:9223372036854775808<=z%18446744073709551616
 ·rw[if_pos (decide_eq_true h),if_pos h]
 ·rw[if_neg (by simpa using h),if_neg h]
def Ps (h:9223372036854775807<z) (d:z<=18446744073709551614):IntKind.i64.wrap z=z-18446744073709551616:=by rw[Ng];split <;>omega
def Me (h:z < -9223372036854775808) (d: -18446744073709551616<=z):IntKind.i64.wrap z=z+18446744073709551616:=by rw[Ng];split <;>omega
def P3 (a b:Int):Int:=if sE (a+b) then a+b else 0
def P5 (h:sE (a+b)=true):P3 a b=a+b:=by unfold P3;rw[if_pos h]
def P4 (h:sE (a+b)=false):P3 a b=0:=by unfold P3;rw[h];rfl
def My (a b:Int) (w:World) (g: -9223372036854775808<=a/\a<=9223372036854775807) (i: -9223372036854775808<=b/\b<=9223372036854775807):
  Calls prog 163 #[a,b] w fun e w'=>e=.returned (.tuple #[(P3 a b),.bool (sE (a+b))])/\w'=w:=by
 obtain⟨s,k⟩:=nR (IntKind.i64.wrap (a+b));by_cases c:sE (a+b)=true
 ·have h:=c;simp only[sE,a6,decide_eq_true_eq] at h;have e:s=a+b:=by rw[<-k];exact afx c
  obtain⟨d,f⟩:=Zb c e;have j:(decide (s<a)==decide (b<0))=true:=by rw[beq_iff_eq,decide_eq_decide];omega
  clear c h e;go_enter func163,ntmps163;go_wp2
  go_ret2
  rw[d.out,P5 d.out,<-f.out];exact⟨rfl,rfl⟩
 ·have c:sE (a+b)=false:=by simpa using c
  have d:=zH c;have h:a+b < -9223372036854775808\/9223372036854775807<a+b:=by simp only[sE,pZ,decide_eq_false_iff_not] at c;omega
  have j:(decide (s<a)==decide (b<0))=false:=by
   rw[beq_eq_false_iff_ne,ne_eq,decide_eq_decide]
   rcases h with h|h
   ·have e:=Me h oG;omega
   ·have e:=Ps h oG;omega
  clear c h;go_enter func163,ntmps163;go_wp2
  go_ret2
  rw[d.out,P4 d.out];exact⟨rfl,rfl⟩
def WE (h:sE (a+b)=true):Em a b=a+b:=by simp only[sE,a6,decide_eq_true_eq] at h;unfold Em;rw[if_neg oG,if_neg oG]
def M4 (a b:Int) (w:World) (g: -9223372036854775808<=a/\a<=9223372036854775807) (i: -9223372036854775808<=b/\b<=9223372036854775807):
  Calls prog 127 #[a,b] w fun e w'=>e=.returned (Em a b)/\w'=w:=by
 by_cases c:sE (a+b)=true
 ·have d:=zH c;clear c;go_enter func127,ntmps127;go_wp2_with fail;refine(My a b w g i).mono ?_;rintro e w' ⟨rfl,rfl⟩;rw[d.out,P5 d.out];go_wp2;go_ret;rw[WE d.out];exact⟨rfl,rfl⟩
 ·have c:sE (a+b)=false:=by simpa using c
  have d:=zH c;simp only[sE,pZ,decide_eq_false_iff_not] at c;by_cases h:b<0
  ·have f:Hid (Em a b= -9223372036854775808):=zH (by unfold Em;rw[if_neg oG,if_pos oG]);exact VE
  ·have f:Hid (Em a b=9223372036854775807):=zH (by unfold Em;rw[if_pos oG]);have j:0<=b:=oG;exact VE
end
section
open Go.Proofs.Tryz
open Go.RowKit
def me (l:List Int):Int:=l.foldl (fun s z=>wrap64 (s+z)) 0
def AQ (l:List Int) (z:Int):me (l++[z])=wrap64 (me l+z):=by unfold me;rw[nW];rfl
def wQ {l:List Int} {i:Nat} {z:Int} (h:l[i]? =some z):me (l.take (i+1))=wrap64 (me (l.take i)+z):=by rw[gk,h,lY,AQ]
def QD (f g:Int) (C:Value) (h j k m a:Int) (v:Value) (l:List Int) (w:World) (G: ∃A n c,C=.slice A n c) (B:gx w .i64 v l):
  Calls prog 91 #[.agg #[f,g,C,h,j,k,m,a],v] w fun e w'=>e=.returned (wrap64 (a*me l))/\Below w w w':=by
 obtain⟨p,t,c0,rfl⟩:=G;obtain⟨A,c,rfl,I,J,x⟩:=B.open_;have D:=zH x;clear B x;go_enter func91,ntmps91;go_wp2_with fail;have d:=(bS w w).alloc lE (cB 47 [f,g,.slice p t c0,h,j,k,m,a]);have u:=fc.new w 47 [f,g,.slice p t c0,h,j,k,m,a];have c7:=u.c 7;clear u;go_loopw [5,10] (fun H s wr=> ∃i:Nat,i<=l/\s=.int .i64 i/\H=.int .i64 (me (l.take i))/\wr=w.alloc (cB 47 [f,g,.slice p t c0,h,j,k,m,a])) (fun _ s _=>l.length-(intOf s).toNat)
 case atStart=>exact⟨0,eC _,rfl,rfl,rfl⟩
 case round=>
  obtain⟨i,K,rfl,rfl,rfl⟩:=hrel;by_cases q:i<l
  ·obtain⟨z,r⟩: ∃z,l[i]? =some z:=⟨_,fp q⟩;obtain⟨b,o,rfl,F,y⟩:=D i z r;have L:=((xi d).1 b (o+i) F).trans y;have E:=zH (wQ r);clear r y;go_wp2_with fail;go_roundw
   case rel=>exact⟨i+1,oG,by go_num,by rw[E.out],by first|rfl|trivial⟩
   case measure=>exact mI
  ·obtain rfl:i=l.length:=oG;go_wp2_with fail;go_ret;rw[gh];exact⟨rfl,d⟩
def M8:(prog.info? 9).map (fun i=>(i.zero,i.size,i.bytes))=some (some (.string ByteArray.empty),1,16):=kR
def ix (a b:Int):Int:=if a%b=0 then a/b else a/b+1
def afc {a b:Int} (h:a=b):Ending.returned (.tuple #[a,true])=.returned (.tuple #[b,true]):=by rw[h]
def ado (a b:Int) (w:World) (c:0<=a) (d:a<=4611686018427387904) (f:1<=b) (g:b<=9223372036854775807):
  Calls prog 161 #[a,b] w fun e w'=>e=.returned (.tuple #[(ix a b),true])/\w'=w:=by
 have h:(b==0)=false:=by rw[beq_eq_false_iff_ne];omega
 have i:(a== -9223372036854775808)=false:=by rw[beq_eq_false_iff_ne];omega
 have j: ¬b=0:=oG;have k:decide (a<0)=false:=decide_eq_false oG;have l:decide (b<0)=false:=decide_eq_false oG;go_enter func161,ntmps161;go_wp2;all_goals go_ret2
 ·exact⟨afc (by unfold ix;rw[if_pos (by assumption)]),rfl⟩
 ·refine⟨afc ?_,rfl⟩;have m:=Int.ediv_le_self b c;have n:=aap c (show 0<=b by omega);show wrap64 (a/b+1)=ix a b;unfold ix;rw[if_neg (by assumption)];unfold wrap64;omega
end
section
open jm
def gw (c:kc) (n:Int):Int:=max (c.jU*n-c.start) 0
def dd (c:kc) (n:Int):Int:=if gw c n=0 then 0 else min (ix (gw c n) c.size) n
def fe:Int->Nat->Int
 |_,0=>0
 |s,k+1=>max (s-1) 0+fe (s-1) k
def pe (x:fS) (c:kc) (a b:Int):Int:=dd c x.days*(a+b)+c.hold*fe c.start x.days.toNat
def acw: ∀(k:Nat) (s:Int),fe s (k+1)=fe s k+max (s-(k+1)) 0
 |0,s=>by simp[fe]
 |k+1,s=>by rw[fe,acw k (s-1),fe];have:s-1-((k:Int)+1)=s-(((k+1:Nat):Int)+1):=oG;rw[this];omega
def acv: ∀(k:Nat) {s t:Int},s<=t->fe s k<=fe t k
 |0,s,t,_=>ui _
 |k+1,s,t,h=>by have:=acv k (show s-1<=t-1 by omega);rw[fe,fe];omega
def LC: ∀(k:Nat) (s:Int),0<=fe s k
 |0,s=>ui _
 |k+1,s=>by have:=LC k (s-1);rw[fe];omega
def LA: ∀(k:Nat) (s:Int),s<=2147483648->0<=fe s k/\fe s k<=2147483648*k
 |0,s,_=>by simp[fe]
 |k+1,s,h=>by have:=LA k (s-1) oG;rw[fe];omega
def aaM {m s:Int} (h:0<=m) (a:1<=s):0<=ix m s:=by have:=aap h (show 0<=s by omega);unfold ix;split <;>omega
end
section
open Go.Proofs.Tryz
open Go.RowKit
def SD (z:Int):0<=IntKind.u64.wrap z/\IntKind.u64.wrap z<=18446744073709551615:=by have e:IntKind.u64.wrap z=z%18446744073709551616:=rfl;rw[e];omega
def SC (c:BinOp) (a b:Int):0<=bits c .u64 a b/\bits c .u64 a b<=18446744073709551615:=by unfold bits;exact SD _
def SO (b:Nat) (st:Int) (w:World) (c:fc w b 188 [.int .u64 st]):
  Calls prog 130 #[.pointer b] w fun e w'=> ∃z a:Int,e=.returned (.int .u64 z)/\(0<=z/\z<=18446744073709551615)/\w'=w.setCell b (.int .u64 a):=by
 have c0:=c.c 0;have f:=c.frozen 0;have d:=c.gH 0 (.int .u64 (IntKind.u64.wrap (st+11400714819323198485)));have c1:=d.cell 0;simp only[fJ,fK] at c1;go_enter func130,ntmps130;go_wp2;go_ret;exact⟨_,_,rfl,SC _ _ _,rfl⟩
def EA (b:Nat) (st n:Int) (w:World) (c:fc w b 188 [.int .u64 st]) (q:n<=9223372036854775807):
  Calls prog 82 #[.pointer b,n] w fun e w'=> ∃k:Int,e=.returned k/\(1<=n->0<=k/\k<n)/\(n<1->k=0)/\(w'=w\/ ∃a:Int,w'=w.setCell b (.int .u64 a)):=by
 by_cases h:n<1
 ·have d:=zH h;go_enter func82,ntmps82;go_wp2;go_ret;exact⟨0,rfl,fun f=>absurd f (by have:=d.out;omega),fun _=>rfl,.inl rfl⟩
 ·have i:1<=n:=oG;have d:=zH i;have p:IntKind.u64.wrap n=n:=by show n%18446744073709551616=n;omega
  have g: ¬n=0:=oG;clear h;go_enter func82,ntmps82;go_wp2_with fail;refine(SO b st w c).mono ?_;rintro e r ⟨z,a,rfl,m,rfl⟩;have o:=zH m;go_wp2;go_ret;have f:=vf z g;have j:=rQ z (show 0<n by omega);have l:wrap64 (z%n)=z%n:=by unfold wrap64;omega
  exact⟨z%n,Je l,fun _=>⟨f,j⟩,fun h=>by have:=d.out;omega,.inr ⟨a,rfl⟩⟩
open Go.RowKit ko
def acp (v:Value) (p:Pl) (w:World) (hp:Vk w v p) (ag:p.length<=64/\(∀d∈p,d.length<=6)/\ ∀d∈p,∀t∈d,t.length<=8):
  Calls prog 176 #[v] w fun e w'=> ∃v',e=.returned v'/\afL w 39 44 84 w' v' p/\Below w w w':=by
 obtain⟨dv,rfl,Q⟩:=hp;obtain⟨A,c,rfl,h1,h2,D⟩:=jP.open_ Q;obtain⟨HD,O⟩:=Zb D ag;clear Q D ag;go_enter func176,ntmps176;go_wp2_with fail;go_loopw [12] (fun T wr=> ∃(k:Nat) (ov:Value),k<=p/\T=.int .i64 k/\fc wr (w+1) 30 [()]/\fc wr (w+1+1) 30 [ov]/\
   Hid (ft (w+1+1+1) 39 44 84 wr ov (p.take k))/\Below w w wr) (fun T _=>p.length-(intOf T).toNat)
 case atStart=>refine⟨0,(),eC _,rfl,(fc.fW _ _ _ sI).alloc _,fc.fW _ _ _ sI,OL.jL _ _ _ _ _,?_⟩;exact bL (bL (bL bF _) _) _
 case round=>
  obtain⟨k,ov,hk,rfl,C,P,HO,h⟩:=hrel;have z1:=C.lt;have z2:=P.lt;have aD:=O.1;by_cases au:k<p
  ·obtain⟨d,Q⟩:=ec au;obtain⟨b,o,rfl,hb,tv,ai,m⟩:=HD k d Q;obtain⟨A2,c2,rfl,g1,g2,ae⟩:=iK.open_ ai;have c1:wr.cell? (pA b (o+k))=some (.slice A2 d c2):=a7 h lE m;have aB:=bP hb h.size;obtain⟨HT,HX⟩:=Zb ae Q;have aC:=O.2.1 d (a8 Q);obtain⟨u,aw⟩:=nE (wr:World);subst aw;clear Q m ai ae;go_wp2_with fail;go_loopw [19] (fun T wr=> ∃(j:Nat) (dv:Value),j<=d/\T=.int .i64 j/\fc wr (u+1) 39 [dv]/\
     Hid (OL (u+1+1) 44 1 (lI (u+1+1) 84) wr dv (d.take j))/\Below u u wr) (fun T _=>d.length-(intOf T).toNat)
   case atStart=>exact⟨0,(),eC _,rfl,fc.fW _ _ _ sI,OL.jL _ _ _ _ _,bL (bL bF _) _⟩
   case round=>
    obtain⟨j,dv,hj,rfl,z,X,f⟩:=hrel;have y0:=z.lt;have yz:=f.size;by_cases af:j<d
    ·obtain⟨t,ht⟩:=ec af;obtain⟨b2,o2,rfl,G,sv,S,m⟩:=HT j t ht;obtain⟨H,c3,rfl,g3,g4,-⟩:=fQ.open_ S;have x2:wr.cell? (pA b2 (o2+j))=some (.slice H t c3):=a7 f lE (a7 h lE m);have aE:=O.2.2 d (a8 HX) t (a8 ht);have ak:=zH ht;have az:=bP (bP G h.size) yz;obtain⟨F,ax⟩:=nE (wr:World);subst ax;have aj:=zH (fQ.rs (fQ.below (fQ.below (fQ.below S h lE) f lE) ((bL (bS F F) (cB 44 [.slice H t c3])).drew) lE));have ah:t.length<=1000000000:=oG;have aq:j<=1000000000:=oG;have l:u.heap.size+1+1<=F.heap.size:=oG;obtain⟨Z,U,r2,V,r4⟩:=X.out;have r:(d.take j).length=j:=by rw[fB];omega
     rw[r] at U V;obtain⟨L,M,N,J⟩:=Zd U r2 r4 r;clear ht m S U r2 r4 r;go_wp2_with fail;refine rL (fun wS=>wS.cell? (pB (u+1))=some dv/\wS.cell? F=some (.slice H t c3)) [7,8,9] kR ?_ (fun hS=>?_)
     ·exact⟨((z.alloc (cB 44 [.slice H t c3])).drew).cell 0,((fc.new F 44 [.slice H t c3]).drew).cell 0⟩
     refine kL [0] ?_;refine lZ 1 (v:=?_) rfl kR jF (by rfl) ?_ hS ?_;rotate_left
     ·intro wS hSw
      (try dsimp only at hSw)
      have D:=hSw.1;go_simp;try with_reducible rfl
     refine pU ?_;refine kL [2] ?_;refine lZ 3 (v:=?_) rfl kR jF (by rfl) ?_ hS ?_;rotate_left
     ·intro wS hSw
      (try dsimp only at hSw)
      have D:=hSw.2;go_simp;try with_reducible rfl
     refine pU ?_;refine tO 4 fun K y=>?_;refine BU _ _ _ _ (by rfl) 84 _ 2 16 underlying42 nU rfl dE dE H t c3 (t.flatMap gV) (by rfl) (by rfl) aj (mK t) ah ?_;intro aF w2 E G;obtain⟨Aq,cq,rfl,-⟩:=RS.jh E;have n:Below F F w2:=(bL (bS F F) (cB 44 [.slice H t.length c3])).drew.trans (G.mono (show F.heap.size<=_ by simp));have t2:=((fc.new F 44 [.slice H t c3]).drew).below G sI;have d2:=z.below n z.lt;refine y _ _ ⟨d2.cell 0,t2.cell 0⟩ ?_;refine tO 5 fun K y=>?_;go_simp;refine y _ _ ⟨d2.cell 0,t2.cell 0⟩ ?_;refine tO 6 fun K y=>?_;go_simp;refine y _ _ ⟨(d2.alloc _).cell 0,(t2.alloc _).cell 0⟩ ?_;refine tL 7 fun K y=>?_;refine ma w2 _ _ _ (by rfl) (u+1+1) 44 _ 1 24 underlying37 uz rfl dE dE _ _ _ (jq V n lE) (by rfl) [.slice Aq t cq] _ (by rfl) rfl rfl aq (eZ l n.size) ?_;intro g cap w5 R an ao q ay;have s:=q.below (eZ l n.size);have d5:=d2.below s lS;refine y _ _ ?_;refine tL 8 fun K y=>?_;go_simp;refine y _ _ ?_;refine tL 9 fun K y=>?_;have e5:=d5.c 0;have f5:w5.frozen? (pB (u+1))=false:=d5.frozen 0;go_simp;refine y _ _ ?_;refine tD ?_;go_wp2;go_roundw
     case rel=>
      refine⟨j+1,.slice g (j+1) cap,oG,by go_num,d5.gH 0 _,?_,?_⟩
      ·rw[iC ak.out];refine tT.fG (OL.push J L M rfl R (fun a x W hx D=>lI.keep (lI.below (N a x W hx D) n lE) q dE) ⟨_,rfl,zQ.keep ?_ q dE⟩) lS _;exact⟨t.map gV,by simp,fun W al=>by obtain⟨x,_,rfl⟩:=cy.1 al;rfl,by rw[<-zG];exact kZ E sO,fun i x W hx D=>by rw[fh,hx] at D;exact(by simpa using D:gV x=W).symm⟩
      ·exact((f.trans (n.mono yz)).trans (s.mono oG)).setCell (p:=pB (u+1)) (iW _) _
     case measure=>exact mI
    ·obtain rfl:j=d.length:=oG;have Y:Hid (OL (u+1+1) 44 1 (lI (u+1+1) 84) wr dv d):=by have:=X.out;rw[gh] at this;exact this
     obtain⟨Z,q1,q2,q3,q4⟩:=Y.out;obtain⟨Av,cv,rfl,-⟩:=RS.jh q3;obtain⟨aA,U,r2,V,r4⟩:=HO.out;have r:(p.take k).length=k:=by rw[fB];omega
     rw[r] at U V;replace V:=jq V f lE;obtain⟨L,M,N,J⟩:=Zd U r2 r4 r;have I:=P.below f z2;have aa:=C.below f z1;have d3:=I.c 0;have d4:=z.c 0;have ar:k<=1000000000:=oG;have l:w.heap.size+1+1+1<=wr.heap.size:=oG;clear U r2 r4 r q1 q2 q3 q4;go_wp2_with (at_builtin;refine iD _ rfl (.tmp 34) (.tmp 36) 28 rfl (w+1+1+1) 39 _ 1 24 underlying28 ac8 rfl dE dE _ _ _ V rfl [.slice Av d cv] _ rfl rfl rfl ar l ?_;intro g cap w5 R an ao q ay;have s:=q.below l;have B:=I.below s lS;have e5:w5.cell? (pB (w+1+1))=some ov:=B.cell 0;have f5:w5.frozen? (pB (w+1+1))=false:=B.frozen 0);go_roundw
     case rel=>
      refine⟨k+1,.slice g (k+1) cap,oG,by go_num,(aa.below s oG).kj (p:=pB (w+1+1)) dO _,B.gH 0 _,?_,?_⟩
      ·rw[iC HX.out];exact ft.fG (OL.push J L M rfl R (fun a x W hx D=>si.keep (si.below (N a x W hx D) f lE) q dE dE) ⟨_,rfl,tT.mono (tT.keep Y q dE dE) oG⟩) lS _
      ·exact((h.trans (f.mono h.size)).trans (s.mono oG)).setCell (p:=pB (w+1+1)) dO _
     case measure=>exact mI
  ·obtain rfl:k=p.length:=oG;rw[gh] at HO;have d3:=P.c 0;have d4:wr.frozen? (pB (w+1))=false:=C.frozen 0;have d5:=C.c 0;obtain⟨Z,q1,q2,q3,q4⟩:=HO.out;obtain⟨Av,cv,rfl,-⟩:=RS.jh q3;clear q1 q2 q3 q4;go_wp2;refine bodyPost_ret (v:=.agg #[.slice Av p cv]) (ia rfl _ _ (w+1) 30 [.slice Av p cv] _ rfl (C.gH 0 _) underlying30 rfl kR) rfl ⟨_,rfl,⟨_,rfl,ft.mono (ft.fG HO dO _) oG⟩,?_⟩;exact h.setCell (p:=pB (w+1)) dO _
end
end Go.Proofs.YtgimnjldndkalaaGreatDoor
