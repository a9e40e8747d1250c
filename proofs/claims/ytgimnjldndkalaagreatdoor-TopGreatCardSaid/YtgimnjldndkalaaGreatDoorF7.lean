/- Of the proof of TopGreat: Lists of the call's own, by their element's type: numbers, stops, visits, tours, days;. -/
import Derived.Test.YtgimnjldndkalaaGreatDoorF5
import Derived.Test.YtgimnjldndkalaaGreatDoorF6
import Derived.Test.YtgimnjldndkalaaGreatDoorF16
set_option linter.all false
set_option maxHeartbeats 1600000
set_option maxRecDepth 100000
namespace Go.Proofs.YtgimnjldndkalaaGreatDoor
variable {lb:Nat} {v:Value} {w w':World}
section
open Go.Proofs.Tryz
open Go.RowKit jm ko kN
theorem MO{p:Prop}(h:p:=by obtain⟨A,c,a,f,j,-⟩:=RS.jh h;exact⟨A,c,a,f,by simpa[maxLen] using j⟩):p:=h
theorem afA{p:Prop}(h:p:=by obtain⟨b,n⟩:=OL.own h;obtain⟨A,c,a,f,j,-⟩:=RS.jh n;exact⟨A,c,a,f,by simpa[maxLen] using j⟩):p:=h
variable {c q:Nat} {d:Dy} {l:List Int} {t:Tr}
def Ga:(prog.info? 3).map (fun i=>(i.zero,i.size,i.bytes))=some (some (.int .i64 0),1,8):=kR
def UN:(prog.info? 86).map (fun i=>(i.zero,i.size,i.bytes))=some (some (.agg #[Zo,Zo]),2,16):=kR
def TF:(prog.info? 48).map (fun i=>(i.zero,i.size,i.bytes))=some (some (.int .i64 0),1,8):=kR
inductive ug (w:World) (e:Ending) (w':World):Prop
 |mk (b:Bool) (he:e=.returned b) (hb:Below w w w')
inductive yy (w:World) (e:Ending) (w':World):Prop
 |mk (z:Int) (he:e=.returned (.int .i64 z)) (hb:Below w w w')
def OI (lb:Nat) (w:World) (v:Value) (l:List Int):Prop:=w.ownsRow lb 3 1 v l (l.map (.int .i64))
def OE (lb:Nat) (w:World) (v:Value) (l:List Int):Prop:=w.ownsRow lb 48 1 v l (l.map (.int .i64))
def OS (lb:Nat) (w:World) (v:Value) (t:Tr):Prop:=w.ownsRow lb 84 2 v t (t.flatMap gV)
def OV (lb:Nat) (w:World) (v:Value) (t:List (Int×Int)):Prop:=w.ownsRow lb 86 2 v t (t.flatMap gV)
def OT (lb:Nat) (w:World) (v:Value) (d:Dy):Prop:=OL lb 44 1 (lI lb 84) w v d
def OD (lb:Nat) (w:World) (v:Value) (p:Pl):Prop:=ft lb 39 44 84 w v p
section
variable {lb' B base:Nat} {e':TypeId}
def OI.jL (lb:Nat) (w:World):OI lb w () []:=gL _ _ _ _
def OE.jL (lb:Nat) (w:World):OE lb w () []:=gL _ _ _ _
def OS.jL (lb:Nat) (w:World):OS lb w () []:=gL _ _ _ _
def OV.jL (lb:Nat) (w:World):OV lb w () []:=gL _ _ _ _
def OT.jL (lb:Nat) (w:World):OT lb w () []:=OL.jL _ _ _ _ _
def OI.below (h:OI lb w v l) (b:Below B w w') (a:w.heap.size<=B):OI lb w' v l:=jq h b a
def OE.below (h:OE lb w v l) (b:Below B w w') (a:w.heap.size<=B):OE lb w' v l:=jq h b a
def OS.below {l:Tr} (h:OS lb w v l) (b:Below B w w') (a:w.heap.size<=B):OS lb w' v l:=jq h b a
def OV.below {l:List (Int×Int)} (h:OV lb w v l) (b:Below B w w') (a:w.heap.size<=B):OV lb w' v l:=jq h b a
def OT.below {l:Dy} (h:OT lb w v l) (b:Below B w w') (a:w.heap.size<=B):OT lb w' v l:=tT.below h b a
def OD.below {l:Pl} (h:OD lb w v l) (b:Below B w w') (a:w.heap.size<=B):OD lb w' v l:=ft.below h b a
def OI.mono (h:OI lb w v l) (a:lb'<=lb):OI lb' w v l:=kZ h a
def OS.mono {l:Tr} (h:OS lb w v l) (a:lb'<=lb):OS lb' w v l:=kZ h a
def OV.mono {l:List (Int×Int)} (h:OV lb w v l) (a:lb'<=lb):OV lb' w v l:=kZ h a
def OT.mono {l:Dy} (h:OT lb w v l) (a:lb'<=lb):OT lb' w v l:=tT.mono h a
def OI.keep (h:OI lb w v l) (b:kQ e' base w w') (a:3≠e'):OI lb w' v l:=b.own h a
def OE.keep (h:OE lb w v l) (b:kQ e' base w w') (a:48≠e'):OE lb w' v l:=b.own h a
def OS.keep {l:Tr} (h:OS lb w v l) (b:kQ e' base w w') (a:84≠e'):OS lb w' v l:=b.own h a
def OT.keep {l:Dy} (h:OT lb w v l) (b:kQ e' base w w') (f:44≠e') (j:84≠e'):OT lb w' v l:=tT.keep h b f j
def OI.alloc (h:OI lb w v l) (o:Obj):OI lb (w.alloc o) v l:=He h o
def OS.alloc {l:Tr} (h:OS lb w v l) (o:Obj):OS lb (w.alloc o) v l:=He h o
def OT.alloc {l:Dy} (h:OT lb w v l) (o:Obj):OT lb (w.alloc o) v l:=OT.below h ((bS _ w).alloc lE o) lE
def OS.fG {q:Addr} {l:Tr} (h:OS lb w v l) (a:q.block<lb) (u:Value):OS lb (w.setCell q u) v l:=jo h a u
def OI.fG {q:Addr} (h:OI lb w v l) (a:q.block<lb) (u:Value):OI lb (w.setCell q u) v l:=jo h a u
def OT.fG {q:Addr} {l:Dy} (h:OT lb w v l) (a:q.block<lb) (u:Value):OT lb (w.setCell q u) v l:=tT.fG h a u
def OS.drewN {l:Tr} (h:OS lb w v l) (n:Nat):OS lb (w.drewN n) v l:=h
def OI.slice (h:OI lb w v l): ∃A c,v=.slice A l c/\l.length<=c/\c<=9223372036854775807:=by exact MO
def OE.slice (h:OE lb w v l): ∃A c,v=.slice A l c/\l.length<=c/\c<=9223372036854775807:=by exact MO
def OS.slice {l:Tr} (h:OS lb w v l): ∃A c,v=.slice A l c/\l.length<=c/\c<=9223372036854775807:=by exact MO
def OV.slice {l:List (Int×Int)} (h:OV lb w v l): ∃A c,v=.slice A l c/\l.length<=c/\c<=9223372036854775807:=by exact MO
def OI.reads (h:OI lb w v l):gx w .i64 v l:=RS.jh h
def mG (t:List (Int×Int)):(t.flatMap gV).length=t.length*2:=by
 induction t with
 |nil=>rfl
 |cons a t ih=>rw[gG,fa,ih,ff];simp[gV];omega
def OS.ol (h:OS lb w v t):OL lb 84 2 iH w v t:=
 ⟨t.map gV,by simp,fun l a=>by obtain⟨x,_,rfl⟩:=cy.1 a;rfl,by rw[<-zG];exact h,fun i x l n z=>by rw[fh,n] at z;exact(by simpa using z:gV x=l).symm⟩
def OS.reads (h:OS lb w v t):RL 2 iH w v t:=OL.reads h.ol fun _ _ h=>h
def OV.reads {t:List (Int×Int)} (h:OV lb w v t):RL 2 iH w v t:=by refine OL.reads (lb:=lb) (e:=86) ⟨t.map gV,by simp,fun l a=>by obtain⟨x,_,rfl⟩:=cy.1 a;rfl,by rw[<-zG];exact h,fun i x l n z=>?_⟩ fun _ _ h=>h;rw[fh,n] at z;exact(by simpa using z:gV x=l).symm
def OT.reads (h:OT lb w v d):RL 1 jf w v d:=tT.reads h
def OD.reads {p:Pl} (h:OD lb w v p):jP w v p:=ft.reads h
end
section
variable {ops:Array Oper} {rest:List Oper} {o:Oper} {a:Act} {Q:Exit->Act->World->Prop}
def qu (w:World) (m:o.guard=none) (s x:Operand) (C:o.op=.call {callee:=.builtin .append,args:= #[s,x],argTypes:= #[26,26]})
  (base:Nat) (v:Value) (l:List Int) (e:OI base w v l) (D:a.eval s=v) (z:Int) (n:a.eval x=.slice q 1 c) (k:q=w) (B:l.length<=1000000000) (b:base<=w)
  (h: ∀g cap w',OI base w' (.slice (pB g) (l+1) cap) (l++[z])->base<=g->g<w'.heap.size->kQ 3 base w w'->w.heap.size<w'->
   wpList prog ops Q rest (a.put o.dst (.slice g (l+1) cap)) w'):wpList prog ops Q (o::rest) a (w.alloc (cB 3 [Value.int .i64 z])):=
 iD w m s x 26 C base 3 _ 1 8 underlying26 Ga rfl dE dE v l.length _ e D [z] _ (by rw[n,k]) rfl rfl B b
  fun g cap w' f j r y d=>h g cap w' (by unfold OI;rw[fa,gJ];exact f) j r y d
def Tp (w:World) (m:o.guard=none) (s x:Operand) (C:o.op=.call {callee:=.builtin .append,args:= #[s,x],argTypes:= #[232,232]})
  (base:Nat) (v:Value) (l:List Int) (e:OE base w v l) (D:a.eval s=v) (z:Int) (n:a.eval x=.slice q 1 c) (k:q=w) (B:l.length<=1000000000) (b:base<=w)
  (h: ∀g cap w',OE base w' (.slice (pB g) (l+1) cap) (l++[z])->base<=g->g<w'.heap.size->kQ 48 base w w'->w.heap.size<w'->
   wpList prog ops Q rest (a.put o.dst (.slice g (l+1) cap)) w'):wpList prog ops Q (o::rest) a (w.alloc (cB 48 [Value.int .i64 z])):=
 iD w m s x 232 C base 48 _ 1 8 underlying232 TF rfl dE dE v l.length _ e D [z] _ (by rw[n,k]) rfl rfl B b
  fun g cap w' f j r y d=>h g cap w' (by unfold OE;rw[fa,gJ];exact f) j r y d
def P7 (w:World) (m:o.guard=none) (s x:Operand) (C:o.op=.call {callee:=.builtin .append,args:= #[s,x],argTypes:= #[42,42]})
  (base:Nat) (v:Value) (l:Tr) (e:OS base w v l) (D:a.eval s=v) (z i:Int) (n:a.eval x=.slice q 1 c) (k:q=w) (B:l.length<=1000000000) (b:base<=w)
  (h: ∀g cap w',OS base w' (.slice (pB g) (l+1) cap) (l++[(z,i)])->base<=g->g<w'.heap.size->kQ 84 base w w'->w.heap.size<w'->
   wpList prog ops Q rest (a.put o.dst (.slice g (l+1) cap)) w'):wpList prog ops Q (o::rest) a (w.alloc (cB 84 [Value.int .i64 z,i])):=
 iD w m s x 42 C base 84 _ 2 16 underlying42 nU rfl dE dE v l.length _ e D [z,i] _ (by rw[n,k]) rfl rfl B b
  fun g cap w' f j r y d=>h g cap w' (by unfold OS;rw[fa,fU];exact f) j r y d
def Tq (w:World) (m:o.guard=none) (s x:Operand) (C:o.op=.call {callee:=.builtin .append,args:= #[s,x],argTypes:= #[52,52]})
  (base:Nat) (v:Value) (l:List (Int×Int)) (e:OV base w v l) (D:a.eval s=v) (z i:Int) (n:a.eval x=.slice q 1 c) (k:q=w) (B:l.length<=1000000000) (b:base<=w)
  (h: ∀g cap w',OV base w' (.slice (pB g) (l+1) cap) (l++[(z,i)])->base<=g->g<w'.heap.size->kQ 86 base w w'->w.heap.size<w'->
   wpList prog ops Q rest (a.put o.dst (.slice g (l+1) cap)) w'):wpList prog ops Q (o::rest) a (w.alloc (cB 86 [Value.int .i64 z,i])):=
 iD w m s x 52 C base 86 _ 2 16 underlying52 UN rfl dE dE v l.length _ e D [z,i] _ (by rw[n,k]) rfl rfl B b
  fun g cap w' f j r y d=>h g cap w' (by unfold OV;rw[fa,fU];exact f) j r y d
def OL.own {α:Type} {e:TypeId} {size:Nat} {O:World->List Value->α->Prop} {L:List α} (h:OL lb e size O w v L): ∃b,w.ownsRow lb e size v L b:=by obtain⟨G,_,_,r,_⟩:=h;exact⟨_,r⟩
def OT.slice (h:OT lb w v d): ∃A c,v=.slice A d c/\d.length<=c/\c<=9223372036854775807:=by exact afA
def OD.slice {d:Pl} (h:OD lb w v d): ∃A c,v=.slice A d c/\d.length<=c/\c<=9223372036854775807:=by exact afA
def yA (w:World) (m:o.guard=none) (s x:Operand) (C:o.op=.call {callee:=.builtin .append,args:= #[s,x],argTypes:= #[37,37]})
  (base:Nat) (v:Value) (d:Dy) (e:OT base w v d) (D:a.eval s=v) (p:Value) (t:Tr) (H:OS base w p t) (n:a.eval x=.slice q 1 c) (k:q=w) (B:d.length<=1000000000) (b:base<=w)
  (h: ∀g cap w',OT base w' (.slice (pB g) (d+1) cap) (d++[t])->base<=g->g<w'.heap.size->kQ 44 base w w'->w.heap.size<w'->
   wpList prog ops Q rest (a.put o.dst (.slice g (d+1) cap)) w'):wpList prog ops Q (o::rest) a (w.alloc (cB 44 [p])):=by
 have F:[p].all (fun u=>u.oneCell')=true:=by obtain⟨A,c,rfl,-⟩:=H.slice;rfl
 obtain⟨G,f,j,r,y⟩:=e;exact iD w m s x 37 C base 44 _ 1 24 underlying37 uz rfl dE dE v d.length _ r D [p] _ (by rw[n,k]) rfl F B b
  fun g cap w' I J K E L=>h g cap w' (OL.push rfl f j rfl I (fun i x l n z=>lI.keep (y i x l n z) E dE) ⟨p,rfl,OS.ol (H.keep E dE)⟩) J K E L
def afp (w:World) (m:o.guard=none) (s x:Operand) (C:o.op=.call {callee:=.builtin .append,args:= #[s,x],argTypes:= #[28,28]})
  (base:Nat) (v:Value) (p:Pl) (e:OD base w v p) (D:a.eval s=v) (dv:Value) (d:Dy) (H:OT base w dv d) (n:a.eval x=.slice q 1 c) (k:q=w) (B:p.length<=1000000000) (b:base<=w)
  (h: ∀g cap w',OD base w' (.slice (pB g) (p+1) cap) (p++[d])->base<=g->g<w'.heap.size->kQ 39 base w w'->w.heap.size<w'->
   wpList prog ops Q rest (a.put o.dst (.slice g (p+1) cap)) w'):wpList prog ops Q (o::rest) a (w.alloc (cB 39 [dv])):=by
 have F:[dv].all (fun u=>u.oneCell')=true:=by obtain⟨A,c,rfl,-⟩:=H.slice;rfl
 obtain⟨G,f,j,r,y⟩:=e;exact iD w m s x 28 C base 39 _ 1 24 underlying28 ac8 rfl dE dE v p.length _ r D [dv] _ (by rw[n,k]) rfl F B b
  fun g cap w' I J K E L=>h g cap w' (OL.push rfl f j rfl I (fun i x l n z=>si.keep (y i x l n z) E dE dE) ⟨dv,rfl,H.keep E dE dE⟩) J K E L
end
end
section
open Go.RowKit jm
abbrev xC (x:fS) (A1:Option Addr) (c1:Nat) (A2:Option Addr) (c2:Nat):List Value:=[x.days,x.mm,x.cap,x.len,.slice A1 x.eB c1,.slice A2 x.gn c2]
end
section
open Go.RowKit jm ko kN
variable {a b:Int} {c:kc} {x:fS}
abbrev pL (dm:Int) (A0:Option Addr) (n0 c0:Nat) (size start hold:Int):List Value:=[.int .i64 2,dm,.slice A0 n0 c0,.int .i64 1,size,start,.int .i64 2,hold]
structure iF (x:fS) (c:kc) (a b:Int):Prop where
 ok:eV x
 cu:x.eB=[c]
 di:x.gn=[[0,a],[b,0]]
 hd:x.mm=1/\x.cap=2147483648/\x.len=2147483648/\(1<=x.days/\x.days<=64)
 ct:c.kind=2/\c.jU=1/\c.lR=2/\(1<=c.size/\c.size<=2147483648)/\c.start=c.size/2/\(0<=c.hold/\c.hold<=1024)
 ab:(0<=a/\a<1073741824)/\(0<=b/\b<1073741824)
structure qk (w:World) (b o:Nat) (dm:Int) (A0:Option Addr) (n0 c0:Nat) (c:kc):Prop where
 lt:b<w
 y0:w.cell? (pA b o)=some (.int .i64 2)
 y1:w.cell? (pA b (o+1))=some dm
 y2:w.cell? (pA b (o+2))=some (.slice A0 n0 c0)
 y3:w.cell? (pA b (o+3))=some (.int .i64 1)
 y4:w.cell? (pA b (o+4))=some c.size
 y5:w.cell? (pA b (o+5))=some c.start
 y6:w.cell? (pA b (o+6))=some (.int .i64 2)
 y7:w.cell? (pA b (o+7))=some c.hold
def qk.below {w':World} {B b o:Nat} {j:Int} {i:Option Addr} {k c0:Nat} (h:qk w b o j i k c0 c) (a:Below B w w') (d:w.heap.size<=B):qk w' b o j i k c0 c:=
 ⟨bP h.lt a.size,a7 a d h.y0,a7 a d h.y1,a7 a d h.y2,a7 a d h.y3,a7 a d h.y4,a7 a d h.y5,a7 a d h.y6,a7 a d h.y7⟩
def aeW (h:iz w v x): ∃A1 c1 A2 c2,v=.agg #[x.days,x.mm,x.cap,x.len,.slice A1 x.eB c1,.slice A2 x.gn c2]:=by obtain⟨q,dv,c,⟨A1,c1,a,-⟩,⟨A2,c2,b,-⟩⟩:=h;subst a b;exact⟨A1,c1,A2,c2,c⟩
def iF.mem (d:iF x c a b) (r:iz w v x):
  ∃g o c1 A2 c2 j i k c0,v=.agg (xC x (pA g o) c1 A2 c2).toArray/\qk w g o j i k c0 c:=by
 obtain⟨A1,c1,A2,c2,rfl⟩:=aeW r;obtain⟨q,D,e,l,-⟩:=id r;obtain rfl:Value.slice A1 x.eB c1=q:=by cases e;rfl
 obtain⟨A,c',E,-,-,F⟩:=l;cases E;obtain⟨g,o,rfl,h,f⟩:=F (by rw[d.cu];exact Nat.one_pos);obtain⟨K,G,m,s,t,n,u,y,p,z⟩:=f 0 c (by rw[d.cu];rfl);obtain⟨B,C,rfl,-⟩:=lu.open_ G;obtain⟨H,I,J,-⟩:=d.ct;rw[H] at m;rw[I] at n;rw[J] at p;simp only[vq,eW] at m s t n u y p z;exact⟨g,o,c1,A2,c2,c.iL,B,c.jC.length,C,rfl,h,m,s,t,n,u,y,p,z⟩
def iF.len (d:iF x c a b):x.eB.length=1:=by rw[d.cu];rfl
def iF.all (d:iF x c a b): ∀k∈x.eB,k.kind=2:=fun k e=>by rw[d.cu] at e;cases nw.1 e;exact d.ct.1
def iF.V4 (d:iF x c a b):sm x.gn 0 1=a/\sm x.gn 1 0=b/\sm x.gn 1 1=0:=by rw[d.di];exact⟨rfl,rfl,rfl⟩
def iF.start (d:iF x c a b):0<=c.start/\c.start<=c.size:=by have:=d.ct;omega
end
section
open Go.Proofs.Tryz
open Go.RowKit jm ko kN
def On (f g:Int) (C:Value) (h j k m a:Int) (v:Value) (l:List Int) (w:World) (G: ∃A n c,C=.slice A n c) (B:gx w .i64 v l):
  Calls prog 16 #[.agg #[f,g,C,h,j,k,m,a],v] w fun e w'=>e=.returned (wrap64 (a*me l))/\Below w w w':=by
 obtain⟨p,t,c0,rfl⟩:=G;obtain⟨A,c,rfl,I,J,x⟩:=B.open_;have D:=zH x;clear B x;go_enter func16,ntmps16;go_wp2_with fail;have d:=(bS w w).alloc lE (cB 47 [f,g,.slice p t c0,h,j,k,m,a]);have u:=fc.new w 47 [f,g,.slice p t c0,h,j,k,m,a];have c7:=u.c 7;clear u;go_loopw [5,6] (fun H s wr=> ∃i:Nat,i<=l/\s=.int .i64 i/\H=.int .i64 (me (l.take i))/\wr=w.alloc (cB 47 [f,g,.slice p t c0,h,j,k,m,a])) (fun _ s _=>l.length-(intOf s).toNat)
 case atStart=>exact⟨0,eC _,rfl,rfl,rfl⟩
 case round=>
  obtain⟨i,K,rfl,rfl,rfl⟩:=hrel;by_cases q:i<l
  ·obtain⟨z,r⟩: ∃z,l[i]? =some z:=⟨_,fp q⟩;obtain⟨b,o,rfl,F,y⟩:=D i z r;have L:=((xi d).1 b (o+i) F).trans y;have E:=zH (wQ r);clear r y;go_wp2_with fail;go_roundw
   case rel=>exact⟨i+1,oG,by go_num,by rw[E.out],by first|rfl|trivial⟩
   case measure=>exact mI
  ·obtain rfl:i=l.length:=oG;go_wp2_with fail;go_ret;rw[gh];exact⟨rfl,d⟩
end
section
open Go.Proofs.Tryz
open Go.RowKit jm ko kN
variable {d k:Nat} {f:Dy} {t:Tr}
def pY (l:List (Nat×Int)):List (Int×Int):=l.map fun x=>((x.1:Int),x.2)
def we (c:Int) (a b:List (Nat×vg)):mn c (a++b)=mn c a++mn c b:=by unfold mn;rw[nu,gJ]
def rI: ∀(p:Pl) (k d:Nat) (f:Dy),p[d]? =some f->iZ k (p.take (d+1))=iZ k (p.take d)++iP (k+d) f
 | [],k,d,f,h=>by simp at h
 |a::p,k,0,f,h=>by simp at h;subst h;simp[iZ]
 |a::p,k,d+1,f,h=>by
  have:=rI p (k+1) d f (by simpa using h);simp only[rq,iZ] at this|-
  rw[this,eT,show k+1+d=k+(d+1) by omega]
def tK (h:f[k]? =some t):iP d (f.take (k+1))=iP d (f.take k)++ku d t:=by rw[iC h];unfold iP;rw[fU];simp
def tM {s:vg} (h:t[k]? =some s):ku d (t.take (k+1))=ku d (t.take k)++[(d,s)]:=by rw[iC h];unfold ku;rw[gJ];rfl
def DG: ∀(p:Pl) (k d:Nat),(iZ k (p.take d)).length<=(iZ k p).length
 | [],k,d=>by simp
 |a::p,k,0=>by simp[iZ]
 |a::p,k,d+1=>by have:=DG p (k+1) d;simp only[rq,iZ,fa];omega
def Yx {p:Pl} {i:Nat} {q n r:List (Nat×vg)} (Z:r=n++ku d (t.take i)) (h2:iZ 0 (p.take (d+1))=q++iP d f) (h3:q++iP d (f.take (k+1))=n++ku d t):r.length<=(nn p).length:=by
 have a:=congrArg List.length Z;have b:=congrArg List.length h2;have c:=congrArg List.length h3;have e:(iZ 0 (p.take (d+1))).length<=(nn p).length:=DG p 0 (d+1);have g:(iP d (f.take (k+1))).length<=(iP d f).length:=by have:=congrArg List.length (show iP d f=iP d (f.take (k+1))++iP d (f.drop (k+1)) by unfold iP;rw[<-fU,lV]);rw[fa] at this;omega
 have h:(ku d (t.take i)).length<=(ku d t).length:=by unfold ku;simp;omega
 simp only[fa] at a b c;omega
def Ce (c:Int) (q:List (Nat×vg)):(pY (mn c q)).length<=q.length:=by unfold pY mn;rw[fm,fm];exact tQ _ _
def Jo (pv:Value) (p:Pl) (cu:Int) (w:World) (hp:jP w pv p) (hK:(nn p).length<=1000000):
  Calls prog 15 #[.agg #[pv],cu] w fun e w'=> ∃x,e=.returned x/\OV w w' x (pY (sU cu p))/\Below w w w':=by
 obtain⟨A,c,rfl,Z,h2,hc⟩:=jP.open_ hp;obtain⟨HC,HK⟩:=Zb hc hK;clear hp hc hK;go_enter func15,ntmps15;go_wp2_with fail;go_loopw [5,6] (fun x m wr=> ∃(d:Nat) (M:List (Int×Int)) (q:List (Nat×vg)),d<=p/\m=.int .i64 d/\Hid (q=iZ 0 (p.take d))/\Hid (M=pY (mn cu q))/\Hid (OV (w+1) wr x M)/\fc wr w 30 [.slice A p c]/\Below w w wr) (fun _ m _=>p.length-(intOf m).toNat)
 case atStart=>exact⟨0,[],[],eC _,rfl,rfl,rfl,(OV.jL _ _),fc.new w _ _,bL bF _⟩
 case round=>
  obtain⟨d,M,q,hd,rfl,W,j,l,h,a⟩:=hrel;have Y:=h.c 0;have S:=h.lt;have v:=a.size;by_cases N:d<p
  ·obtain⟨f,s⟩:=ec N;obtain⟨b,o,rfl,ak,dv,J,T⟩:=HC d f s;obtain⟨Ad,cd,rfl,an,ao,I⟩:=iK.open_ J;obtain⟨U,ah,Y0⟩:=Zc I s T;have E:Hid (iZ 0 (p.take (d+1))=q++iP d f):=zH (by rw[rI p 0 d f s,W.out,gW]);clear J I s T;obtain⟨wo,C⟩:=nE (wr:World);subst C;go_wp2_with fail;go_loopw [5,7] (fun x m wr=> ∃(k:Nat) (M:List (Int×Int)) (n:List (Nat×vg)),k<=f/\m=.int .i64 k/\Hid (n=q++iP d (f.take k))/\Hid (M=pY (mn cu n))/\Hid (OV (w+1) wr x M)/\fc wr w 30 [.slice (pA b o) p c]/\Below w w wr) (fun _ m _=>f.length-(intOf m).toNat)
   case atStart=>exact⟨0,M,q,eC _,rfl,zH (by simp[iP]),j,l,h,a⟩
   case round=>
    clear W j l h a Y S v M;obtain⟨k,M,n,hk,rfl,D,j,l,h,a⟩:=hrel;have Y:=h.c 0;have S:=h.lt;have v:=a.size;have T:=a7 a lE Y0;have al:b<wr.heap.size:=oG;by_cases L:k<f
    ·obtain⟨t,R⟩:=ec L;obtain⟨b2,o2,rfl,ai,tv,P,y1⟩:=U k t R;obtain⟨At,ct,rfl,au,aw,O⟩:=fQ.open_ P;replace y1:=a7 a lE y1;obtain⟨X,HT⟩:=Zb O R;have ag:b2<wr.heap.size:=oG;have F:Hid (q++iP d (f.take (k+1))=n++ku d t):=zH (by rw[tK R,D.out,eT]);clear P O R;obtain⟨wo,C⟩:=nE (wr:World);subst C;go_wp2_with fail;go_loopw [5,9] (fun x m wr=> ∃(i:Nat) (M:List (Int×Int)) (r:List (Nat×vg)),i<=t/\m=.int .i64 i/\Hid (r=n++ku d (t.take i))/\Hid (M=pY (mn cu r))/\Hid (OV (w+1) wr x M)/\fc wr w 30 [.slice (pA b o) p c]/\Below w w wr) (fun _ m _=>t.length-(intOf m).toNat)
     case atStart=>exact⟨0,M,n,eC _,rfl,zH (by simp[ku]),j,l,h,a⟩
     case round=>
      clear j l h a Y S v T y1 M;obtain⟨i,M,r,hi,rfl,y,j,l,h,a⟩:=hrel;have S:=h.lt;have v:=a.size;by_cases B:i<t
      ·obtain⟨⟨z,u⟩,hz⟩:=ec B;obtain⟨b3,o3,rfl,aj,v0,v1⟩:=X i _ hz;replace v0:=a7 a lE v0;replace v1:=a7 a lE v1;have G:Hid (n++ku d (t.take (i+1))=r++[(d,(z,u))]):=zH (by rw[tM hz,y.out,eT]);have ae:M.length<=1000000000:=by
        have Z:=Yx y E F;have h2:M.length<=r.length:=by rw[j.out];exact Ce cu r
        have h3:=HK.out;omega
       clear hz;by_cases Q:z=cu
       ·subst Q;go_wp2_with (at_builtin;refine Tq _ rfl (.tmp 51) (.tmp 59) rfl (w+1) _ M l rfl (d:Int) u rfl rfl ae oG ?_;intro g cap w5 af aq ar K ax);have aa:=K.below oG;go_roundw
        case rel=>exact⟨i+1,_,_,B,by go_num,G.symm,zH (by rw[we,j.out];simp[pY,mn]),af,K.ig h dE,a.trans (aa.mono oG)⟩
        case measure=>exact mI
       ·go_wp2_with fail;go_roundw
        case rel=>exact⟨i+1,M,_,B,by go_num,G.symm,zH (by rw[we,j.out];simp[pY,mn,Q]),l,h,a⟩
        case measure=>exact mI
      ·obtain rfl:i=t.length:=oG;go_wp2_with fail;go_roundw
       case rel=>exact⟨k+1,M,r,L,by go_num,zH (by rw[y.out,F.out,fj lE]),j,l,h,a⟩
       case measure=>exact mI
    ·obtain rfl:k=f.length:=oG;go_wp2_with fail;go_roundw
     case rel=>exact⟨d+1,M,n,N,by go_num,zH (by rw[D.out,E.out,fj lE]),j,l,h,a⟩
     case measure=>exact mI
  ·obtain rfl:d=p.length:=oG;have hM:=j.out;rw[W.out,fj lE] at hM;have H:M=pY (sU cu p):=hM;have V:Hid (OV w wr _ (pY (sU cu p))):=zH (H▸l.mono oG);clear hM H;go_wp2_with fail;go_ret;exact⟨_,rfl,V,a⟩
end
section
open Go.Proofs.Tryz
open Go Go.RowKit PF jm ko kN
variable {a:Int×Int} {g i:Nat}
def vW {P:Program} {o:Oper} {a:Act} {K:Act->World->Prop} {Q:Exit->Act->World->Prop} (w:World) (s x:Operand) (t:TypeId)
  (Z:o.op=.call {callee:=.builtin .append,args:= #[s,x],argTypes:= #[t,t]})
  (base:Nat) (e:TypeId) (z:Value) (size f:Nat) (M:P.underlying t=some (.slice e)) (X:(P.info? e).map (fun i=>(i.zero,i.size,i.bytes))=some (some z,size,f))
  (U:z.cells.size=size) (B:0<size) (O:f<=100)
  (v:Value) (n:Nat) (L:List Value) (m:w.ownsRow base e size v n L) (J:a.eval s=v)
  (b:List Value) (c p:Nat) (hx:a.eval x=.slice p 1 c) (R:fc w p e b) (Y:b.length=size) (k:b.all (fun u=>u.oneCell')=true)
  (I:n<=1000000000) (y:base<=w)
  (h: ∀g cap w',w'.ownsRow base e size (.slice (pB g) (n+1) cap) (n+1) (L++b)->(v.ownBlock=some g\/w.heap.size<=g)->g<w'.heap.size->w.grownBy w' v.ownBlock->
   K (a.put o.dst (.slice g (n+1) cap)) w'):Oper.wp P o a w K Q:=by
 obtain⟨i,G,V,T,N⟩:=info_parts X;subst T;have d: ∀j u,b[j]? =some u->w.cell? ((p:Addr).add j)=some u:=fun j u q=>by
  have E:(p:Addr).add j=(pA p j):=by unfold Addr.add;split <;>simp_all
  rw[E,R.cell];exact q
 have C: ∀u∈b,u.oneCell'=true:=fun u q=>dT.1 k u q;have F:(n+1)*i.bytes<=140737488355328:=by have:=kg (show n+1<=1000000001 by omega) (N▸O);omega
 have H:b.length=1*i.size:=oG;obtain⟨W,w',A,r,D,h4⟩:=run_append_own (P:=P) w base t o.type e i z i.size i.bytes M G V rfl rfl U B v n L m p 1 c b H d C mO F y;obtain⟨g,cap,rfl,l⟩:=yB (P:=P) w base t o.type e i z M G V v n L m p 1 c b H d C oG mO F A;have S:=r.lt g rfl;unfold Oper.wp execOp;simp only[Z,resolve,invoke,builtin,ks,pR,lO,mT,gN,lG,J,hx,A];exact h g cap w' r l S.2 D
def O9:(prog.info? 429).map (fun i=>(i.zero,i.size,i.bytes))=some (some (.agg #[Zo,Zo]),2,16):=kR
structure sg (O:Nat->Prop) (w:World) (p:Nat) (L:Hp) (v:Value) (mb:Nat) (f:Int->Option Int):Prop where
 ig:fc w p 425 [v,.map (some mb)]
 row:w.ownsRow 0 429 2 v L (L.flatMap gV)
 map:nO w mb f
 ok:vn L f
 op:O p
 om:O mb
 ov: ∀g,v.ownBlock=some g->O g
 ol: ∀k,O k->k<w.heap.size
def rr {w:World} {p q:Addr} {x v:Value} (h:w.cell? q=some v): ∃W,(w.setCell p x).cell? q=some W:=by
 by_cases e:p=q
 ·subst e;exact⟨x,zN w p x h⟩
 ·exact⟨v,(World.cell?_setCell_other w p q x e).trans h⟩
def z8 {L:Hp} (h:L[i]? =some a):(L.flatMap gV)[2*i]? =some a.1/\(L.flatMap gV)[2*i+1]? =some a.2:=by
 induction L generalizing i with
 |nil=>simp at h
 |cons b L ih=>
  cases i with
  |zero=>simp at h;subst h;exact⟨rfl,rfl⟩
  |succ i=>
   rw[df] at h;have:=ih h;rw[show 2*(i+1)=2*i+1+1 by omega,gG];exact⟨this.1,this.2⟩
def Ag: ∀{L:Hp} {i:Nat} (a:Int×Int),((L.flatMap gV).set (2*i) a.1).set (2*i+1) a.2=(L.set i a).flatMap gV
 | [],i,a=>by simp
 |b::L,0,a=>by simp[gV]
 |b::L,i+1,a=>by rw[show 2*(i+1)=2*i+1+1 by omega];simp only[gG,fI,gV,fY,gQ];rw[Ag a]
def EN: ∀L:Hp,(L.flatMap gV).length=L.length*2
 | []=>rfl
 |a::L=>by rw[gG,fa,EN L];simp[gV];omega
def Qs (L:Hp) (a:Int×Int) (y z:Value):((((L++[a]).flatMap gV).set (L.length*2) y).set (L.length*2+1) z).take (L.length*2)=L.flatMap gV:=by have Y:=EN L;rw[fU];rw[BZ _ _ oG,BZ _ _ oG,pw oG,fj oG]
section
variable {O:Nat->Prop} {p:Nat} {L:Hp} {mb:Nat} {f:Int->Option Int}
def sg.slice (h:sg O w p L v mb f): ∃A c,v=.slice A L c/\L.length<=c/\c<=9223372036854775807:=by obtain⟨A,c,a,k,r,-⟩:=RS.jh h.row;exact⟨A,c,a,k,by simpa[maxLen] using r⟩
def sg.below (h:sg O w p L v mb f) (l:Below w w w'):sg O w' p L v mb f:=
 ⟨h.ig.below l h.ig.lt,jq h.row l lE,h.map.at (l.block mb h.map.lt),h.ok,h.op,h.om,h.ov,fun k d=>bP (h.ol k d) l.size⟩
def sg.kept (h:sg O w p L v mb f) (d: ∀k,O k->w'.heap[k]? =w.heap[k]?) (J:w.heap.size<=w'):sg O w' p L v mb f:=
 ⟨(d p h.op).trans h.ig,sM h.row fun g n=>d g (h.ov g n),h.map.at (d mb h.om),h.ok,h.op,h.om,h.ov,fun k q=>bP (h.ol k q) J⟩
def sg.cells (h:sg O w p L v mb f) (s:0<L.length): ∃g c b,v=.slice (pB g) L c/\L.length<=c/\c<=9223372036854775807/\w.heap[g]? =some (.cells b 429 (0,0))/\(∀i a,L[i]? =some a->w.cell? (pA g (i*2))=some a.1/\w.cell? (pA g (i*2+1))=some a.2)/\(∀i,w.frozen? (pA g i)=false):=by
 rcases h.row.2 with ⟨-,k⟩|⟨g,c,b,e,l,n,I,o,J,M⟩
 ·omega
 ·refine⟨g,c,b,e,I,by simpa[maxLen] using o,n,fun i a m=>?_,fun i=>by simp[World.frozen?,n]⟩;have r:=z8 m;have d: ∀j u,(L.flatMap gV)[j]? =some u->w.cell? (pA g j)=some u:=fun j u q=>by
   rw[<-M,eU] at q;split at q
   ·rw[cell_of_row w g _ _ _ _ n,<-fA];exact q
   ·cases q
  rw[nY];exact⟨d _ _ r.1,d _ _ r.2⟩
def sg.pm (h:sg O w p L v mb f):p≠mb:=fun e=>by subst e;obtain⟨d,c,l,-⟩:=h.map.ex;have:=h.ig;unfold fc at this;rw[l] at this;cases this
def sg.gm (h:sg O w p L v mb f) (a:v.ownBlock=some g):g≠mb:=fun e=>by
 subst e
 rcases h.row.2 with ⟨k,-⟩|⟨i,c2,b,k,-,D,-⟩
 ·rw[k] at a;cases a
 ·rw[k] at a;cases a;obtain⟨d,c,l,-⟩:=h.map.ex;rw[D] at l;cases l
def sg.gp (h:sg O w p L v mb f) (a:v.ownBlock=some g):g≠p:=fun e=>by
 subst e
 rcases h.row.2 with ⟨k,-⟩|⟨i,c2,b,k,-,D,-⟩
 ·rw[k] at a;cases a
 ·rw[k] at a;cases a;have:=h.ig;unfold fc at this;rw[D] at this;injection this with this
  injection this with _ this
  exact absurd this dE
def sg.swapped {c j:Nat} {b:Int×Int} (h:sg O w p L (.slice g L c) mb f) (m:L[i]? =some a) (l:L[j]? =some b):
  ∀W,W=((((w.setCell (pA g (i*2)) b.1).setCell (pA g (i*2+1)) b.2).setCell (pA g (j*2)) a.1).setCell (pA g (j*2+1)) a.2)->
  fc W p 425 [.slice g L c,.map (some mb)]/\W.ownsRow 0 429 2 (.slice g L c) L ((qI L i j).flatMap gV)/\nO W mb f/\gI O w W/\W.heap.size=w/\
  W.cell? (pA g (i*2))=some b.1/\W.cell? (pA g (j*2))=some a.1:=by
 intro W hW;have A:=((((h.row.stored (i*2) b.1).1.stored (i*2+1) b.2).1.stored (j*2) a.1).1.stored (j*2+1) a.2).1;have s:=fP m;have t:=fP l;have r:((((L.flatMap gV).set (i*2) b.1).set (i*2+1) b.2).set (j*2) a.1).set (j*2+1) a.2=(qI L i j).flatMap gV:=by rw[DH m l,nY i 2,nY j 2,Ag b,Ag a]
 rw[r,<-hW] at A;have n:=h.gp (g:=g) rfl;have o:=h.gm (g:=g) rfl;have d: ∀k,k≠g->W.heap[k]? =w.heap[k]? :=fun k d=>by rw[hW,fX _ _ _ _ _ d,fX _ _ _ _ _ d,fX _ _ _ _ _ d,fX _ _ _ _ _ d]
 have B:W.heap.size=w.heap.size:=by rw[hW];simp
 have q:(qI L i j).length=L.length:=E1 _ _ _;refine⟨(d p (jN n)).trans h.ig,A,h.map.at (d mb (jN o)),⟨by rw[hW];rfl,by rw[hW];rfl,by rw[hW];rfl,oG,fun k _ I=>d k fun e=>I (e▸h.ov g rfl)⟩,B,?_,?_⟩
 ·rw[acU A (i*2) oG,nY];have:(qI L i j)[i]? =some b:=by
   rw[mH m l];by_cases e:i=j
   ·subst e;rw[if_pos rfl];rw[m] at l;exact l
   ·rw[if_neg e,if_pos rfl]
  exact(z8 this).1
 ·rw[acU A (j*2) oG,nY];have:(qI L i j)[j]? =some a:=by rw[mH m l,if_pos rfl]
  exact(z8 this).1
end
end
section
open Go.Proofs.Tryz
open Go.RowKit PF jm ko kN
def Iu (O:Nat->Prop) (w:World) (p:Nat) (L:Hp) (v:Value) (mb:Nat) (f:Int->Option Int) (h:sg O w p L v mb f):
  Calls prog 398 #[.pointer p] w fun e w'=>e=.returned L.length/\w=w':=by
 obtain⟨A,c,rfl,a,b⟩:=h.slice;have c0:=h.ig.c 0;clear h;go_enter func398,ntmps398;go_wp2;go_ret;exact⟨rfl,rfl⟩
end
end Go.Proofs.YtgimnjldndkalaaGreatDoor
