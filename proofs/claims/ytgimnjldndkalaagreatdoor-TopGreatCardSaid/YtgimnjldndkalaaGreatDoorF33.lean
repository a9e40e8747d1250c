/- Of the proof of TopGreat: The places of numbers by their worths: some list of places. -/
import Derived.Shelf.SlSortCmp.NoneTotal
import Derived.Test.YtgimnjldndkalaaGreatDoorG2
import Derived.Test.YtgimnjldndkalaaGreatDoorF32
import Derived.Test.YtgimnjldndkalaaGreatDoorF14
set_option linter.all false
set_option maxHeartbeats 1600000
set_option maxRecDepth 100000
namespace Go.Proofs.YtgimnjldndkalaaGreatDoor
section
open Go.Proofs.Tryz
open Go.RowKit Go.Shelf Go.Sort jm ko kN
def tf (a b:Int):Int:=if a<b then -1 else if b<a then 1 else 0
def EZ (a:Int) (w:World):Calls prog 288 #[a] w fun e w'=>e=.returned false/\w=w':=by go_enter func288,ntmps288;go_wp2_with fail;go_ret;exact⟨by simp,rfl⟩
def A6 (a b:Int) (w:World):Calls prog 361 #[a,b] w fun e w'=>e=.returned (tf a b)/\w=w':=by
 go_enter func361,ntmps361;go_wp2_with fail;refine(EZ a w).mono ?_;rintro e w1 ⟨rfl,rfl⟩;go_wp2_with fail;refine(EZ b w).mono ?_;rintro e w1 ⟨rfl,rfl⟩
 rcases Int.lt_trichotomy a b with h|h|h
 ·have e:tf a b= -1:=if_pos h;go_wp2_with fail;go_ret;exact⟨by rw[e];rfl,rfl⟩
 ·have e:tf a b=0:=by unfold tf;rw[if_neg oG,if_neg oG]
  subst h;go_wp2_with fail;go_ret;exact⟨by rw[e];rfl,rfl⟩
 ·have e:tf a b=1:=by unfold tf;rw[if_neg oG,if_pos h]
  go_wp2_with fail;go_ret
  exact⟨by rw[e];rfl,rfl⟩
def Ww (a b:Int) (g:Nat) (w:World) (d:fc w g 3 [a,b]):Calls prog 360 #[.slice g 2 2] w fun e w'=>e=.returned (if a≠0 then a else b:)/\w=w':=by
 have c0:=d.c 0;have c1:=d.c 1;clear d;go_enter func360,ntmps360;go_wp2_with fail;go_loopw [8] (fun q wr=> ∃k:Nat,q=.int .i64 k/\k<=2/\w=wr/\(1<=k->a=0)/\(2<=k->b=0)) (fun q _=>2-(intOf q).toNat)
 case atStart=>exact⟨0,rfl,oG,rfl,oG,oG⟩
 case round=>
  obtain⟨k,rfl,K,rfl,f,t⟩:=hrel
  match k,K,f,t with
  |0,_,_,_=>
   by_cases h:a=0
   ·subst h;go_wp2_with fail;exact⟨⟨1,rfl,oG,by simp,by simp,oG⟩,by simp[intOf]⟩
   ·go_wp2_with fail;go_ret
    exact⟨by first|rfl|(rw[if_pos h];rfl),rfl⟩
  |1,_,f,_=>
   have c:=f oG;subst c;by_cases h:b=0
   ·subst h;go_wp2_with fail;exact⟨⟨2,rfl,oG,by simp,by simp,by simp⟩,by simp[intOf]⟩
   ·go_wp2_with fail;go_ret
    exact⟨by first|rfl|simp,rfl⟩
  |2,_,f,t=>
   have c:=f oG;have i:=t oG;subst c i;go_wp2_with fail;go_ret;exact⟨by first|rfl|simp,rfl⟩
def V6 (W:List Int) (n:Nat) (i j:Fin n):Int:=if tf (W.getD i.1 0) (W.getD j.1 0)≠0 then tf (W.getD i.1 0) (W.getD j.1 0) else tf i.1 j.1
def FX (W:List Int) (n:Nat) (i j:Fin n):ltOf (V6 W n) i j=true↔W.getD i.1 0<W.getD j.1 0\/(W.getD i.1 0=W.getD j.1 0/\i.1<j.1):=by
 unfold ltOf V6 tf;rw[decide_eq_true_eq]
 repeat' split <;>omega
def Tv (W:List Int) (n:Nat):SWO (ltOf (V6 W n)) where
 irrefl:=fun x=>by rw[J5];intro h;have:=(FX W n x x).1 h;omega
 trans:=fun x y z f t=>by rw[FX] at*;omega
 ntrans:=fun x y z f t=>by rw[J5] at*;intro h;rw[ne_eq,FX] at f t;rw[FX] at h;omega
def Jy (W:List Int) (n:Nat) (hn:n=W) (i j:Fin n) (r:Nat) (I:Value) (w:World) (v:fc w r 26 [I]) (C:gx w .i64 I W):
  Calls prog 359 #[i.1,j.1,.pointer r] w fun e w'=>e=.returned (V6 W n i j)/\ ∃q k,w'=grow (w.drewN q) k:=by
 obtain⟨A,c,rfl,f,t,h⟩:=gx.open_ C;have J:i.1<W.length:=by have:=i.2;omega
 have B:j.1<W.length:=by have:=j.2;omega
 obtain⟨x,l⟩:=ec J;obtain⟨y,m⟩:=ec B;obtain⟨g,o,rfl,d,E⟩:=h i.1 x l;obtain⟨G,H,u,-,F⟩:=h j.1 y m;cases u;have lb:=v.lt;have e:V6 W n i j=if tf x y≠0 then tf x y else tf i.1 j.1:=by unfold V6;rw[gR,gR,l,m];rfl
 rw[e];obtain⟨i,z⟩:=i;obtain⟨j,D⟩:=j;obtain⟨R,b⟩:=nR ((if tf x y≠0 then tf x y else tf (i:Int) (j:Int)));rw[b];have p:=zH b;clear C h e b;go_enter func359,ntmps359;go_upto_region 1 with fail
 refine rG (fun wS=>fc wS r 26 [.slice (pA g o) W c]/\wS.cell? (pA g (o+i))=some x/\wS.cell? (pA g (o+j))=some y) [12,13,14] (⟨v.drew,E,F⟩) fun hS=>?_;refine kL [0,1,2,3,4,5,6,7,9,10] ?_;refine tO 8 fun K a=>?_;go_simp;refine(A6 x y _).mono ?_;rintro e w1 ⟨rfl,rfl⟩;refine a _ _ (hS) ?_;refine tO 11 fun K a=>?_;go_simp;refine(A6 i j _).mono ?_;rintro e w1 ⟨rfl,rfl⟩;refine a _ _ (hS) ?_;refine tL 12 fun K a=>?_;go_simp;have s:=fc.new w.drew 3 [(tf x y),(tf i j)];refine a _ _ ?_;refine tL 13 fun K a=>?_;go_simp;refine(Ww (tf x y) (tf i j) _ _ s).mono ?_;rintro e w1 ⟨rfl,rfl⟩;rw[p.out];refine a _ _ ?_;refine tL 14 fun K a=>?_;go_simp;refine a _ _ ?_;refine tD ?_;go_wp2_with fail;go_ret;exact⟨rfl,1,#[.cells #[(tf x y),(tf i j)] 3],by rw[<-alloc_eq_grow];rfl⟩
def yg {k:Nat} (w:World) (g:Nat) (d:Array (Fin (k+1))):putRow (fun i:Fin (k+1)=>Value.int .i64 i.1) w g 0 d=putRow (Value.int .i64) w g 0 (d.map fun i=>(i.1:Int)):=by
 have e:putCells (fun i:Fin (k+1)=>Value.int .i64 i.1) 0 d=putCells (Value.int .i64) 0 (d.map fun i=>(i.1:Int)):=by
  funext c;unfold putCells;congr 1;funext j v;rw[Array.size_map];split
  ·rename_i h;have B:j-0<d.size:=oG;rw[getElem!_pos d (j-0) B,getElem!_pos (d.map _) (j-0) (by simpa using B)];simp
  ·rfl
 unfold putRow;rw[e]
def LU (I:Value) (W:List Int) (w:World) (C:gx w .i64 I W) (hn:W.length<=1000000):
  Calls prog 351 #[I] w fun e w'=> ∃lv L,e=.returned lv/\OI w w' lv L/\L.length=W/\(∀z∈L,0<=z/\z<W.length)/\Below w w w':=by
 have HW:=zH C;obtain⟨A,c,rfl,f,t,-⟩:=gx.open_ C;clear C;have ae:=fun W'=>pM (P:=prog) underlying26 Ga W W rfl hn W';obtain⟨l,M⟩: ∃l:List Int,l=List.map (fun i:Nat=>(i:Int)) (List.range W):=⟨_,rfl⟩;have G:l.length=W.length:=by rw[M];simp
 have F: ∀i,i<W.length->l[i]? =some (i:Int):=fun i J=>by rw[M];simp[J]
 obtain⟨E,a,HL⟩:=Zc F G M;clear M F G;go_enter func351,ntmps351;go_wp2_with fail;go_loopw [10] (fun Y wr=> ∃i:Nat,Y=.int .i64 i/\i<=W/\fc wr w 26 [.slice A W c]/\fc wr (w+1) 3 ((l.take i).map (.int .i64)++kE (W.length-i))/\Below w w wr) (fun Y _=>W.length-(intOf Y).toNat)
 case atStart=>exact⟨0,rfl,oG,(fc.new w _ _).alloc _,by simpa using fc.fW (w.alloc (cB 26 [.slice A W c])) 3 (kE W) (g:=w.heap.size+1) sI,bL (bL bF _) _⟩
 case round=>
  obtain⟨i,rfl,J,r,s,v⟩:=hrel;have l0:=r.lt;have l1:=s.lt;by_cases x:i<W
  ·have c1:wr.cell? (pA (w+1) i)=some (.int .i64 0):=by rw[s.cell i];exact CF a x
   have f1:=s.frozen i;go_wp2_with fail;have Z:=s.gH i (i:Int);rw[CG a.out (E.out i x)] at Z;exact⟨⟨i+1,rfl,x,r.kj (p:=pA (w+1) i) dO _,Z,v.setCell (p:=pA (w+1) i) dO _⟩,by simp[intOf];omega⟩
  ·obtain rfl:i=W.length:=oG;have o:wr.heap[w.heap.size+1]? =some (.cells (l.map (.int .i64)).toArray 3 (0,0)):=by have:=s;rw[show W.length-W.length=0 by omega,show kE 0=[] from rfl,mz,fj (by rw[a.out];exact lE)] at this;exact this
   have D:=zH o;clear o
   rcases kV W with h0|hp
   ·have hW:W=[]:=gj h0;subst hW;go_wp2_with fail;refine(show Calls prog 358 _ _ _ from AnyF.slices_SortFunc_none (P:=prog) (ρ:=rO) {Bj with} (pB (w+1)) 0 _ wr).mono ?_;rintro e w' ⟨rfl,rfl⟩;go_wp2_with fail;go_ret;refine⟨_,[],rfl,⟨rfl,.inr ⟨w.heap.size+1,0,#[],rfl,oG,?_,lE,by simp[maxLen],rfl,rfl⟩⟩,rfl,fun z N=>by simp at N,v⟩;have:=D.out;rw[gj a.out] at this;exact this
   ·obtain⟨k,K⟩: ∃k,W.length=k+1:=⟨W.length-1,oG⟩;have y:=zH K;clear K;go_wp2_with fail;have aa:wr.heap.size>w.heap.size+1:=l1;have q:=Any.slices_SortFunc (P:=prog) (ρ:=rO) Bj (α:=Fin (k+1)) (fun i=>.int .i64 i.1) (fun _=>rfl) (V6 W (k+1)) (Tv W (k+1)) 359 #[.pointer w] (w+1) 0 W (Array.ofFn fun i:Fin (k+1)=>i) wr
     (enters_of func359 kR rfl) (fun m os dk hs i j=>?_) (fun j B=>?_) l1 (by have:=y.out;simp;omega)
    ·have H:(Array.ofFn fun i:Fin (k+1)=>i).size=k+1:=Array.size_ofFn;rw[H,show Value.slice (pB (w+1)) (k+1) W.length=.slice (pB (w+1)) W.length W.length by rw[y.out]] at q;refine(show Calls prog 358 _ _ _ from q).mono ?_;clear q;rintro e w' ⟨rfl,d',n,os,hp,-,rfl⟩;have hd:d'.size=k+1:=by rw[hp.1,H]
     obtain⟨L,Q⟩: ∃L:List Int,L=d'.toList.map fun i=>(i.1:Int):=⟨_,rfl⟩;have R:(d'.map fun i=>(i.1:Int))=L.toArray:=by rw[Q,<-Array.toList_map,Array.toArray_toList]
     have u:L.length=W.length:=by rw[Q,y.out];simpa using hd
     have S: ∀z∈L,0<=z/\z<W.length:=fun z N=>by rw[Q] at N;obtain⟨i,-,rfl⟩:=cy.1 N;have:=i.2;have:=y.out;omega
     have d:=ownsRow_sortedI (n:=n) (os:=os) (ss:=l) (ts:=L) (u.trans a.symm) (show w.heap.size<=w+1 by omega) D (show l.length<=W.length by rw[a.out];exact lE) (show W.length<=maxLen by simp only[maxLen];omega) (by simp[a.out]);have b:=grownBy_sortedI (w:=wr) (g:=w.heap.size+1) (n:=n) (os:=os) L.toArray;unfold sortWorld;rw[yg,R];have T:=v.grown b oG (fun q X=>by cases X;omega);generalize grow _ os=w9 at*;rw[a.out] at d;have O:=zH d;clear d b D r s;go_wp2_with fail;go_ret;exact⟨_,L,rfl,by unfold OI;rw[u];exact O,u,S,T⟩
    ·have b:=grownBy_sortedI (w:=wr) (g:=w.heap.size+1) (n:=m) (os:=os) (dk.map fun i=>(i.1:Int));have q:=Jy W (k+1) y.symm i j w (.slice A W c) (sortWorld (fun i:Fin (k+1)=>Value.int .i64 i.1) wr (w+1) 0 m dk os) ?_ ?_
     ·exact q
     ·unfold sortWorld;rw[yg];exact r.grown b (by intro h;have:=fg h;omega)
     ·unfold sortWorld;rw[yg];exact HW.below (v.grown b oG (fun q X=>by cases X;omega)) lE
    ·have U:j<k+1:=by simpa using B
     have V:j<W.length:=by rw[y.out];exact U
     refine⟨?_,by simp[World.frozen?,D.out]⟩;rw[gW,cell_of_row wr (w+1) j _ _ (0,0) D.out,getElem!_pos _ j B];simp[E.out j V]
end
end Go.Proofs.YtgimnjldndkalaaGreatDoor
