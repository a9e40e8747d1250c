/- Of the proof of TopCosts: Plain facts on sets of days: bits of a number. -/
import Derived.Lib.Join
import Derived.Lib.SplitLaws
import Derived.Test.YtgimnjldndkalaaGreatDoorF0
set_option linter.all false
set_option maxRecDepth 100000
namespace Go.Proofs.YtgimnjldndkalaaGreatDoor
variable {c:Int} {d i k n s:Nat}
namespace lJ
def bits (s:Nat):List Int:=(List.range 64).map fun d=>((s/2^d%2:Nat):Int)
def sq (s:Nat):(bits s).length=64:=by simp[bits]
def vz (s d:Nat) (h:d<64):(bits s)[d]? =some ((s/2^d%2:Nat):Int):=by simp[bits,h]
def num:List Int->Nat
 | []=>0
 |b::r=>2*num r+b.toNat
def Lo: ∀l:List Int,(∀z∈l,0<=z/\z<=1)->num l<2^l.length
 | [],_=>by simp[num]
 |b::r,h=>by have c:=Lo r fun z a=>h z (by simp[a]);have d:=h b sI;rw[num,ff,js];omega
def FW (s:Nat): ∀z∈bits s,0<=z/\z<=1:=by intro z a;simp only[bits,fq] at a;obtain⟨d,_,rfl⟩:=a;omega
def has (s:Nat) (d:Int):Bool:=decide (0<=d)&&decide (d<=63)&&decide (s/2^d.toNat%2=1)
def put (s:Nat) (d:Int):Nat:=if 0<=d/\d<=63 then num ((bits s).set d.toNat 1) else s
def fy (s:Nat) (d:Int) (h:s<18446744073709551616):put s d<18446744073709551616:=by
 unfold put;split
 ·have:=Lo ((bits s).set d.toNat 1) (fun z a=>by
   rcases lU a with h|h
   ·exact FW s z h
   ·omega)
  rw[jt,sq] at this;simpa using this
 ·exact h
def days (s:Nat) (a:Int):List Int:=((List.range 64).map Int.ofNat).filter fun d=>decide (a<=d)&&has s d
def next (s:Nat) (d:Int):Int:=(days s d).headD (-1)
def BT (s:Nat) (d:Int) (k:Nat):List Int:=((List.range k).map Int.ofNat).filter fun x=>decide (d<=x)&&has s x
def NK (s:Nat) (d:Int):days s d=BT s d 64:=rfl
def Pe (s:Nat) (d:Int) (k:Nat) (h:d<=k):BT s d (k+1)=BT s d k++if has s k then [(k:Int)] else []:=by unfold BT;rw[List.range_succ,gJ,nu];congr 1;simp only[gN,lG,Mo,List.filter_nil];rw[show Int.ofNat k=(k:Int) from rfl];simp[h]
def DN (s:Nat) (d:Int) (k:Nat) (h:(k:Int)<=d\/k=0):BT s d k=[]:=by unfold BT;rw[AW];intro x a;obtain⟨y,b,rfl⟩:=fq.1 a;have:=jz.1 b;have e: ¬d<=(y:Int):=oG;simp[e]
def SH (s:Nat) (d:Int) (k:Nat):(BT s d k).length<=k:=eZ (tQ _ _) sI
def first(d:Int) (l:List Int):Int:=(l.filter fun z=>decide (d<=z)).headD (-1)
end lJ
namespace jm
structure kc where
 kind:Int
 iL:Int
 jC:List Nat
 jU:Int
 size:Int
 start:Int
 lR:Int
 hold:Int
structure fS where
 days:Int
 mm:Int
 cap:Int
 len:Int
 eB:List kc
 gn:List (List Int)
def tq (z:Int):Prop:= -9223372036854775808<=z/\z<=9223372036854775807
def kc.wf (c:kc):Prop:=tq c.kind/\tq c.iL/\(∀s∈c.jC,s<18446744073709551616)/\tq c.jU/\tq c.size/\tq c.start/\tq c.lR/\tq c.hold
def fS.wf (x:fS):Prop:=tq x.days/\tq x.mm/\tq x.cap/\tq x.len/\(∀c∈x.eB,c.wf)/\(∀r∈x.gn,∀z∈r,tq z)
variable {x:fS}
def gP (n b a:Int):Bool:=decide (b<=n)&&decide (n<=a)
def kl (l:List Nat) (days:Int):Bool:=l.all (fun p=>decide (lJ.next p days<0))&&gP l 1 64
def wT (c:kc):Bool:=c.jU==0&&c.size==0&&c.start==0&&c.lR==0&&c.hold==0
def Du (c:kc):Bool:=c.lR==1||c.lR==2
def qH (c:kc):Bool:=decide (c.jC.length=0)&&c.iL==0
def Dh (c:kc) (days:Int):List Bool:=[gP c.iL 1 2147483648,kl c.jC days,wT c]
def xW (c:kc):List Bool:=[gP c.jU 0 2147483648,gP c.size 1 2147483648,gP c.start 0 c.size,Du c,gP c.hold 0 1024,qH c]
def jT (c:kc) (days:Int):Bool:=
 if c.kind=1 then(Dh c days).all id else if c.kind=2 then(xW c).all id else false
def vP (a b:Nat) (r:List Int):Bool:=decide (r.length=b)&&decide (r[a]?.getD 0=0)&&r.all fun d=>gP d 0 2147483648
def mU (b:Nat):Nat->List (List Int)->Bool
 |_,[]=>true
 |a,r::t=>vP a b r&&mU b (a+1) t
def pq (d:List (List Int)) (b:Nat):Bool:=decide (d.length=b)&&mU b 0 d
def may (x:fS):Bool:=
 gP x.days 1 64&&decide (x.eB.length<=2000)&&gP x.mm 0 2147483648&&gP x.cap 0 2147483648&&gP x.len 0 2147483648&&
 x.eB.all (fun c=>jT c x.days)&&pq x.gn (x.eB+1)
def Od (x:fS):Int:=if may x then 0 else 3
def Rx (h:may x=true):Od x=0:=by rw[Od,h];rfl
def AD (h:may x=false):Od x=3:=by rw[Od,h];rfl
def sm (d:List (List Int)) (a b:Int):Int:=if a<0\/b<0 then 0 else((d[a.toNat]?.getD [])[b.toNat]?).getD 0
end jm
namespace ue
def oy (c:UInt8):Bool:=decide (33<=c.toNat)&&decide (c.toNat<=126)
def isWord (w:List UInt8):Bool:= !w.isEmpty&&w.all oy
def scan (d:List (List (List UInt8))) (f:List (List UInt8)) (b:List UInt8):List UInt8->Option (List (List (List UInt8)))
 | []=>if b=[]/\f=[] then some d else none
 |c::t=>if c≠32/\c≠10 then(if oy c then scan d f (b++[c]) t else none)
  else if b=[] then none else if c=10 then scan (d++[f++[b]]) [] [] t else scan d (f++[b]) [] t
def nH (t:List UInt8):Option (List (List (List UInt8))):=scan [] [] [] t
def pieces (b:UInt8):List UInt8->List (List UInt8)
 | []=>[[]]
 |c::t=>if c=b then []::pieces b t else match pieces b t with
  | []=>[[c]]
  |h::r=>(c::h)::r
def wI (b:UInt8): ∀t,pieces b t≠[]
 | []=>by simp[pieces]
 |c::t=>by
  rw[pieces];split
  ·simp
  ·cases h:pieces b t with
   |nil=>simp
   |cons h r=>simp
def pre (b:List UInt8):List (List UInt8)->List (List UInt8)
 | []=>[b]
 |h::r=>(b++h)::r
def MW (a b:List UInt8) (l:List (List UInt8)):pre a (pre b l)=pre (a++b) l:=by cases l <;>simp[pre]
def pre_nil (l:List (List UInt8)) (h:l≠[]):pre [] l=l:=by
 cases l with
 |nil=>exact absurd rfl h
 |cons a t=>rfl
def sN (b c:UInt8) (t:List UInt8) (h:c≠b):pieces b (c::t)=pre [c] (pieces b t):=by rw[pieces,if_neg h];cases pieces b t <;>rfl
def Dl {c:UInt8} (h:oy c=true):c≠32/\c≠10:=by constructor <;>(intro e;subst e;revert h;decide)
def sG {b:List UInt8} (h:b.all oy=true):isWord b=true↔b≠[]:=by
 cases b with
 |nil=>simp[isWord]
 |cons a t=>simp[isWord,h]
def wN (rest:List UInt8): ∀(f:List UInt8) (d:List (List (List UInt8))) (l:List (List UInt8)) (b:List UInt8),(10:UInt8)∉f->b.all oy=true->
  scan d l b (f++10::rest)=if (pre b (pieces 32 f)).all isWord then scan (d++[l++pre b (pieces 32 f)]) [] [] rest else none
 | [],d,l,b,_,hc=>by
  have h:=sG hc;show scan d l b (10::rest)=_;rw[scan,if_neg dE];simp only[pieces,pre,mz,gi,lF,kF];by_cases e:b=[]
  ·rw[if_pos e,if_neg (fun j=>h.1 j e)]
  ·rw[if_neg e,if_pos (h.2 e)];simp
 |c::t,d,l,b,hn,hc=>by
  have i:(10:UInt8)∉t:=fun h=>hn (by simp[h]);have g:c≠10:=fun h=>hn (by simp[h]);rw[fY,scan];by_cases e:c=32
  ·subst e;rw[if_neg sI];have k:pieces 32 (32::t)=[]::pieces 32 t:=by rw[pieces,if_pos rfl]
   rw[k];have h:=sG hc;have n:pre b ([]::pieces 32 t)=b::pieces 32 t:=by simp[pre]
   rw[n,gi];by_cases e:b=[]
   ·rw[if_pos e,if_neg];intro j;simp only[a6] at j;exact h.1 j.1 e
   ·rw[if_neg e,if_neg dE,wN rest t d (l++[b]) [] i rfl,pre_nil _ (wI _ _),h.2 e,kh];simp
  ·rw[if_pos ⟨e,g⟩,sN _ _ _ e];by_cases m:oy c=true
   ·rw[if_pos m,wN rest t d l (b++[c]) i (by simp[hc,m]),MW]
   ·rw[if_neg m,if_neg];intro j;have o:pre b (pre [c] (pieces 32 t))=pre (b++[c]) (pieces 32 t):=MW _ _ _;rw[o] at j;cases k:pieces 32 t with
    |nil=>exact wI _ _ k
    |cons a r=>
     rw[k] at j;simp only[pre,gi,isWord,a6,my] at j
     simp_all
def AN: ∀(f:List UInt8) (d:List (List (List UInt8))) (l:List (List UInt8)) (b:List UInt8),(10:UInt8)∉f->(f≠[]\/l≠[]\/b≠[])->scan d l b f=none
 | [],d,l,b,_,h=>by rw[scan,if_neg];rintro⟨rfl,rfl⟩;simp at h
 |c::t,d,l,b,hn,_=>by
  have i:(10:UInt8)∉t:=fun h=>hn (by simp[h]);have g:c≠10:=fun h=>hn (by simp[h]);rw[scan];by_cases e:c=32
  ·subst e;rw[if_neg sI];by_cases e:b=[]
   ·rw[if_pos e]
   ·rw[if_neg e,if_neg dE];exact AN t d _ _ i (.inr (.inl sI))
  ·rw[if_pos ⟨e,g⟩];split
   ·exact AN t d _ _ i (.inr (.inr sI))
   ·rfl
def jw (b:UInt8):List (List UInt8)->List UInt8
 | []=>[]
 | [w]=>w
 |w::v::t=>w++b::jw b (v::t)
def kx (f:List (List UInt8)):List UInt8:=jw 32 f++[10]
def AK (b:UInt8): ∀(w:List UInt8),b∉w->pieces b w=[w]
 | [],_=>rfl
 |c::t,h=>by rw[pieces,if_neg (fun e=>h (by simp[e])),AK b t (fun e=>h (by simp[e]))]
def vO (b:UInt8): ∀(w t:List UInt8),b∉w->pieces b (w++b::t)=w::pieces b t
 | [],t,_=>by show pieces b (b::t)=_;rw[pieces,if_pos rfl]
 |c::w,t,h=>by rw[fY,pieces,if_neg (fun e=>h (by simp[e])),vO b w t (fun e=>h (by simp[e]))]
def Bq (b:UInt8): ∀(f:List (List UInt8)),f≠[]->(∀w∈f,b∉w)->pieces b (jw b f)=f
 | [],h,_=>absurd rfl h
 | [w],_,h=>by rw[jw,AK b w (h w sI)]
 |w::v::t,_,h=>by rw[jw,vO b w _ (h w sI),Bq b (v::t) sI (fun x a=>h x (by simp[a]))]
def Ai {w:List UInt8} (h:isWord w=true):(32:UInt8)∉w/\(10:UInt8)∉w:=by simp only[isWord,a6,dT] at h;exact⟨fun e=>(Dl (h.2 _ e)).1 rfl,fun e=>(Dl (h.2 _ e)).2 rfl⟩
def IB: ∀(f:List (List UInt8)),(∀w∈f,isWord w=true)->(10:UInt8)∉jw 32 f
 | [],_=>by simp[jw]
 | [w],h=>by rw[jw];exact(Ai (h w sI)).2
 |w::v::t,h=>by
  rw[jw,fO,fC];rintro(e|e|e)
  ·exact(Ai (h w sI)).2 e
  ·revert e;decide
  ·exact IB (v::t) (fun x a=>h x (by simp[a])) e
def LO (f:List (List UInt8)) (d:List (List (List UInt8))) (rest:List UInt8) (a:f≠[]) (i: ∀w∈f,isWord w=true):scan d [] [] (kx f++rest)=scan (d++[f]) [] [] rest:=by have k:=Bq 32 f a (fun w h=>(Ai (i w h)).1);rw[kx,gD];show scan d [] [] (jw 32 f++10::rest)=_;rw[wN rest _ d [] [] (IB f i) rfl,k,pre_nil _ a,if_pos (dT.2 i),gQ]
def Gg (L:List (List (List UInt8))) (h: ∀f∈L,f≠[]/\ ∀w∈f,isWord w=true):nH (L.flatMap kx)=some L:=by
 have: ∀(L d:List (List (List UInt8))),(∀f∈L,f≠[]/\ ∀w∈f,isWord w=true)->scan d [] [] (L.flatMap kx)=some (d++L):=by
  intro L
  induction L with
  |nil=>intro d _;simp[scan]
  |cons f L ih=>
   intro d h;rw[gG,LO f d _ (h f sI).1 (h f sI).2,ih _ (fun x a=>h x (by simp[a]))];simp
 exact this L [] h
def xo (l:List (List UInt8)) (b:List UInt8):List UInt8:=(l.flatMap fun w=>w++[32])++b
def CZ: ∀(l:List (List UInt8)) (b:List UInt8),kx (l++[b])=xo l b++[10]
 | [],b=>by simp[kx,jw,xo]
 | [w],b=>by simp[kx,jw,xo]
 |w::v::t,b=>by
  have:=CZ (v::t) b;simp only[kx,xo,fY,jw,gG] at this|-
  simp at this|-
  exact this
def wM: ∀(t:List UInt8) (d a:List (List (List UInt8))) (l:List (List UInt8)) (b:List UInt8),scan d l b t=some a->(∀f∈d,f≠[]/\ ∀w∈f,isWord w=true)->(∀w∈l,isWord w=true)->b.all oy=true->
  a.flatMap kx=d.flatMap kx++xo l b++t/\ ∀f∈a,f≠[]/\ ∀w∈f,isWord w=true
 | [],d,a,l,b,h,ho,_,_=>by
  rw[scan] at h;split at h
  ·rename_i e;obtain⟨rfl,rfl⟩:=e;injection h with h
   subst h;exact⟨by simp[xo],ho⟩
  ·cases h
 |c::t,d,a,l,b,h,ho,hl,hc=>by
  rw[scan] at h;split at h
  ·split at h
   ·rename_i e;have:=wM t d a l (b++[c]) h ho hl (by simp[hc,e]);refine⟨?_,this.2⟩;rw[this.1];simp[xo]
   ·cases h
  ·rename_i e;split at h
   ·cases h
   ·rename_i k;have i:isWord b=true:=(sG hc).2 k;split at h
    ·rename_i e;subst e;have:=wM t (d++[l++[b]]) a [] [] h (fun f m=>by
      rcases fO.1 m with h|h
      ·exact ho f h
      ·obtain rfl:f=l++[b]:=by simpa using h
       refine⟨by simp,fun w g=>?_⟩
       rcases fO.1 g with h|h
       ·exact hl w h
       ·obtain rfl:w=b:=by simpa using h
        exact i) sI rfl
     refine⟨?_,this.2⟩;rw[this.1,fU,gG,List.flatMap_nil,mz,CZ];simp[xo]
    ·have j:c=32:=by
      by_cases h:c=32
      ·exact h
      ·exact absurd ⟨h,by assumption⟩ e
     subst j;have:=wM t d a (l++[b]) [] h ho (fun w g=>by
      rcases fO.1 g with h|h
      ·exact hl w h
      ·obtain rfl:w=b:=by simpa using h
       exact i) rfl
     refine⟨?_,this.2⟩;rw[this.1];simp[xo]
def Bm {t:List UInt8} {a:List (List (List UInt8))} (h:nH t=some a):a.flatMap kx=t/\ ∀f∈a,f≠[]/\ ∀w∈f,isWord w=true:=by have:=wM t [] a [] [] h sI sI rfl;simpa[xo] using this
end ue
namespace ue
variable {c:UInt8} {l:List UInt8} {n:Int}
def qT (c:UInt8):Bool:=decide (48<=c.toNat)&&decide (c.toNat<=57)
@[irreducible] def stepV (n:Nat) (c:UInt8):Nat:=10*n+(c.toNat-48)
def yk (n:Nat) (l:List UInt8):Nat:=l.foldl stepV n
def isNum (l:List UInt8):Bool:= !l.isEmpty&&l.all qT&& !(l.head?==some 48&&decide (1<l.length))
def RE (l:List UInt8):Option Nat:=if isNum l then some (if 18<l.length then 1000000000000000000 else yk 0 l) else none
@[irreducible] def rU (n:Nat) (c:UInt8):Nat:=if 100000000000000000<=n then 1000000000000000000 else n*10+(c.toNat-48)
def mM (n:Nat) (l:List UInt8):Nat:=l.foldl rU n
def xH (n:Nat):mM n []=n:=rfl
def oM (n:Nat) (c:UInt8) (t:List UInt8):mM n (c::t)=mM (rU n c) t:=by unfold mM;exact rM ..
def Sf (n:Nat) (c:UInt8):stepV n c=10*n+(c.toNat-48):=by unfold stepV;exact Eq.refl _
def zu (n:Nat):yk n []=n:=rfl
def Ma (n:Nat) (c:UInt8) (t:List UInt8):yk n (c::t)=yk (stepV n c) t:=by unfold yk;exact rM ..
def GU (n:Nat) (c:UInt8) (t:List UInt8) (m:Nat) (h:stepV n c=m):yk n (c::t)=yk m t:=by subst h;exact Ma n c t
def sf (n:Nat) (c:UInt8) (t:List UInt8):yk n (c::t)=yk (10*n+(c.toNat-48)) t:=GU n c t _ (Sf n c)
def A5: ∀(l:List UInt8) (n:Nat) (c:UInt8),mM n (l++[c])=rU (mM n l) c
 | [],n,c=>by rw[gQ,oM,xH,xH]
 |d::l,n,c=>by rw[fY,oM,A5 l,oM]
def FB: ∀(l:List UInt8) (n:Nat) (c:UInt8),yk n (l++[c])=10*yk n l+(c.toNat-48)
 | [],n,c=>by rw[gQ,sf,zu,zu]
 |d::l,n,c=>by rw[fY,sf,FB l,sf]
def yN (h:qT c=true):48<=c.toNat/\c.toNat<=57:=by simpa[qT] using h
def EF: ∀(l:List UInt8) (n:Nat),l.all qT=true->n<=1000000000000000000->mM n l<=1000000000000000000
 | [],n,_,h=>h
 |c::t,n,h,hn=>by simp only[gi,a6] at h;have d:=yN h.1;rw[oM];refine EF t _ h.2 ?_;unfold rU;split <;>omega
def Cw: ∀(l:List UInt8),mM 1000000000000000000 l=1000000000000000000
 | []=>rfl
 |c::t=>by rw[oM,rU,if_pos oG,Cw t]
def Dp {a b:Nat} (h:a<=b):10^a<=10^b:=jk oG h
def Cy: ∀(t:List UInt8) (n j:Nat),t.all qT=true->10^j<=n->n<10^(j+1)->j<=17->mM n t=if 18<j+1+t.length then 1000000000000000000 else yk n t
 | [],n,j,_,_,_,hj=>by rw[if_neg sO,xH,zu]
 |c::t,n,j,h,h1,h2,hj=>by
  simp only[gi,a6] at h;have d:=yN h.1;rw[oM,sf,ff,rU];by_cases e:j=17
  ·subst e;rw[if_pos (by simpa using h1),Cw,if_pos oG]
  ·have b:10^(j+1)<=10^17:=Dp oG;have f:10^(j+1)<=n*10+(c.toNat-48):=by rw[js];omega
   have a:n*10+(c.toNat-48)<10^(j+1+1):=by rw[js 10 (j+1)];omega
   rw[if_neg oG,Cy t _ (j+1) h.2 f a oG,nY n 10];rw[show j+1+1+t.length=j+1+(t.length+1) by omega]
def Kn (h:isNum l=true):mM 0 l=if 18<l.length then 1000000000000000000 else yk 0 l:=by
 cases l with
 |nil=>simp[isNum] at h
 |cons c t=>
  simp only[isNum,gi,a6,acP,ql,PA,ff] at h;obtain⟨⟨_,d,g⟩,i⟩:=h;have d:=yN d;rw[oM,rU,if_neg oG,sf,Nat.mul_zero,vq,gW];by_cases e:c.toNat=48
  ·have f:c=48:=by apply BG.1;rw[e];rfl
   subst f;have:t=[]:=by
    cases t with
    |nil=>rfl
    |cons a b=>simp at i
   subst this;rfl
  ·rw[Cy t _ 0 g oG oG oG,ff,sY t.length]
def RF (h:isNum l=true):RE l=some (mM 0 l):=by rw[RE,if_pos h,Kn h]
def nx (d:Nat):UInt8:=UInt8.ofNat (48+d)
def yI (h:d<10):(nx d).toNat=48+d:=by unfold nx;rw[UInt8.toNat_ofNat_of_lt'];simp[UInt8.size];omega
def Ql (h:d<10):qT (nx d)=true:=by simp[qT,yI h];omega
def qP:Nat->Nat->List UInt8
 |0,_=>[]
 |k+1,n=>if n<10 then [nx n] else qP k (n/10)++[nx (n%10)]
def CC (k n:Nat) (h:n<10):qP (k+1) n=[nx n]:=by rw[qP,if_pos h]
def Kw (k n:Nat) (h:10<=n):qP (k+1) n=qP k (n/10)++[nx (n%10)]:=by rw[qP,if_neg oG]
def dec (n:Nat):List UInt8:=qP 20 n
def iN (n:Int):List UInt8:=if n<0 then 45::dec (-n).toNat else dec n.toNat
def F4: ∀(k n:Nat),n<10^k->1<=k->(qP k n).all qT=true/\yk 0 (qP k n)=n/\1<=(qP k n).length/\(qP k n).length<=k/\n<10^(qP k n).length/\(1<=n->10^((qP k n).length-1)<=n)/\((qP k n).head?=some 48->n=0/\(qP k n).length=1)
 |0,n,_,h=>absurd h oG
 |k+1,n,h,_=>by
  rw[qP];split
  ·rename_i e;refine⟨by simp[Ql e],?_,by simp,by simp,by simpa using e,fun h=>by simpa using h,fun h=>⟨?_,rfl⟩⟩
   ·rw[sf,zu,yI e];omega
   ·simp only[PA,lH] at h;have:=yI e;rw[h] at this;have r:(48:UInt8).toNat=48:=rfl;omega
  ·rename_i e;have s:1<=k:=by
    cases k with
    |zero=>simp at h;omega
    |succ k=>omega
   have t:n/10<10^k:=by rw[js] at h;omega
   obtain⟨g,i,b,p,q,d,j⟩:=F4 k (n/10) t s;have d:=d oG;have f:n%10<10:=oG;have l:(qP k (n/10)++[nx (n%10)]).length=(qP k (n/10)).length+1:=sI;rw[l];refine⟨by simp[g,Ql f],by rw[FB,i,yI f];omega,oG,oG,by rw[js];omega,fun _=>?_,fun h=>?_⟩
   ·obtain⟨m,o⟩: ∃m,(qP k (n/10)).length=m+1:=⟨_,(aco b).symm⟩;rw[o] at d|-
    simp only[G7] at d|-
    rw[js];omega
   ·rw[List.head?_append] at h;cases a:(qP k (n/10)).head? with
    |none=>
     rw[List.head?_eq_none_iff] at a;rw[a] at b;simp at b
    |some c=>
     rw[a] at h;have:=(j (by rw[a];simpa using h)).1;omega
def zZ (n:Nat) (h:n<100000000000000000000):(dec n).all qT=true/\yk 0 (dec n)=n/\1<=(dec n).length/\(dec n).length<=20/\n<10^(dec n).length/\(1<=n->10^((dec n).length-1)<=n)/\((dec n).head?=some 48->n=0/\(dec n).length=1):=
 F4 20 n (by simpa using h) oG
def EI (n:Nat) (h:n<100000000000000000000):isNum (dec n)=true:=by
 obtain⟨g,i,b,p,q,d,j⟩:=zZ n h;simp only[isNum,g,kF];have c:(dec n).isEmpty=false:=by
  cases f:dec n with
  |nil=>rw[f] at b;simp at b
  |cons a t=>rfl
 rw[c];simp only[Bool.not_false,kh,ql,pZ,beq_eq_false_iff_ne,decide_eq_false_iff_not];by_cases e:(dec n).head?=some 48
 ·exact .inr (by have:=(j e).2;omega)
 ·exact .inl e
def Ud (n:Nat) (h:n<=1000000000000000000):RE (dec n)=some n:=by
 obtain⟨g,i,b,p,q,d,j⟩:=zZ n oG;rw[RE,if_pos (EI n oG),i];split
 ·rename_i e;have a:1<=n:=by
   by_cases c:n=0
   ·subst c;have:(dec 0).length=1:=dE;omega
   ·omega
  have k:=d a;have f:10^18<=10^((dec n).length-1):=Dp oG;congr 1;omega
 ·rfl
def RH (h:0<=n) (a:n<=1000000000000000000):RE (iN n)=some n.toNat:=by rw[iN,if_neg oG];exact Ud _ oG
def CR (h:0<=n) (a:n<=9223372036854775807):isNum (iN n)=true:=by rw[iN,if_neg oG];exact EI _ oG
def Ii (h: -9223372036854775808<=n/\n<=9223372036854775807):1<=(iN n).length/\(iN n).length<=21:=by
 unfold iN;split
 ·have:=(zZ (-n).toNat oG).2.2.2.1;simp;omega
 ·have:=zZ n.toNat oG;exact⟨this.2.2.1,oG⟩
def QL (h:qT c=true):oy c=true:=by have:=yN h;simp[oy];omega
def mX (h: -9223372036854775808<=n/\n<=9223372036854775807):isWord (iN n)=true:=by
 have f: ∀m:Nat,m<100000000000000000000->(dec m).all oy=true:=fun m o=>by
  have:=(zZ m o).1;rw[dT] at this|-
  exact fun c d=>QL (this c d)
 have l:=(Ii h).1;have a:(iN n).all oy=true:=by
  unfold iN;split
  ·rw[gi,f _ oG];decide
  ·exact f _ oG
 exact(sG a).2 (fun e=>by rw[e] at l;simp at l)
end ue
namespace ko
open ue
abbrev vg:=Int×Int
abbrev Tr:=List vg
abbrev Dy:=List Tr
abbrev Pl:=List Dy
def ku (i:Nat) (t:Tr):List (Nat×vg):=t.map fun s=>(i,s)
def iP (i:Nat) (d:Dy):List (Nat×vg):=d.flatMap (ku i)
def iZ:Nat->Pl->List (Nat×vg)
 |_,[]=>[]
 |i,d::p=>iP i d++iZ (i+1) p
def nn (p:Pl):List (Nat×vg):=iZ 0 p
structure Small (p:Pl):Prop where
 days:p.length<=8
 acN: ∀d∈p,d.length<=6
 stops: ∀d∈p,∀t∈d,t.length<=8
end ko
namespace jm
def mQ (n a b:Int):Int:=a+(if n<0 then -(n+1) else n)%(b-a+1)
def lQ (n a b:Int) (h:a<=b):a<=mQ n a b/\mQ n a b<=b:=by unfold mQ;have c:=vf (if n<0 then -(n+1) else n) (show b-a+1≠0 by omega);have d:=rQ (if n<0 then -(n+1) else n) (show 0<b-a+1 by omega);omega
def kr (s:Nat):Nat->Nat
 |0=>0
 |d+1=>if lJ.has s d then lJ.put (kr s d) d else kr s d
def nP (l:List Nat) (days:Int):List Nat:=
 if l.take 4=[] then [1] else(l.take 4).map fun s=>kr s days.toNat
def qA (c:kc) (days:Int):kc:=
 if c.kind%2=0 then⟨2,0,[],mQ c.jU 0 9,mQ c.size 1 30,mQ c.start 0 (mQ c.size 1 30),mQ c.lR 1 2,mQ c.hold 0 4⟩
 else⟨1,mQ c.iL 1 15,nP c.jC days,0,0,0,0,0⟩
def pt (d:List (List Int)) (n i:Nat):List Int:=(List.range n).map fun k=>if i=k then 0 else mQ (sm d i k) 0 60
def nC (x:fS):fS:=
 let days:=mQ x.days 1 7
 let a:=(x.eB.take 6).map fun c=>qA c days
 ⟨days,mQ x.mm 0 5,mQ x.cap 0 40,mQ x.len 0 300,a,(List.range (a+1)).map fun i=>pt x.gn (a+1) i⟩
def oQ (d:List (List Int)) (n i:Nat):(pt d n i).length=n:=by simp[pt]
def Be (d:List (List Int)) (n i k:Nat) (h:k<n):(pt d n i)[k]? =some (if i=k then 0 else mQ (sm d i k) 0 60):=by simp[pt,h]
def V3 (d:List (List Int)) (a b:Int) (h: ∀r∈d,∀z∈r,tq z):tq (sm d a b):=by
 have c:tq 0:=⟨oG,oG⟩;unfold sm;split
 ·exact c
 ·cases e:d[a.toNat]? with
  |none=>simpa using c
  |some r=>
   simp only[Mr];cases f:r[b.toNat]? with
   |none=>exact c
   |some z=>exact h r (a8 e) z (a8 f)
end jm
namespace jm
def sc (D:List (List Int)):Int->List Int->Int
 |a,[]=>sm D a 0
 |a,c::t=>sm D a (c+1)+sc D (c+1) t
def Mc (D:List (List Int)):List Int->Int
 | []=>0
 |c::t=>sc D 0 (c::t)
def TZ (D:List (List Int)):List Int->Int
 |a::b::t=>sm D (a+1) (b+1)+TZ D (b::t)
 |_=>0
def BC (D:List (List Int)): ∀(t:List Int) (a c:Int),sc D a (c::t)=sm D a (c+1)+TZ D (c::t)+sm D (((c::t).getLast?.getD 0)+1) 0
 | [],a,c=>by simp[sc,TZ]
 |b::t,a,c=>by rw[sc,BC D t (c+1) b,TZ];simp[List.getLast?_cons_cons];omega
def Kd (D:List (List Int)):Prop:= ∀a b,0<=sm D a b/\sm D a b<=2147483648
end jm
namespace kN
open jm ko
variable {K:Nat} {a t:Tr} {c:kc} {d:Dy} {s:vg} {x:fS}
def xd (n:Nat) (s:vg):Prop:=(0<=s.1/\s.1<n)/\(0<=s.2/\s.2<=2147483648)
def jK (n:Nat) (t:Tr):Prop:= ∀s∈t,xd n s
def yw (d:Dy):Nat:=(d.map fun t=>t.length+1).sum
structure jS (n K:Nat) (d:Dy):Prop where
 st: ∀t∈d,jK n t
 wt:yw d<=K
def jK.jL (n:Nat):jK n []:=fun s h=>by simp at h
def jK.append {b:Tr} (c:jK n a) (d:jK n b):jK n (a++b):=fun s h=>(fO.1 h).elim (c s) (d s)
def jK.one (h:xd n s):jK n [s]:=fun x a=>by simp at a;subst a;exact h
def jK.take (c:jK n a) (k:Nat):jK n (a.take k):=fun s h=>c s (mh h)
def jK.drop (c:jK n a) (k:Nat):jK n (a.drop k):=fun s h=>c s (jj h)
def jK.rev (c:jK n a):jK n a.reverse:=fun s h=>c s (List.mem_reverse.1 h)
def jK.get (c:jK n a) (h:a[i]? =some s):xd n s:=c s (a8 h)
def jK.eB (b:n<=1000000) (c:jK n a): ∀z∈a.map Prod.fst,0<=z/\z<=1000000000:=by intro z d;obtain⟨s,j,rfl⟩:=fq.1 d;have:=c s j;unfold xd at this;omega
def Ni:yw []=0:=rfl
def qM (t:Tr) (d:Dy):yw (t::d)=t.length+1+yw d:=by simp[yw]
def zD (d:Dy) (t:Tr):yw (d++[t])=yw d+(t.length+1):=by simp[yw]
def zC: ∀d:Dy,d.length<=yw d
 | []=>ij _
 |t::d=>by have:=zC d;rw[qM,ff];omega
def Nh: ∀{d:Dy} {t:Tr},t∈d->t.length+1<=yw d
 |a::d,t,h=>by
  rw[qM]
  rcases fC.1 h with rfl|h
  ·omega
  ·have:=Nh h;omega
def uB: ∀(d:Dy) (k:Nat),yw (d.take k)<=yw d
 | [],k=>by simp
 |t::d,0=>by simp[Ni]
 |t::d,k+1=>by have:=uB d k;rw[rq,qM,qM];omega
def rz {k:Nat} (h:d[k]? =some t):yw (d.take (k+1))=yw (d.take k)+(t.length+1):=by rw[gk,h];exact zD _ _
def jS.jL (n K:Nat):jS n K []:=⟨fun t h=>by simp at h,eC _⟩
def jS.len (h:jS n K d):d.length<=K:=eZ (zC d) h.wt
def jS.Su (h:jS n K d) (a:t∈d):t.length+1<=K:=eZ (Nh a) h.wt
def jS.mono {a:Nat} (h:jS n K d) (l:K<=a):jS n a d:=⟨h.st,eZ h.wt l⟩
def jS.get (h:jS n K d) (a:d[i]? =some t):jK n t/\t.length+1<=K:=⟨h.st t (a8 a),h.Su (a8 a)⟩
def vB: ∀d:Dy,d.flatten.length<=yw d
 | []=>ij _
 |t::d=>by have:=vB d;rw[qM,qm,fa];omega
def TK (h: ∀t∈d,jK n t):jK n d.flatten:=fun s j=>by obtain⟨t,a,j⟩:=List.mem_flatten.1 j;exact h t a s j
structure ga (x:fS):Prop where
 may:may x=true
 wf:x.wf
def Kk {α:Type} {p:α->Bool} {l:List α} (h:l.all p=true) {a:α} (c:a∈l):p a=true:=dT.1 h a c
def qy {n b a:Int} (h:gP n b a=true):b<=n/\n<=a:=by unfold gP at h;simp only[a6,decide_eq_true_eq] at h;exact h
def ga.head (h:ga x):(1<=x.days/\x.days<=64)/\x.eB.length<=2000/\(0<=x.mm/\x.mm<=2147483648)/\(0<=x.cap/\x.cap<=2147483648)/\(0<=x.len/\x.len<=2147483648):=by have:=h.may;unfold jm.may at this;simp only[a6,decide_eq_true_eq] at this;obtain⟨⟨⟨⟨⟨⟨b,a⟩,f⟩,g⟩,e⟩,i⟩,k⟩:=this;exact⟨qy b,a,qy f,qy g,qy e⟩
def ga.Kp (h:ga x) (d:c∈x.eB):jT c x.days=true:=by have:=h.may;unfold jm.may at this;simp only[a6] at this;exact Kk this.1.2 d
def Jl: ∀(n k:Nat) (D:List (List Int)),mU n k D=true-> ∀r∈D,r.length=n/\ ∀z∈r,0<=z/\z<=2147483648
 |n,k,[],_,r,hr=>by simp at hr
 |n,k,a::D,h,r,hr=>by
  rw[mU,a6] at h
  rcases fC.1 hr with rfl|hr
  ·have b:=h.1;unfold vP at b;simp only[a6,decide_eq_true_eq] at b;exact⟨b.1.1,fun z d=>qy (Kk b.2 d)⟩
  ·exact Jl n (k+1) D h.2 r hr
def ga.gn (h:ga x):x.gn.length=x.eB.length+1/\ ∀r∈x.gn,r.length=x.eB.length+1/\ ∀z∈r,0<=z/\z<=2147483648:=by have:=h.may;unfold jm.may at this;simp only[a6] at this;have a:=this.2;unfold pq at a;simp only[a6,decide_eq_true_eq] at a;exact⟨a.1,Jl _ _ _ a.2⟩
def ga.V4 (h:ga x):Kd x.gn:=by
 intro a b;unfold sm;by_cases c:a<0\/b<0
 ·rw[if_pos c];omega
 ·rw[if_neg c];cases e:x.gn[a.toNat]? with
  |none=>simp
  |some r=>
   simp only[Mr];cases d:r[b.toNat]? with
   |none=>simp
   |some z=>exact(h.gn.2 r (a8 e)).2 z (a8 d)
def ga.Sq (h:ga x) (d:c∈x.eB) (l:c.kind=2):(0<=c.jU/\c.jU<=2147483648)/\(1<=c.size/\c.size<=2147483648)/\(0<=c.start/\c.start<=c.size)/\(c.lR=1\/c.lR=2)/\(0<=c.hold/\c.hold<=1024)/\c.jC=[]/\c.iL=0:=by have:=h.Kp d;unfold jT at this;rw[if_neg oG,if_pos l] at this;unfold xW Du qH at this;simp only[gi,lF,id,a6,hU,beq_iff_eq,decide_eq_true_eq,and_true] at this;obtain⟨b,a,f,g,e,i,k⟩:=this;exact⟨qy b,qy a,qy f,g,qy e,rX.1 i,k⟩
def ga.kind (h:ga x) (d:c∈x.eB):c.kind=1\/c.kind=2:=by
 have:=h.Kp d;unfold jT at this;by_cases b:c.kind=1
 ·exact .inl b
 ·rw[if_neg b] at this;by_cases a:c.kind=2
  ·exact .inr a
  ·rw[if_neg a] at this;cases this
def ga.Dn (h:ga x) (d:c∈x.eB) (l:c.kind=1):(1<=c.iL/\c.iL<=2147483648)/\(1<=c.jC.length/\c.jC.length<=64)/\(∀s∈c.jC,lJ.next s x.days<0)/\c.jU=0/\c.size=0/\c.start=0/\c.lR=0/\c.hold=0:=by have:=h.Kp d;unfold jT at this;rw[if_pos l] at this;unfold Dh kl wT at this;simp only[gi,lF,id,a6,beq_iff_eq,and_true] at this;obtain⟨b,⟨a,f⟩,⟨⟨⟨g,e⟩,i⟩,k⟩,m⟩:=this;have n:=qy f;exact⟨qy b,oG,fun s j=>by have:=Kk a j;simpa using this,g,e,i,k,m⟩
def ga.Tw (h:ga x) (d:c∈x.eB):(0<=c.iL/\c.iL<=2147483648)/\c.jC.length<=64/\(0<=c.jU/\c.jU<=2147483648)/\(0<=c.size/\c.size<=2147483648)/\(0<=c.start/\c.start<=c.size)/\(0<=c.hold/\c.hold<=1024):=by
 rcases h.kind d with hk|hk
 ·obtain⟨b,a,-,g,e,i,k,m⟩:=h.Dn d hk;refine⟨oG,a.2,oG,oG,oG,oG⟩
 ·obtain⟨b,a,f,g,e,i,k⟩:=h.Sq d hk;refine⟨oG,by rw[i];simp,b,oG,f,e⟩
end kN
namespace J8
open ko kN
theorem VC{p:Prop}(h:p:=by refine⟨rfl,rfl,zT (nh oG oG) (nh oG oG) (nh oG oG) (nh oG oG) (ka _ _ _ _),zT (ka _ _ _ _) (ka _ _ _ _) (ka _ _ _ _) (ka _ _ _ _) (ka _ _ _ _),fun h=>absurd rfl h,fun _=>?_⟩;simp only[wK,yY,uy];omega):p:=h
variable {a b i j lb x y:Int} {t:Bool}
abbrev Pc:=Int×Int×Int×Bool
def zP:Pc:=(0,0,0,false)
def tG (p:Pc):Int:=if p.2.1<p.2.2.1 then p.2.2.1-p.2.1 else 0
def rowLen (r:List Pc):Int:=(r.map tG).sum
def Nr (a b c lb:Int) (p:Pc):Prop:=p.2.1<p.2.2.1->0<=p.2.1/\((p.1=a/\p.2.2.1<=c)\/(p.1=b/\p.2.2.1<=lb))
structure tW (a b la lb:Int) (r1 r2:List Pc):Prop where
 l1:r1.length=5
 l2:r2.length=5
 o1: ∀p∈r1,Nr a b la lb p
 o2: ∀p∈r2,Nr a b la lb p
 sD:a≠b->rowLen r1+rowLen r2<=la+lb
 sS:a=b->rowLen r1<=la
def ka (a b c lb:Int):Nr a b c lb zP:=fun h=>absurd h (by simp[zP])
def nh (g:0<=x) (f:y<=c):Nr a b c lb (a,x,y,t):=fun _=>⟨g,.inl ⟨rfl,f⟩⟩
def yd (g:0<=x) (f:y<=lb):Nr a b c lb (b,x,y,t):=fun _=>⟨g,.inr ⟨rfl,f⟩⟩
def zT {P:Pc->Prop} {a b d e g:Pc} (f:P a) (h:P b) (i:P d) (j:P e) (k:P g): ∀p∈[a,b,d,e,g],P p:=by
 intro p c;simp only[fC,iy,or_false] at c
 rcases c with rfl|rfl|rfl|rfl|rfl <;>assumption
def uy (t x y:Int) (b:Bool):tG (t,x,y,b)=if x<y then y-x else 0:=rfl
def wK (a b d e g:Pc):rowLen [a,b,d,e,g]=tG a+(tG b+(tG d+(tG e+tG g))):=by simp[rowLen]
def yY:tG zP=0:=by simp[tG,zP]
def Jk (h:0<=i/\i<j/\j<c):tW a a c lb [(a,0,i,false),(a,i,j+1,true),(a,j+1,c,false),zP,zP] [zP,zP,zP,zP,zP]:=by refine⟨rfl,rfl,zT (nh oG oG) (nh oG oG) (nh oG oG) (ka _ _ _ _) (ka _ _ _ _),zT (ka _ _ _ _) (ka _ _ _ _) (ka _ _ _ _) (ka _ _ _ _) (ka _ _ _ _),fun h=>absurd rfl h,fun _=>?_⟩;simp only[wK,yY,uy];omega
def Ej (d:a≠b) (h:0<=i/\i<c/\0<=j/\j<=lb):tW a b c lb [(a,0,i,false),(a,i+1,c,false),zP,zP,zP] [(b,0,j,false),(a,i,i+1,false),(b,j,lb,false),zP,zP]:=by refine⟨rfl,rfl,zT (nh oG oG) (nh oG oG) (ka _ _ _ _) (ka _ _ _ _) (ka _ _ _ _),zT (yd oG oG) (nh oG oG) (yd oG oG) (ka _ _ _ _) (ka _ _ _ _),fun _=>?_,fun h=>absurd h d⟩;simp only[wK,yY,uy];omega
def Ek (h:0<=i/\i<c/\0<=j/\j<=c-1) (b:i<j):tW a a c lb [(a,0,i,false),(a,i+1,j+1,false),(a,i,i+1,false),(a,j+1,c,false),zP] [zP,zP,zP,zP,zP]:=by exact VC
def Ei (h:0<=i/\i<c/\0<=j/\j<=c-1) (b:j<=i):tW a a c lb [(a,0,j,false),(a,i,i+1,false),(a,j,i,false),(a,i+1,c,false),zP] [zP,zP,zP,zP,zP]:=by exact VC
def GA (h:i<j/\0<=i/\i<c/\0<=j/\j<c):tW a a c lb [(a,0,i,false),(a,j,j+1,false),(a,i+1,j,false),(a,i,i+1,false),(a,j+1,c,false)] [zP,zP,zP,zP,zP]:=by refine⟨rfl,rfl,zT (nh oG oG) (nh oG oG) (nh oG oG) (nh oG oG) (nh oG oG),zT (ka _ _ _ _) (ka _ _ _ _) (ka _ _ _ _) (ka _ _ _ _) (ka _ _ _ _),fun h=>absurd rfl h,fun _=>?_⟩;simp only[wK,uy];omega
def Gz (d:a≠b) (h:0<=i/\i<c/\0<=j/\j<lb):tW a b c lb [(a,0,i,false),(b,j,j+1,false),(a,i+1,c,false),zP,zP] [(b,0,j,false),(a,i,i+1,false),(b,j+1,lb,false),zP,zP]:=by refine⟨rfl,rfl,zT (nh oG oG) (yd oG oG) (nh oG oG) (ka _ _ _ _) (ka _ _ _ _),zT (yd oG oG) (nh oG oG) (yd oG oG) (ka _ _ _ _) (ka _ _ _ _),fun _=>?_,fun h=>absurd h d⟩;simp only[wK,yY,uy];omega
def Gy (d:a≠b) (h:0<=i/\i<=c/\0<=j/\j<=lb):tW a b c lb [(a,0,i,false),(b,j,lb,false),zP,zP,zP] [(b,0,j,false),(a,i,c,false),zP,zP,zP]:=by refine⟨rfl,rfl,zT (nh oG oG) (yd oG oG) (ka _ _ _ _) (ka _ _ _ _) (ka _ _ _ _),zT (yd oG oG) (nh oG oG) (ka _ _ _ _) (ka _ _ _ _) (ka _ _ _ _),fun _=>?_,fun h=>absurd h d⟩;simp only[wK,yY,uy];omega
def lA (d:Dy) (r:List Pc):Prop:=r.length=5/\ ∀p∈r,p.2.1<p.2.2.1->0<=p.2.1/\0<=p.1/\ ∃t,d[p.1.toNat]? =some t/\p.2.2.1<=t
def DT:List Pc:=[zP,zP,zP,zP,zP]
def Dr (d:Dy):lA d DT:=⟨rfl,zT (fun h=>absurd h (by simp[zP])) (fun h=>absurd h (by simp[zP])) (fun h=>absurd h (by simp[zP])) (fun h=>absurd h (by simp[zP])) (fun h=>absurd h (by simp[zP]))⟩
structure FM (d:Dy) (a b:Int) (r1 r2:List Pc) (ok:Bool):Prop where
 o1:lA d r1
 o2:lA d r2
 ab:ok=true->0<=a/\0<=b/\ ∃ta tb,d[a.toNat]? =some ta/\d[b.toNat]? =some tb/\(a≠b->rowLen r1+rowLen r2<=ta.length+tb.length)/\(a=b->rowLen r1<=ta)
def E7 (d:Dy) (a b:Int):FM d a b DT DT false:=⟨Dr d,Dr d,fun h=>by cases h⟩
def KW {d:Dy} {k l:Tr} {n o:List Pc} (q:0<=a) (r:0<=b) (i:d[a.toNat]? =some k) (j:d[b.toNat]? =some l) (h:tW a b k l n o):FM d a b n o true:=by
 have key: ∀p:Pc,Nr a b k l p->p.2.1<p.2.2.1->0<=p.2.1/\0<=p.1/\ ∃t,d[p.1.toNat]? =some t/\p.2.2.1<=t.length:=by
  intro p c m;obtain⟨g,f⟩:=c m
  rcases f with ⟨e,f⟩|⟨e,f⟩
  ·exact⟨g,oG,k,by rw[e];exact i,f⟩
  ·exact⟨g,oG,l,by rw[e];exact j,f⟩
 exact⟨⟨h.l1,fun p c=>key p (h.o1 p c)⟩,⟨h.l2,fun p c=>key p (h.o2 p c)⟩,fun _=>⟨q,r,k,l,i,j,h.sD,h.sS⟩⟩
end J8
section
open Go Go.RowKit jm
structure Yh where
 r:List Value
def yX (x:fS) (A1:Option Addr) (c1:Nat) (A2:Option Addr) (c2:Nat) (r:List Value):Yh:=match x,A1,c1,A2,c2 with|_,_,_,_,_=>⟨r⟩
instance {x:fS} {A1:Option Addr} {c1:Nat} {A2:Option Addr} {c2:Nat} {r:List Value}:CoeDep Yh (yX x A1 c1 A2 c2 r) (List Value):=⟨.int .i64 x.days:: .int .i64 x.mm:: .int .i64 x.cap:: .int .i64 x.len:: .slice A1 x.eB.length c1:: .slice A2 x.gn.length c2::r⟩
end
namespace B4
open jm ko kN
variable {d:Dy} {p:Nat} {s:vg}
def qU (l:List Int):List Int:=l.mergeSort fun x y=>decide (x<=y)
def uU (l:List Int):(qU l).Pairwise (· <= ·):=by have:=List.pairwise_mergeSort (le:=fun x y:Int=>decide (x<=y)) (fun a b c f d=>by simp only[decide_eq_true_eq] at f d|-;omega) (fun a b=>by simp only[hU,decide_eq_true_eq];omega) l;exact this.imp fun h=>by simpa using h
def yi (l:List Int):(qU l).Perm l:=List.mergeSort_perm _ _
def Cm (L:List Int):Prop:= ∀i x y,L[i]? =some x->L[i+1]? =some y->x≠y
def IV {L:List Int} (h:L.Pairwise (· <= ·)) (j:Cm L):L.Nodup:=by
 induction L with
 |nil=>exact List.nodup_nil
 |cons x L c=>
  rw[ack] at h;rw[nM];have c:=c h.2 fun i u v g k=>j (i+1) u v g k;refine⟨fun b=>?_,c⟩;cases L with
  |nil=>cases b
  |cons y L=>
   have a:=j 0 x y rfl rfl;have f:=h.1 y (.head _)
   rcases fC.1 b with e|b
   ·exact a e
   ·have d:=(ack.1 h.2).1 x b;omega
def oN (d:Dy):List Int:=d.flatten.map Prod.fst
def wG: ∀{n:Nat} {l:List Nat},l.Nodup->(∀z∈l,z<n)->l.length<=n
 |0,l,_,h=>by cases l with
  |nil=>simp
  |cons x l=>exact absurd (h x (.head _)) oG
 |n+1,l,hn,h=>by
  have f:=wG (n:=n) (hn.erase n) fun z c=>by have d:=(List.Nodup.mem_erase_iff hn).1 c;have:=h z d.2;have:=d.1;omega
  rw[List.length_erase] at f;split at f <;>omega
def Hs {l:List Int} (h: ∀z∈l,0<=z/\z<n) (i:l.Nodup):l.length<=n:=by
 have f:(l.map Int.toNat).Nodup:=by rw[List.Nodup,acR];exact i.imp_of_mem fun{a b} ha hb hne e=>hne (by have:=h a ha;have:=h b hb;omega)
 have:=wG (n:=n) f fun k g=>by obtain⟨z,c,rfl⟩:=fq.1 g;have:=h z c;omega
 simpa using this
structure D1 (n:Nat) (d:Dy):Prop where
 st: ∀t∈d,jK n t
 ne: ∀t∈d,t≠[]
 nd:(oN d).Nodup
def J2: ∀{d:Dy},(∀t∈d,t≠[])->yw d<=2*d.flatten.length
 | [],_=>ij _
 |t::d,h=>by have:=J2 (d:=d) fun u g=>h u (.tail _ g);have a:0<t.length:=jQ.2 (h t (.head _));rw[qM,qm,fa];omega
def D1.flat (h:D1 n d):d.flatten.length<=n:=by
 have:=Hs (l:=oN d) (n:=n) (fun z c=>by obtain⟨s,f,rfl⟩:=fq.1 c;exact(TK h.st s f).1) h.nd
 rwa [oN,fm] at this
def D1.dy (h:D1 n d):jS n (2*n) d:=⟨h.st,by have:=J2 h.ne;have:=h.flat;omega⟩
def D1.own (b: ∀t∈d,jK n t) (a: ∀t∈d,t≠[]) (e:(oN d).Nodup) (f:xd n s) (i:s.1∉oN d):D1 n (d++[[s]]):=by
 refine⟨fun t c=>?_,fun t c=>?_,?_⟩
 ·rcases fO.1 c with h|h
  ·exact b t h
  ·simp at h;subst h;exact jK.one f
 ·rcases fO.1 c with h|h
  ·exact a t h
  ·simp at h;subst h;simp
 ·have:(oN (d++[[s]])).Perm (s.1::oN d):=by unfold oN;rw[aat,gJ];simp
  exact this.nodup_iff.2 (nM.2 ⟨i,e⟩)
def Gq (d:Dy) (k p:Nat) (s:vg):Dy:=d.modify k fun t=>t.take p++s::t.drop p
def Fj: ∀{d:Dy} {k p:Nat} {s:vg} {t:Tr},d[k]? =some t->(Gq d k p s).flatten.Perm (s::d.flatten)
 |t::d,0,p,s,u,h=>by
  simp only[Gq,List.modify_zero_cons,qm];have f:(t.take p++s::t.drop p).Perm (s::t):=by
   have:=ade (a:=s) (l₁:=t.take p) (l₂:=t.drop p)
   rwa [lV] at this
  exact f.append_right _
 |t::d,k+1,p,s,u,h=>by simp only[Gq,List.modify_succ_cons,qm];have:=Fj (d:=d) (k:=k) (p:=p) (s:=s) (t:=u) (by simpa using h);exact(this.append_left t).trans (ade)
def I9 {u:Tr} (h:u∈Gq d k p s):u∈d\/ ∃t∈d,u=t.take p++s::t.drop p:=by
 obtain⟨i,a⟩:=gz.1 h;unfold Gq at a;rw[aaf] at a;cases b:d[i]? with
 |none=>rw[b] at a;simp at a
 |some t=>
  rw[b] at a;by_cases g:k=i
  ·simp[g] at a;exact .inr ⟨t,a8 b,a.symm⟩
  ·simp[g] at a;exact .inl (a▸a8 b)
def D1.put {t:Tr} (b: ∀t∈d,jK n t) (a: ∀t∈d,t≠[]) (e:(oN d).Nodup) (f:xd n s) (i:s.1∉oN d) (c:d[k]? =some t):D1 n (Gq d k p s):=by
 refine⟨fun u g=>?_,fun u g=>?_,?_⟩
 ·rcases I9 g with h|⟨t,c,rfl⟩
  ·exact b u h
  ·exact((b t c).take p).append (show jK n ([s]++t.drop p) from(jK.one f).append ((b t c).drop p))
 ·rcases I9 g with h|⟨t,c,rfl⟩
  ·exact a u h
  ·simp
 ·have:(oN (Gq d k p s)).Perm (s.1::oN d):=(Fj c).map _;exact this.nodup_iff.2 (nM.2 ⟨i,e⟩)
end B4
namespace ue
open Go
def index_one (c:UInt8): ∀(p q:List UInt8),c∉p->Lib.index (p++c::q) [c]=p.length
 | [],q,_=>by simp[Lib.index,List.isPrefixOf]
 |b::p,q,h=>by
  have d:c≠b:=fun e=>h (by simp[e]);have f:=index_one c p q (fun e=>h (by simp[e]));rw[fY,Lib.index];have a:([c]:List UInt8).isPrefixOf (b::(p++c::q))=false:=by simp[List.isPrefixOf,d]
  rw[a,f];have:((p.length:Int)== -1)=false:=by rw[beq_eq_false_iff_ne];omega
  simp[this]
def index_none (c:UInt8): ∀(p:List UInt8),c∉p->Lib.index p [c]= -1
 | [],_=>by simp[Lib.index]
 |b::p,h=>by
  have d:c≠b:=fun e=>h (by simp[e]);have f:=index_none c p (fun e=>h (by simp[e]));rw[Lib.index];have a:([c]:List UInt8).isPrefixOf (b::p)=false:=by simp[List.isPrefixOf,d]
  rw[a,f];simp
def DB (c:UInt8): ∀(s:List UInt8),c∈s-> ∃p q,s=p++c::q/\c∉p
 | [],h=>by simp at h
 |b::t,h=>by
  by_cases e:b=c
  ·subst e;exact⟨[],t,rfl,by simp⟩
  ·obtain⟨p,q,a,d⟩:=DB c t (by
    rcases fC.1 h with h|h
    ·exact absurd h.symm e
    ·exact h)
   exact⟨b::p,q,by rw[a];rfl,by simp[d,jN e]⟩
def xt (c:UInt8): ∀(k:Nat) (s:List UInt8),s.count c=k->Lib.splitK [c] 0 k s=pieces c s
 |0,s,h=>by rw[AK c s (acj.1 h)];rfl
 |k+1,s,h=>by
  obtain⟨p,q,rfl,a⟩:=DB c s (List.count_pos_iff.1 oG);have b:q.count c=k:=by rw[List.count_append,List.count_cons,acj.2 a] at h;simp at h;exact h
  rw[Lib.splitK,index_one c p q a,vO c p q a];have:((p.length:Int)== -1)=false:=by rw[beq_eq_false_iff_ne];omega
  rw[this];simp only[gu,gv,List.length_singleton];rw[if_neg sI,List.take_left,show p++c::q=(p++[c])++q by simp,List.drop_left' sI,xt c k q b]
def xr (c:UInt8) (s:ByteArray):(Lib.splitB ⟨#[c]⟩ 0 (Lib.countB s ⟨#[c]⟩) s).map (·.data.toList)=pieces c s.data.toList:=by rw[Lib.splitB_data];refine xt c _ _ ?_;exact(Lib.count_one c s.data.toList).symm
def Tx (c:UInt8) (p q:List UInt8) (h:c∉p):Lib.cut (p++c::q) [c]=(p,q,true):=by unfold Lib.cut;rw[index_one c p q h,if_pos oG];simp
def Qi (c:UInt8) (p:List UInt8) (h:c∉p):Lib.cut p [c]=(p,[],false):=by unfold Lib.cut;rw[index_none c p h,if_neg oG]
def CW (b:UInt8): ∀a:List (List UInt8),Lib.join a [b]=jw b a
 | []=>by simp[Lib.join,jw]
 | [w]=>by simp[Lib.join,jw]
 |w::v::t=>by
  have:=CW b (v::t);unfold Lib.join at this|-
  rw[jw,<-this];simp[List.intercalate]
end ue
namespace uf
open ue jm
abbrev Word:=List UInt8
abbrev kW:=List Word
def nI (x:Word):Int:=((if isNum x then mM 0 x else 0:Nat):Int)
def rK:Word:=[116,114,97,110,116,101,114]
def JS:Word:=[49]
def BA:Word:=[100,97,121,115]
def JT:Word:=[118,101,104,105,99,108,101,115]
def JQ:Word:=[99,97,112,97,99,105,116,121]
def JR:Word:=[108,101,110,103,116,104]
def Bz:Word:=[99,117,115,116,111,109,101,114,115]
def nt:Word:=[118,105,115,105,116]
def qh:Word:=[116,97,110,107]
def FC:Word:=[102,105,108,108]
def Pm:Word:=[97,110,121]
def BB:Word:=[100,105,115,116,97,110,99,101,115]
def jV (s n:Nat):Word:=(List.range n).map fun d=>if s/2^d%2=1 then 49 else 48
def rh:Word->Nat
 | []=>0
 |c::l=>(if c=49 then 1 else 0)+2*rh l
def sQ (w:Word):Bool:= !w.isEmpty&&w.all fun c=>c==48||c==49
def vp (w:Word):Nat:=if 64<w.length then 0 else rh w
def kq (days:Int) (c:kc):kW:=
 if c.kind=1 then nt::iN c.iL::c.jC.map fun s=>jV s days.toNat
 else [qh,iN c.jU,iN c.size,iN c.start,if c.lR=1 then FC else Pm,iN c.hold]
def lh (x:fS):List kW:=[[rK,JS],[BA,iN x.days,JT,iN x.mm,JQ,iN x.cap,JR,iN x.len],[Bz,iN x.eB]]
def iR (x:fS):List kW:=lh x++(x.eB.map (kq x.days)++([BB]::x.gn.map fun r=>r.map iN))
def na (x:fS):List UInt8:=(iR x).flatMap kx
structure Rd where
 rest:List kW
 x:fS
 count:Int
 odd:Bool
def qV:fS:=⟨0,0,0,0,[],[]⟩
def mw:List Word->kW->Option (List Word)
 | [],[]=>some []
 |n::ns,a::b::l=>if a=n then(mw ns l).map fun t=>b::t else none
 |_,_=>none
def qF (a:List Word) (b:kW):Option (List Int):=(mw a b).bind fun c=>if c.all isNum then some (c.map nI) else none
def fV (st:Rd):kW×Rd:=match st.rest with
 | []=>([],st)
 |l::r=>(l,{st with rest:=r})
def uX (st:Rd):Option Rd:=if (fV st).1=[rK,JS] then some (fV st).2 else none
def pQ (st:Rd):Option Rd:=match qF [BA,JT,JQ,JR] (fV st).1 with
 |some [a,b,c,d]=>some {(fV st).2 with x:=⟨a,b,c,d,st.x.eB,st.x.gn⟩}
 |_=>none
def BM (st:Rd):Option Rd:=match qF [Bz] (fV st).1 with
 |some [n]=>some {(fV st).2 with count:=n}
 |_=>none
def oX (days:Int):List Word->Option (kc×Bool)
 | []=>none
 |d::ps=>if isNum d&&ps.all sQ then some (⟨1,nI d,ps.map vp,0,0,0,0,0⟩,ps.any fun p=>decide ((p.length:Int)≠days)) else none
def tY (r:Word):Option Int:=if r=FC then some 1 else if r=Pm then some 2 else none
def qJ:List Word->Option (kc×Bool)
 | [a,b,c,r,h]=>if isNum a&&isNum b&&isNum c&&isNum h then(tY r).map fun u=>(⟨2,0,[],nI a,nI b,nI c,u,nI h⟩,false) else none
 |_=>none
def yF (days:Int):kW->Option (kc×Bool)
 | []=>none
 |w::l=>if w=nt then oX days l else if w=qh then qJ l else none
def rT (st:Rd):Option Rd:=(yF st.x.days (fV st).1).map fun c=>
 {(fV st).2 with x:=⟨st.x.days,st.x.mm,st.x.cap,st.x.len,st.x.eB++[c.1],st.x.gn⟩,odd:=st.odd||c.2}
def pE:Nat->Rd->Option Rd
 |0,st=>some st
 |n+1,st=>(rT st).bind (pE n)
def Gw (st:Rd):Option Rd:=if (fV st).1.all isNum&&decide (((fV st).1.length:Int)=st.count+1) then
 some {(fV st).2 with x:=⟨st.x.days,st.x.mm,st.x.cap,st.x.len,st.x.eB,st.x.gn++[(fV st).1.map nI]⟩} else none
def xq:Nat->Rd->Option Rd
 |0,st=>some st
 |n+1,st=>(Gw st).bind (xq n)
def sB (st:Rd):Option Rd:=if (fV st).1=[BB] then xq (st.count+1).toNat (fV st).2 else none
def Ij (st:Rd):Option Rd:=if st.rest=[] then some st else none
def vk (L:List kW):Option Rd:=(uX ⟨L,qV,0,false⟩).bind fun st=>(pQ st).bind fun st=>(BM st).bind fun st=>(pE st.count.toNat st).bind fun st=>(sB st).bind Ij
def kU (t:List UInt8):fS×Int:=match (nH t).bind vk with
 |none=>(qV,2)
 |some st=>if st.odd|| !may st.x then(qV,3) else(st.x,0)
end uf
namespace uf
open ue jm
variable {n:Int} {x:fS}
def GH (s n:Nat):jV s (n+1)=(if s%2=1 then 49 else 48)::jV (s/2) n:=by unfold jV;rw[Xl,gN,kK];simp only[Nat.pow_zero,Nat.div_one];congr 1;refine oI fun d _=>?_;simp only[Function.comp];rw[Nat.pow_succ',mN]
def oV (s n:Nat):(jV s n).length=n:=by simp[jV]
def Ft: ∀n s:Nat,rh (jV s n)=s%2^n
 |0,s=>by simp[jV,rh,pC]
 |n+1,s=>by
  rw[GH,rh,Ft n,Nat.pow_succ',Nat.mod_mul];by_cases h:s%2=1
  ·simp[h]
  ·simp[h];omega
def Dw {n:Nat} (h:0<n):sQ (jV s n)=true:=by
 unfold sQ;have f:(jV s n).isEmpty=false:=by
  have:=oV s n;cases g:jV s n with
  |nil=>rw[g] at this;simp at this;omega
  |cons a l=>rfl
 rw[f];simp only[Bool.not_false,kh];rw[dT];intro c i;unfold jV at i;obtain⟨d,_,rfl⟩:=fq.1 i;split <;>rfl
def Ox {n:Nat} (p:n<=64) (g:s<2^n):vp (jV s n)=s:=by unfold vp;rw[oV,if_neg oG,Ft,zJ g]
def Uc {n:Nat} (p:n<=64) (g:s<18446744073709551616) (h:lJ.next s n<0):s<2^n:=by
 refine Nat.lt_pow_two_of_testBit s fun i j=>?_;rw[J7,decide_eq_false_iff_not];intro f;by_cases e:i<64
 ·have b:(i:Int)∈lJ.days s n:=by unfold lJ.days;rw[mC];refine⟨fq.2 ⟨i,jz.2 e,rfl⟩,?_⟩;simp only[lJ.has,a6,decide_eq_true_eq,gu];omega
  have c: ∀z∈lJ.days s n,0<=z:=fun z d=>by unfold lJ.days at d;rw[mC,a6,decide_eq_true_eq] at d;omega
  unfold lJ.next at h;cases k:lJ.days s n with
  |nil=>rw[k] at b;simp at b
  |cons a l=>
   rw[k] at h c;have:=c a sI;simp at h;omega
 ·have:s<2^i:=bP g (jk (n:=2) dE (show 64<=i by omega):2^64<=2^i);rw[adh this] at f;simp at f
def sH (h:0<=n) (f:n<=1000000000000000000):nI (iN n)=n:=by
 have e:=RH h f;have g:=CR h oG;rw[RF g] at e;injection e with e
 unfold nI;rw[if_pos g,e];omega
def qD (h:0<=n) (f:n<=1000000000000000000):isNum (iN n)=true:=CR h oG
def oj {a j:Int}:gP n a j=true↔a<=n/\n<=j:=by simp[gP]
def Kr {c:kc} {days:Int} (j:1<=days) (k:days<=64) (q:c.wf) (b:jT c days=true):yF days (kq days c)=some (c,false):=by
 obtain⟨d,h,a,u,size,r,v,t⟩:=c;unfold jT at b;simp only at b;by_cases f:d=1
 ·subst f;simp only[if_true,Dh,gi,lF,id,kF,a6,kl,wT,oj,beq_iff_eq] at b;obtain⟨x,⟨n,-⟩,⟨⟨⟨rfl,rfl⟩,rfl⟩,rfl⟩,rfl⟩:=b;rw[dT] at n;unfold kq;simp only[if_true];unfold yF;simp only[if_true];simp only[oX];have w:((days.toNat:Nat):Int)=days:=oG;have y: ∀s∈a,vp (jV s days.toNat)=s:=fun s g=>Ox oG (Uc oG (q.2.2.1 s g) (by have:=n s g;rw[decide_eq_true_eq] at this;rw[w];exact this));rw[qD oG oG,sH oG oG,kK];have l:(a.map fun s=>jV s days.toNat).all sQ=true:=by rw[Xj,dT];exact fun s _=>Dw oG
  have m:a.map (vp∘fun s=>jV s days.toNat)=a:=by
   conv=>rhs;rw[<-Nl a]
   exact oI fun s g=>y s g
  have o:((a.map fun s=>jV s days.toNat).any fun p=>decide ((p.length:Int)≠days))=false:=by rw[List.any_map,J6];intro s _;simp only[Function.comp,oV,decide_eq_true_eq];omega
  rw[l,m,o];rfl
 ·rw[if_neg f] at b;by_cases e:d=2
  ·subst e;simp only[if_true,xW,gi,lF,id,kF,a6,qH,Du,oj,beq_iff_eq,hU,decide_eq_true_eq] at b;obtain⟨i,g,B,z,A,n,rfl⟩:=b;obtain rfl:a=[]:=gj n;unfold kq;simp only[show¬(2:Int)=1 by omega,if_false];unfold yF;simp only[show¬qh=nt by decide,if_false,if_true];simp only[qJ];rw[qD oG oG,qD oG oG,qD oG oG,qD oG oG,sH oG oG,sH oG oG,sH oG oG,sH oG oG];simp only[Bool.and_self,if_true]
   rcases z with rfl|rfl
   ·rfl
   ·simp only[show¬(2:Int)=1 by omega,if_false];rfl
  ·rw[if_neg e] at b;cases b
def xY (l:kW) (r:List kW) (x:fS) (n:Int) (o:Bool):fV ⟨l::r,x,n,o⟩=(l,⟨r,x,n,o⟩):=rfl
def yG (j:1<=x.days) (k:x.days<=64) (n:Int) (rest:List kW): ∀(cs:List kc) (a:List kc),(∀c∈cs,c.wf/\jT c x.days=true)->
  pE cs ⟨cs.map (kq x.days)++rest,⟨x.days,x.mm,x.cap,x.len,a,[]⟩,n,false⟩=some ⟨rest,⟨x.days,x.mm,x.cap,x.len,a++cs,[]⟩,n,false⟩
 | [],a,_=>by simp[pE]
 |c::cs,a,h=>by rw[ff,pE,gN,fY,rT,xY];simp only;rw[Kr j k (h c sI).1 (h c sI).2];simp only[lL,kn,Bool.or_self];rw[yG j k n rest cs (a++[c]) fun c' i=>h c' (by simp[i]),gD];rfl
def Br (n:Nat) (rest:List kW): ∀(b:List (List Int)) (a:List (List Int)),(∀r∈b,r.length=n+1/\ ∀z∈r,0<=z/\z<=2147483648)->
  xq b ⟨(b.map fun r=>r.map iN)++rest,⟨x.days,x.mm,x.cap,x.len,x.eB,a⟩,n,false⟩=some ⟨rest,⟨x.days,x.mm,x.cap,x.len,x.eB,a++b⟩,n,false⟩
 | [],a,_=>by simp[xq]
 |r::b,a,h=>by
  obtain⟨f,e⟩:=h r sI;have l:(r.map iN).all isNum=true:=by rw[Xj,dT];exact fun z d=>qD (e z d).1 (by have:=(e z d).2;omega)
  have m:(r.map iN).map nI=r:=by
   rw[kK]
   conv=>rhs;rw[<-Nl r]
   exact oI fun z d=>sH (e z d).1 (by have:=(e z d).2;omega)
  rw[ff,xq,gN,fY,Gw,xY];simp only;rw[l,m,fm,f];simp only[kh,Pz,Int.cast_ofNat_Int,decide_true,if_true,kn];rw[Br n rest b (a++[r]) fun c i=>h c (by simp[i]),gD];rfl
def AE (h:may x=true):(1<=x.days/\x.days<=64)/\x.eB.length<=2000/\(0<=x.mm/\x.mm<=2147483648)/\(0<=x.cap/\x.cap<=2147483648)/\(0<=x.len/\x.len<=2147483648)/\
  (∀c∈x.eB,jT c x.days=true)/\x.gn.length=x.eB.length+1/\ ∀r∈x.gn,r.length=x.eB.length+1/\ ∀z∈r,0<=z/\z<=2147483648:=by
 simp only[may,a6,oj,decide_eq_true_eq,pq,dT] at h;obtain⟨⟨⟨⟨⟨⟨f,e⟩,g⟩,l⟩,m⟩,j⟩,k,n⟩:=h;refine⟨f,e,g,l,m,j,k,?_⟩;have: ∀(d:List (List Int)) (a p:Nat),mU p a d=true-> ∀r∈d,r.length=p/\ ∀z∈r,0<=z/\z<=2147483648:=by
  intro d
  induction d with
  |nil=>intro a p _ r i;cases i
  |cons r0 d ih=>
   intro a p b r i;rw[mU,a6] at b
   rcases fC.1 i with rfl|i
   ·have:=b.1;simp only[vP,a6,decide_eq_true_eq,dT,oj] at this;exact⟨this.1.1,this.2⟩
   ·exact ih _ _ b.2 r i
 exact this _ _ _ n
def LK (q:x.wf) (b:may x=true) (a:List kW):vk (iR x++a)=if a=[] then some ⟨[],x,x.eB.length,false⟩ else none:=by
 obtain⟨⟨g,s⟩,e,⟨d,t⟩,⟨c0,c1⟩,⟨f,u⟩,j,k,n⟩:=AE b;have p:(((x.eB.length:Nat):Int))<=2000:=oG;have l:uX ⟨iR x++a,qV,0,false⟩=some ⟨[BA,iN x.days,JT,iN x.mm,JQ,iN x.cap,JR,iN x.len]::[Bz,iN x.eB]::(x.eB.map (kq x.days)++([BB]::((x.gn.map fun r=>r.map iN)++a))),qV,0,false⟩:=by simp[uX,iR,lh,fV]
 have m: ∀r,pQ ⟨[BA,iN x.days,JT,iN x.mm,JQ,iN x.cap,JR,iN x.len]::r,qV,0,false⟩=some ⟨r,⟨x.days,x.mm,x.cap,x.len,[],[]⟩,0,false⟩:=by intro r;simp[pQ,fV,qF,mw,qD (show(0:Int)<=x.days by omega) oG,qD d oG,qD c0 oG,qD f oG,sH (show(0:Int)<=x.days by omega) oG,sH d oG,sH c0 oG,sH f oG,qV]
 have o: ∀r y,BM ⟨[Bz,iN x.eB]::r,y,0,false⟩=some ⟨r,y,x.eB.length,false⟩:=by intro r y;simp[BM,fV,qF,mw,qD (show(0:Int)<=(x.eB.length:Int) by omega) oG,sH (show(0:Int)<=(x.eB.length:Int) by omega) oG]
 unfold vk;rw[l];simp only[kn];rw[m];simp only[kn];rw[o];simp only[kn,gu];rw[yG g s _ _ _ _ fun c i=>⟨q.2.2.2.2.1 c i,j c i⟩];simp only[kn,gQ];unfold sB;rw[xY];simp only[if_true];rw[show((x.eB.length:Int)+1).toNat=x.gn.length by rw[k];omega];rw[Br x.eB.length a x.gn [] n];simp only[kn,gQ,Ij];by_cases h:a=[]
 ·rw[if_pos h,if_pos h,h]
 ·rw[if_neg h,if_neg h]
end uf
namespace uf
open ue jm
def Fe (w:Word):0<=nI w:=by unfold nI;omega
def xX: ∀(f:List Word) (c:kW) (d:List Word),mw f c=some d->d.length=f/\c=(f.zip d).flatMap fun p=>[p.1,p.2]
 | [],[],d,h=>by
  obtain rfl:[]=d:=by simpa[mw] using h
  exact⟨rfl,rfl⟩
 | [],_::_,d,h=>by simp[mw] at h
 |n::f,[],d,h=>by simp[mw] at h
 |n::f,[_],d,h=>by simp[mw] at h
 |n::f,a::b::l,d,h=>by
  rw[mw] at h;by_cases e:a=n
  ·rw[if_pos e] at h;cases g:mw f l with
   |none=>rw[g] at h;simp at h
   |some t=>
    rw[g] at h;obtain rfl:b::t=d:=by simpa using h
    obtain⟨i,j⟩:=xX f l t g;subst e;exact⟨by simp[i],by rw[j];rfl⟩
  ·rw[if_neg e] at h;simp at h
def uL {f:List Word} {c:kW} {m:List Int} (h:qF f c=some m): ∃d:List Word,d.length=f/\c=((f.zip d).flatMap fun p=>[p.1,p.2])/\d.all isNum=true/\m=d.map nI:=by
 unfold qF at h;cases g:mw f c with
 |none=>rw[g] at h;simp at h
 |some d=>
  rw[g] at h;simp only[kn] at h;by_cases e:d.all isNum=true
  ·rw[if_pos e] at h;obtain⟨i,j⟩:=xX f c d g;exact⟨d,i,j,e,by simpa using h.symm⟩
  ·rw[if_neg e] at h;cases h
end uf
namespace uf
open ue jm
end uf
namespace uf
open ue jm
variable {x:fS}
def GI {s n:Nat} (h:0<n):isWord (jV s n)=true:=by
 have:=Dw (s:=s) h;unfold sQ at this;rw[a6,dT] at this;unfold isWord;rw[a6,dT];refine⟨this.1,fun c f=>?_⟩;have:=this.2 c f;simp only[hU,beq_iff_eq] at this
 rcases this with rfl|rfl <;>decide
def Ib {c:kc} {days:Int} (f:1<=days) (a:c.wf):kq days c≠[]/\ ∀w∈kq days c,isWord w=true:=by
 unfold kq;split
 ·refine⟨by simp,fun w h=>?_⟩
  rcases fC.1 h with rfl|h
  ·decide
  rcases fC.1 h with rfl|h
  ·exact mX a.2.1
  ·obtain⟨s,_,rfl⟩:=fq.1 h;exact GI oG
 ·refine⟨by simp,fun w h=>?_⟩;obtain⟨-,-,-,b,e,i,-,d⟩:=a;simp only[fC,iy,or_false] at h
  rcases h with rfl|rfl|rfl|rfl|rfl|rfl
  ·decide
  ·exact mX b
  ·exact mX e
  ·exact mX i
  ·split <;>decide
  ·exact mX d
def Gb (a:x.wf) (b:may x=true): ∀g∈iR x,g≠[]/\ ∀w∈g,isWord w=true:=by
 obtain⟨⟨j,o⟩,u,⟨p,q⟩,⟨c0,c1⟩,⟨s,t⟩,i,v,d⟩:=AE b;intro g h;unfold iR lh at h
 rcases fO.1 h with h|h
 ·simp only[fC,iy,or_false] at h
  rcases h with rfl|rfl|rfl
  ·decide
  ·refine⟨by simp,fun w h=>?_⟩;simp only[fC,iy,or_false] at h
   rcases h with rfl|rfl|rfl|rfl|rfl|rfl|rfl|rfl
   ·decide
   ·exact mX oG
   ·decide
   ·exact mX oG
   ·decide
   ·exact mX oG
   ·decide
   ·exact mX oG
  ·refine⟨by simp,fun w h=>?_⟩;simp only[fC,iy,or_false] at h
   rcases h with rfl|rfl
   ·decide
   ·exact mX oG
 ·rcases fO.1 h with h|h
  ·obtain⟨c,f,rfl⟩:=fq.1 h;exact Ib j (a.2.2.2.2.1 c f)
  ·rcases fC.1 h with rfl|h
   ·decide
   ·obtain⟨r,m,rfl⟩:=fq.1 h;obtain⟨k,l⟩:=d r m;refine⟨fun e=>?_,fun w a=>?_⟩
    ·have:=congrArg List.length e;rw[fm,k] at this;simp at this
    ·obtain⟨z,n,rfl⟩:=fq.1 a;exact mX (by have:=l z n;omega)
def C2 (a:x.wf) (b:may x=true):nH (na x)=some (iR x):=Gg _ (Gb a b)
def I3 (a:x.wf) (b:may x=true):kU (na x)=(x,0):=by have h:=LK a b [];rw[mz,if_pos rfl] at h;unfold kU;rw[C2 a b];simp only[kn,h,b];rfl
def Lw {t:List UInt8} (h:nH t=none):kU t=(qV,2):=by unfold kU;rw[h];rfl
end uf
namespace uf
open ue jm
variable {c:kc} {days:Int} {f st:Rd} {l:List Word} {o:Bool}
def VJ (w:Word):nI w<=1000000000000000000:=by
 unfold nI;split
 ·rename_i h;have:=EF w 0 (by unfold isNum at h;simp only[a6] at h;first|exact h.1.2|exact h.2|exact h.1|exact h.1.1.2) oG;omega
 ·omega
def xD (w:Word):tq (nI w):=by have:=VJ w;have:=Fe w;unfold tq;omega
def xf:tq 0:=by unfold tq;omega
def Vl:tq 1:=by unfold tq;omega
def Vm:tq 2:=by unfold tq;omega
def zh: ∀w:Word,rh w<2^w.length
 | []=>by simp[rh]
 |c::l=>by have:=zh l;unfold rh;rw[ff,js];split <;>omega
def UA (w:Word):vp w<18446744073709551616:=by
 unfold vp;split
 ·omega
 ·exact bP (zh w) (jk oG (show w.length<=64 by omega))
def Ph (h:oX days l=some (c,o)):c.wf:=by
 cases l with
 |nil=>cases h
 |cons d ps=>
  simp only[oX] at h;split at h
  ·obtain⟨rfl,-⟩:=Np (fg h);refine⟨Vl,xD _,fun s i=>?_,xf,xf,xf,xf,xf⟩;obtain⟨p,-,rfl⟩:=fq.1 i;exact UA p
  ·cases h
def Sr (h:qJ l=some (c,o)):c.wf:=by
 unfold qJ at h;split at h
 ·split at h
  ·obtain⟨u,a,b⟩:=mP.1 h;obtain⟨rfl,-⟩:=Np b;refine⟨Vm,xf,fun s i=>by simp at i,xD _,xD _,xD _,?_,xD _⟩;unfold tY at a;split at a
   ·obtain rfl:=fg a;exact Vl
   ·split at a
    ·obtain rfl:=fg a;exact Vm
    ·cases a
  ·cases h
 ·cases h
def Qh {l:kW} (h:yF days l=some (c,o)):c.wf:=by
 cases l with
 |nil=>cases h
 |cons w l=>
  simp only[yF] at h;split at h
  ·exact Ph h
  ·split at h
   ·exact Sr h
   ·cases h
def ra (st:Rd):(fV st).2.x=st.x/\(fV st).2.count=st.count/\(fV st).2.rest.length<=st.rest.length:=by
 unfold fV;split
 ·exact⟨rfl,rfl,lE⟩
 ·rename_i e;exact⟨rfl,rfl,by rw[e];simp⟩
def Lj (h:(fV st).1≠[]):(fV st).2.rest.length+1=st.rest.length:=by
 unfold fV at h|-
 split
 ·rename_i e;rw[e] at h;exact absurd rfl h
 ·rename_i e;rw[e];rfl
structure pH (n:Nat) (st:Rd):Prop where
 wf:st.x.wf
 lo:0<=st.count
 hi:st.count<=1000000000000000000
 len:st.x.eB.length+st.rest.length<=n
def Vc:qV.wf:=⟨xf,xf,xf,xf,fun c a=>by simp[qV] at a,fun c a=>by simp[qV] at a⟩
def pH.start (L:List kW):pH L.length ⟨L,qV,0,false⟩:=⟨Vc,by simp,by simp,by simp[qV]⟩
def pH.title (h:pH n st) (i:uX st=some f):pH n f/\f.x.eB=st.x.eB/\f.x.gn=st.x.gn:=by
 unfold uX at i;split at i
 ·obtain rfl:=fg i;obtain⟨j,g,l⟩:=ra st;exact⟨⟨by rw[j];exact h.wf,by rw[g];exact h.lo,by rw[g];exact h.hi,by rw[j];have:=h.len;omega⟩,by rw[j],by rw[j]⟩
 ·cases i
def pH.Wo (h:pH n st) (i:pQ st=some f):pH n f/\f.x.eB=st.x.eB/\f.x.gn=st.x.gn:=by
 unfold pQ at i;split at i
 ·rename_i a b c d q;obtain⟨r,-,-,-,o⟩:=uL q;have e: ∀z∈[a,b,c,d],tq z:=fun z k=>by rw[o] at k;obtain⟨w,-,rfl⟩:=fq.1 k;exact xD w
  obtain rfl:=fg i;obtain⟨j,g,l⟩:=ra st;obtain⟨-,-,-,-,m,p⟩:=h.wf;exact⟨⟨⟨e a sI,e b sI,e c sI,e d sI,m,p⟩,by show 0<=(fV st).2.count;rw[g];exact h.lo,by show(fV st).2.count<=_;rw[g];exact h.hi,by have:=h.len;show st.x.eB.length+(fV st).2.rest.length<=n;omega⟩,rfl,rfl⟩
 ·cases i
def pH.how (h:pH n st) (i:BM st=some f):pH n f/\f.x.eB=st.x.eB/\f.x.gn=st.x.gn:=by
 unfold BM at i;split at i
 ·rename_i k q;obtain⟨r,-,-,-,o⟩:=uL q;have a:0<=k/\k<=1000000000000000000:=by
   have:k∈r.map nI:=by rw[<-o];simp
   obtain⟨w,-,rfl⟩:=fq.1 this;exact⟨Fe w,VJ w⟩
  obtain rfl:=fg i;obtain⟨j,g,l⟩:=ra st;exact⟨⟨by show(fV st).2.x.wf;rw[j];exact h.wf,a.1,a.2,by show(fV st).2.x.eB.length+(fV st).2.rest.length<=n;rw[j];have:=h.len;omega⟩,by show(fV st).2.x.eB=_;rw[j],by show(fV st).2.x.gn=_;rw[j]⟩
 ·cases i
def pH.Kp (h:pH n st) (i:rT st=some f):pH n f/\f.x.gn=st.x.gn:=by
 unfold rT at i;obtain⟨⟨c,o⟩,a,rfl⟩:=mP.1 i;have k:(fV st).1≠[]:=fun e=>by rw[e] at a;cases a
 have r:=Lj k;obtain⟨j,g,l⟩:=ra st;obtain⟨w1,q,s,t,m,p⟩:=h.wf;refine⟨⟨⟨w1,q,s,t,fun d b=>?_,p⟩,by show 0<=(fV st).2.count;rw[g];exact h.lo,by show(fV st).2.count<=_;rw[g];exact h.hi,?_⟩,rfl⟩
 ·rcases fO.1 b with b|b
  ·exact m d b
  ·obtain rfl:d=c:=by simpa using b
   exact Qh a
 ·show(st.x.eB++[c]).length+(fV st).2.rest.length<=n;have:=h.len;simp;omega
def pH.eB: ∀(k:Nat) {st f:Rd},pH n st->pE k st=some f->pH n f/\f.x.gn=st.x.gn
 |0,st,f,h,hs=>by obtain rfl:=fg hs;exact⟨h,rfl⟩
 |k+1,st,f,h,hs=>by obtain⟨m,j,g⟩:=zK.1 hs;obtain⟨l,e⟩:=h.Kp j;obtain⟨d,a⟩:=pH.eB k l g;exact⟨d,a.trans e⟩
def pH.row (h:pH n st) (i:Gw st=some f):pH n f:=by
 unfold Gw at i;split at i
 ·obtain rfl:=fg i;obtain⟨j,g,l⟩:=ra st;obtain⟨w1,q,s,t,m,p⟩:=h.wf;refine⟨⟨w1,q,s,t,m,fun r a z k=>?_⟩,by show 0<=(fV st).2.count;rw[g];exact h.lo,by show(fV st).2.count<=_;rw[g];exact h.hi,by have:=h.len;show st.x.eB.length+(fV st).2.rest.length<=n;omega⟩
  rcases fO.1 a with a|a
  ·exact p r a z k
  ·obtain rfl:r=(fV st).1.map nI:=by simpa using a
   obtain⟨w,-,rfl⟩:=fq.1 k;exact xD w
 ·cases i
def pH.rows: ∀(k:Nat) {st f:Rd},pH n st->xq k st=some f->pH n f
 |0,st,f,h,hs=>by obtain rfl:=fg hs;exact h
 |k+1,st,f,h,hs=>by obtain⟨m,j,g⟩:=zK.1 hs;exact pH.rows k (h.row j) g
def pH.gn (h:pH n st) (i:sB st=some f):pH n f:=by
 unfold sB at i;split at i
 ·obtain⟨j,g,l⟩:=ra st;exact pH.rows _ ⟨by rw[j];exact h.wf,by rw[g];exact h.lo,by rw[g];exact h.hi,by rw[j];have:=h.len;omega⟩ i
 ·cases i
def part:Nat->Rd->Option Rd
 |0=>uX
 |1=>pQ
 |2=>BM
 |3=>fun st=>pE st.count.toNat st
 |4=>sB
 |5=>Ij
 |_=>fun _=>none
def tJ (L:List kW):Nat->Option Rd
 |0=>some ⟨L,qV,0,false⟩
 |i+1=>(tJ L i).bind (part i)
def DE (L:List kW):tJ L 6=vk L:=by unfold vk;simp only[tJ,part,Option.bind_assoc,kn]
def DC (L:List kW) (h:tJ L i=none): ∀d,tJ L (i+d)=none
 |0=>h
 |d+1=>by show(tJ L (i+d)).bind (part (i+d))=none;rw[DC L h d];rfl
def LW (L:List kW) {s:Rd} (h:tJ L i=some s) (a:part i s=none) (b:i<6):vk L=none:=by
 have j:tJ L (i+1)=none:=by show(tJ L i).bind (part i)=none;rw[h];exact a
 have:=DC L j (5-i);rw[show i+1+(5-i)=6 by omega,DE] at this;exact this
def DD (L:List kW): ∀(i:Nat) {s:Rd},i<=6->tJ L i=some s->pH L s/\(i<=3->s.x.eB=[])/\(i<=4->s.x.gn=[])
 |0,s,_,h=>by obtain rfl:=fg h;exact⟨pH.start L,fun _=>rfl,fun _=>rfl⟩
 |i+1,s,hi,h=>by
  obtain⟨m,j,g⟩:=zK.1 (show(tJ L i).bind (part i)=some s from h);obtain⟨l,e,d⟩:=DD L i oG j
  match i,hi,e,d,g with
  |0,_,e,d,g=>obtain⟨a,b,c⟩:=l.title g;exact⟨a,fun _=>b.trans (e oG),fun _=>c.trans (d oG)⟩
  |1,_,e,d,g=>obtain⟨a,b,c⟩:=l.Wo g;exact⟨a,fun _=>b.trans (e oG),fun _=>c.trans (d oG)⟩
  |2,_,e,d,g=>obtain⟨a,b,c⟩:=l.how g;exact⟨a,fun _=>b.trans (e oG),fun _=>c.trans (d oG)⟩
  |3,_,e,d,g=>obtain⟨a,c⟩:=pH.eB _ l g;exact⟨a,fun h=>oG,fun _=>c.trans (d oG)⟩
  |4,_,e,d,g=>exact⟨l.gn g,fun h=>oG,fun h=>oG⟩
  |5,_,e,d,g=>
   simp only[part,Ij] at g;split at g
   ·obtain rfl:=fg g;exact⟨l,fun h=>oG,fun h=>oG⟩
   ·cases g
  |n+6,hi,_,_,_=>omega
end uf
namespace uf
open ue jm
variable {c:kc} {days:Int} {l:kW} {x:fS}
def DX (x:fS) (k:Nat):List UInt8:=((iR x).take k).flatMap kx
def SB (x:fS):DX x 0=[]:=rfl
def qK (h:(iR x)[k]? =some l):DX x (k+1)=DX x k++kx l:=by unfold DX;rw[gk,h,lY,fU];simp
def BL (L:List kW) (k:Nat):((L.take k).flatMap kx).length<=(L.flatMap kx).length:=by
 conv=>rhs;rw[<-lV k L,fU,fa]
 omega
def AR (x:fS) (k:Nat):(DX x k).length<=(na x).length:=BL _ k
def abM (x:fS):(iR x)[0]? =some [rK,JS]:=rfl
def abN (x:fS):(iR x)[1]? =some [BA,iN x.days,JT,iN x.mm,JQ,iN x.cap,JR,iN x.len]:=rfl
def abO (x:fS):(iR x)[2]? =some [Bz,iN x.eB]:=rfl
def TQ {i:Nat} (h:x.eB[i]? =some c):(iR x)[3+i]? =some (kq x.days c):=by have a:i<x.eB.length:=(bX.1 h).1;unfold iR;rw[fo (by simp[lh]),show 3+i-(lh x).length=i by simp[lh],fu (by simpa using a),fh,h];rfl
def TR (x:fS):(iR x)[3+x.eB.length]? =some [BB]:=by unfold iR;rw[fo (by simp[lh]),show 3+x.eB.length-(lh x).length=x.eB.length by simp[lh],fo sI];simp
def Wm {j:Nat} {r:List Int} (h:x.gn[j]? =some r):(iR x)[3+x.eB.length+1+j]? =some (r.map iN):=by unfold iR;rw[fo (by simp[lh];omega),show 3+x.eB.length+1+j-(lh x).length=x.eB.length+(1+j) by simp[lh];omega,fo sI];simp only[fm,rY];rw[sY 1 j,fD,fh,h];rfl
def UL (x:fS):DX x (3+x.eB.length+1+x.gn.length)=na x:=by unfold DX na;rw[fj];simp[iR,lh];omega
def IH (h:(iR x)[k]? =some l):(DX x k).length+(kx l).length<=(na x).length:=by have:=AR x (k+1);rw[qK h,fa] at this;exact this
def EH (a:jT c days=true):c.jC.length<=64:=by
 unfold jT at a;split at a
 ·simp only[Dh,gi,lF,id,kF,a6,kl,oj] at a;omega
 ·split at a
  ·simp only[xW,gi,lF,id,kF,a6,qH,decide_eq_true_eq] at a;omega
  ·cases a
def oO {n:Int} (h:tq n):(iN n).length<=21:=(Ii h).2
def FZ (d:days<=64) (b:c.wf) (a:jT c days=true):(kq days c).length<=1000/\ ∀w∈kq days c,w.length<=1000:=by
 have j:=EH a;obtain⟨w1,e,k,f,g,h,l,i⟩:=b;unfold kq;split
 ·refine⟨by simp;omega,fun w b=>?_⟩;simp only[fC,fq] at b
  rcases b with rfl|rfl|⟨s,-,rfl⟩
  ·decide
  ·have:=oO e;omega
  ·rw[oV];omega
 ·refine⟨by simp,fun w b=>?_⟩;simp only[fC,iy,or_false] at b
  rcases b with rfl|rfl|rfl|rfl|rfl|rfl
  ·decide
  ·have:=oO f;omega
  ·have:=oO g;omega
  ·have:=oO h;omega
  ·split <;>decide
  ·have:=oO i;omega
end uf
namespace ue
end ue
namespace ue
def zg: ∀(t:List UInt8) (b a:List (List (List UInt8))) (l:List (List UInt8)) (d:List UInt8),scan b l d t=some a->a.length<=b.length+t.length
 | [],b,a,l,d,h=>by
  rw[scan] at h;split at h
  ·injection h with h
   subst h;simp
  ·cases h
 |c::t,b,a,l,d,h=>by
  rw[ff];rw[scan] at h;split at h
  ·split at h
   ·have:=zg t _ _ _ _ h;omega
   ·cases h
  ·split at h
   ·cases h
   ·split at h
    ·have:=zg t _ _ _ _ h;simp at this;omega
    ·have:=zg t _ _ _ _ h;omega
def KS {t:List UInt8} {a:List (List (List UInt8))} (h:nH t=some a):a.length<=t.length:=by have:=zg t [] a [] [] h;simpa using this
end ue
namespace uf
open ue jm
end uf
namespace jm
variable {z:Int}
def tq.of {a b:Int} (h:a<=z/\z<=b) (c: -1000000<=a) (d:b<=1000000):tq z:=⟨oG,oG⟩
def vG (s:Nat): ∀n,kr s n<18446744073709551616
 |0=>by simp[kr]
 |n+1=>by
  rw[kr];split
  ·exact lJ.fy _ _ (vG s n)
  ·exact vG s n
def Iq (c:kc) (days:Int):(qA c days).wf:=by
 have a:tq 0:=⟨oG,oG⟩;have d:tq 1:=⟨oG,oG⟩;have e:tq 2:=⟨oG,oG⟩;unfold qA;split
 ·refine⟨e,a,by simp,.of (lQ _ _ _ oG) oG oG,.of (lQ _ _ _ oG) oG oG,?_,.of (lQ _ _ _ oG) oG oG,.of (lQ _ _ _ oG) oG oG⟩;have d:=lQ c.size 1 30 oG;have e:=lQ c.start 0 (mQ c.size 1 30) oG;exact⟨by show _<=mQ c.start 0 (mQ c.size 1 30);omega,by show mQ c.start 0 (mQ c.size 1 30)<=_;omega⟩
 ·refine⟨d,.of (lQ _ _ _ oG) oG oG,?_,a,a,a,a,a⟩;intro s b;simp only[nP] at b;split at b
  ·simp at b;omega
  ·obtain⟨y,_,rfl⟩:=fq.1 b;exact vG _ _
def tz (x:fS):(nC x).eB.length<=6:=by show((x.eB.take 6).map _).length<=6;simp;omega
def xP (x:fS):(nC x).gn.length=(nC x).eB.length+1:=by show((List.range (((x.eB.take 6).map fun c=>qA c (mQ x.days 1 7)).length+1)).map _).length=_;rw[fm,mr];rfl
def CL (x:fS): ∀r∈(nC x).gn,r.length=(nC x).eB.length+1:=by intro r a;have a:r∈(List.range ((nC x).eB.length+1)).map fun i=>pt x.gn ((nC x).eB.length+1) i:=a;obtain⟨i,_,rfl⟩:=fq.1 a;exact oQ _ _ _
def F9 {d:List (List Int)} {n i:Nat} (h:z∈pt d n i):0<=z/\z<=60:=by
 obtain⟨k,_,rfl⟩:=fq.1 h;split
 ·omega
 ·exact lQ _ _ _ oG
def vF (x:fS): ∀r∈(nC x).gn,∀z∈r,0<=z/\z<=60:=by intro r a;have a:r∈(List.range ((nC x).eB.length+1)).map fun i=>pt x.gn ((nC x).eB.length+1) i:=a;obtain⟨i,_,rfl⟩:=fq.1 a;exact fun z b=>F9 b
def Ir (x:fS):(nC x).wf:=by refine⟨.of (lQ _ _ _ oG) oG oG,.of (lQ _ _ _ oG) oG oG,.of (lQ _ _ _ oG) oG oG,.of (lQ _ _ _ oG) oG oG,?_,fun r a z b=>.of (vF x r a z b) oG oG⟩;intro c d;obtain⟨y,_,rfl⟩:=fq.1 d;exact Iq _ _
end jm
namespace jm
end jm
namespace jm
end jm
namespace uf
open ue jm
variable {days:Int}
def AG: ∀(l:List Int) (k:Nat),(∀z∈l,0<=z/\z<=1)->(∀j z,k<=j->l[j]? =some z->z=0)->lJ.num l<2^k
 | [],k,_,_=>by show 0<2^k;exact Nat.two_pow_pos k
 |a::l,0,h,hz=>by
  have d:=hz 0 a lE rfl;have e:=AG l 0 (fun z f=>h z (nX _ f)) (fun j z _ c=>hz (j+1) z oG (by rw[fD];exact c));subst d;simp only[lJ.num];simp at e|-
  omega
 |a::l,k+1,h,hz=>by have d:=h a sI;have e:=AG l k (fun z f=>h z (nX _ f)) (fun j z c b=>hz (j+1) z oG (by rw[fD];exact b));simp only[lJ.num];rw[js];omega
def div_zero {j:Nat} (h:s<2^d) (c:d<=j):s/2^j=0:=adh (bP h (jk dE c))
def Uo (f:d<64) (h:s<2^d):lJ.put s (d:Int)<2^(d+1):=by
 unfold lJ.put;rw[if_pos ⟨oG,oG⟩,gu];refine AG _ _ (fun z e=>?_) (fun j z c b=>?_)
 ·rcases lU e with h|h
  ·exact lJ.FW s z h
  ·omega
 ·rw[iu oG] at b;have a:j<64:=by have:=(bX.1 b).1;rw[lJ.sq] at this;exact this
  rw[lJ.vz s j a] at b;rw[div_zero h oG] at b;have:=fg b;simp at this;omega
def Bd (s:Nat): ∀n,n<=64->kr s n<2^n
 |0,_=>by simp[kr]
 |n+1,h=>by
  have a:=Bd s n oG;rw[kr];split
  ·exact Uo oG a
  ·rw[js];omega
def Di {n:Nat} (h:s<2^n):lJ.next s (n:Int)<0:=by
 have:lJ.days s n=[]:=by
  unfold lJ.days;rw[AW];intro d f;obtain⟨k,g,rfl⟩:=fq.1 f;simp only[lJ.has,a6,decide_eq_true_eq];rintro⟨e,-,a⟩;have b:(Int.ofNat k).toNat=k:=rfl;have c:n<=k:=by have:(n:Int)<=(k:Int):=e;omega
  rw[b,div_zero h c] at a;simp at a
 unfold lJ.next;rw[this];decide
def F8 (l:List Nat) (d:1<=days) (e:days<=7):kl (nP l days) days=true:=by
 obtain⟨n,rfl⟩: ∃n:Nat,days=n:=⟨days.toNat,oG⟩;unfold kl nP;rw[a6,oj,dT];split
 ·refine⟨fun p b=>?_,by simp⟩;obtain rfl:p=1:=by simpa using b
  rw[decide_eq_true_eq];exact Di (bP (show 1<2^1 by decide) (jk dE oG))
 ·rename_i a;refine⟨fun p b=>?_,?_⟩
  ·obtain⟨s,-,rfl⟩:=fq.1 b;rw[decide_eq_true_eq,gu];exact Di (Bd s n oG)
  ·have:0<(l.take 4).length:=jQ.2 a;have c:(l.take 4).length<=4:=Es _ _;rw[fm];omega
def ER (c:kc) (d:1<=days) (e:days<=7):jT (qA c days) days=true:=by
 have f:=lQ c.jU 0 9 oG;have j:=lQ c.size 1 30 oG;have k:=lQ c.start 0 (mQ c.size 1 30) oG;have l:=lQ c.lR 1 2 oG;have a:=lQ c.hold 0 4 oG;have b:=lQ c.iL 1 15 oG;unfold qA;split
 ·unfold jT;rw[if_neg sI,if_pos rfl];simp only[xW,Du,qH,gi,lF,id,kF,a6,hU,oj,beq_iff_eq,decide_eq_true_eq,fZ,and_self,and_true];omega
 ·unfold jT;rw[if_pos rfl];simp only[Dh,wT,gi,lF,id,kF,a6,oj,F8 _ d e,beq_iff_eq,and_true];refine⟨oG,oG⟩
def Dt (n:Nat): ∀(D:List (List Int)) (k:Nat),(∀i r,D[i]? =some r->vP (k+i) n r=true)->mU n k D=true
 | [],_,_=>rfl
 |r::D,k,h=>by rw[mU,a6];exact⟨h 0 r rfl,Dt n D (k+1) fun i a b=>by rw[show k+1+i=k+(i+1) by omega];exact h (i+1) a (by rw[fD];exact b)⟩
def NW (x:fS):may (nC x)=true:=by
 have f:=lQ x.days 1 7 oG;have j:=lQ x.mm 0 5 oG;have k:=lQ x.cap 0 40 oG;have l:=lQ x.len 0 300 oG;have m:=tz x;unfold may;simp only[a6,oj,decide_eq_true_eq];refine⟨⟨⟨⟨⟨⟨?_,oG⟩,?_⟩,?_⟩,?_⟩,?_⟩,?_⟩
 ·show 1<=mQ x.days 1 7/\mQ x.days 1 7<=64;omega
 ·show 0<=mQ x.mm 0 5/\mQ x.mm 0 5<=_;omega
 ·show 0<=mQ x.cap 0 40/\mQ x.cap 0 40<=_;omega
 ·show 0<=mQ x.len 0 300/\mQ x.len 0 300<=_;omega
 ·rw[dT];intro c d;obtain⟨y,-,rfl⟩:=fq.1 d;exact ER y f.1 f.2
 ·unfold pq;rw[a6,decide_eq_true_eq];refine⟨xP x,Dt _ _ 0 fun i r b=>?_⟩;have a:=a8 b;rw[vP,a6,a6,decide_eq_true_eq,decide_eq_true_eq,dT];refine⟨⟨CL x r a,?_⟩,fun z e=>?_⟩
  ·rw[gW];have g:i<(nC x).eB.length+1:=by have:=(bX.1 b).1;rw[xP] at this;exact this
   have h:(nC x).gn=(List.range ((nC x).eB.length+1)).map fun i=>pt x.gn ((nC x).eB.length+1) i:=rfl;rw[h,fh,oH g] at b;obtain rfl:=fg b;rw[Be _ _ _ _ g,if_pos rfl];rfl
  ·have:=vF x r a z e;rw[oj];omega
def CI {α β:Type} (f:α->List β) (m:Nat): ∀l:List α,(∀a∈l,(f a).length<=m)->(l.flatMap f).length<=l.length*m
 | [],_=>by simp
 |a::l,h=>by rw[gG,fa,ff,Nat.succ_mul];have e:=h a sI;have c:=CI f m l fun b d=>h b (nX _ d);omega
end uf
namespace J8
open ko kN
def cW (d:Dy) (a b x y j:Nat):Nat:=if j=a then x+1 else if j=b then y+1 else(d[j]?.map fun t=>t.length+1).getD 0
def sW (d:Dy) (a b x y:Nat):Nat->Nat
 |0=>0
 |i+1=>sW d a b x y i+cW d a b x y i
def VP {d:Dy} {a b x y:Nat} {ta tb:Tr} (hta:d[a]? =some ta) (htb:d[b]? =some tb): ∀i,i<=d.length->
  (sW d a b x y i:Int)=yw (d.take i)+(if a<i then(x:Int)-ta.length else 0)+(if b<i/\a≠b then(y:Int)-tb.length else 0)
 |0,_=>by simp[sW,Ni]
 |i+1,hi=>by
  obtain⟨t,ht⟩: ∃t,d[i]? =some t:=⟨d[i],fp oG⟩;have ih:=VP (x:=x) (y:=y) hta htb i (by omega);rw[sW,rz ht];unfold cW;by_cases h1:i=a
  ·subst h1;rw[hta] at ht;cases ht;rw[if_pos rfl];by_cases h2:i=b
   ·subst h2;simp at ih|-;omega
   ·have e1: ¬i<i:=oG;rw[if_neg e1] at ih;rw[if_pos oG];by_cases h3:b<i
    ·rw[if_pos ⟨h3,h2⟩] at ih;rw[if_pos ⟨oG,h2⟩];push_cast;omega
    ·rw[if_neg (fun h=>h3 h.1)] at ih;rw[if_neg (fun h=>by omega)];push_cast;omega
  ·rw[if_neg h1];by_cases h2:i=b
   ·subst h2;rw[htb] at ht;cases ht;rw[if_pos rfl];have e1: ¬(i<i/\a≠i):=oG;rw[if_neg e1] at ih;rw[if_pos (show i<i+1/\a≠i from⟨oG,fun e=>h1 e.symm⟩)];by_cases h3:a<i
    ·rw[if_pos h3] at ih;rw[if_pos oG];push_cast;omega
    ·rw[if_neg h3] at ih;rw[if_neg oG];push_cast;omega
   ·rw[if_neg h2,ht];have e1:(a<i+1)↔(a<i):=oG;have e2:(b<i+1/\a≠b)↔(b<i/\a≠b):=oG;simp only[e1,e2,lL,Mr];push_cast;omega
def YC {d:Dy} {a b x y:Nat} {g i:Tr} (e:d[a]? =some g) (f:d[b]? =some i) (j:a≠b->x+y<=g.length+i.length) (k:a=b->x<=g):sW d a b x y d.length<=yw d:=by
 have h:=VP (x:=x) (y:=y) e f d lE;have l:=(bX.1 e).1;have lb:=(bX.1 f).1;rw[gh,if_pos l] at h;by_cases c:a=b
 ·have:=k c;rw[if_neg (fun h=>h.2 c)] at h;omega
 ·have:=j c;rw[if_pos ⟨lb,c⟩] at h;omega
end J8
namespace ko
variable {d:Dy} {j:Nat} {p:Pl} {s:vg} {t:Tr}
def ua: ∀(a b:Pl) (i:Nat),iZ i (a++b)=iZ i a++iZ (i+a.length) b
 | [],b,i=>by simp[iZ]
 |d::a,b,i=>by rw[fY,iZ,iZ,ua a b (i+1),gD,ff];congr 3;omega
def LZ (i:Nat) (d:Dy):iZ i [d]=iP i d:=by simp[iZ]
def rI (h:p[k]? =some d):iZ 0 (p.take (k+1))=iZ 0 (p.take k)++iP k d:=by have a:=(bX.1 h).1;rw[gk,h,lY,ua,LZ,fB,kM oG,gW]
def tK (h:d[j]? =some t):iP i (d.take (j+1))=iP i (d.take j)++ku i t:=by unfold iP;rw[gk,h,lY,fU];simp
def tM (h:t[j]? =some s):ku i (t.take (j+1))=ku i (t.take j)++[(i,s)]:=by unfold ku;rw[gk,h,lY,gJ];rfl
def L3 (k:Nat):iZ 0 (p.take k) <+:nn p:=by
 have e:nn p=iZ 0 (p.take k++p.drop k):=by rw[lV];rfl
 rw[e,ua];exact acm _ _
def LY (i j:Nat):iP i (d.take j) <+:iP i d:=by
 have e:iP i d=iP i (d.take j++d.drop j):=by rw[lV]
 rw[e];unfold iP;rw[fU];exact acm _ _
def OX (a:p[k]? =some d) (c:d[j]? =some t) (b:t[i]? =some s):
  iZ 0 (p.take k)++iP k (d.take j)++ku k (t.take i)++[(k,s)] <+:nn p:=by
 refine aas ?_ (L3 (p:=p) (k+1));rw[rI a,gD,gD];refine(PB _).2 ?_;refine aas ?_ (LY (d:=d) k (j+1));rw[tK c];refine(PB _).2 ?_;rw[<-tM b];unfold ku;exact List.IsPrefix.map _ (List.take_prefix _ _)
end ko
namespace ko
variable {l:List (Nat×vg)} {x:Nat×vg}
def mn (c:Int) (l:List (Nat×vg)):List (Nat×Int):=(l.filter fun x=>x.2.1==c).map fun x=>(x.1,x.2.2)
def sU (c:Int) (p:Pl):List (Nat×Int):=mn c (nn p)
def Pg (h:x.2.1=c):mn c (l++[x])=mn c l++[(x.1,x.2.2)]:=by unfold mn;rw[nu,gJ];simp[h]
def SK (h:x.2.1≠c):mn c (l++[x])=mn c l:=by unfold mn;rw[nu,gJ];simp[h]
def Pf (c:Int) (l:List (Nat×vg)):(mn c l).length<=l.length:=by unfold mn;rw[fm];exact tQ _ _
end ko
namespace Et
def oA (c size:Int):Int->List Int->Option (List Int)
 |_,[]=>some []
 |there,a::q=>if size<there+a\/there+a<c then none else(oA c size (there+a-c) q).map fun l=>(there+a-c)::l
def qc (b c:Int) (q:List Int) (d:Nat):Int:=b+(q.take (d+1)).sum-c*d
def Ed (b c size:Int) (q:List Int) (d:Nat):Bool:=decide (qc b c q d<=size)&&decide (0<=qc b c q d-c)
def Dq (b c size:Int) (q:List Int):Option (List Int):=
 if (List.range q).all (Ed b c size q) then some ((List.range q).map fun d=>qc b c q d-c) else none
def ED (b c a:Int) (q:List Int):qc b c (a::q) 0=b+a:=by simp[qc]
def EC (b c a:Int) (q:List Int) (d:Nat):qc b c (a::q) (d+1)=qc (b+a-c) c q d:=by unfold qc;rw[rq,yu,Pz,Int.mul_add];omega
def Ry (b c size a:Int) (q:List Int) (d:Nat):Ed b c size (a::q) (d+1)=Ed (b+a-c) c size q d:=by unfold Ed;rw[EC]
def Fg (c size:Int): ∀(q:List Int) (b:Int),oA c size b q=Dq b c size q
 | [],b=>rfl
 |a::q,b=>by
  have i:=Fg c size q (b+a-c);unfold oA;rw[i];unfold Dq;rw[ff,Xl,gi,gN,Xj,kK];have e:(Ed b c size (a::q)∘Nat.succ)=Ed (b+a-c) c size q:=by funext d;exact Ry b c size a q d
  have f:((fun d=>qc b c (a::q) d-c)∘Nat.succ)=fun d=>qc (b+a-c) c q d-c:=by funext d;show qc b c (a::q) (d+1)-c=_;rw[EC]
  rw[e,f,ED];have g:Ed b c size (a::q) 0=(decide (b+a<=size)&&decide (0<=b+a-c)):=by unfold Ed;rw[ED]
  rw[g];by_cases h:size<b+a\/b+a<c
  ·rw[if_pos h];have:(decide (b+a<=size)&&decide (0<=b+a-c))=false:=by rw[pZ,decide_eq_false_iff_not,decide_eq_false_iff_not];omega
   rw[this];rfl
  ·rw[if_neg h,decide_eq_true oG,decide_eq_true oG,kh];simp only[kh];split <;>rfl
def GD (a b:Int):Int:=if 9223372036854775807<a+b then 9223372036854775807 else if a+b < -9223372036854775808 then -9223372036854775808 else a+b
def kT (v:List (Int×Int)) (d:Nat):Int:=(v.filter fun x=>x.1==(d:Int)).foldl (fun s x=>GD s x.2) 0
def lW (v:List (Int×Int)) (n:Nat):List Int:=(List.range n).map (kT v)
def p9 (v:List (Int×Int)) (x:Int×Int) (d:Nat):kT (v++[x]) d=if x.1=(d:Int) then GD (kT v d) x.2 else kT v d:=by
 unfold kT;rw[nu,nW];by_cases h:x.1=(d:Int)
 ·rw[if_pos h];simp[h]
 ·rw[if_neg h];simp[h]
end Et
namespace zw
def nx (n:Nat):List Int:=if h:n=0 then [] else((n%65536:Nat):Int)::nx (n/65536)
termination_by n
decreasing_by omega
def rE:nx 0=[]:=by rw[nx];simp
def r7 (h:n≠0):nx n=((n%65536:Nat):Int)::nx (n/65536):=by rw[nx];simp[h]
def wy: ∀(k n:Nat),n<65536^k->(nx n).length<=k
 |0,n,h=>by
  obtain rfl:n=0:=by simpa using h
  rw[rE];simp
 |k+1,n,h=>by
  by_cases a:n=0
  ·subst a;rw[rE];simp
  ·rw[r7 a,ff];have:=wy k (n/65536) (by rw[Nat.div_lt_iff_lt_mul dE];rwa [js] at h);omega
def yH: ∀(i n:Nat),i<(nx n).length->(nx n)[i]? =some ((n/65536^i%65536:Nat):Int)
 |i,n,h=>by
  by_cases a:n=0
  ·subst a;rw[rE] at h;simp at h
  ·rw[r7 a] at h|-
   cases i with
   |zero=>simp
   |succ i=>
    rw[fD,yH i (n/65536) (by simpa using h),mN,js,nY]
def xJ: ∀(i n:Nat),i<(nx n).length↔n/65536^i≠0
 |0,n=>by
  rw[Nat.pow_zero,Nat.div_one];by_cases a:n=0
  ·subst a;simp[rE]
  ·rw[r7 a];simp[a]
 |i+1,n=>by
  by_cases a:n=0
  ·subst a;simp[rE]
  ·rw[r7 a,ff,Nat.succ_lt_succ_iff,xJ i (n/65536),mN,js,nY]
def Qm (a:n≠0): ∃z,(nx n)[(nx n).length-1]? =some z/\z≠0:=by
 have c:0<(nx n).length:=by rw[r7 a];simp
 have d:=(xJ ((nx n).length-1) n).1 oG;have b: ¬n/65536^(nx n).length≠0:=fun h=>absurd ((xJ _ n).2 h) oG;refine⟨_,yH _ n oG,?_⟩;have e:n/65536^(nx n).length=n/65536^((nx n).length-1)/65536:=by rw[mN,<-js,Nat.succ_eq_add_one,aco c]
 rw[e] at b;omega
end zw
namespace uf
open ue jm
variable {c:kc} {days:Int}
def Bh (b:UInt8): ∀(l:kW) (a:Word),l≠[]->jw b (l++[a])=jw b l++b::a
 | [],a,h=>absurd rfl h
 | [w],a,_=>rfl
 |w::v::t,a,_=>by have c:=Bh b (v::t) a sI;show w++b::jw b ((v::t)++[a])=(w++b::jw b (v::t))++b::a;rw[c];simp
def QC (x:fS):DX x 3=[116,114,97,110,116,101,114,32,49,10,100,97,121,115,32]++iN x.days++[32,118,101,104,105,99,108,101,115,32]++iN x.mm++[32,99,97,112,97,99,105,116,121,32]++iN x.cap++[32,108,101,110,103,116,104,32]++iN x.len++[10,99,117,115,116,111,109,101,114,115,32]++iN x.eB.length++[10]:=by rw[qK (abO x),qK (abN x),qK (abM x),SB];simp[kx,jw,rK,JS,BA,JT,JQ,JR,Bz]
def Qo (x:fS):DX x (3+x.eB.length+1)=DX x (3+x.eB.length)++[100,105,115,116,97,110,99,101,115,10]:=by rw[qK (TR x)];rfl
def oY (c:kc) (n i:Nat):kW:=nt::iN c.iL::(c.jC.take i).map fun s=>jV s n
def JO (c:kc) (n:Nat):jw 32 (oY c n 0)=[118,105,115,105,116,32]++iN c.iL:=rfl
def JN {n k s:Nat} (h:c.jC[k]? =some s):jw 32 (oY c n (k+1))=jw 32 (oY c n k)++[32]++jV s n:=by
 have e:oY c n (k+1)=oY c n k++[jV s n]:=by unfold oY;rw[gk,h];simp
 rw[e,Bh _ _ _ (by simp[oY])];simp
def JM (b:c.kind=1):kx (kq days c)=jw 32 (oY c days.toNat c.jC)++[10]:=by unfold kq oY kx;rw[if_pos b,gh]
def O6 (b:c.kind≠1):kx (kq days c)=[116,97,110,107,32]++iN c.jU++[32]++iN c.size++[32]++iN c.start++[32]++(if c.lR=1 then FC else Pm)++[32]++iN c.hold++[10]:=by unfold kq kx;rw[if_neg b];simp[jw,qh]
def O8 (b:c.kind≠1) (a:jT c days=true):c.lR=1\/c.lR=2:=by
 unfold jT at a;rw[if_neg b] at a;split at a
 ·simp only[xW,Du,gi,lF,id,kF,a6,hU,beq_iff_eq] at a;exact a.2.2.2.1
 ·cases a
end uf
end Go.Proofs.YtgimnjldndkalaaGreatDoor
