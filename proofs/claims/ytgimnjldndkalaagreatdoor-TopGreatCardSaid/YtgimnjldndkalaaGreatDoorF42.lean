/- Of the proof of TopGreat: The walk of Lines. -/
import Derived.Test.YtgimnjldndkalaaGreatDoorF5
import Derived.Test.YtgimnjldndkalaaGreatDoorF21
import Derived.Test.YtgimnjldndkalaaGreatDoorF36
set_option linter.all false
set_option maxHeartbeats 2000000
set_option maxRecDepth 100000
namespace Go.Proofs.YtgimnjldndkalaaGreatDoor
section
open Go.Proofs.Tryz
open Go.RowKit ue
variable {l:List UInt8} {t:ByteArray}
def uK (l:List UInt8):List (List (List UInt8)):=(nH l).getD []
def C0 (l:List UInt8):Int:=if (nH l).isSome then 0 else 2
def tB {L:List (List (List UInt8))} (h:nH l=some L):uK l=L/\C0 l=0:=by unfold uK C0;rw[h];exact⟨rfl,rfl⟩
def vN (h:nH l=none):uK l=[]/\C0 l=2:=by unfold uK C0;rw[h];exact⟨rfl,rfl⟩
def strSize:Value->Nat
 | .string s=>s.size
 |_=>0
def size_data (s:ByteArray):s.size=s.data.toList.length:=(kC s).symm
def IA (l:List UInt8) (w:World) (o:l.length<=4294967281):
  Calls prog 113 #[.string ⟨l.toArray⟩] w fun e w'=>e=.returned (.bool (isWord l))/\w'=w:=
 KM ⟨l.toArray⟩ w (by rw[size_data];simpa using o)
def Kv {p q:List UInt8} (a:t.data.toList=p++10::q) (F:(10:UInt8)∉p) (m:Int) (w:World) (o:t.size<4294967281) (u:w.cell? (pB 0)=some m):
  Calls prog 111 #[.string t,.string ⟨#[10]⟩] w fun e w'=>e=.returned (.tuple #[.string ⟨p.toArray⟩,.string ⟨q.toArray⟩,true])/\ ∃n,w'=w.drewN n:=by
 have:=MB t ⟨#[10]⟩ m w o u;have e:Lib.cut t.data.toList (⟨#[10]⟩:ByteArray).data.toList=(p,q,true):=by rw[a];exact Tx 10 p q F
 rw[e] at this;exact this
def NJ (F:(10:UInt8)∉t.data.toList) (m:Int) (w:World) (o:t.size<4294967281) (u:w.cell? (pB 0)=some m):
  Calls prog 111 #[.string t,.string ⟨#[10]⟩] w fun e w'=>e=.returned (.tuple #[.string t,.string ⟨#[]⟩,false])/\ ∃n,w'=w.drewN n:=by
 have:=MB t ⟨#[10]⟩ m w o u;have e:Lib.cut t.data.toList (⟨#[10]⟩:ByteArray).data.toList=(t.data.toList,[],false):=Qi 10 _ F;rw[e] at this;have a:(⟨(t.data.toList,([]:List UInt8),false).1.toArray⟩:ByteArray)=t:=mk_data t;rw[a] at this;exact this
def UE (p:List UInt8) (m:Int) (w:World) (o:p.length<4294967281) (u:w.cell? (pB 0)=some m):
  Calls prog 112 #[.string ⟨p.toArray⟩,.string ⟨#[32]⟩] w fun e w'=>e=.returned (.slice w (pieces 32 p).length (pieces 32 p).length)/\w'=w.alloc (cB 9 ((pieces 32 p).map kI)):=
 OG ⟨p.toArray⟩ 32 m w (by rw[size_data];simpa using o) u
def yZ (b:UInt8): ∀p:List UInt8,(pieces b p).length<=p.length+1
 | []=>by simp[pieces]
 |c::t=>by
  have f:=yZ b t;by_cases e:c=b
  ·rw[pieces,if_pos e];simp;omega
  ·rw[sx _ _ _ e];cases h:pieces b t with
   |nil=>simp[pre]
   |cons a r=>rw[h] at f;simp[pre] at f|-;omega
def zc (b:UInt8): ∀(p:List UInt8),∀w∈pieces b p,w.length<=p
 | []=>by simp[pieces]
 |c::t=>by
  intro w d;have f:=zc b t;by_cases e:c=b
  ·rw[pieces,if_pos e] at d
   rcases fC.1 d with h|h
   ·rw[h];simp
   ·have:=f w h;simp;omega
  ·rw[sx _ _ _ e] at d;cases h:pieces b t with
   |nil=>exact absurd h (wI _ _)
   |cons a r=>
    rw[h] at d f;simp only[pre,fC] at d
    rcases d with h|h
    ·have:=f a sI;rw[h];simp;omega
    ·have:=f w (by simp[h]);simp;omega
def AL {v c:Value} {a b:Int} (h:a=b) (hv:v=c):Ending.returned (.tuple #[v,a])=.returned (.tuple #[c,b]):=by rw[h,hv]
def Sk:(prog.info? 76).map (fun i=>(i.zero,i.size,i.bytes))=some (some (.slice none 0 0),1,24):=kR
def E3 (s:ByteArray) (m:Int) (w:World) (o:s.size<=1000000) (u:w.cell? (pB 0)=some m):
  Calls prog 71 #[.string s] w fun e w'=> ∃v,e=.returned (.tuple #[v,(C0 s.data.toList)])/\sj w 76 9 w' v (uK s.data.toList)/\Below w w w':=by
 have HM:=zH u;clear u;go_enter func71,ntmps71;go_wp2_with fail;go_loopw [0,4] (fun tv lv wr=> ∃(t:ByteArray) (L:List (List (List UInt8))),tv=.string t/\Hid (sj w 76 9 wr lv L)/\Below w w wr/\L.length+t.size<=1000000/\Hid (nH s.data.toList=scan L [] [] t.data.toList)) (fun tv _ _=>strSize tv)
 case atStart=>exact⟨s,[],rfl,sj.jL _ _ _ _,bS _ _,by simpa using o,rfl⟩
 case round=>
  obtain⟨t,L,rfl,HO,a,aa,R⟩:=hrel;by_cases B:t.size=0
  ·obtain rfl:=AP t B;have r:=zH (tB (l:=s.data.toList) (L:=L) R);clear B;go_wp2
   go_ret2
   exact⟨_,AL r.2.symm rfl,by rw[r.out.1];exact HO,a⟩
  ·have an:=uV t oG;have K:wr.cell? (pB 0)=some m:=a7 a lE HM;have y:=zH K;clear K;by_cases b:(10:UInt8)∈t.data.toList
   ·obtain⟨p,q,C,F⟩:=DB 10 _ b;have j:=kC t;rw[C] at j;simp at j;obtain⟨HP,HT,af⟩:=Zc F C j;have aj:p.length<=1000000:=oG;have ak:L.length+1+q.length<=1000000:=oG;have al:q.length<t.size:=oG;clear b F C j;go_wp2_with fail;refine(Kv HT HP m _ oG y).mono ?_;rintro e w2 ⟨rfl,E,rfl⟩;go_wp2_with fail;refine(UE p m _ oG (by exact y)).mono ?_;rintro e w3 ⟨rfl,rfl⟩;have A:Hid (nH s.data.toList=if (pieces 32 p).all isWord then scan (L++[pieces 32 p]) [] [] q else none):=by show nH s.data.toList=_;rw[R.out,HT.out,wN q p L [] [] HP rfl,pre_nil _ (wI _ _),gQ]
    have M:=yZ 32 p;have D:=zc 32 p;generalize pieces 32 p=c at A M D|-
    have U:=zH D;have h:fc ((wr.drewN E).alloc (cB 9 (c.map kI))) wr 9 (c.map kI):=fc.fW (wr.drewN E) _ _ rfl;have H:Below wr wr ((wr.drewN E).alloc (cB 9 (c.map kI))):=(below_drewN (bS wr wr) E).alloc lE _;rw[show(wr.drewN E).heap.size=wr from rfl];generalize (wr.drewN E).alloc (cB 9 (c.map kI))=wq at h H|-
    have HB:=zH h;have ae:c.length<=1000001:=oG;clear h D M;go_wp2_with fail
    go_loop [25] (fun iv=> ∃k:Nat,k<=c/\iv=.int .i64 k/\Hid ((c.take k).all isWord=true)) (fun iv=>c.length-(intOf iv).toNat)
    case atStart=>exact⟨0,eC _,rfl,rfl⟩
    case round=>
     obtain⟨k,hk,rfl,HA⟩:=hrel;by_cases X:k<c
     ·obtain⟨x,G⟩:=ec X;have hc:wq.cell? (pA wr k)=some (.string ⟨x.toArray⟩):=(HB.cell k).trans (by rw[fh,G];rfl);obtain⟨HX,J⟩:=Zb G (U x (a8 G));clear G;by_cases d:isWord x=true
      ·obtain⟨T,HN⟩:=Zb d (xg HA HX d);clear d;go_wp2_with fail;refine(IA x _ (by have:=J.out;omega)).mono ?_;rintro e w4 ⟨rfl,rfl⟩;rw[T.out];go_wp2
       go_round
       case rel=>exact⟨k+1,oG,by go_num,HN⟩
       case measure=>exact mI
      ·have T:=zH (show isWord x=false by simpa using d);have N:Hid (nH s.data.toList=none):=by
        show nH s.data.toList=none;have:c.all isWord=false:=by rw[nV];exact⟨x,a8 HX,d⟩
        rw[A.out,this];rfl
       have r:=zH (vN N);clear d;go_wp2_with fail;refine(IA x _ (by have:=J.out;omega)).mono ?_;rintro e w4 ⟨rfl,rfl⟩;rw[T.out];go_wp2
       go_ret2
       exact⟨.slice none 0 0,AL r.2.symm rfl,by rw[r.out.1];exact sj.jL _ _ _ _,a.trans (H.mono a.size)⟩
     ·obtain rfl:k=c.length:=oG;have S:Hid (nH s.data.toList=scan (L++[c]) [] [] q):=by have:=HA.out;rw[gh] at this;show _=_;rw[A.out,this];rfl
      obtain⟨ag,g1,g2,g3,g4⟩:=HO.out;obtain⟨O,P⟩:=Zb g1 g2;have Z:=jq g3 H lE;have Q:=zH g4;have V:L.length<=1000000000:=oG;have f:w.heap.size<=wq.heap.size:=eZ a.size H.size;clear g1 g2 g3 g4;go_wp2_with (at_builtin;refine iD _ rfl (.tmp 33) (.tmp 35) 127 rfl w 76 _ 1 24 underlying127 Sk rfl dE dE _ _ _ Z rfl [.slice wr c c] _ rfl rfl rfl V f ?_;intro g cap w5 Y ah ai z ao);go_roundw
      case rel=>
       refine⟨⟨q.toArray⟩,L++[c],rfl,?_,(a.trans (H.mono a.size)).trans (z.below f),?_,?_⟩
       ·refine OL.push (n:=L.length) rfl O P rfl Y (fun i x cs G W=>?_) ⟨_,rfl,?_⟩
        ·obtain⟨v,rfl,hv⟩:=Q i x cs G W;exact⟨v,rfl,z.own (jq hv H lE) dE⟩
        ·exact z.own (HB.own (by exact a.size) sI mO) dE
       ·have:(⟨q.toArray⟩:ByteArray).size=q.length:=by rw[size_data]
        rw[this,fa];simp;omega
       ·exact S
      case measure=>
       show(⟨q.toArray⟩:ByteArray).size<t.size;have:(⟨q.toArray⟩:ByteArray).size=q.length:=by rw[size_data]
       omega
   ·have N:Hid (nH s.data.toList=none):=R.trans (TE _ _ _ _ b (.inl (sJ t oG)));obtain⟨r,I⟩:=Zb (vN N) b;clear b B;go_wp2_with fail;refine(NJ I m _ oG y).mono ?_;rintro e w2 ⟨rfl,E,rfl⟩;go_wp2
    go_ret2
    exact⟨.slice none 0 0,AL r.2.symm rfl,by rw[r.out.1];exact sj.jL _ _ _ _,below_drewN a _⟩
end

section
open Go.RowKit ue
def Ob {l:List (List UInt8)} {m:Nat} (h: ∀x∈l,x.length<=m):(kx l).length<=l.length*(m+1)+1:=by have:=D0 32 m l h;unfold kx;rw[fa];simp;omega
end
end Go.Proofs.YtgimnjldndkalaaGreatDoor
