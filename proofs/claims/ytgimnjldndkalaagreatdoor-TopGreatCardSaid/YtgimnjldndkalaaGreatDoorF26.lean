/- Of the proof of TopGreat: What visits bring, day by day. -/
import Derived.Test.YtgimnjldndkalaaGreatDoorF25
import Derived.Test.YtgimnjldndkalaaGreatDoorF10
import Derived.Test.YtgimnjldndkalaaGreatDoorF7
set_option linter.all false
set_option maxHeartbeats 4000000
set_option maxRecDepth 100000
namespace Go.Proofs.YtgimnjldndkalaaGreatDoor
section
open Go.Proofs.Tryz
open Go.RowKit jm ko Et kN
def Uy (a b:Int):Em a b=GD a b:=rfl
def Uz (a b:Int): -9223372036854775808<=GD a b/\GD a b<=9223372036854775807:=by unfold GD;omega
theorem EB (V:List (Int×Int)) (d:Nat): -9223372036854775808<=kT V d/\kT V d<=9223372036854775807:=by
 rcases tP V with rfl|⟨a,z,rfl⟩
 ·simp[kT]
 ·rw[List.concat_eq_append];have ih:=EB a d;rw[p9];split
  ·exact Uz _ _
  ·exact ih
termination_by V.length
decreasing_by simp_all
def lB (V:List (Int×Int)) (n:Nat):(lW V n).length=n:=by simp[lW]
def oL {V:List (Int×Int)} {n d:Nat} (h:d<n):(lW V n)[d]? =some (kT V d):=by simp[lW,h]
def Hv (n:Nat):lW [] n=List.replicate n 0:=by
 apply gy;intro i;rw[rW];split
 ·rename_i h;rw[oL h];rfl
 ·rw[hX (by rw[lB];omega)]
def Hw (V:List (Int×Int)) (n d:Nat) (q:Int):lW (V++[((d:Int),q)]) n=(lW V n).set d (GD (kT V d) q):=by
 apply gy;intro i;rw[xz,lB];by_cases h:i<n
 ·rw[oL h,p9];by_cases e:d=i
  ·subst e;rw[if_pos rfl,if_pos rfl,if_pos h]
  ·rw[if_neg oG,if_neg e,oL h]
 ·rw[hX (by rw[lB];omega)];split
  ·rw[if_neg oG]
  ·rw[hX (by rw[lB];omega)]
def Cs (V:List (Int×Int)) (n:Nat) (z q:Int) (h:z<0\/(n:Int)<=z):lW (V++[(z,q)]) n=lW V n:=by
 apply gy;intro i;by_cases a:i<n
 ·rw[oL a,oL a,p9,if_neg (by show¬z=(i:Int);omega)]
 ·rw[hX (by rw[lB];omega),hX (by rw[lB];omega)]
theorem Km (v:Value) (V:List (Int×Int)) (n:Nat) (w:World) (hv:RL 2 iH w v V) (hV: ∀x∈V,-9223372036854775808<=x.2/\x.2<=9223372036854775807) (hn:1<=n/\n<=64) (hl:V.length<=1000000):
  Calls prog 141 #[v,(n:Int)] w fun e w'=> ∃lv,e=.returned lv/\gx w' .i64 lv (lW V n)/\Below w.heap.size w w':=by
 obtain⟨A,c,rfl,h1,h2,hc⟩:=fQ.open_ hv;have hmk:=fun W:World=>pM (P:=prog) underlying26 KG n (n:Int) rfl oG W;have HC:=zH hc;have HV:=zH hV;have hcl:kO (n:Int) 0 64=n:=by unfold kO;omega
 clear hv hc hV;go_enter func141,ntmps141;go_wp2_with fail;refine(uh _ _ _ _).mono ?_;rintro e w1 ⟨rfl,rfl⟩;rw[hcl];go_wp2_with fail;obtain⟨g,hg⟩:=nE w1.heap.size;have HG:=zH hg;rw[<-hg];clear hg;go_loopw [13] (fun iv wr=> ∃(i:Nat),i<=V.length/\iv=.int .i64 i/\Hid (fc wr g 3 ((lW (V.take i) n).map (.int .i64)))/\Below w1.heap.size w1 wr) (fun iv _=>V.length-(intOf iv).toNat)
 case atStart=>exact⟨0,eC _,rfl,jA (by rw[List.take_zero,Hv,adm,HG.out];exact fc.new _ _ _),bL (bS _ _) _⟩
 case round=>
  clear hmk hcl;obtain⟨i,hi,rfl,HB,hb⟩:=hrel;by_cases hlt:i<V.length
  ·obtain⟨⟨z,q⟩,hz⟩:=ec hlt;obtain⟨b,o,rfl,hbl,y0,y1⟩:=HC.out i _ hz;replace y0:=a7 hb lE y0;replace y1:=a7 hb lE y1;have HT:Hid (V.take (i+1)=V.take i++[(z,q)]):=zH (iC hz);have HQ:=zH (HV.out _ (a8 hz));have hsz:=hb.size;clear hz;by_cases hz0:0<=z
   ·by_cases hzn:z<n
    ·obtain⟨d,rfl⟩: ∃d:Nat,z=d:=⟨z.toNat,oG⟩;have hdn:d<n:=oG;have x0:wr.cell? ⟨g,d,none⟩=some (kT (V.take i) d):=by rw[HB.out.cell,fh,oL hdn];rfl
     have x1:=HB.out.frozen d;have hgl:=HB.out.lt;have HX:=zH (EB (V.take i) d);have hdn':(d:Int)<n:=oG;go_wp2_with fail;refine rG (fun wS=>fc wS wr.heap.size 86 [(d:Int),q]/\wS.cell? ⟨g,d,none⟩=some (kT (V.take i) d)) [12] (⟨(fc.new wr 86 [(d:Int),q]).drew,((HB.out.alloc _).cell d).trans ((HB.out.cell d).symm.trans x0)⟩) fun hS=>?_;refine tk 0 hS ?_;refine tk 1 hS ?_;refine tk 2 hS ?_;refine tk 3 hS ?_;refine tk 4 hS ?_;refine tk 5 hS ?_;refine tk 6 hS ?_;refine tk 7 hS ?_;refine tk 8 hS ?_;refine tk 9 hS ?_;refine tO 10 fun K hK=>?_;go_simp;refine(M4 _ _ _ HX.out HQ.out).mono ?_;rintro e w2 ⟨rfl,rfl⟩;refine hK _ _ (hS) ?_;clear hK K;refine tk 11 hS ?_;refine tL 12 fun K hK=>?_;go_simp;refine hK _ _ ?_;clear hK K;refine tD ?_;go_wp2_with fail;go_roundw
     case rel=>exact⟨i+1,hlt,by go_num,zH (by rw[HT.out,Hw,List.map_set,<-Uy];exact(HB.out.gH d _).alloc _),(bL (hb.setCell (p:=⟨g,d,none⟩) (by rw[HG.out];exact lE) _) _).drew⟩
     case measure=>exact mI
    ·go_wp2_with fail;go_roundw
     case rel=>exact⟨i+1,hlt,by go_num,zH (by rw[HT.out,Cs _ _ _ _ (.inr oG)];exact HB.out.alloc _),bL hb _⟩
     case measure=>exact mI
   ·go_wp2_with fail;go_roundw
    case rel=>exact⟨i+1,hlt,by go_num,zH (by rw[HT.out,Cs _ _ _ _ (.inl oG)];exact HB.out.alloc _),bL hb _⟩
    case measure=>exact mI
  ·obtain rfl:i=V.length:=oG;have HB2:Hid (fc wr g 3 ((lW V n).map (.int .i64))):=zH (by have:=HB.out;rwa [gh] at this);clear HB;go_wp2_with fail;go_ret;exact⟨_,rfl,HB2.out.gx (lB V n) lE (by simp[maxLen];omega),hb⟩
end
section
open Go.Proofs.Tryz
open Go.RowKit jm ko Et kN
variable {q:List Int}
def RD {f size a:Int} (h:pX f size a q=0):(∀z∈q,0<=z/\z<=2147483648)/\(∀d,d<q.length->qc a f q d<=size/\0<=qc a f q d-f)/\sL f size a q=(List.range q).map fun d=>qc a f q d-f:=by
 unfold pX at h;unfold sL;cases B:Uf q with
 |false=>rw[B] at h;simp at h
 |true=>
  rw[B] at h;simp only[if_true] at h|-
  rw[Fg] at h|-
  unfold Dq at h|-
  cases b:(List.range q).all (Ed a f size q) with
  |false=>rw[b] at h;simp at h
  |true=>
   refine⟨fun z n=>?_,fun d hd=>?_,by simp⟩
   ·have:=dT.1 (show q.all _=true from B) z n;simpa using this
   ·have:=dT.1 b d (jz.2 hd);unfold Ed at this;simpa using this
def JC (B: ∀z∈q,0<=z/\z<=2147483648): ∀i:Nat,0<=(q.take i).sum/\(q.take i).sum<=2147483648*i
 |0=>by simp
 |i+1=>by
  have a:=JC B i;rw[gk,aeM];cases n:q[i]? with
  |none=>simp;omega
  |some z=>
   have:=B z (a8 n);simp;omega
def Sl {i:Nat} {z:Int} (h:q[i]? =some z):(q.take (i+1)).sum=(q.take i).sum+z:=by rw[gk,aeM,h];simp
def Jg (E F:Int) (D:Option Addr) (G c0:Nat) (f size a j h:Int) (v:Value) (q:List Int) (w:World) (hr:gx w .i64 v q) (B:q.length<=1000)
  (hs:0<=a/\a<=size) (n:size<=2147483648) (N:0<=f/\f<=2147483648) (hN:pX f size a q=0):
  Calls prog 13 #[.agg #[E,F,.slice D G c0,f,size,a,j,h],v] w fun e w'=>
   ∃u,e=.returned (.tuple #[u,Zo])/\gx w' .i64 u (sL f size a q)/\Below w w w':=by
 obtain⟨C,K,M⟩:=RD hN;rw[M];obtain⟨A,c,rfl,h1,h2,hc⟩:=hr.open_;obtain⟨HC,HQ,HM,R⟩:=Zd hc C K (JC C);have t:=bL (bS w w) (cB 47 [E,F,.slice D G c0,f,size,a,j,h]);have r:=fc.new w 47 [E,F,.slice D G c0,f,size,a,j,h];clear hr hc C K M hN;go_enter func13,ntmps13;go_wp2_with fail;obtain⟨W,hW⟩:=nR (w.alloc (cB 47 [E,F,.slice D G c0,f,size,a,j,h]));rw[hW] at t;replace r:fc W w 47 [E,F,.slice D G c0,f,size,a,j,h]:=by rw[<-hW];exact r
 rw[hW];clear hW;go_loopw [6] (fun p wr=> ∃i:Nat,i<=q/\p=.int .i64 i/\wr=W) (fun p _=>q.length-(intOf p).toNat)
 case atStart=>exact⟨0,eC _,rfl,rfl⟩
 case round=>
  obtain⟨i,hi,rfl,rfl⟩:=hrel;by_cases k:i<q
  ·obtain⟨z,n⟩: ∃z,q[i]? =some z:=⟨_,fp k⟩;obtain⟨b,o,rfl,V,y⟩:=HC i z n;replace y:=a7 t lE y;have af:=HQ z (a8 n);have e1:decide (z<0)=false:=decide_eq_false oG;have e2:decide (z>2147483648)=false:=decide_eq_false oG;have e3:decide (2147483648<z)=false:=decide_eq_false oG;clear n;go_wp2_with fail;go_roundw
   case rel=>exact⟨i+1,k,by go_num,by first|rfl|trivial⟩
   case measure=>exact mI
  ·go_wp2_with fail;go_loopw [7,8] (fun lv p wr=> ∃d:Nat,d<=q.length/\p=.int .i64 d/\Hid (OI (w+1) wr lv (((List.range q).map fun d=>qc a f q d-f).take d))/\fc wr w 47 [E,F,.slice D G c0,f,size,a,j,h]/\Below w w wr) (fun _ p _=>q.length-(intOf p).toNat)
   case atStart=>exact⟨0,eC _,rfl,(OI.jL _ _),r,t⟩
   case round=>
    clear r t;obtain⟨d,hd,rfl,H,r,T⟩:=hrel;have l1:=r.lt;have c3:=r.c 3;have c4:=r.c 4;have c5:=r.c 5;by_cases k:d<q
    ·obtain⟨wo,ae⟩:=nE (wr:World);subst ae;go_wp2_with fail;go_loopw [9,10] (fun sv p wr=> ∃i:Nat,i<=d+1/\p=.int .i64 i/\sv=.int .i64 (a+(q.take i).sum)/\wr=wo) (fun _ p _=>d+1-(intOf p).toNat)
     case atStart=>exact⟨0,eC _,rfl,by simp,rfl⟩
     case round=>
      obtain⟨i,hi,rfl,rfl,rfl⟩:=hrel;have O:=R i;by_cases ai:i<=d
      ·obtain⟨z,n⟩: ∃z,q[i]? =some z:=⟨_,fp oG⟩;obtain⟨b,o,rfl,V,y⟩:=HC i z n;replace y:=a7 T lE y;have af:=HQ z (a8 n);have HZ:=zH (Sl n);obtain⟨s,l⟩:=nR ((q.take i).sum);rw[l] at O HZ|-
       clear n l;go_wp2_with fail;go_roundw
       case rel=>exact⟨i+1,oG,by go_num,by rw[HZ.out];congr 1;omega,by first|rfl|trivial⟩
       case measure=>exact mI
      ·obtain rfl:i=d+1:=oG;obtain⟨s,l⟩:=nR ((q.take (d+1)).sum);have Z:=HM d k;have x:qc a f q d=a+s-f*d:=by unfold qc;rw[l]
       rw[l] at O|-
       obtain⟨m,Y⟩:=nR (f*(d:Int));have aj:0<=m/\m<=2147483648*1000:=by rw[<-Y];exact⟨eS N.1 oG,eX N.2 oG oG oG⟩
       rw[x,Y] at Z;have HS:Hid (((List.range q.length).map fun d=>qc a f q d-f).take (d+1)=((List.range q.length).map fun d=>qc a f q d-f).take d++[a+s-m-f]):=zH (iC (by rw[fh,oH k,lL,x,Y]));obtain⟨L,S⟩: ∃L,((List.range q).map fun d=>qc a f q d-f).take d=L:=⟨_,rfl⟩;rw[S] at H HS;have X:L.length<=1000000000:=by rw[<-S,fB];omega
       obtain⟨Al,cl,rfl,-⟩:=H.slice;have e1:decide (a+s-m>size)=false:=decide_eq_false oG;have e2:decide (size<a+s-m)=false:=decide_eq_false oG;have e3:decide (a+s-m-f<0)=false:=decide_eq_false oG;have I:w.heap.size+1<=wr.heap.size:=l1;clear x l S;go_wp2_with (at_builtin;refine qu _ rfl (.tmp 66) (.tmp 71) rfl (w+1) _ L H rfl (a+s-m-f) rfl rfl X I ?_;intro g cap w5 aa ag ah J ak);have U:=J.below I;go_roundw
       case rel=>exact⟨d+1,k,by go_num,zH (by rw[HS.out];exact aa),J.ig r dE,T.trans (U.mono oG)⟩
       case measure=>exact mI
    ·obtain rfl:d=q.length:=oG;have P:=H.out;rw[fj sI] at P;have Q:=zH P;obtain⟨Al,cl,rfl,-⟩:=P.slice;clear P H;go_wp2_with fail
     go_ret2
     exact⟨_,rfl,Q.reads,T⟩
end
section
open Go.Proofs.Tryz
open Go.RowKit jm ko Et kN zw
def Lq (m:Nat) (W:m<=9223372036854775807) (w:World):
  Calls prog 61 #[(m:Int)] w fun e w'=> ∃j,e=.returned (.agg #[j,false])/\OI w w' j (nx m)/\Below w w w':=by
 have r:(nx m).length<=4:=BV 4 m oG;have u:=zH r;have a:=(fc.new w 115 [(),false]).alloc (cB 115 [(),false]);have b:=fc.fW (w.alloc (cB 115 [(),false])) 115 [(),false] (g:=w.heap.size+1) sI;have o:=bL (bL (bS w w) (cB 115 [(),false])) (cB 115 [(),false]);have O:decide ((m:Int)<0)=false:=decide_eq_false oG;clear r;go_enter func61,ntmps61;go_wp2_with fail;go_loopw [0] (fun E wr=> ∃(k:Nat) (L:List Int) (j:Value),k<=m/\E=.int .i64 k/\Hid (nx m=L++nx k)/\Hid (OI (w+2) wr j L)/\fc wr (w+1) 115 [j,false]/\fc wr w 115 [(),false]/\Below w w wr) (fun E _=>(intOf E).toNat)
 case atStart=>exact⟨m,[],(),lE,rfl,rfl,(OI.jL _ _),b,a,o⟩
 case round=>
  clear a b o;obtain⟨k,L,j,V,rfl,s,x,b,a,F⟩:=hrel;obtain⟨h,i,rfl,-⟩:=x.slice;have X:=a.lt;have Y:=b.lt;have c0:=b.c 0;have c1:=b.c 1;have S:=b.frozen 0;have Q:=a.c 0;have R:=a.c 1;have T:=a.frozen 0;have U:=a.frozen 1;by_cases c:k=0
  ·have t:Hid (nx m=L):=zH (by have:=s.out;rw[c,rE,mz] at this;exact this);subst c;have hS:fc ((wr.setCell w (.slice h L i)).setCell (pA w 1) false) w 115 [.slice h L i,false]:=(a.gH 0 _).gH 1 _;have y:=zH ((x.fG (q:=w) dO (.slice h L i)).fG (q:=(pA w 1)) dO false);have A:=(F.setCell (p:=w) lE (.slice h L i)).setCell (p:=pA w 1) lE false;have z:=zH hS;clear hS;go_wp2_with fail;refine bodyPost_ret (v:=.agg #[.slice h L i,false]) (ia rfl _ _ w 115 [.slice h L i,false] _ rfl z underlying115 rfl kR) rfl ?_;exact⟨_,rfl,by rw[t.out];exact y.mono oG,A⟩
  ·have M:((k:Int) !=0)=true:=by simp[c]
   have C:decide ((k:Int)%65536<0)=false:=decide_eq_false oG;have l:Hid (nx m=(L++[(k:Int)%65536])++nx (k/65536)):=zH (by rw[s.out,qs c,eT];simp);have N:L.length<=4:=by have:=u.out;rw[s.out,fa] at this;omega
   obtain⟨d,I⟩:=nR ((k:Int)%65536);rw[I] at C l;go_wp2_with (at_builtin;refine qu _ rfl (.tmp 17) (.tmp 19) rfl (w+2) _ L x rfl d rfl rfl oG oG ?_;intro g cap Z D J K f P;have n:=f.ig b dE;have G:=n.cell 0;have H:=n.frozen 0;simp only[fK] at G);have B:=f.below (show w.heap.size+2<=wr by omega);go_roundw
   case rel=>exact⟨k/65536,_,_,oG,by simp,l,(D.fG (q:=(pB (w+1))) dO _),(f.ig b dE).gH 0 _,(f.ig a dE).kj (p:=pB (w+1)) dO _,(F.trans (B.mono oG)).setCell (p:=pB (w+1)) (iW _) _⟩
   case measure=>exact mI
def Wv (w:World):
  Calls prog 61 #[(-9223372036854775808:)] w fun e w'=> ∃A n c,e=.returned (.agg #[.slice A n c,true])/\Below w w w':=by
 have b:=(fc.new w 115 [(),false]).alloc (cB 115 [(),true]);have f:=fc.fW (w.alloc (cB 115 [(),false])) 115 [(),true] (g:=w.heap.size+1) sI;have u:=bL (bL (bS w w) (cB 115 [(),false])) (cB 115 [(),true]);go_enter func61,ntmps61;go_wp2_with fail;go_loopw [0] (fun J wr=> ∃(k:Nat) (L:List Int) (I:Value),k<=9223372036854775808/\J=.int .i64 (-(k:Int))/\Hid (L.length+(nx k).length<=4)/\Hid (OI (w+2) wr I L)/\fc wr (w+1) 115 [I,true]/\fc wr w 115 [(),false]/\Below w w wr) (fun J _=>(-(intOf J)).toNat)
 case atStart=>exact⟨9223372036854775808,[],(),lE,rfl,zH (by rw[fZ,gW];exact BV 4 _ dE),(OI.jL _ _),f,b,u⟩
 case round=>
  clear b f u;obtain⟨k,L,I,U,rfl,K,x,f,b,C⟩:=hrel;obtain⟨r,t,rfl,-⟩:=x.slice;have V:=b.lt;have W:=f.lt;have c0:=f.c 0;have c1:=f.c 1;have R:=f.frozen 0;have P:=b.c 0;have Q:=b.c 1;have S:=b.frozen 0;have T:=b.frozen 1;by_cases l:k=0
  ·subst l;have hS:fc ((wr.setCell w (.slice r L t)).setCell (pA w 1) true) w 115 [.slice r L t,true]:=(b.gH 0 _).gH 1 _;have D:=(C.setCell (p:=w) lE (.slice r L t)).setCell (p:=pA w 1) lE true;have y:=zH hS;clear hS;go_wp2_with fail;refine bodyPost_ret (v:=.agg #[.slice r L t,true]) (ia rfl _ _ w 115 [.slice r L t,true] _ rfl y underlying115 rfl kR) rfl ?_;exact⟨_,_,_,rfl,D⟩
  ·have M:((-(k:Int)) !=0)=true:=by simp[l]
   have s:Hid (L.length+1+(nx (k/65536)).length<=4):=zH (by have:=K.out;rw[qs l,ff] at this;omega);have N:L.length<=4:=by have:=K.out;omega
   by_cases i:0<(k:Int)%65536
   ·have m:decide (0<(k:Int)%65536)=true:=decide_eq_true i;obtain⟨d,E⟩:=nR ((k:Int)%65536);rw[E] at m;go_wp2_with (at_builtin;refine qu _ rfl (.tmp 17) (.tmp 19) rfl (w+2) _ L x rfl d rfl rfl oG oG ?_;intro g cap O o F G a H;have h:=a.ig f dE;have z:=h.cell 0;have B:=h.frozen 0;simp only[fK] at z);have j:=a.below (show w.heap.size+2<=wr by omega);go_roundw
    case rel=>exact⟨k/65536,L++[d],_,oG,by simp,zH (by have:=s.out;simp only[fa,ff,fZ];omega),(o.fG (q:=(pB (w+1))) dO _),(a.ig f dE).gH 0 _,(a.ig b dE).kj (p:=pB (w+1)) dO _,(C.trans (j.mono oG)).setCell (p:=pB (w+1)) (iW _) _⟩
    case measure=>exact mI
   ·have m:decide (0<(k:Int)%65536)=false:=decide_eq_false i;obtain⟨d,E⟩:=nR ((k:Int)%65536);rw[E] at m;go_wp2_with (at_builtin;refine qu _ rfl (.tmp 17) (.tmp 19) rfl (w+2) _ L x rfl (-d) rfl rfl oG oG ?_;intro g cap O o F G a H;have h:=a.ig f dE;have z:=h.cell 0;have B:=h.frozen 0;simp only[fK] at z);have j:=a.below (show w.heap.size+2<=wr by omega);go_roundw
    case rel=>exact⟨k/65536,L++[(-d)],_,oG,by simp,zH (by have:=s.out;simp only[fa,ff,fZ];omega),(o.fG (q:=(pB (w+1))) dO _),(a.ig f dE).gH 0 _,(a.ig b dE).kj (p:=pB (w+1)) dO _,(C.trans (j.mono oG)).setCell (p:=pB (w+1)) (iW _) _⟩
    case measure=>exact mI
open Go.RowKit jm ko Et kN
def rJ (l:List Int) (k:Nat):Int:=match l[k]? with|none=>0|some z=>if z<0 then 0 else if 1000<z then 1000 else z
def acE (l:List Int) (k:Nat):0<=rJ l k/\rJ l k<=1000:=by
 unfold rJ;cases l[k]? with
 |none=>simp
 |some z=>
  simp only[]
  repeat' split
  all_goals omega
def vR (l:List Int) (k:Nat) (v:Value) (w:World) (h:gx w .i64 v l) (r:k<1000):
  Calls prog 93 #[v,(k:Int)] w fun e w'=>e=.returned (rJ l k)/\Below w w w':=by
 obtain⟨A,c,rfl,n,p,a⟩:=h.open_;clear h;go_enter func93,ntmps93;by_cases i:l.length<=k
 ·have f:((l.length:Int)<=(k:Int)):=oG;go_wp2_with fail;go_ret;exact⟨by rw[rJ,hX i];rfl,bS _ _⟩
 ·obtain⟨z,d⟩: ∃z,l[k]? =some z:=⟨_,fp oG⟩;obtain⟨b,o,rfl,q,y⟩:=a k z d;have f: ¬((l.length:Int)<=(k:Int)):=oG;have j:((k:Int)<(l.length:Int)):=oG;clear a;by_cases g:z<0
  ·go_wp2_with fail;go_ret
   exact⟨by rw[rJ,d];simp[g],bS _ _⟩
  ·by_cases m:1000<z
   ·go_wp2_with fail;go_ret
    exact⟨by rw[rJ,d];simp[g,m],bS _ _⟩
   ·go_wp2_with fail;go_ret
    exact⟨by rw[rJ,d];simp only[if_neg (show¬z<0 by omega),if_neg (show¬1000<z by omega)];rfl,bS _ _⟩
open Go.RowKit jm ko Et kN zw
def Sv (n:Nat) (J:n<=9223372036854775807) (q:Value) (w:World) (h:gx w .i64 q (nx n)):
  Calls prog 101 #[.agg #[q,false]] w fun e w'=>e=.returned (.agg #[q,false])/\Below w w w':=by
 obtain⟨A,c,rfl,F,G,r⟩:=h.open_;have u:=zH r;clear h r;by_cases i:n=0
 ·have t:(nx n).length=0:=by rw[i,rE];rfl
  rw[t] at*;clear i;go_enter func101,ntmps101;go_wp2_with fail;obtain⟨W,hW⟩:=nR ((w.alloc (cB 115 [.slice A 0 c,false])).alloc (cB 115 [(),false]));have f:Below w w W:=by rw[<-hW];exact bL (bL bF _) _
  have d:fc W w 115 [.slice A 0 c,false]:=by rw[<-hW];exact(fc.new _ _ _).alloc _
  have a:fc W (w+1) 115 [(),false]:=by rw[<-hW];exact fc.fW _ _ _ sI
  rw[hW];clear hW;go_loopw [17] (fun _ wr=>wr=W) (fun _ _=>0)
  case atStart=>exact rfl
  case round=>obtain rfl:=hrel;have L:=d.lt;have M:=a.lt;have c0:=d.c 0;have c1:=d.c 1;have x:=a.c 0;have B:=a.c 1;have C:=a.frozen 0;have D:=a.frozen 1;have E:=d.frozen 1;have l:=zH (((a.kj (p:=pA w 1) dO false).gH 0 (.slice A 0 c)).gH 1 false);have g:=((f.setCell (p:=pA w 1) lE false).setCell (p:=pB (w+1)) (iW _) (.slice A 0 c)).setCell (p:=pA (w+1) 1) (iW _) false;go_wp2_with fail;exact bodyPost_ret (v:=.agg #[.slice A 0 c,false]) (ia rfl _ _ (w+1) 115 [.slice A 0 c,false] _ rfl l underlying115 rfl kR) rfl ⟨rfl,g⟩
 ·obtain⟨z,m,j⟩:=Qm i;obtain⟨k,s⟩: ∃k,(nx n).length=k+1:=⟨(nx n).length-1,by rw[qs i];simp⟩;have I:k<=3:=by have:=BV 4 n oG;omega
  rw[s,G7] at m;obtain⟨b,o,rfl,H,y⟩:=u k z m;have K:(z==0)=false:=by simp[j]
  rw[s] at*;clear i m j;go_enter func101,ntmps101;go_wp2_with fail;obtain⟨W,hW⟩:=nR ((w.alloc (cB 115 [.slice (pA b o) (k+1) c,false])).alloc (cB 115 [(),false]));have f:Below w w W:=by rw[<-hW];exact bL (bL bF _) _
  have d:fc W w 115 [.slice (pA b o) (k+1) c,false]:=by rw[<-hW];exact(fc.new _ _ _).alloc _
  have a:fc W (w+1) 115 [(),false]:=by rw[<-hW];exact fc.fW _ _ _ sI
  rw[hW];clear hW;go_loopw [17] (fun _ wr=>wr=W) (fun _ _=>0)
  case atStart=>exact rfl
  case round=>obtain rfl:=hrel;have L:=d.lt;have M:=a.lt;have c0:=d.c 0;have c1:=d.c 1;have x:=a.c 0;have B:=a.c 1;have C:=a.frozen 0;have D:=a.frozen 1;have E:=d.frozen 1;have y:=a7 f lE y;have l:=zH ((a.gH 0 (.slice (pA b o) (k+1) c)).gH 1 false);have g:=(f.setCell (p:=pB (w+1)) (iW _) (.slice (pA b o) (k+1) c)).setCell (p:=pA (w+1) 1) (iW _) false;go_wp2_with fail;exact bodyPost_ret (v:=.agg #[.slice (pA b o) (k+1) c,false]) (ia rfl _ _ (w+1) 115 [.slice (pA b o) (k+1) c,false] _ rfl l underlying115 rfl kR) rfl ⟨rfl,g⟩
def Oz (u v:Value) (a b:List Int) (w:World) (f:gx w .i64 u a) (g:gx w .i64 v b) (t:a.length<b):
  Calls prog 100 #[u,v] w fun e w'=>e=.returned (-1:)/\w'=w:=by
 obtain⟨A,c,rfl,-⟩:=f.open_;obtain⟨B,d,rfl,-⟩:=g.open_;have F:((a.length:Int) !=b.length)=true:=by simp;omega
 have G:(a.length !=b.length)=true:=by simp;omega
 clear f g;go_enter func100,ntmps100;go_wp2_with fail;go_ret;exact⟨rfl,rfl⟩
theorem Gm{p:Prop}(h:p:=by
 have HM:=zH d;have n:m/65536<=1:=oG;have f:=zH (Ol O oG d);have G:L.length+1<=4:=by have:=s.out;rw[f.out] at this;simp only[fa,ff,fZ] at this;omega
 clear d;go_wp2_with (at_builtin;refine qu _ rfl (.tmp 44) (.tmp 47) rfl w _ L M rfl ((m:Int)%65536) rfl rfl oG j.size ?_;intro g cap w5 o E F l I);have k:=l.below j.size;go_roundw
 case rel=>exact⟨L.length+1,A/65536,B/65536,m/65536,L++[(m:Int)%65536],by simp,by go_num,by simp,n,zH (by rw[K.out,div_pow]),zH (by rw[y.out,div_pow]),f,o,j.trans k⟩
 case measure=>exact mI):p:=h
def Ol {N A B c m:Nat} {L:List Int} (h:nx N=L++nx (A+B+c)) (d:A+B+c≠0) (e:m=c+A%65536+B%65536):nx N=(L++[(m:Int)%65536])++nx (A/65536+B/65536+m/65536):=by have a:(A+B+c)%65536=m%65536:=oG;have b:(A+B+c)/65536=A/65536+B/65536+m/65536:=oG;rw[h,qs d,a,b,eT];simp
def div_pow (a i:Nat):a/65536^i/65536=a/65536^(i+1):=by rw[mN,js]
def RZ (a b:Nat) (ha:a<=4611686018427387904) (j:b<=4611686018427387904) (u v:Value) (w:World) (hu:gx w .i64 u (nx a)) (hv:gx w .i64 v (nx b)):
  Calls prog 102 #[u,v] w fun e w'=> ∃Z,e=.returned Z/\OI w w' Z (nx (a+b))/\Below w w w':=by
 obtain⟨Au,cu,rfl,-,-,T⟩:=hu.open_;obtain⟨Av,cv,rfl,-,-,U⟩:=hv.open_;obtain⟨aa,N⟩:=Zb T U;have s:Hid ((nx (a+b)).length<=4):=zH (BV 4 _ oG);clear hu hv T U ha j;obtain⟨Y,t⟩:=nR ((nx a).length);obtain⟨lb,x⟩:=nR ((nx b).length);rw[t,x];have af:=zH fun i=>(by rw[<-t];exact xJ i a:i<Y↔a/65536^i≠0);have ag:=zH fun i=>(by rw[<-x];exact xJ i b:i<lb↔b/65536^i≠0);have ae:=zH fun i (h:i<Y)=>yH i a (by rw[t];exact h);have P:=zH fun i (h:i<lb)=>yH i b (by rw[x];exact h);clear t x;go_enter func102,ntmps102;go_wp2_with fail;go_loopw [5,6,7] (fun Z sv iv wr=> ∃(i A B c:Nat) (L:List Int),sv=.int .i64 c/\iv=.int .i64 i/\L.length=i/\c<=1/\Hid (A=a/65536^i)/\Hid (B=b/65536^i)/\Hid (nx (a+b)=L++nx (A+B+c))/\Hid (OI w wr Z L)/\Below w w wr) (fun _ _ iv _=>5-(intOf iv).toNat)
 case atStart=>exact⟨0,a,b,0,[],rfl,rfl,rfl,oG,zH sI,zH sI,zH rfl,zH (OI.jL _ _),bS _ _⟩
 case round=>
  obtain⟨i,A,B,c,L,rfl,rfl,ah,hc,K,y,O,M,j⟩:=hrel;obtain⟨Al,cl,rfl,-⟩:=M.slice;have p:i<Y↔A≠0:=by rw[K.out];exact af i
  have q:i<lb↔B≠0:=by rw[y.out];exact ag i
  subst ah;by_cases hA:L.length<Y
  ·have W:=ae L hA;rw[<-K.out] at W;obtain⟨ba,oa,rfl,aj,ya⟩:=aa L _ W;replace ya:=a7 j lE ya;have Q:=p.1 hA;have ai:A%65536<65536:=G9 _ dE;obtain⟨da,V⟩:=nR (A%65536);rw[V] at ya ai;by_cases X:L.length<lb
   ·have z:=P L X;rw[<-y.out] at z;obtain⟨bb,ob,rfl,R,J⟩:=N L _ z;replace J:=a7 j lE J;have D:B%65536<65536:=G9 _ dE;obtain⟨db,r⟩:=nR (B%65536);rw[r] at J D;obtain⟨m,d⟩:=nE (c+A%65536+B%65536);have H:(c:Int)+da+db=(m:Int):=oG;clear p q W z;exact Gm
   ·have C:B=0:=oG;obtain⟨m,d⟩:=nE (c+A%65536+B%65536);have H:(c:Int)+da=(m:Int):=oG;clear p q W;exact Gm
  ·have Q:A=0:=oG;by_cases X:L.length<lb
   ·have z:=P L X;rw[<-y.out] at z;obtain⟨bb,ob,rfl,R,J⟩:=N L _ z;replace J:=a7 j lE J;have C:=q.1 X;have D:B%65536<65536:=G9 _ dE;obtain⟨db,r⟩:=nR (B%65536);rw[r] at J D;obtain⟨m,d⟩:=nE (c+A%65536+B%65536);have H:(c:Int)+db=(m:Int):=oG;clear p q z;exact Gm
   ·have C:B=0:=oG;by_cases S:c=0
    ·have HE:Hid (nx (a+b)=L):=zH (by have:=O.out;rw[Q,C,S,rE,mz] at this;exact this);subst S;clear p q;go_wp2_with fail;go_ret;exact⟨_,rfl,by rw[HE.out];exact M,j⟩
    ·obtain⟨m,d⟩:=nE (c+A%65536+B%65536);have H:(c:Int)=(m:Int):=oG;have ak:0<c:=oG;have al:c=m:=oG;clear p q;exact Gm
def Nv (a b:Nat) (S:a<=4611686018427387904) (V:b<=4611686018427387903) (u v:Value) (w:World) (I:gx w .i64 u (nx a)) (J:gx w .i64 v (nx b)):
  Calls prog 60 #[.agg #[u,false],.agg #[v,false]] w fun e w'=> ∃M,e=.returned (.agg #[M,false])/\gx w' .i64 M (nx (a+b))/\Below w w w':=by
 obtain⟨z,cu,rfl,-⟩:=I.open_;obtain⟨A,D,rfl,-⟩:=J.open_;obtain⟨N,O⟩:=Zb I J;clear I J;obtain⟨L,r⟩:=nR ((nx a).length);obtain⟨lb,s⟩:=nR ((nx b).length);rw[r] at N|-
 rw[s] at O|-
 clear r s;go_enter func60,ntmps60;go_wp2_with fail;obtain⟨W,hW⟩:=nR (((w.alloc (cB 115 [.slice z L cu,false])).alloc (cB 115 [.slice A lb D,false])).alloc (cB 115 [(),false]));have i:Below w w W:=by rw[<-hW];exact bL (bL (bL bF _) _) _
 have t:fc W w 115 [.slice z L cu,false]:=by rw[<-hW];exact((fc.new _ _ _).alloc _).alloc _
 have x:fc W (w+1) 115 [.slice A lb D,false]:=by rw[<-hW];exact(fc.fW _ _ _ sI).alloc _
 have y:fc W (w+1+1) 115 [(),false]:=by rw[<-hW];exact fc.fW _ _ _ sI
 rw[hW];clear hW;refine rG (fun wS=>fc wS w 115 [.slice z L cu,false]/\fc wS (w+1) 115 [.slice A lb D,false]) [9] (⟨t.drew,x.drew⟩) fun hS=>?_;refine kL [0,1,2,3,5,6] ?_;refine tO 4 fun K n=>?_;go_simp;refine(RZ a b S oG _ _ _ (N.below i.drew lE) (O.below i.drew lE)).mono ?_;rintro e X ⟨M,rfl,G,f⟩;have H:=G.reads;obtain⟨l,m,rfl,-⟩:=H.open_;have Q:=zH H;have o:w.heap.size+1+1<W.drew.heap.size:=y.lt;have P:=zH G;have k:=i.drew.trans (f.mono i.drew.size);have g:=t.drew.below f t.lt;have h:=x.drew.below f x.lt;have j:=y.drew.below f y.lt;clear G H f t x y;have hS:=And.intro g h;refine n _ _ (hS) ?_;refine kL [7] ?_;refine tO 8 fun K n=>?_;go_simp;refine(Sv (a+b) oG _ _ Q).mono ?_;rintro e Y ⟨rfl,c⟩;have B:=zH (P.below c lE);have E:=k.trans (c.mono k.size);have d:=j.below c j.lt;have hS:=And.intro (g.below c g.lt) (h.below c h.lt);have c0:=d.c 0;have c1:=d.c 1;have T:=d.frozen 0;have U:=d.frozen 1;clear g h j k c;refine n _ _ (hS) ?_;refine tL 9 fun K n=>?_;go_simp;refine n _ _ ?_;refine tD ?_;have R:=zH ((d.gH 0 (.slice l (nx (a+b)).length m)).gH 1 false);have F:=(E.setCell (p:=pB (w+1+1)) dO (.slice l (nx (a+b)).length m)).setCell (p:=pA (w+1+1) 1) dO false;have C:=zH ((B.fG (q:=(pB (w+1+1))) o (.slice l (nx (a+b)).length m)).fG (q:=(pA (w+1+1) 1)) o false);go_wp2_with fail;exact bodyPost_ret (v:=.agg #[.slice l (nx (a+b)).length m,false]) (ia rfl _ _ (w+1+1) 115 [.slice l (nx (a+b)).length m,false] _ rfl R underlying115 rfl kR) rfl ⟨_,rfl,C.reads,F⟩
def RA:3<(nx 9223372036854775807).length:=(xJ 3 _).2 dE
def Nz (n j:Nat):n/65536^(j+1)*65536+n/65536^j%65536=n/65536^j:=by rw[<-div_pow];omega
def N5 (n:Nat) (hn:n<281474976710656) (u:Value) (w:World) (T:gx w .i64 u (nx n)):
  Calls prog 59 #[.agg #[u,false]] w fun e w'=>e=.returned (.tuple #[(n:Int),true])/\Below w w w':=by
 have P:(nx n).length<=3:=BV 3 n oG;obtain⟨Y,cu,rfl,-,-,hc⟩:=T.open_;obtain⟨HU,Z⟩:=Zb T hc;have HG:=zH fun i h=>yH i n h;have p:=bL (bS w w) (cB 115 [.slice Y (nx n).length cu,false]);have K:=fc.new w 115 [.slice Y (nx n).length cu,false];obtain⟨D,O⟩:=nR (nx n);have R:n/65536^D.length=0:=by rw[<-O];have: ¬(nx n).length<(nx n).length:=oG;rw[xJ] at this;omega
 rw[O] at P HU Z HG p K|-
 clear T hc O;go_enter func59,ntmps59;go_wp2_with fail;refine(Lq 9223372036854775807 oG _).mono ?_;rintro e w1 ⟨m1,rfl,E,s⟩;have m:=E.reads;have Q:=RA;obtain⟨M,hM⟩:=nR (nx 9223372036854775807);rw[hM] at m Q;obtain⟨F,G,rfl,-⟩:=m.open_;have HM:=zH m;have A:=p.trans (s.mono sI);have z:=K.below s sI;clear E m hM s p K;go_wp2_with fail;refine(Wv _).mono ?_;rintro e X ⟨I,V,N,rfl,c⟩;have f:=bL A (cB 115 [.slice F M G,false]);have t:=f.trans (c.mono f.size);have a:=(z.alloc (cB 115 [.slice F M.length G,false])).below c (by simp;exact Nat.lt_succ_of_lt z.lt);have L:=(fc.new w1 115 [.slice F M G,false]).below c sI;have x:=zH (HM.below ((bL (bS w1 w1) (cB 115 [.slice F M G,false])).trans (c.mono sI)) lE);have c0:=a.c 0;have c1:=a.c 1;have m0:=L.c 0;have H:=a.lt;have l2:=L.lt;clear c f;go_wp2_with fail;refine(Oz _ _ D M _ (HU.below (bL t _) lE) (x.below (bL (bS X X) _) lE) oG).mono ?_;rintro e w5 ⟨rfl,rfl⟩;have v:=bL t (cB 115 [.slice I V N,true]);have g:=a.alloc (cB 115 [.slice I V N,true]);clear c0 c1 m0 H l2 HM x L A t;have c0:=a.c 0;have c1:=a.c 1;have H:=a.lt;go_wp2_with fail;obtain⟨W,hW⟩:=nR (X.alloc (cB 115 [.slice I V N,true]));rw[hW] at v g|-
 clear hW c0 c1 H a;go_loopw [6,7] (fun sv U wr=> ∃(k q:Nat),k<=D/\U=.int .i64 ((k:Int)-1)/\sv=.int .i64 q/\Hid (q=n/65536^k)/\q<=n/\wr=W) (fun _ U _=>(intOf U+1).toNat)
 case atStart=>exact⟨D.length,0,lE,rfl,rfl,R.symm,eC _,rfl⟩
 case round=>
  obtain⟨k,q,hk,rfl,rfl,HQ,ae,rfl⟩:=hrel;have c0:=g.c 0;have c1:=g.c 1;have H:=g.lt;by_cases B:k=0
  ·have J:Hid (q=n):=zH (by rw[HQ.out,B];simp);subst B;go_wp2_with fail
   go_ret2
   exact⟨by rw[J.out];rfl,v⟩
  ·obtain⟨j,rfl⟩: ∃j,k=j+1:=⟨k-1,oG⟩;have hj:j<D.length:=oG;have h1:=HG j hj;obtain⟨b,o,rfl,aa,y⟩:=Z j _ h1;replace y:=a7 v lE y;have l:=Nz n j;rw[<-HQ.out] at l;have C:=PE n (65536^j);obtain⟨d,hd⟩:=nR (n/65536^j%65536);obtain⟨r,S⟩:=nR (n/65536^j);rw[hd] at y l;rw[S] at l C;have HR:=zH S;clear h1 hd S;go_wp2_with fail;go_roundw
   case rel=>exact⟨j,r,oG,rfl,by rw[<-l];simp,HR.symm,C,by first|rfl|trivial⟩
   case measure=>simp[intOf]
def R6 (a b:Nat) (K:a<=140737488355328) (L:b<=2147483648) (w:World):
  Calls prog 36 #[(a:Int),(b:Int)] w fun e w'=>e=.returned ((a+b:Nat):Int)/\Below w w w':=by
 go_enter func36,ntmps36;go_wp2_with fail;refine(Lq a oG w).mono ?_;rintro e w1 ⟨u,rfl,A,c⟩;have h:=A.reads;obtain⟨G,cu,rfl,-⟩:=h.open_;have p:=zH h;obtain⟨M,m⟩:=nR ((nx a).length);rw[m] at p|-
 clear A h m;go_wp2_with fail;refine(Lq b oG w1).mono ?_;rintro e D ⟨v,rfl,B,d⟩;have i:=B.reads;obtain⟨H,J,rfl,-⟩:=i.open_;obtain⟨r,j⟩:=Zb i (p.below d lE);have f:=c.trans (d.mono c.size);obtain⟨lb,n⟩:=nR ((nx b).length);rw[n] at r|-
 clear B i n c d p;go_wp2_with fail;refine(Nv a b oG oG _ _ D j r).mono ?_;rintro e E ⟨s,rfl,y,k⟩;obtain⟨F,I,rfl,-⟩:=y.open_;have z:=zH y;have g:=f.trans (k.mono f.size);obtain⟨N,o⟩:=nR ((nx (a+b)).length);rw[o] at z|-
 clear y o f k j r;go_wp2_with fail;refine(N5 (a+b) oG _ E z).mono ?_;rintro e O ⟨rfl,l⟩;have t:=g.trans (l.mono g.size);obtain⟨q,x⟩:=nR (((a+b:Nat):Int):Int);rw[x];have C:=zH x;clear g l x;go_wp2_with fail;go_ret;exact⟨by rw[C.out];rfl,t⟩
end
section
open Go.Proofs.Tryz
open Go.RowKit jm ko Et kN zw
variable {V:List (Int×Int)} {d i:Nat} {q:Int}
abbrev tF (V:List (Int×Int)) (d:Nat):Nat:=V.countP fun x=>decide (x.1=(d:Int))
def Hu (k: ∀x∈V,0<=x.2/\x.2<=2147483648) (d:Nat) (t:tF V d<=60000): ∀i:Nat,i<=V->0<=kT (V.take i) d/\kT (V.take i) d<=2147483648*tF (V.take i) d
 |0,_=>by simp[kT]
 |i+1,hi=>by
  have a:=Hu k d t i oG;obtain⟨⟨z,q⟩,f⟩:=ec (show i<V by omega);have H:=k _ (a8 f);have p:tF (V.take (i+1)) d<=tF V d:=(acS _ _).countP_le;dsimp only at H;rw[iC f] at p|-
  rw[p9];unfold tF at p a|-
  rw[aci] at p|-
  dsimp only;by_cases F:z=d
  ·rw[if_pos F];simp only[ac9,List.countP_nil,F,decide_true,if_true] at p|-
   unfold GD;omega
  ·rw[if_neg F];simp only[ac9,List.countP_nil,F,decide_false] at p|-
   simp at p|-
   omega
def Ht (k: ∀x∈V,0<=x.2/\x.2<=2147483648) (d:Nat) (t:tF V d<=60000) (i:Nat) (D:i<=V):0<=kT (V.take i) d/\kT (V.take i) d<=128849018880000:=by have h1:=Hu k d t i D;have p:tF (V.take i) d<=tF V d:=(acS _ _).countP_le;omega
def NA (k: ∀x∈V,0<=x.2/\x.2<=2147483648) (t:tF V d<=60000) (f:V[i]? =some ((d:Int),q)):kT (V.take (i+1)) d=kT (V.take i) d+q:=by have D:=(bX.1 f).1;have a:=Ht k d t i oG;have H:=k _ (a8 f);dsimp only at H;rw[iC f,p9,if_pos rfl];unfold GD;dsimp only;omega
def Qe {z:Int} (f:V[i]? =some (z,q)) (h:z≠d):kT (V.take (i+1)) d=kT (V.take i) d:=by rw[iC f,p9,if_neg h]
def Ja (v:Value) (V:List (Int×Int)) (n:Nat) (w:World) (hv:RL 2 iH w v V) (k: ∀x∈V,0<=x.2/\x.2<=2147483648) (hn:1<=n/\n<=64) (t: ∀d,tF V d<=60000):
  Calls prog 14 #[v,(n:Int)] w fun e w'=> ∃K,e=.returned K/\OI w w' K (lW V n)/\Below w w w':=by
 obtain⟨A,c,rfl,h1,h2,Y⟩:=fQ.open_ hv;obtain⟨HC,W⟩:=Zb Y k;have HN:=zH fun d i D=>Ht k d (t d) i D;have Z:decide ((n:Int)>64)=false:=decide_eq_false oG;have aa: ¬64<n:=oG;clear hv Y k;go_enter func14,ntmps14;go_wp2_with fail;go_loopw [5,6] (fun K B wr=> ∃d:Nat,d<=n/\B=.int .i64 d/\Hid (OI w wr K ((lW V n).take d))/\Below w w wr) (fun _ B _=>n-(intOf B).toNat)
 case atStart=>exact⟨0,eC _,rfl,(OI.jL _ _),bS _ _⟩
 case round=>
  obtain⟨d,F,rfl,C,M⟩:=hrel;by_cases G:d<n
  ·obtain⟨wo,S⟩:=nE (wr:World);subst S;go_wp2_with fail;go_loopw [7,8] (fun sv B wr=> ∃i:Nat,i<=V/\B=.int .i64 i/\sv=.int .i64 (kT (V.take i) d)/\Below wo wo wr) (fun _ B _=>V.length-(intOf B).toNat)
   case atStart=>exact⟨0,eC _,rfl,by simp[kT],bS _ _⟩
   case round=>
    obtain⟨i,D,rfl,rfl,l⟩:=hrel;have m:=M.trans (l.mono M.size);by_cases y:i<V
    ·obtain⟨⟨z,q⟩,f⟩:=ec y;obtain⟨b,o,rfl,ae,y0,y1⟩:=HC i _ f;replace y0:=a7 m lE y0;replace y1:=a7 m lE y1;have H:=W _ (a8 f);have p:=HN d i D;dsimp only at H;by_cases j:z=d
     ·have T:(z==(d:Int))=true:=by simp[j]
      have E:=zH (NA W (t d) (j▸f));obtain⟨a,X⟩: ∃a:Nat,kT (V.take i) d=a:=⟨(kT (V.take i) d).toNat,oG⟩;obtain⟨b',N⟩: ∃b:Nat,q=b:=⟨q.toNat,oG⟩;subst N;rw[X] at p E|-
      clear f X j;go_wp2_with fail;refine(R6 a b' oG oG wr).mono ?_;rintro e w5 ⟨rfl,r⟩;have O:=l.trans (r.mono l.size);clear r;go_wp2_with fail;go_roundw
      case rel=>exact⟨i+1,y,by go_num,by rw[E.out] <;>simp,O⟩
      case measure=>exact mI
     ·have T:(z==(d:Int))=false:=by simp[j]
      have E:=zH (Qe f j);obtain⟨s,h⟩:=nR (kT (V.take i) d);rw[h] at p E|-
      clear f h j;go_wp2_with fail;go_roundw
      case rel=>exact⟨i+1,y,by go_num,by rw[E.out],l⟩
      case measure=>exact mI
    ·obtain rfl:i=V.length:=oG;rw[gh];have U:Hid ((lW V n).take (d+1)=(lW V n).take d++[kT V d]):=zH (iC (oL G));obtain⟨s,h⟩:=nR (kT V d);obtain⟨L,I⟩:=nR ((lW V n).take d);rw[h,I] at U;rw[I] at C;rw[h];have Q:L.length<=1000000000:=by rw[<-I,fB];omega
     have u:=zH (C.below l lE);obtain⟨Al,cl,rfl,-⟩:=C.slice;clear h I C;go_wp2_with (at_builtin;refine qu _ rfl (.tmp 36) (.tmp 38) rfl w _ L u rfl s rfl rfl Q m.size ?_;intro g cap w5 R af ag P ah);have r:=P.below m.size;go_roundw
     case rel=>exact⟨d+1,G,by go_num,zH (by rw[U.out];exact R),m.trans r⟩
     case measure=>exact mI
  ·obtain rfl:d=n:=oG;have J:=C.out;rw[fj (by rw[lB];exact lE)] at J;have u:=zH J;obtain⟨Al,cl,rfl,-⟩:=J.slice;clear J C;go_wp2_with fail;go_ret;exact⟨_,rfl,u,M⟩
end
end Go.Proofs.YtgimnjldndkalaaGreatDoor
