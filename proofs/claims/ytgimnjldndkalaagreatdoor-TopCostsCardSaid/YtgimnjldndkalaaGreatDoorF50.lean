/- Of the proof of TopCosts: A tank's fill, as the interpreter's word. -/
import Derived.Test.YtgimnjldndkalaaGreatDoorF19
import Derived.Test.YtgimnjldndkalaaGreatDoorF33
set_option linter.all false
set_option maxHeartbeats 20000000
set_option maxRecDepth 100000
namespace Go.Proofs.YtgimnjldndkalaaGreatDoor
variable {g i n:Nat} {w w0:World}
namespace Ra
open Go.Proofs.Tryz
open Go Go.RowKit jm uf ko kN
section
variable {x:fS} (hx:ga x)
include hx
theorem abo:ik x 240 ZE:=CN hx func240 kR kR rfl rfl dE fun env w args hg ha hF=>by
 obtain⟨v,v2,v3,pr,rfl,G,h2,h3,h4⟩:=XA ha;have HC:=zH G;obtain⟨us,rfl,G⟩:=G;obtain⟨c0,us,rfl,q0,G⟩:=jH.cons G;obtain⟨c1,us,rfl,P,G⟩:=jH.cons G;obtain⟨c2,us,rfl,H,G⟩:=jH.cons G;obtain⟨c3,us,rfl,q3,G⟩:=jH.cons G;obtain⟨c4,us,rfl,q4,G⟩:=jH.cons G;obtain⟨c5,us,rfl,q5,G⟩:=jH.cons G;obtain⟨c6,us,rfl,q6,G⟩:=jH.cons G;obtain⟨c7,us,rfl,q7,G⟩:=jH.cons G;obtain rfl:=jH.nil G;obtain⟨rfl,-⟩:=jZ h2;obtain⟨rfl,ay⟩:=jZ h3;have hh:=hx.head;have h4:jd (kinds x) env 0 pr (env.ρ 14+0):=h4;rw[fE] at h4;have hz:=jW hx hg;have aO:env.ρ 0<=env.ρ 14+0:=hF ⟨0,14,0⟩ (tR _ (.head _));have HP:Hid (jd (kinds x) env 0 pr (env.ρ 14)/\0<=env.ρ 14):=zH ⟨h4,oG⟩;have HG:Hid (ln env.ρ GF):=zH (lP.1 hF).1;obtain⟨n,hn,aX,aj⟩: ∃n:Nat,env.ρ 2=n/\1<=n/\n<=64:=⟨(env.ρ 2).toNat,by have h2:env.ρ 2=x.days:=hg.gl 2 (show 2<6 by decide);omega,by have h2:env.ρ 2=x.days:=hg.gl 2 (show 2<6 by decide);omega,by have h2:env.ρ 2=x.days:=hg.gl 2 (show 2<6 by decide);omega⟩;have ae:x.days.toNat=n:=by have h2:env.ρ 2=x.days:=hg.gl 2 (show 2<6 by decide);omega
 obtain⟨cap,ai⟩:=nR (env.ρ 4);rw[ai] at ay|-
 rw[hn];obtain⟨aD,aL,HN,aK⟩:=Zd ay ae hn (oE.refl hg);have aB:=zH fun k (hk:w.heap.size<=k)=>oE.free hg hk;have m1:min (n:Int) 64=n:=oG;have m2:max (n:Int) 0=n:=oG;clear G h2 h3 h4 q0 P H q3 q4 q5 q6 q7 ha hF hg hh hz aO ay ae ai hn;go_enter func240,ntmps240;go_wp2_with fail;go_loopw [23] (fun dv wr=> ∃(d:Nat) (f:Nat->Option (Int×Int)) (o:Env),d<=n+1/\dv=.int .i64 d/\Hid (uE (kinds x) env w w [c0,c1,c2,c3,c4,c5,c6,c7] f o wr)) (fun dv _=>n+1-(intOf dv).toNat)
 case atStart=>refine⟨0,fun _=>none,env,eC _,rfl,zH ⟨aK.below (fR hx) (bL (bL bF _) _),(fc.fW _ _ _ rfl).alloc _,?_,aB _ oG,aB _ oG,Ci.zero,lE⟩⟩;rw[U0];exact fc.fW _ _ _ sI
 case round=>
  obtain⟨d,f,o,hd,rfl,g⟩:=hrel;by_cases aV:d<n+1
  ·have aU:decide ((d:Int)<(n:Int)+1)=true:=decide_eq_true oG;go_wp2_with fail;go_loopw [12] (fun lv wr=> ∃(z:Int) (f:Nat->Option (Int×Int)) (o:Env),-1<=z/\z<=d/\lv=.int .i64 z/\Hid (uE (kinds x) env w w [c0,c1,c2,c3,c4,c5,c6,c7] f o wr)) (fun lv _=>((d:Int)-intOf lv).toNat)
   case atStart=>exact⟨-1,f,o,oG,oG,rfl,g⟩
   case round=>
    clear g;obtain⟨z,f,o,aS,aY,rfl,g⟩:=hrel;by_cases aZ:z<d
    ·have F:=g.bx.iY;simp only[im,Nat.reduceAdd] at F;obtain⟨F,b1,b2,b3,b4,b5,b6,b7,-⟩:=F;by_cases aR:0<=z
     ·obtain⟨k,rfl⟩: ∃k:Nat,z=k:=⟨z.toNat,oG⟩;have I:k<65:=oG;cases A:f k with
      |none=>
       obtain⟨y0,y1,y2⟩:=g.get I (a:=.bool false) (b:=.int .i64 0) (c:=.int .i64 0) (by rw[A];rfl);go_wp2_with fail;go_roundw
       case rel=>exact⟨(k:Int)+1,f,o,oG,oG,by go_num,g⟩
       case measure=>simp[intOf] <;>omega
      |some p=>
       obtain⟨ck,aA⟩:=p;obtain⟨y0,y1,y2⟩:=g.get I (a:=.bool true) (b:=.int .i64 ck) (c:=.int .i64 aA) (by rw[A];rfl);have ag:Hid (∀q:Nat,(k:Int)=q->f q≠none):=zH fun q e=>by rw[<-(by omega:k=q),A];simp
       have aC:=zH A;clear A;go_wp2_with fail;refine(XC hx g.st HC (a:=(k:Int)) (d:=(d:Int)) oG oG).mono ?_;rintro e U ⟨a,q,rfl,ha,j,M,J⟩;obtain⟨g,HA⟩:=Zb (g.step J M) ha;clear M J F b1 b2 b3 b4 b5 b6 b7 ha;by_cases aP:a<0
       ·go_wp2_with fail;go_roundw
        case rel=>exact⟨(k:Int)+1,f,j,oG,oG,by go_num,g⟩
        case measure=>simp[intOf] <;>omega
       ·have F:=g.bx.iY;simp only[im,Nat.reduceAdd] at F;obtain⟨F,b1,b2,b3,b4,b5,b6,b7,-⟩:=F;have i:d<65:=oG;have aw:(d:Int)<65:=oG;by_cases aH:d<n
        ·go_wp2_with fail;refine(XD hx g.st HC HA aD).mono ?_;rintro e N ⟨m,rfl,W,X,af⟩;have g:=zH (g.step af X);clear X af F b1 b2 b3 b4 b5 b6 b7;by_cases hm:m=0
         ·go_wp2_with fail;go_roundw
          case rel=>exact⟨(k:Int)+1,f,W,oG,oG,by go_num,g⟩
          case measure=>simp[intOf] <;>omega
         ·have aQ:(m==0)=false:=by simp[hm]
          clear hm;have az:(k:Int)<65:=oG;go_wp2_with fail;have V:=g;have t:=(fc.new N 306 [true,q,(k:Int)]).drew;have Q:=oE.free g.st.kY lE;have B:=g.tb.lt;have g:=zH (g.below (fR hx) (bL (bS N N) (cB 306 [true,q,(k:Int)])).drew);refine rG (fun wS=>fc wS N 306 [true,q,(k:Int)]/\wS.cell? (pA (w+1) (k*3+1))=some ck) [8] (⟨t,(g.get I (a:=.bool true) (b:=.int .i64 ck) (c:=.int .i64 aA) (by rw[aC.out];rfl)).2.1⟩) fun hS=>?_;refine kL [0,1,2,3,4,5,6,7] ?_;refine tL 8 fun K Z=>?_;have d5:=hS.1.c 1;have d6:=hS.1.frozen 1;go_simp;obtain⟨P,E⟩:=nR (IntKind.i64.wrap (q+ck));rw[E];clear E d5 d6 t Q B g hS;refine Z _ _ ?_;refine tD ?_;go_wp2_with fail;have g:=V;have t:=(fc.new N 306 [true,P,(k:Int)]).drew.drew;have Q:=oE.free g.st.kY lE;have B:=g.tb.lt;have g:=zH (g.below (fR hx) (bL (bS N N) (cB 306 [true,P,(k:Int)])).drew.drew);clear V;refine rG (fun wS=>fc wS N 306 [true,P,(k:Int)]) [7] (t) fun hS=>?_;refine kL [0,1,2,3] ?_;refine tO 4 fun K Z=>?_;go_simp;refine(XB hx g.st HP.1 HP.2 (d:=(d:Int)) (by unfold kP;omega)).mono ?_;rintro e wc ⟨r,rfl,u,Y,L⟩;have hS:=L.ig t.lt Q t;have Q:=L.free t.lt Q;have g:=zH (g.step L Y);clear Y L t;refine Z _ _ (hS) ?_;refine kL [5,6] ?_;refine tL 7 fun K Z=>?_;have d5:=hS.c 1;have d6:=hS.frozen 1;go_simp;obtain⟨H,E⟩:=nR (IntKind.i64.wrap (P+r));rw[E];have t:=(hS.gH 1 H).drew;have g:=zH ((g.Yw oG Q 1 H).below (fR hx) bF.drew);simp only[fI,fJ] at t;clear E d5 d6 hS;refine Z _ _ ?_;refine tD ?_;go_wp2_with fail;have s0:=t.c 0;have s1:=t.c 1;have s2:=t.c 2;have B:=g.tb.lt;cases y:f d with
          |none=>
           obtain⟨R,S,T⟩:=g.get i (a:=.bool false) (b:=.int .i64 0) (c:=.int .i64 0) (by rw[y];rfl);refine rG (fun wS=>fc wS N 306 [true,H,(k:Int)]/\wS.cell? (pA (w+1) (d*3))=some false/\wS.cell? (pA (w+1) (d*3+1))=some (.int .i64 0)/\wS.cell? (pA (w+1) (d*3+2))=some (.int .i64 0)) [] (⟨t,R,S,T⟩) fun hS=>?_;refine kL [0,1,2,3,4,5] ?_;refine kS [6,7,8,9,10,11,12] ?_;refine kL [13] ?_;refine tD ?_;go_wp2_with ((with_reducible show wpList _ _ _ (Oper.mk _ (Op.store _ (Operand.tmp _) _) _ _ _ _::_) _ _);refine wpList_store_mid rfl 306 (.tmp 100) (.tmp 99) rfl (w+1) (d*3) #[true,H,(k:Int)] rfl rfl (g.there i) rH (by simp[Value.oneCell']) ?_);go_roundw
           case rel=>exact⟨(k:Int)+1,_,u,oG,oG,by go_num,(g.Eh i oG oG ag)⟩
           case measure=>simp[intOf] <;>omega
          |some p=>
           obtain⟨c',O⟩:=p;obtain⟨R,S,T⟩:=g.get i (a:=.bool true) (b:=.int .i64 c') (c:=.int .i64 O) (by rw[y];rfl);refine rG (fun wS=>fc wS N 306 [true,H,(k:Int)]/\wS.cell? (pA (w+1) (d*3))=some true/\wS.cell? (pA (w+1) (d*3+1))=some c'/\wS.cell? (pA (w+1) (d*3+2))=some O) [] (⟨t,R,S,T⟩) fun hS=>?_;refine kL [0,1,2,3,4,5] ?_;refine kG [6,7,8,9,10,11,12] ?_;refine kL [13] ?_;refine tD ?_;by_cases C:H<c'
           ·have D:decide (H<c')=true:=decide_eq_true C;go_wp2_with ((with_reducible show wpList _ _ _ (Oper.mk _ (Op.store _ (Operand.tmp _) _) _ _ _ _::_) _ _);refine wpList_store_mid rfl 306 (.tmp 100) (.tmp 99) rfl (w+1) (d*3) #[true,H,(k:Int)] rfl rfl (g.there i) rH (by simp[Value.oneCell']) ?_);go_roundw
            case rel=>exact⟨(k:Int)+1,_,u,oG,oG,by go_num,(g.Eh i oG oG ag)⟩
            case measure=>simp[intOf] <;>omega
           ·have D:decide (H<c')=false:=decide_eq_false C;go_wp2_with fail;go_roundw
            case rel=>exact⟨(k:Int)+1,f,u,oG,oG,by go_num,g⟩
            case measure=>simp[intOf] <;>omega
        ·obtain rfl:d=n:=oG;clear F b1 b2 b3 b4 b5 b6 b7;have az:(k:Int)<65:=oG;go_wp2_with fail;have V:=g;have t:=(fc.new U 306 [true,q,(k:Int)]).drew;have Q:=oE.free g.st.kY lE;have B:=g.tb.lt;have g:=zH (g.below (fR hx) (bL (bS U U) (cB 306 [true,q,(k:Int)])).drew);refine rG (fun wS=>fc wS U 306 [true,q,(k:Int)]/\wS.cell? (pA (w+1) (k*3+1))=some ck) [8] (⟨t,(g.get I (a:=.bool true) (b:=.int .i64 ck) (c:=.int .i64 aA) (by rw[aC.out];rfl)).2.1⟩) fun hS=>?_;refine kL [0,1,2,3,4,5,6,7] ?_;refine tL 8 fun K Z=>?_;have d5:=hS.1.c 1;have d6:=hS.1.frozen 1;go_simp;obtain⟨P,E⟩:=nR (IntKind.i64.wrap (q+ck));rw[E];clear E d5 d6 t Q B g hS;refine Z _ _ ?_;refine tD ?_;go_wp2_with fail;have g:=V;have t:=(fc.new U 306 [true,P,(k:Int)]).drew.drew;have Q:=oE.free g.st.kY lE;have B:=g.tb.lt;have g:=zH (g.below (fR hx) (bL (bS U U) (cB 306 [true,P,(k:Int)])).drew.drew);clear V;have s0:=t.c 0;have s1:=t.c 1;have s2:=t.c 2;have B:=g.tb.lt;cases y:f d with
         |none=>
          obtain⟨R,S,T⟩:=g.get i (a:=.bool false) (b:=.int .i64 0) (c:=.int .i64 0) (by rw[y];rfl);refine rG (fun wS=>fc wS U 306 [true,P,(k:Int)]/\wS.cell? (pA (w+1) (d*3))=some false/\wS.cell? (pA (w+1) (d*3+1))=some (.int .i64 0)/\wS.cell? (pA (w+1) (d*3+2))=some (.int .i64 0)) [] (⟨t,R,S,T⟩) fun hS=>?_;refine kL [0,1,2,3,4,5] ?_;refine kS [6,7,8,9,10,11,12] ?_;refine kL [13] ?_;refine tD ?_;go_wp2_with ((with_reducible show wpList _ _ _ (Oper.mk _ (Op.store _ (Operand.tmp _) _) _ _ _ _::_) _ _);refine wpList_store_mid rfl 306 (.tmp 100) (.tmp 99) rfl (w+1) (d*3) #[true,P,(k:Int)] rfl rfl (g.there i) rH (by simp[Value.oneCell']) ?_);go_roundw
          case rel=>exact⟨(k:Int)+1,_,j,oG,oG,by go_num,(g.Eh i oG oG ag)⟩
          case measure=>simp[intOf] <;>omega
         |some p=>
          obtain⟨c',O⟩:=p;obtain⟨R,S,T⟩:=g.get i (a:=.bool true) (b:=.int .i64 c') (c:=.int .i64 O) (by rw[y];rfl);refine rG (fun wS=>fc wS U 306 [true,P,(k:Int)]/\wS.cell? (pA (w+1) (d*3))=some true/\wS.cell? (pA (w+1) (d*3+1))=some c'/\wS.cell? (pA (w+1) (d*3+2))=some O) [] (⟨t,R,S,T⟩) fun hS=>?_;refine kL [0,1,2,3,4,5] ?_;refine kG [6,7,8,9,10,11,12] ?_;refine kL [13] ?_;refine tD ?_;by_cases C:P<c'
          ·have D:decide (P<c')=true:=decide_eq_true C;go_wp2_with ((with_reducible show wpList _ _ _ (Oper.mk _ (Op.store _ (Operand.tmp _) _) _ _ _ _::_) _ _);refine wpList_store_mid rfl 306 (.tmp 100) (.tmp 99) rfl (w+1) (d*3) #[true,P,(k:Int)] rfl rfl (g.there i) rH (by simp[Value.oneCell']) ?_);go_roundw
           case rel=>exact⟨(k:Int)+1,_,j,oG,oG,by go_num,(g.Eh i oG oG ag)⟩
           case measure=>simp[intOf] <;>omega
          ·have D:decide (P<c')=false:=decide_eq_false C;go_wp2_with fail;go_roundw
           case rel=>exact⟨(k:Int)+1,f,j,oG,oG,by go_num,g⟩
           case measure=>simp[intOf] <;>omega
     ·obtain rfl:z= -1:=oG;go_wp2_with fail;refine(XC hx g.st HC (a:=(-1)) (d:=(d:Int)) oG oG).mono ?_;rintro e U ⟨a,q,rfl,ha,j,M,J⟩;obtain⟨g,HA⟩:=Zb (g.step J M) ha;clear M J F b1 b2 b3 b4 b5 b6 b7 ha;by_cases aP:a<0
      ·go_wp2_with fail;go_roundw
       case rel=>exact⟨0,f,j,oG,oG,by go_num,g⟩
       case measure=>simp[intOf] <;>omega
      ·have F:=g.bx.iY;simp only[im,Nat.reduceAdd] at F;obtain⟨F,b1,b2,b3,b4,b5,b6,b7,-⟩:=F;have i:d<65:=oG;have aw:(d:Int)<65:=oG;by_cases aH:d<n
       ·go_wp2_with fail;refine(XD hx g.st HC HA aD).mono ?_;rintro e N ⟨m,rfl,W,X,af⟩;have g:=zH (g.step af X);clear X af F b1 b2 b3 b4 b5 b6 b7;by_cases hm:m=0
        ·go_wp2_with fail;go_roundw
         case rel=>exact⟨0,f,W,oG,oG,by go_num,g⟩
         case measure=>simp[intOf] <;>omega
        ·have aQ:(m==0)=false:=by simp[hm]
         clear hm;go_wp2_with fail;have t:=(fc.new N 306 [true,q,(-1:)]).drew;have Q:=oE.free g.st.kY lE;have B:=g.tb.lt;have g:=zH (g.below (fR hx) (bL (bS N N) (cB 306 [true,q,(-1:)])).drew);refine rG (fun wS=>fc wS N 306 [true,q,(-1:)]) [7] (t) fun hS=>?_;refine kL [0,1,2,3] ?_;refine tO 4 fun K Z=>?_;go_simp;refine(XB hx g.st HP.1 HP.2 (d:=(d:Int)) (by unfold kP;omega)).mono ?_;rintro e wc ⟨r,rfl,u,Y,L⟩;have hS:=L.ig t.lt Q t;have Q:=L.free t.lt Q;have g:=zH (g.step L Y);clear Y L t;refine Z _ _ (hS) ?_;refine kL [5,6] ?_;refine tL 7 fun K Z=>?_;have d5:=hS.c 1;have d6:=hS.frozen 1;go_simp;obtain⟨H,E⟩:=nR (IntKind.i64.wrap (q+r));rw[E];have t:=(hS.gH 1 H).drew;have g:=zH ((g.Yw oG Q 1 H).below (fR hx) bF.drew);simp only[fI,fJ] at t;clear E d5 d6 hS;refine Z _ _ ?_;refine tD ?_;go_wp2_with fail;have s0:=t.c 0;have s1:=t.c 1;have s2:=t.c 2;have B:=g.tb.lt;cases y:f d with
         |none=>
          obtain⟨R,S,T⟩:=g.get i (a:=.bool false) (b:=.int .i64 0) (c:=.int .i64 0) (by rw[y];rfl);refine rG (fun wS=>fc wS N 306 [true,H,(-1:)]/\wS.cell? (pA (w+1) (d*3))=some false/\wS.cell? (pA (w+1) (d*3+1))=some (.int .i64 0)/\wS.cell? (pA (w+1) (d*3+2))=some (.int .i64 0)) [] (⟨t,R,S,T⟩) fun hS=>?_;refine kL [0,1,2,3,4,5] ?_;refine kS [6,7,8,9,10,11,12] ?_;refine kL [13] ?_;refine tD ?_;go_wp2_with ((with_reducible show wpList _ _ _ (Oper.mk _ (Op.store _ (Operand.tmp _) _) _ _ _ _::_) _ _);refine wpList_store_mid rfl 306 (.tmp 100) (.tmp 99) rfl (w+1) (d*3) #[true,H,(-1:)] rfl rfl (g.there i) rH (by simp[Value.oneCell']) ?_);go_roundw
          case rel=>exact⟨0,_,u,oG,oG,by go_num,(g.Eh i oG oG (fun k h=>absurd h oG))⟩
          case measure=>simp[intOf] <;>omega
         |some p=>
          obtain⟨c',O⟩:=p;obtain⟨R,S,T⟩:=g.get i (a:=.bool true) (b:=.int .i64 c') (c:=.int .i64 O) (by rw[y];rfl);refine rG (fun wS=>fc wS N 306 [true,H,(-1:)]/\wS.cell? (pA (w+1) (d*3))=some true/\wS.cell? (pA (w+1) (d*3+1))=some c'/\wS.cell? (pA (w+1) (d*3+2))=some O) [] (⟨t,R,S,T⟩) fun hS=>?_;refine kL [0,1,2,3,4,5] ?_;refine kG [6,7,8,9,10,11,12] ?_;refine kL [13] ?_;refine tD ?_;by_cases C:H<c'
          ·have D:decide (H<c')=true:=decide_eq_true C;go_wp2_with ((with_reducible show wpList _ _ _ (Oper.mk _ (Op.store _ (Operand.tmp _) _) _ _ _ _::_) _ _);refine wpList_store_mid rfl 306 (.tmp 100) (.tmp 99) rfl (w+1) (d*3) #[true,H,(-1:)] rfl rfl (g.there i) rH (by simp[Value.oneCell']) ?_);go_roundw
           case rel=>exact⟨0,_,u,oG,oG,by go_num,(g.Eh i oG oG (fun k h=>absurd h oG))⟩
           case measure=>simp[intOf] <;>omega
          ·have D:decide (H<c')=false:=decide_eq_false C;go_wp2_with fail;go_roundw
           case rel=>exact⟨0,f,u,oG,oG,by go_num,g⟩
           case measure=>simp[intOf] <;>omega
       ·obtain rfl:d=n:=oG;clear F b1 b2 b3 b4 b5 b6 b7;go_wp2_with fail;have t:=(fc.new U 306 [true,q,(-1:)]).drew;have Q:=oE.free g.st.kY lE;have B:=g.tb.lt;have g:=zH (g.below (fR hx) (bL (bS U U) (cB 306 [true,q,(-1:)])).drew);have s0:=t.c 0;have s1:=t.c 1;have s2:=t.c 2;have B:=g.tb.lt;cases y:f d with
        |none=>
         obtain⟨R,S,T⟩:=g.get i (a:=.bool false) (b:=.int .i64 0) (c:=.int .i64 0) (by rw[y];rfl);refine rG (fun wS=>fc wS U 306 [true,q,(-1:)]/\wS.cell? (pA (w+1) (d*3))=some false/\wS.cell? (pA (w+1) (d*3+1))=some (.int .i64 0)/\wS.cell? (pA (w+1) (d*3+2))=some (.int .i64 0)) [] (⟨t,R,S,T⟩) fun hS=>?_;refine kL [0,1,2,3,4,5] ?_;refine kS [6,7,8,9,10,11,12] ?_;refine kL [13] ?_;refine tD ?_;go_wp2_with ((with_reducible show wpList _ _ _ (Oper.mk _ (Op.store _ (Operand.tmp _) _) _ _ _ _::_) _ _);refine wpList_store_mid rfl 306 (.tmp 100) (.tmp 99) rfl (w+1) (d*3) #[true,q,(-1:)] rfl rfl (g.there i) rH (by simp[Value.oneCell']) ?_);go_roundw
         case rel=>exact⟨0,_,j,oG,oG,by go_num,(g.Eh i oG oG (fun k h=>absurd h oG))⟩
         case measure=>simp[intOf] <;>omega
        |some p=>
         obtain⟨c',O⟩:=p;obtain⟨R,S,T⟩:=g.get i (a:=.bool true) (b:=.int .i64 c') (c:=.int .i64 O) (by rw[y];rfl);refine rG (fun wS=>fc wS U 306 [true,q,(-1:)]/\wS.cell? (pA (w+1) (d*3))=some true/\wS.cell? (pA (w+1) (d*3+1))=some c'/\wS.cell? (pA (w+1) (d*3+2))=some O) [] (⟨t,R,S,T⟩) fun hS=>?_;refine kL [0,1,2,3,4,5] ?_;refine kG [6,7,8,9,10,11,12] ?_;refine kL [13] ?_;refine tD ?_;by_cases C:q<c'
         ·have D:decide (q<c')=true:=decide_eq_true C;go_wp2_with ((with_reducible show wpList _ _ _ (Oper.mk _ (Op.store _ (Operand.tmp _) _) _ _ _ _::_) _ _);refine wpList_store_mid rfl 306 (.tmp 100) (.tmp 99) rfl (w+1) (d*3) #[true,q,(-1:)] rfl rfl (g.there i) rH (by simp[Value.oneCell']) ?_);go_roundw
          case rel=>exact⟨0,_,j,oG,oG,by go_num,(g.Eh i oG oG (fun k h=>absurd h oG))⟩
          case measure=>simp[intOf] <;>omega
         ·have D:decide (q<c')=false:=decide_eq_false C;go_wp2_with fail;go_roundw
          case rel=>exact⟨0,f,j,oG,oG,by go_num,g⟩
          case measure=>simp[intOf] <;>omega
    ·go_wp2_with fail;go_roundw
     case rel=>exact⟨d+1,f,o,oG,by go_num,g⟩
     case measure=>exact mI
  ·have ak:n<65:=oG;cases aa:f n with
   |none=>
    obtain⟨y0,y1,y2⟩:=g.get ak (a:=.bool false) (b:=.int .i64 0) (c:=.int .i64 0) (by rw[aa];rfl);go_wp2_with fail
    go_ret2
    refine⟨_,o,put o.ρ 15 0,rfl,g.st,fun s h=>fy h,⟨_,rfl,?_,⟨_,rfl⟩,trivial⟩,qG ?_ ?_⟩
    ·show jd (kinds x) _ 2 _ (put o.ρ 15 0 15+0);rw[ie];exact GM _ _ _
    ·show put o.ρ 15 0 0<=put o.ρ 15 0 15+0;rw[ie,fy dE,jW hx g.out.st.kY];decide
    ·show put o.ρ 15 0 15<=put o.ρ 15 0 0+64;rw[ie,fy dE,jW hx g.out.st.kY];decide
   |some p=>
    obtain⟨c,l⟩:=p;obtain⟨y0,y1,y2⟩:=g.get ak (a:=.bool true) (b:=.int .i64 c) (c:=.int .i64 l) (by rw[aa];rfl);have ah:=g.ok.lo n c l aa;have aI: ∀k:Nat,l=k->f k≠none:=fun k e=>g.ok.up n c k (e▸aa);have aE:=zH aI;clear aI;go_wp2_with fail;go_loopw [16,17] (fun sv lv wr=> ∃(s:Nat) (z:Int),s<2^n/\sv=.int .u64 s/\ -1<=z/\z<n/\lv=.int .i64 z/\Hid (∀k:Nat,z=k->f k≠none)/\Hid (uE (kinds x) env w w [c0,c1,c2,c3,c4,c5,c6,c7] f o wr)) (fun _ lv _=>(intOf lv+1).toNat)
    case atStart=>exact⟨0,l,Nat.two_pow_pos n,rfl,ah.1,ah.2,rfl,aE,g⟩
    case round=>
     clear y0 y1 y2 ah aE g aa;obtain⟨s,z,hs,rfl,aS,bh,rfl,HU,g⟩:=hrel;have aF:=zH hs;clear hs;by_cases aR:0<=z
     ·obtain⟨k,rfl⟩: ∃k:Nat,z=k:=⟨z.toNat,oG⟩;cases A:f k with
      |none=>exact absurd A (HU k rfl)
      |some p=>
       obtain⟨c',O⟩:=p;have I:k<65:=oG;obtain⟨y0,y1,y2⟩:=g.get I (a:=.bool true) (b:=.int .i64 c') (c:=.int .i64 O) (by rw[A];rfl);have ah:=g.ok.lo k c' O A;have aN:=zH fun q (e:O=((q:Nat):Int))=>g.ok.up k c' q (e▸A);clear A;go_wp2_with fail;refine(Po s k n _ aF oG aj).mono ?_;rintro e w' ⟨s',rfl,aJ,rfl⟩;have aG:=zH aJ;clear aJ;go_wp2_with fail;go_roundw
       case rel=>exact⟨s',O,aG,rfl,oG,oG,by go_num,aN,g⟩
       case measure=>exact mI
     ·obtain rfl:z= -1:=oG;have F:=g.bx.iY;simp only[im,Nat.reduceAdd] at F;obtain⟨F,b1,b2,b3,b4,b5,b6,b7,-⟩:=F;go_wp2_with fail;have ae:x.days.toNat=n:=aL.out;refine(aaI hx g.st HC HG (s:=s) (by rw[ae];exact aF) (by rw[ae];exact aj)).mono ?_;rintro e w' ⟨v,rfl,j,m,M,J,aW,aT⟩;obtain⟨av,nv,cv,rfl,-⟩:=id J;obtain⟨aq,aM⟩:=Zb M J;clear M J;go_wp2_with fail
      go_ret2
      refine⟨_,j,put j.ρ 15 m,rfl,aq,fun s h=>fy h,⟨_,rfl,?_,⟨_,rfl⟩,trivial⟩,qG ?_ ?_⟩
      ·show jd (kinds x) _ 2 _ (put j.ρ 15 m 15+0);rw[ie,fE];exact aM
      ·show put j.ρ 15 m 0<=put j.ρ 15 m 15+0;rw[ie,fy dE,jW hx aq.out.kY];omega
      ·show put j.ρ 15 m 15<=put j.ρ 15 m 0+64;rw[ie,fy dE,jW hx aq.out.kY];omega
end
end Ra
namespace Ra
open Go.Proofs.Tryz
open Go jm ko kN
section
variable {x:fS} (hx:ga x)
include hx
theorem Wg:ik x 209 Zr:=jl hx (.one (abn hx) (.one (abo hx) (.one (abp hx) (.nil x)))) [] oz func209 kR kR kR
theorem aa0:ik x 166 YY:=jl hx (.one (Wg hx) (.one (X9 hx) (.one (Wh hx) (.one (X7 hx) (.one (abe hx) (.nil x)))))) [] oz func166 kR kR kR
theorem TL:ik x 123 YE:=jl hx (.nil x) [] oz func123 kR kR kR
theorem aaT:ik x 156 YO:=jl hx (.one (TL hx) (.nil x)) [] oz func156 kR kR kR
theorem aaV:ik x 158 YR:=jl hx (.one (TM hx) (.nil x)) [] oz func158 kR kR kR
theorem aaW:ik x 159 YS:=jl hx (.one (TM hx) (.nil x)) [] oz func159 kR kR kR
theorem aaU:ik x 157 YQ:=jl hx (.one (aaV hx) (.nil x)) [] oz func157 kR kR kR
theorem X2:ik x 157 WL:=jl hx (.one (aaW hx) (.nil x)) [] oz func157 kR kR kR
theorem XY:ik x 124 YF:=jl hx (.one (aaT hx) (.one (TL hx) (.two (aaU hx) (X2 hx) (.one (abK hx) (.nil x))))) [] oz func124 kR kR kR
theorem h79:ik x 79 abZ:=jl hx (.one (TL hx) (.one (XY hx) (.nil x))) [] oz func79 kR kR kR
theorem h83:ik x 83 ab3:=jl hx (.one (TL hx) (.one (XY hx) (.nil x))) [] oz func83 kR kR kR
theorem Wf:ik x 160 YT:=jl hx (.one (X7 hx) (.nil x)) [] oz func160 kR kR kR
theorem aaX:ik x 162 YV:=jl hx (.one (Wf hx) (.one (X8 hx) (.nil x))) [] oz func162 kR kR kR
theorem aa2:ik x 168 Y1:=jl hx (.one (Wf hx) (.nil x)) [] oz func168 kR kR kR
theorem aaZ:ik x 165 YX:=jl hx (.nil x) [] oz func165 kR kR kR
theorem aaQ:ik x 129 YK:=jl hx (.one (aaY hx) (.one (aaZ hx) (.one (aa0 hx) (.nil x)))) [] oz func129 kR kR kR
theorem aaP:ik x 128 YJ:=jl hx (.one (aaX hx) (.one (NY hx) (.nil x))) [] oz func128 kR kR kR
theorem XZ:ik x 128 WJ:=jl hx (.one (aaQ hx) (.one (NY hx) (.nil x))) [] oz func128 kR kR kR
theorem X0:ik x 128 WK:=jl hx (.one (aa2 hx) (.one (NY hx) (.nil x))) [] oz func128 kR kR kR
theorem aaO:ik x 126 YH:=jl hx (.one (Wf hx) (.one (aaP hx) (.one (X3 hx) (.nil x)))) [] oz func126 kR kR kR
theorem h81:ik x 81 ab1:=jl hx (.one (aaO hx) (.one (aaN hx) (.one (XZ hx) (.one (NY hx) (.nil x))))) [] oz func81 kR kR kR
theorem aaR:ik x 131 YL:=jl hx (.one (aa1 hx) (.one (X0 hx) (.nil x))) [] oz func131 kR kR kR
theorem h84:ik x 84 ab4:=jl hx (.one (h81 hx) (.one (aaR hx) (.nil x))) [] oz func84 kR kR kR
theorem h80:ik x 80 ab0:=jl hx (.nil x) [] oz func80 kR kR kR
theorem h50:ik x 50 abX:=jl hx (.one (h79 hx) (.one (h80 hx) (.one (h81 hx) (.one (h48 hx) (.two (abL hx) (h82 hx) (.one (h83 hx) (.one (h84 hx) (.nil x)))))))) [] oz func50 kR kR kR
end
end Ra
section
open Go.Proofs.Tryz
open Go.RowKit jm ko kN
variable {M d:Dy} {m t:Tr}
structure Ch (n:Nat) (d:Dy) (i:Nat) (M:Dy):Prop where
 ok: ∀t∈M,jK n t/\t≠[]
 wt:yw M<=yw (d.take i)
def Ch.skip (h:Ch n d i M) (k:d[i]? =some t):Ch n d (i+1) M:=⟨h.ok,by rw[rz k];have:=h.wt;omega⟩
def Ch.push (h:Ch n d i M) (k:d[i]? =some t) (b:jK n m) (a:m≠[]) (c:m.length<=t):Ch n d (i+1) (M++[m]):=
 ⟨fun s F=>(fO.1 F).elim (h.ok s) fun e=>by rw[nw.1 e];exact⟨b,a⟩,by rw[rz k,zD];have:=h.wt;omega⟩
def WW {s:vg} (h:jK n m) (F:xd n s):jK n (m++[s]):=h.append (jK.one F)
def Gt (dv:Value) (d:Dy) (n K:Nat) (c:Int) (w:World) (hd:RL 1 jf w dv d) (hk:jS n K d) (hK:K<=1000000):
  Calls prog 306 #[.agg #[dv],c] w (Mu n K w):=by
 obtain⟨Ad,cd,rfl,az,aA,L⟩:=iK.open_ hd;obtain⟨HC,W⟩:=Zb L hk;have aB:d.length<=1000000:=by have:=hk.len;omega
 clear hd L hk;go_enter func306,ntmps306;go_wp2_with fail;go_loopw [7,16] (fun bv iv wr=> ∃(i:Nat) (z:Int) (ov:Value) (M:Dy),i<=d/\iv=.int .i64 i/\bv=.int .i64 z/\fc wr w 39 [.slice Ad d cd]/\fc wr (w+1) 39 [()]/\fc wr (w+1+1) 39 [ov]/\Hid (OT (w+3) wr ov M)/\Hid (Ch n d i M)/\Below w w wr) (fun _ iv _=>d.length-(intOf iv).toNat)
 case atStart=>exact⟨0,0,_,[],eC _,rfl,rfl,((fc.new w _ _).alloc _).alloc _,(fc.fW (w.alloc (cB 39 [.slice Ad d cd])) _ _ sI).alloc _,fc.fW _ _ _ sI,(OT.jL _ _),zH ⟨(fun t h=>by cases h),eC _⟩,bL (bL (bL bF _) _) _⟩
 case round=>
  obtain⟨i,z,ov,M,hi,rfl,rfl,T,G,U,R,S,J⟩:=hrel;have l0:=T.lt;have l1:=G.lt;have l2:=U.lt;obtain⟨Am,cm,rfl,-⟩:=R.slice;by_cases C:i<d
  ·obtain⟨t,k⟩:=ec C;obtain⟨b,o,rfl,aw,tv,P,y0⟩:=HC i t k;obtain⟨At,ct,rfl,aE,aF,O⟩:=fQ.open_ P;replace y0:=a7 J lE y0;have N:=J.size;have ay:b<wr.heap.size:=oG;obtain⟨aa,HT,I⟩:=Zc O k (W.get k);have aG:t.length<=1000000:=by have:=I.out.2;omega
   have ae:M.length<=1000000000:=by have:=zC M;have:=S.out.wt;have:=uB d i;have:=W.out.wt;omega
   clear P O k;have e0:=T.c 0;obtain⟨u,aj⟩:=nE (wr:World);subst aj;go_wp2_with fail;have ha:=bL (bS u u) (cB 44 [.slice At t ct]);have bt:=fc.new u 44 [.slice At t ct];go_loopw [7,10,23] (fun bv lv jv wq=> ∃(j:Nat) (z:Int) (m:Tr),j<=t/\jv=.int .i64 j/\bv=.int .i64 z/\Hid (OS (u+1) wq lv m)/\m.length<=j/\Hid (jK n m)/\Below u u wq/\u.heap.size<wq) (fun _ _ jv _=>t.length-(intOf jv).toNat)
   case atStart=>exact⟨0,z,[],eC _,rfl,rfl,(OS.jL _ _),lE,(jK.jL n),ha,by simp⟩
   case round=>
    obtain⟨j,z,m,hj,rfl,rfl,q,ah,v,e,aH⟩:=hrel;obtain⟨Al,cl,rfl,-⟩:=q.slice;by_cases A:j<t
    ·obtain⟨⟨s1,s2⟩,F⟩:=ec A;obtain⟨b3,o3,rfl,aq,y1,y2⟩:=aa j _ F;have f:=J.trans (e.mono N);replace y1:=a7 f lE y1;replace y2:=a7 f lE y2;have HS:=zH (I.1.get F);have aD:=f.size;have ak:b3<wr.heap.size:=oG;have ai:m.length<=1000000000:=oG;clear F;by_cases hc:s1=c
     ·subst hc;go_wp2_with fail;exact⟨⟨j+1,_,m,A,rfl,rfl,(q.alloc _),oG,v,e.alloc oG _,by simp;omega⟩,by simp[intOf];omega⟩
     ·go_wp2_with (at_builtin;refine P7 _ rfl (.tmp 35) (.tmp 37) rfl (u+1) _ m (q.alloc _) rfl s1 s2 rfl sI ai sO ?_;intro g cap w5 E af ag B Q);go_roundw
      case rel=>exact⟨j+1,z,_,A,rfl,rfl,E,by simp;omega,(WW v HS),(e.alloc oG _).trans ((B.below sO).mono oG),by simp at Q;omega⟩
      case measure=>exact mI
    ·obtain rfl:j=t.length:=oG;have x:=T.below e l0;have y:=G.below e l1;have r:=U.below e l2;have aI:=x.lt;have aJ:=y.lt;have aK:=r.lt;have H:=zH (R.below e lE);have f:=J.trans (e.mono N);have e2:=r.c 0;clear bt ha e0 y0 T G U R
     rcases tP m with rfl|hcm
     ·go_wp2_with fail;exact⟨⟨i+1,z,_,M,C,by go_num,rfl,x,y,r,H,(S.skip HT),f⟩,by simp[intOf];omega⟩
     ·have D:m≠[]:=by obtain⟨a,l,rfl⟩:=hcm;simp
      have aC:0<m.length:=jQ.2 D;have Y:=zH D;clear hcm D;go_wp2_with (at_builtin;refine yA _ rfl (.tmp 44) (.tmp 47) rfl (w+3) _ M H rfl _ m (q.mono oG) rfl rfl ae oG ?_;intro g cap w5 E af ag B Q;have s:=B.below oG;have q2:=r.below s oG;have f2:=q2.frozen 0;have c2:w5.cell? (pB (w+1+1))=some (.slice Am M cm):=q2.cell 0);go_roundw
      case rel=>
       refine⟨i+1,z,_,M++[m],C,by go_num,rfl,(x.below s oG).kj (p:=pB (w+1+1)) dO _,(y.below s oG).kj (p:=pB (w+1+1)) dO _,q2.gH 0 _,zH ?_,(S.push HT v Y ah),?_⟩
       ·exact E.fG dO _
       ·exact(f.trans (s.mono oG)).setCell (p:=pB (w+1+1)) dO _
      case measure=>exact mI
  ·obtain rfl:i=d.length:=oG;have e2:=U.c 0;have e1:=G.c 0;have f1:=G.frozen 0;have V:=S.out;have X:Hid (jS n K M):=zH ⟨fun t k=>(V.ok t k).1,by have:=V.wt;have:=uB d d;have:=W.out.wt;omega⟩;have Z:Hid (∀t∈M,t≠[]):=zH fun t k=>(V.ok t k).2;clear V;go_wp2_with fail;refine bodyPost_ret (iw rfl _ _ (w+1) 39 [.slice Am M cm] _ z rfl rfl (G.gH 0 _) underlying39 rfl kR) rfl ⟨_,M,z,rfl,(R.fG dO _).mono oG,X,Z,J.setCell dO _⟩
end
section
open Go.Proofs.Tryz
open Go.RowKit jm ko Et kN
variable {g:Value} {p:Pl}
abbrev vC (x:fS) (A1:Option Addr) (c1:Nat) (A2:Option Addr) (c2:Nat) (dv:Value) (cu:Int):List Value:=(yX x A1 c1 A2 c2 [dv,cu])
structure tj (n:Nat) (w:World) (dv:Value) (p:Pl):Prop where
 rd:jP w dv p
 len:p.length<=64
 dy: ∀d∈p,jS n 4000 d
def Fx: ∀(p:Pl) (k:Nat),(∀d∈p,jS n 4000 d)->(iZ k p).length<=4000*p.length
 | [],k,_=>by simp[iZ]
 |d::p,k,h=>by
  have f:=Fx p (k+1) fun d l=>h d (.tail _ l);have a:=(h d (.head _)).wt;have c: ∀d:Dy,(iP k d).length<=yw d:=fun d=>by
   induction d with
   |nil=>simp[iP]
   |cons t d ih=>
    have b:iP k (t::d)=ku k t++iP k d:=by simp[iP]
    have e:(ku k t).length=t.length:=by simp[ku]
    rw[qM,b,fa];omega
  have:=c d;simp only[iZ,fa,ff];omega
def tj.Ik (h:tj n w g p):(nn p).length<=1000000:=by have:=Fx p 0 h.dy;have:=h.len;unfold nn;omega
def yj {x:Nat×vg}: ∀{p:Pl} {k:Nat},x∈iZ k p-> ∃d∈p,∃t∈d,x.2∈t
 | [],k,h=>by simp[iZ] at h
 |d::p,k,h=>by
  simp only[iZ,fO] at h
  rcases h with h|h
  ·unfold iP at h;obtain⟨t,c,h⟩:=qR.1 h;unfold ku at h;obtain⟨s,b,rfl⟩:=fq.1 h;exact⟨d,.head _,t,c,b⟩
  ·obtain⟨e,a,r⟩:=yj h;exact⟨e,.tail _ a,r⟩
def WY (h:tj n w g p) (a:Int): ∀x∈pY (sU a p),0<=x.2/\x.2<=2147483648:=by intro x e;unfold pY sU mn at e;obtain⟨y,v,rfl⟩:=fq.1 e;obtain⟨z,f,rfl⟩:=fq.1 v;obtain⟨d,l,t,c,b⟩:=yj (mC.1 f).1;exact((h.dy d l).st t c _ b).2
def AU {b:Value} {base:Nat} {l:List (Nat×Int)} (h:w.ownsRow base 86 2 b l (l.flatMap UO)):RL 2 iH w b (pY l):=by
 have a:OV base w b (pY l):=by unfold OV pY;rw[fm,List.flatMap_map];exact h
 exact a.reads
def Bx (x:fS) (A1:Option Addr) (c1:Nat) (A2:Option Addr) (c2:Nat) (g:Value) (p:Pl) (a:Int) (w:World) (h:tj x.eB w g p) (l:1<=x.days/\x.days<=64):
  Calls prog 90 #[.agg (vC x A1 c1 A2 c2 g a).toArray] w fun e w'=> ∃b,e=.returned b/\gx w' .i64 b (lW (pY (sU a p)) x.days.toNat)/\Below w w w':=by
 obtain⟨n,E⟩: ∃n:Nat,x.days=n:=⟨x.days.toNat,oG⟩;have o:=zH h;obtain⟨A,c,rfl,-⟩:=jP.open_ h.rd;have H:=zH E;have k:1<=n/\n<=64:=oG;rw[show x.days.toNat=n by omega];clear h l;go_enter func90,ntmps90;go_wp2_with fail;have B:=(fc.new w 144 (vC x A1 c1 A2 c2 (.slice A p c) a)).drew;have i:=(bL (bS w w) (cB 144 (vC x A1 c1 A2 c2 (.slice A p c) a))).drew;refine rG (fun wS=>fc wS w 144 (vC x A1 c1 A2 c2 (.slice A p c) a)) [] (B) fun hS=>?_;refine kL [0,1,2,3,5,6,7] ?_;refine tO 4 fun K q=>?_;go_simp;refine(vT _ p a _ ⟨_,rfl,jP.below o.rd i lE⟩ o.Ik).mono ?_;rintro e L ⟨b,rfl,C,d⟩;have z:=zH (AU C);have j:=i.trans (d.mono sI);have hS:=B.below d sI;obtain⟨F,I,rfl,-⟩:=fQ.open_ z;clear C d;refine q _ _ (hS) ?_;refine tO 8 fun K q=>?_;go_simp;have u:=Ce a (nn p);have s:=o.Ik;have m:(pY (sU a p)).length<=1000000:=eZ u s;refine(Km _ (pY (sU a p)) n _ z (fun y v=>by have:=WY o a y v;omega) k m).mono ?_;rintro e M ⟨b,rfl,t,f⟩;obtain⟨G,J,rfl,-⟩:=t.open_;have D:=zH t;have r:=j.trans (f.mono j.size);have hS:=hS.below f hS.lt;clear t f;refine q _ _ (hS) ?_;refine kL [9] ?_;refine tD ?_;go_wp2_with fail;go_ret;exact⟨_,rfl,D,r⟩
end
section
open Go.Proofs.Tryz
open Go.RowKit jm ko Et kN
theorem Rs{p:Prop}(h:p:=by
 go_wp2_with fail;go_roundw
 case rel=>exact⟨i+1,s2,G,by go_num,P,O,B,F⟩
 case measure=>exact mI):p:=h
abbrev NG (a0 a1:Int) (A0:Option Addr) (n0 c0:Nat) (jU size start lR hold:Int):List Value:=[a0,a1,.slice A0 n0 c0,jU,size,start,lR,hold]
def LR (l m:Int) (k:Option Addr) (r c0:Nat) (d size a j f:Int) (v:Value) (q:List Int) (w:World) (hr:gx w .i64 v q) (hq:q.length<=1000)
  (hs:0<=a/\a<=size) (hz:size<=2147483648) (af:0<=d/\d<=2147483648):
  Calls prog 185 #[.agg (NG l m k r c0 d size a j f).toArray,v] w fun e w'=> ∃z:Int,e=.returned z/\(z=0->pX d size a q=0)/\Below w w w':=by
 obtain⟨A,c,rfl,h1,h2,U⟩:=hr.open_;obtain⟨HC,HR⟩:=Zb U hr;clear hr U;have C:=bL (bS w w) (cB 47 (NG l m k r c0 d size a j f));have N:=fc.new w 47 (NG l m k r c0 d size a j f);go_enter func185,ntmps185;go_wp2_with fail;refine(Bs l m k r c0 d size a j f _ q _ (HR.below C lE) hq hs hz af).mono ?_;rintro e w1 ⟨u,rfl,hu,D⟩;obtain⟨Au,cu,rfl,-⟩:=hu.open_;obtain⟨E,Z⟩:=nR (pX d size a q);rw[Z];have Y:=zH Z;clear Z;have t:=C.trans (D.mono sI);replace N:=N.below D sI;have x6:=N.cell 6;have xs:=N.iY;simp only[fD,fK,im,Nat.reduceAdd] at x6 xs;obtain⟨x0,x1,x2,x3,X,x5,-,x7,-⟩:=xs;clear hu D C;by_cases x:E=0
 ·have aa:(E !=0)=false:=by simp[x]
  by_cases R:j=1
  ·have ae:(j !=1)=false:=by simp[R]
   go_wp2_with fail;refine(Jq l m k r c0 d size a 1 f w1).mono ?_;rintro e w2 ⟨rfl,rfl⟩;have Q:=bL (bL t (cB 47 [l,m,.slice k r c0,d,size,a,.int .i64 1,f])) (cB 3 [a]);have J:=t.size;have L:=fc.fW (w1.alloc (cB 47 [l,m,.slice k r c0,d,size,a,.int .i64 1,f])) 3 [a] (g:=w1.heap.size+1) sI;have K:=(fc.new w1 47 [l,m,.slice k r c0,d,size,a,.int .i64 1,f]).alloc (cB 3 [a]);have M:=(N.alloc (cB 47 [l,m,.slice k r c0,d,size,a,.int .i64 1,f])).alloc (cB 3 [a]);go_wp2_with fail;go_loopw [28] (fun iv wr=> ∃(i:Nat) (V:Int),i<=q/\iv=.int .i64 i/\fc wr (w1+1) 3 [V]/\fc wr w1 47 [l,m,.slice k r c0,d,size,a,.int .i64 1,f]/\fc wr w 47 (NG l m k r c0 d size a j f)/\Below w w wr) (fun iv _=>q.length-(intOf iv).toNat)
   case atStart=>exact⟨0,a,eC _,rfl,L,K,M,Q⟩
   case round=>
    clear L K M Q x0 x1 x2 x3 X x5 x6 x7 N t;obtain⟨i,V,hi,rfl,L,K,M,t⟩:=hrel;by_cases G:i<q
    ·obtain⟨z,T⟩: ∃z,q[i]? =some z:=⟨_,fp G⟩;obtain⟨b,o,rfl,ai,y⟩:=HC i z T;replace y:=a7 t lE y;have X:=M.c 4;clear T;go_wp2_with fail;refine(Ie z V d (w1+1) w1 wr L oG (K.cell 3)).mono ?_;rintro e W ⟨rfl,nd,n⟩;obtain⟨s,H⟩:=nR (wrap64 (V+z));obtain⟨s2,I⟩:=nR (wrap64 (s-d));rw[H,I] at n;rw[H,I];have P:fc W (w1+1) 3 [s2]:=by rw[n];exact L.gH 0 _
     have O:fc W w1 47 [l,m,.slice k r c0,d,size,a,.int .i64 1,f]:=by rw[n];exact K.kj (p:=pB (w1+1)) dO _
     have B:fc W w 47 (NG l m k r c0 d size a j f):=by rw[n];exact M.kj (p:=pB (w1+1)) dO _
     have F:Below w w W:=by rw[n];exact yC (t.setCell (p:=pB (w1+1)) dO _) nd
     clear n H I L K M t X;have X:=B.c 4;by_cases S:z>0
     ·have ah:decide (z>0)=true:=decide_eq_true S;by_cases J:s=size
      ·have ag:(s !=size)=false:=by simp[J]
       exact Rs
      ·have ag:(s !=size)=true:=by simp[J]
       go_wp2_with fail;go_ret
       exact⟨9,rfl,fun h=>oG,F⟩
     ·have ah:decide (z>0)=false:=decide_eq_false S;exact Rs
    ·go_wp2_with fail;go_ret
     exact⟨0,rfl,fun _=>Y.trans x,t⟩
  ·have ae:(j !=1)=true:=by simp[R]
   go_wp2_with fail;go_ret
   exact⟨0,rfl,fun _=>Y.trans x,t⟩
 ·have aa:(E !=0)=true:=by simp[x]
  go_wp2_with fail;go_ret
  exact⟨E,rfl,fun h=>Y.trans h,t⟩
def zX {x:fS} (b:ga x) {c:kc} (U:c∈x.eB) (a:c.kind=2):(0<=c.start/\c.start<=c.size)/\c.size<=2147483648/\(0<=c.jU/\c.jU<=2147483648):=by have h:=b.Kp U;unfold jT at h;rw[if_neg oG,if_pos a] at h;simp only[xW,gi,lF,id,gP,a6,decide_eq_true_eq] at h;omega
abbrev Qd (x:fS) (p:Pl) (k:Nat):List Int:=lW (pY (sU (k:Int) p)) x.days.toNat
def ow (x:fS) (p:Pl):List Int:=p.map fun d=>me (d.map (uA x))
def CB {x:fS} (hx:ga x) (v S:Value) (p:Pl) (w:World) (h:tj x.eB w S p) (M:iz w v x):
  Calls prog 55 #[v,.agg #[S]] w fun e w'=> ∃A,e=.returned A/\OI w w' A (ow x p)/\Below w w w':=by
 obtain⟨A1,c1,A2,c2,rfl⟩:=M.agg;obtain⟨Z,HR⟩:=Zb h M;obtain⟨Q,R,rfl,g1,g2,T⟩:=jP.open_ h.rd;have X:=zH T;have U:=h.len;have n:=bL (bL (bS w w) (cB 25 (xC x A1 c1 A2 c2))) (cB 30 [.slice Q p R]);have k:=(fc.new w 25 (xC x A1 c1 A2 c2)).alloc (cB 30 [.slice Q p R]);clear h M T;go_enter func55,ntmps55;go_wp2_with fail;go_loopw [5,11] (fun A O wr=> ∃i:Nat,i<=p/\O=.int .i64 i/\Hid (OI (w+1) wr A ((ow x p).take i))/\fc wr w 25 (xC x A1 c1 A2 c2)/\Below w w wr) (fun _ O _=>p.length-(intOf O).toNat)
 case atStart=>exact⟨0,eC _,rfl,(OI.jL _ _),k,n⟩
 case round=>
  clear k n;obtain⟨i,hi,rfl,l,k,z⟩:=hrel;obtain⟨d0,d1,d2,d3,d4,d5⟩:=k.jI;have l1:=k.lt;by_cases u:i<p
  ·obtain⟨f,d⟩:=ec u;obtain⟨b,o,rfl,aa,tv,j,P⟩:=X i f d;obtain⟨B,G,rfl,-⟩:=iK.open_ j;replace P:=a7 z lE P;obtain⟨HT,Y⟩:=Zb j (Z.dy f (a8 d));have E:Hid ((ow x p).take (i+1)=(ow x p).take i++[me (f.map (uA x))]):=zH (iC (by unfold ow;rw[fh,d];rfl));obtain⟨L,H⟩:=nR ((ow x p).take i);obtain⟨s,N⟩:=nR (me (f.map (uA x)));rw[H] at l E;rw[N] at E;have F:=zH N;have J:L.length<=1000000000:=by rw[<-H,fB];omega
   have a:=bL z (cB 39 [.slice B f G]);have ag:=z.size;clear d j H N;obtain⟨W,cl,rfl,-⟩:=l.slice;go_wp2_with fail;refine(xI _ _ x f 4000 _ (iz.below HR a lE) hx (iK.below HT a lE) Y oG).mono ?_;rintro e w3 ⟨rfl,c⟩;rw[F.out];have q:=a.trans (c.mono a.size);have m:=(k.alloc (cB 39 [.slice B f G])).below c sO;have D:=zH ((l.alloc (cB 39 [.slice B f G])).below c lE);have V:=q.size;have r:w.heap.size+1<=w3.heap.size:=m.lt;clear c a d0 d1 d2 d3 d4 d5 P;go_wp2_with (at_builtin;refine qu _ rfl (.tmp 15) (.tmp 19) rfl (w+1) _ L D rfl s rfl rfl J r ?_;intro g cap w5 K ae af t ah);have I:=t.below r;go_roundw
   case rel=>exact⟨i+1,u,by go_num,zH (by rw[E.out];exact K),t.ig m dE,q.trans (I.mono oG)⟩
   case measure=>exact mI
  ·obtain rfl:i=p.length:=oG;have y:=l.out;rw[fj (by simp[ow])] at y;have C:=zH y;obtain⟨W,cl,rfl,-⟩:=y.slice;clear y l;go_wp2_with fail;go_ret;exact⟨_,rfl,C.mono oG,z⟩
end
section
open Go.Proofs.Tryz
open Go.RowKit jm ko Et kN
variable {a:kc} {p:Pl} {x:fS}
def Wk (x:fS) (p:Pl) (k:Nat) (a:kc):Int:=wrap64 (a.hold*me (sL a.jU a.size a.start (Qd x p k)))
def pJ (x:fS) (p:Pl):Nat->List Int
 |0=>[]
 |i+1=>pJ x p i++(match x.eB[i]? with
  |some cu=>if cu.kind=2 then [Wk x p i cu] else []
  |none=>[])
def EU (h:x.eB[i]? =some a) (b:a.kind=2):me (pJ x p (i+1))=wrap64 (me (pJ x p i)+Wk x p i a):=by rw[pJ,h];dsimp only;rw[if_pos b,AQ]
def Iv (h:x.eB[i]? =some a) (b:a.kind≠2):me (pJ x p (i+1))=me (pJ x p i):=by rw[pJ,h];dsimp only;rw[if_neg b,mz]
theorem Bg {x:fS} (hx:ga x) (v dv:Value) (p:Pl) (w:World) (h:tj x.eB.length w dv p) (hr:iz w v x):
  Calls prog 54 #[v,.agg #[dv]] w fun e w'=>e=.returned (me (pJ x p x.eB.length))/\Below w.heap.size w w':=by
 have hh:=hx.head;obtain⟨A1,c1,A2,c2,rfl⟩:=hr.agg;obtain⟨cv,dv2,e,hcs,-⟩:=id hr;obtain rfl:Value.slice A1 x.eB.length c1=cv:=by cases e;rfl
 obtain⟨A,c,e2,-,-,hc⟩:=hcs.open_;cases e2;have HC:=zH hc;have HL:=zH h;have HR:=zH hr;obtain⟨Ad,cd,rfl,-⟩:=jP.open_ h.rd;have hb0:=bL (bL (bS w.heap.size w) (cB 25 (xC x A1 c1 A2 c2))) (cB 30 [.slice Ad p.length cd]);have bx:=(fc.new w 25 (xC x A1 c1 A2 c2)).alloc (cB 30 [.slice Ad p.length cd]);have bp:=fc.fW (w.alloc (cB 25 (xC x A1 c1 A2 c2))) 30 [.slice Ad p.length cd] (g:=w.heap.size+1) sI;clear h hr hc e;go_enter func54,ntmps54;go_wp2_with fail;go_loopw [5,13] (fun sv iv wr=> ∃i:Nat,i<=x.eB.length/\iv=.int .i64 i/\sv=.int .i64 (me (pJ x p i))/\fc wr w.heap.size 25 (xC x A1 c1 A2 c2)/\fc wr (w.heap.size+1) 30 [.slice Ad p.length cd]/\Below w.heap.size w wr) (fun _ iv _=>x.eB.length-(intOf iv).toNat)
 case atStart=>exact⟨0,eC _,rfl,rfl,bx,bp,hb0⟩
 case round=>
  clear bx bp hb0;obtain⟨i,hi,rfl,rfl,bx,bp,hb⟩:=hrel;obtain⟨s,hs⟩:=nR (me (pJ x p i));have HS:=zH hs;rw[hs];clear hs;have l1:=bx.lt;have l2:=bp.lt;by_cases hlt:i<x.eB.length
  ·obtain⟨cu,hcu⟩:=ec hlt;obtain⟨b,o,rfl,hbl,pv,hp,y0,y1,y2,y3,y4,y5,y6,y7⟩:=HC.out i cu hcu;obtain⟨Ap,cp,rfl,-⟩:=lu.open_ hp;replace y0:=a7 hb lE y0;replace y1:=a7 hb lE y1;replace y2:=a7 hb lE y2;replace y3:=a7 hb lE y3;replace y4:=a7 hb lE y4;replace y5:=a7 hb lE y5;replace y6:=a7 hb lE y6;replace y7:=a7 hb lE y7;have HCU:=zH hcu;clear hp;by_cases hk2:cu.kind=2
   ·have hct:=zX hx (a8 hcu) hk2;have hkn:(cu.kind==2)=true:=by simp[hk2]
    have HK:=zH hk2;have HCT:=zH hct;clear hk2 hct hcu;go_wp2_with fail;have bC:=(fc.new wr 47 (NG cu.kind cu.iL Ap cu.jC.length cp cu.jU cu.size cu.start cu.lR cu.hold)).drew;have hb1:=(bL hb (cB 47 (NG cu.kind cu.iL Ap cu.jC.length cp cu.jU cu.size cu.start cu.lR cu.hold))).drew;have bx1:=(bx.alloc (cB 47 (NG cu.kind cu.iL Ap cu.jC.length cp cu.jU cu.size cu.start cu.lR cu.hold))).drew;have bp1:=(bp.alloc (cB 47 (NG cu.kind cu.iL Ap cu.jC.length cp cu.jU cu.size cu.start cu.lR cu.hold))).drew;have l3:=bC.lt;obtain⟨gc,hgc⟩:=nE wr.heap.size;have HGC:=zH hgc;rw[<-hgc] at bC;rw[<-hgc];clear hgc y0 y1 y2 y3 y4 y5 y6 y7;refine rG (fun wS=>fc wS w.heap.size 25 (xC x (some ⟨b,o,none⟩) c1 A2 c2)/\fc wS gc 47 (NG cu.kind cu.iL Ap cu.jC.length cp cu.jU cu.size cu.start cu.lR cu.hold)/\wS.cell? ⟨w.heap.size+1,0,none⟩=some (.slice Ad p.length cd)) [] (⟨bx1,bC,bp1.cell 0⟩) fun hS=> ?_;refine tk 0 hS ?_;refine tk 1 hS ?_;refine tk 2 hS ?_;refine tk 3 hS ?_;refine tk 4 hS ?_;refine tO 5 fun K hK=>?_;go_simp;refine(Bx x _ c1 A2 c2 _ p (i:Int) _ ⟨jP.below HL.out.rd hb1 (ij _),HL.out.len,HL.out.dy⟩ hh.1).mono ?_;rintro e w2 ⟨lv,rfl,hr2,hb2⟩;obtain⟨Al,cl,rfl,-⟩:=hr2.open_;have HQ:=zH hr2;have hbb:=hb1.trans (hb2.mono hb1.size);have bx2:=bx1.below hb2 bx1.lt;have bp2:=bp1.below hb2 bp1.lt;have bC2:=bC.below hb2 bC.lt;clear hr2 hb2 hb1;have hS:=And.intro bx2 (And.intro bC2 (bp2.cell 0));refine hK _ _ (hS) ?_;clear hK K;refine tO 6 fun K hK=>?_;go_simp;refine(Bs cu.kind cu.iL Ap cu.jC.length cp cu.jU cu.size cu.start cu.lR cu.hold _ _ _ HQ.out (by rw[lB];omega) HCT.out.1 HCT.out.2.1 HCT.out.2.2).mono ?_;rintro e w3 ⟨u,rfl,hu,hb3⟩;obtain⟨Au,cu',rfl,-⟩:=hu.open_;obtain⟨E,hE⟩:=nR (pX cu.jU cu.size cu.start (Qd x p i));obtain⟨N,hN⟩:=nR (sL cu.jU cu.size cu.start (Qd x p i));rw[hN] at hu;rw[hE,hN];have HN:=zH hN;have HU:=zH hu;have hb4:=hbb.trans (hb3.mono hbb.size);have bx3:=bx2.below hb3 bx2.lt;have bp3:=bp2.below hb3 bp2.lt;have bC3:=bC2.below hb3 bC2.lt;clear hu hb3 hbb bx1 bx2 bp1 bp2 bC bC2 hE hN;have hS:=And.intro bx3 (And.intro bC3 (bp3.cell 0));refine hK _ _ (hS) ?_;clear hK K;refine tk 7 hS ?_;refine tk 8 hS ?_;refine tk 9 hS ?_;refine tk 10 hS ?_;refine tk 11 hS ?_;refine tD ?_;have hd:=bC3.iY;simp only[im,Nat.reduceAdd] at hd;obtain⟨z0,z1,z2,z3,z4,z5,z6,z7,-⟩:=hd;go_wp2_with fail;refine(QD cu.kind cu.iL (.slice Ap cu.jC.length cp) cu.jU cu.size cu.start cu.lR cu.hold _ N w3 ⟨_,_,_,rfl⟩ HU.out).mono ?_;rintro e w4 ⟨rfl,hb5⟩;have HH:Hid (wrap64 (s+wrap64 (cu.hold*me N))=me (pJ x p (i+1))):=zH (by rw[EU HCU.out HK.out,HS.out,<-HN.out];rfl);obtain⟨q,hq⟩:=nR (wrap64 (cu.hold*me N));rw[hq] at HH|-
    have hb6:=hb4.trans (hb5.mono hb4.size);have bx4:=bx3.below hb5 bx3.lt;have bp4:=bp3.below hb5 bp3.lt;clear hb5 z0 z1 z2 z3 z4 z5 z6 z7 hq;go_wp2_with fail;go_roundw
    case rel=>exact⟨i+1,hlt,by go_num,by rw[<-HH.out],bx4,bp4,hb6⟩
    case measure=>exact mI
   ·have hkn:(cu.kind==2)=false:=by simp[hk2]
    have HK:=zH hk2;clear hk2 hcu;go_wp2_with fail;go_roundw
    case rel=>exact⟨i+1,hlt,by go_num,by rw[Iv HCU.out HK.out,HS.out],bx.alloc _,bp.alloc _,bL hb _⟩
    case measure=>exact mI
  ·obtain rfl:i=x.eB.length:=oG;go_wp2_with fail;go_ret;exact⟨by rw[HS.out];rfl,hb⟩
end
section
open Go.Proofs.Tryz
open Go.RowKit jm ko Et kN
def Cj (s:Int) (l:List Int):Int:=l.foldl (fun s z=>wrap64 (s+z)) s
def Ev {l:List Int} {i:Nat} {z:Int} (s:Int) (h:l[i]? =some z):Cj s (l.take (i+1))=wrap64 (Cj s (l.take i)+z):=by unfold Cj;rw[gk,h,lY,nW];rfl
def xj (x:fS) (p:Pl):Int:=Cj (me (pJ x p x.eB)) (ow x p)
def Cz {x:fS} (N:ga x) (v K:Value) (p:Pl) (w:World) (h:tj x.eB w K p) (F:iz w v x):
  Calls prog 53 #[v,.agg #[K]] w fun e w'=>e=.returned (xj x p)/\Below w w w':=by
 obtain⟨A1,c1,A2,c2,rfl⟩:=F.agg;obtain⟨f,J⟩:=Zb h F;obtain⟨q,C,rfl,-⟩:=jP.open_ h.rd;have a:=bL (bL (bS w w) (cB 25 (xC x A1 c1 A2 c2))) (cB 30 [.slice q p C]);have B:=(fc.new w 25 (xC x A1 c1 A2 c2)).alloc (cB 30 [.slice q p C]);have u:=fc.fW (w.alloc (cB 25 (xC x A1 c1 A2 c2))) 30 [.slice q p C] (g:=w.heap.size+1) sI;clear h F;go_enter func53,ntmps53;go_wp2_with fail;refine(Bg N _ _ p _ ⟨jP.below f.rd a lE,f.len,f.dy⟩ (iz.below J a lE)).mono ?_;rintro e w1 ⟨rfl,d⟩;obtain⟨s,G⟩:=nR (me (pJ x p x.eB));rw[G];have P:=zH G;have n:=a.trans (d.mono sO);replace B:=B.below d sO;replace u:=u.below d sI;clear a d G;obtain⟨Q,R,S,T,U,V⟩:=B.jI;have Y:=u.c 0;go_wp2_with fail;refine(CB N _ _ p w1 ⟨jP.below f.rd n lE,f.len,f.dy⟩ (iz.below J n lE)).mono ?_;rintro e w2 ⟨lv,rfl,E,j⟩;obtain⟨L,m⟩:=nR (ow x p);rw[m] at E;have l:=E.reads;obtain⟨A,c,rfl,-,-,M⟩:=l.open_;obtain⟨O,r⟩:=Zb M m;have X:L.length<=64:=by rw[<-m];simp only[ow,fm];exact f.len
 have D:=n.trans (j.mono n.size);clear E l M m j Q R S T U V Y;go_wp2_with fail;go_loopw [5,15] (fun Z I wr=> ∃i:Nat,i<=L/\I=.int .i64 i/\Z=.int .i64 (Cj s (L.take i))/\wr=w2) (fun _ I _=>L.length-(intOf I).toNat)
 case atStart=>exact⟨0,eC _,rfl,rfl,rfl⟩
 case round=>
  obtain⟨i,hi,rfl,rfl,rfl⟩:=hrel;by_cases k:i<L
  ·obtain⟨z,H⟩: ∃z,L[i]? =some z:=⟨_,fp k⟩;obtain⟨b,o,rfl,W,y⟩:=O i z H;have t:=zH (Ev s H);clear H;go_wp2_with fail;go_roundw
   case rel=>exact⟨i+1,k,by go_num,by rw[t.out],by first|rfl|trivial⟩
   case measure=>exact mI
  ·obtain rfl:i=L.length:=oG;have t:Hid (Cj s (L.take L.length)=xj x p):=zH (by rw[gh,xj,P.out,r.out]);go_wp2_with fail;go_ret;exact⟨by rw[t.out];rfl,D⟩
end
namespace Ra
open Go.Proofs.Tryz
open Go Go.RowKit jm ko kN
variable {K:gX} {P:Program} {c:Spec} {env env0:Env} {f:FuncId}
abbrev Kb:=Nat×TypeId×List Value
variable {L1 L2:List Kb}
structure uF (K:gX) (env0:Env) (w0:World) (L:List Kb) (env:Env) (w:World):Prop where
 st:oE K env0 w0 env w
 bl: ∀b∈L,fc w b.1 b.2.1 b.2.2/\mW env b.1/\w0.heap.size<=b.1
 nd:(L.map (·.1)).Nodup
section
variable {K:gX} {env0 env env':Env} {w':World} {L L1 L2:List Kb} {T:TypeId} {cs cs':List Value}
def uF.ig (h:uF K env0 w0 (L1++(g,T,cs)::L2) env w):fc w g T cs/\mW env g/\w0.heap.size<=g:=h.bl _ (tR _ (.head _))
def uF.step (h:uF K env0 w0 L env w) (c:Step env (lk []) w [] env' w') (k:oE K env0 w0 env' w'):uF K env0 w0 L env' w':=
 ⟨k,fun b a=>let ⟨k1,k2,k3⟩:=h.bl b a;⟨c.ig k1.lt k2 k1,c.free k1.lt k2,k3⟩,h.nd⟩
def uF.below (m:tS K) (h:uF K env0 w0 L env w) (a:Below w w w'):uF K env0 w0 L env w':=
 ⟨h.st.below m a,fun b p=>let ⟨k1,k2,k3⟩:=h.bl b p;⟨k1.below a k1.lt,k2,k3⟩,h.nd⟩
def uF.new (m:tS K) (h:uF K env0 w0 L env w) (T:TypeId) (cs:List Value) (x:g=w):uF K env0 w0 ((g,T,cs)::L) env (w.alloc (cB T cs)):=by
 subst x;obtain⟨l,j,o⟩:=h.below m (bL (bS w w) (cB T cs));refine⟨l,fun b a=>?_,nM.2 ⟨fun c=>?_,o⟩⟩
 ·rcases fC.1 a with rfl|a
  ·exact⟨fc.new _ _ _,oE.free h.st.kY lE,h.st.step.sz⟩
  ·exact j b a
 ·obtain⟨b,a,e⟩:=fq.1 c;have:=(h.bl b a).1.lt;dsimp only at e;omega
def Ws (h:((L1++(g,T,cs)::L2).map (·.1)).Nodup) {b:Kb} (a:b∈L1\/b∈L2):b.1≠g:=by
 rw[gJ,gN,acQ] at h;obtain⟨-,j,o⟩:=h
 rcases a with a|a
 ·exact o _ (aau a) _ (.head _)
 ·exact fun e=>(nM.1 j).1 (by have:=aau (f:=fun b:Kb=>b.1) a;rwa [e] at this)
def uF.change (h:uF K env0 w0 (L1++(g,T,cs)::L2) env w) (k:oE K env0 w0 env' w') (f: ∀b,b<w.heap.size->b≠g->mW env b->w'.heap[b]? =w.heap[b]? /\mW env' b) (a:fc w' g T cs') (p:mW env' g):uF K env0 w0 (L1++(g,T,cs')::L2) env' w':=by
 refine⟨k,fun b c=>?_,by have:=h.nd;simpa using this⟩;have d: ∀b,(b∈L1\/b∈L2)->fc w' b.1 b.2.1 b.2.2/\mW env' b.1/\w0.heap.size<=b.1:=fun b c=>by obtain⟨e,i,j⟩:=h.bl b (by simp;rcases c with c|c <;>simp[c]);obtain⟨l,m⟩:=f b.1 e.lt (Ws h.nd c) i;exact⟨l.trans e,m,j⟩
 rcases fO.1 c with c|c
 ·exact d b (.inl c)
 ·rcases fC.1 c with rfl|c
  ·exact⟨a,p,h.ig.2.2⟩
  ·exact d b (.inr c)
def uF.put (h:uF K env0 w0 (L1++(g,T,cs)::L2) env w) (i:Nat) (v:Value):uF K env0 w0 (L1++(g,T,cs.set i v)::L2) env (w.setCell (pA g i) v):=
 h.change (h.st.put h.ig.2.2 h.ig.2.1 i v) (fun b _ n k=>⟨heap_setCell_other w (pA g i) b v n,k⟩) (h.ig.1.gH i v) h.ig.2.1
def uF.mono (h:uF K env0 w0 L env w) (c:L1.Sublist L):uF K env0 w0 L1 env w:=⟨h.st,fun b a=>h.bl b (c.subset a),h.nd.sublist (c.map _)⟩
end
def uF.Cv (m:tS K) {T:TypeId} {cs:List Value} (h:uF K env0 w0 (L1++(g,T,cs)::L2) env w) (y:Holds P K f c) {q:Nat} {xs ys:List BV} (i:c.pre=[(q,T,xs)]) (d:c.post=[(q,T,ys)]\/c.post=[]/\ys=xs)
  (ρ':Nat->Int) (hρ: ∀s,s<K.ng->ρ' s=env.ρ s) (args:Array Value)
  (z:jH K {env with ρ:=ρ',β:=fun _=>g} xs cs) (u:D6 K {env with ρ:=ρ',β:=fun _=>g} c.args args.toList) (t:ln ρ' c.facts) (p:q<c.np):
  Calls P f args w fun e w'=> ∃v,e=.returned v/\ ∃env' cs',uF K env0 w0 (L1++(g,T,cs')::L2) {env' with ρ:=env.ρ,β:=env.β} w'/\Ext (fun _=>true) env {env' with ρ:=env.ρ,β:=env.β}/\jH K env' ys cs'/\(∀s,s<c.np->env'.ρ s=ρ' s/\env'.β s=g)/\c.res.ok K env' v/\ln env'.ρ c.pf:=by
 refine(h.st.Cv m y i d h.ig.2.2 h.ig.2.1 h.ig.1 ρ' hρ args z u t p).mono ?_;rintro e w' ⟨v,rfl,env',cs',l,j,o,r,A,B,C,D,E⟩;have x:=A g h.ig.1.lt h.ig.2.1;exact⟨v,rfl,env',cs',h.change l (fun b a n k=>⟨r b a n k,A b a k⟩) B x,j,C,D,E⟩
def uF.call (m:tS K) {L:List Kb} (h:uF K env0 w0 L env w) (y:Holds P K f c) (i:c.pre=[]) (d:c.post=[]) (ρ':Nat->Int) (hρ: ∀s,s<K.ng->ρ' s=env.ρ s) (args:Array Value)
  (u:D6 K {env with ρ:=ρ'} c.args args.toList) (t:ln ρ' c.facts):
  Calls P f args w fun e w'=> ∃v,e=.returned v/\ ∃env',uF K env0 w0 L {env' with ρ:=env.ρ,β:=env.β} w'/\Ext (fun _=>true) env {env' with ρ:=env.ρ,β:=env.β}/\(∀s,s<c.np->env'.ρ s=ρ' s)/\c.res.ok K env' v/\ln env'.ρ c.pf:=by
 refine(h.st.call m y i d ρ' hρ args u t).mono ?_;rintro e w' ⟨v,rfl,env',l,j,o,r⟩;exact⟨v,rfl,env',h.step o l,j,r⟩
def uF.draw {x:fS} {st:Int} (h:uF (kinds x) env0 w0 (L1++(g,188,[.int .u64 st])::L2) env w) {n:Int} (b:n<=9223372036854775807):
  Calls prog 82 #[.pointer g,n] w fun e w'=> ∃k:Int,e=.returned k/\(1<=n->0<=k/\k<n)/\ ∃a,uF (kinds x) env0 w0 (L1++(g,188,[.int .u64 a])::L2) env w':=by
 refine(EA g st n w h.ig.1 b).mono ?_;rintro e w' ⟨k,rfl,l,-,j⟩;refine⟨k,rfl,l,?_⟩
 rcases j with rfl|⟨a,rfl⟩
 ·exact⟨st,h⟩
 ·exact⟨a,h.put 0 (.int .u64 a)⟩
end Ra
section
open Go Go.RowKit jm ko Et kN
variable {p:Pl}
def OU (k:Nat) (d:Dy):(iP k d).length<=yw d:=by
 induction d with
 |nil=>simp[iP]
 |cons t d ih=>
  have a:iP k (t::d)=ku k t++iP k d:=by simp[iP]
  have b:(ku k t).length=t.length:=by simp[ku]
  rw[qM,a,fa];omega
def LX {k:Nat} {d:Dy} {y:Nat×vg} (h:y∈iP k d):y.1=k:=by unfold iP at h;obtain⟨t,-,h⟩:=qR.1 h;obtain⟨s,-,rfl⟩:=fq.1 h;rfl
def Fw (d:Nat): ∀(p:Pl) (k:Nat),(∀y∈p,jS n 4000 y)->(iZ k p).countP (fun x=>decide (x.1=d))<=4000/\(d<k->(iZ k p).countP (fun x=>decide (x.1=d))=0)
 | [],k,_=>by simp[iZ]
 |y::p,k,h=>by
  obtain⟨e,b⟩:=Fw d p (k+1) fun z g=>h z (.tail _ g);have i:=OU k y;have j:=(h y (.head _)).wt;have m:=List.countP_le_length (p:=fun x:Nat×vg=>decide (x.1=d)) (l:=iP k y);have f:k≠d->(iP k y).countP (fun x=>decide (x.1=d))=0:=fun c=>List.countP_eq_zero.2 fun x a=>by rw[LX a];simpa using c
  rw[iZ,aci];by_cases c:k=d
  ·have:=b oG;exact⟨oG,fun h=>oG⟩
  ·have:=f c;exact⟨oG,fun h=>by have:=b oG;omega⟩
def Og (h: ∀y∈p,jS n 4000 y) (c:Int) (d:Nat):tF (pY (sU c p)) d<=60000:=by
 have e:=(Fw d p 0 h).1;have b:tF (pY (sU c p)) d<=(iZ 0 p).countP (fun x=>decide (x.1=d)):=by
  unfold tF pY sU mn;rw[List.countP_map,List.countP_map,List.countP_filter];refine List.countP_mono_left fun x _ a=>?_;simp only[Function.comp,a6,decide_eq_true_eq] at a|-
  omega
 unfold tF at b|-
 omega
def UQ (h: ∀y∈p,jS n 4000 y) (c:Int): ∀x∈pY (sU c p),0<=x.2/\x.2<=2147483648:=fun x a=>by unfold pY sU mn at a;rw[kK] at a;obtain⟨y,g,rfl⟩:=fq.1 a;obtain⟨d,b,t,f,e⟩:=yj (mC.1 g).1;exact((h d b).st t f _ e).2
end
end Go.Proofs.YtgimnjldndkalaaGreatDoor
