/- Of the proof of TopGreat: The walks of a tour's customers and load. -/
import Derived.BigQuiet
import Derived.Test.YtgimnjldndkalaaGreatDoorF8
set_option linter.all false
set_option maxHeartbeats 1000000
set_option maxRecDepth 100000
namespace Go.Proofs.YtgimnjldndkalaaGreatDoor
section
open Go.Proofs.Tryz
open Go.RowKit jm ko kN
def rD (m:Value) (t:Tr) (w:World) (l:RL 2 iH w m t) (R:t.length<=1000000):
  Calls prog 136 #[.agg #[m]] w fun e w'=> ∃j,e=.returned j/\OI w w' j (t.map Prod.fst)/\Below w w w':=by
 obtain⟨A,c,rfl,H,I,k⟩:=fQ.open_ l;have u:=zH k;clear l k;go_enter func136,ntmps136;go_wp2_with fail;go_loopw [3,9] (fun j h wr=> ∃i:Nat,i<=t/\h=.int .i64 i/\Hid (OI w wr j ((t.map Prod.fst).take i))/\Below w w wr) (fun _ h _=>t.length-(intOf h).toNat)
 case atStart=>exact⟨0,eC _,rfl,(OI.jL _ _),bL bF _⟩
 case round=>
  obtain⟨i,N,rfl,r,a⟩:=hrel;by_cases d:i<t
  ·obtain⟨⟨z,q⟩,f⟩:=ec d;obtain⟨b,o,rfl,J,n,p⟩:=u i _ f;replace n:=a7 a lE n;replace p:=a7 a lE p;have D:Hid ((t.map Prod.fst).take (i+1)=(t.map Prod.fst).take i++[z]):=zH (iC (by rw[fh,f];rfl));have O:=a.size;obtain⟨L,s⟩:=nR ((t.map Prod.fst).take i);rw[s] at r D;have E:L.length=i:=by rw[<-s,fB,fm];omega
   have Q:=zH E;have B:L.length<=1000000000:=oG;clear f s E;obtain⟨F,G,rfl,-⟩:=r.slice;go_wp2_with (at_builtin;refine qu _ rfl (.tmp 13) (.tmp 16) rfl w _ L (r.alloc _) rfl z rfl sI B sO ?_;intro g cap S C K M y P);have x:=y.below sO;go_roundw
   case rel=>exact⟨i+1,oG,by go_num,zH (by rw[D.out];exact C),(a.alloc a.size _).trans x⟩
   case measure=>exact mI
  ·obtain rfl:i=t.length:=oG;have v:=r.out;rw[fj sI] at v;obtain⟨F,G,rfl,-⟩:=v.slice;go_wp2_with fail;go_ret;exact⟨_,rfl,v,a⟩
inductive aeO (t:Tr) (w:World) (e:Ending) (w':World):Prop
 |mk (z:Int) (he:e=.returned (.int .i64 z)) (hs:z=me (t.map Prod.snd)) (hb:Below w w w')
def C4 (m:Value) (t:Tr) (w:World) (l:RL 2 iH w m t):
  Calls prog 246 #[.agg #[m]] w (aeO t w):=by
 obtain⟨A,c,rfl,H,I,k⟩:=fQ.open_ l;have u:=zH k;clear l k;go_enter func246,ntmps246;go_wp2_with fail;go_loopw [3,9] (fun j h wr=> ∃(i:Nat) (z:Int),i<=t/\h=.int .i64 i/\j=.int .i64 z/\Hid (z=me ((t.map Prod.snd).take i))/\Below w w wr) (fun _ h _=>t.length-(intOf h).toNat)
 case atStart=>exact⟨0,0,eC _,rfl,rfl,rfl,bL bF _⟩
 case round=>
  obtain⟨i,s,N,rfl,rfl,e,a⟩:=hrel;by_cases d:i<t
  ·obtain⟨⟨z,q⟩,f⟩:=ec d;obtain⟨b,o,rfl,J,n,p⟩:=u i _ f;replace n:=a7 a lE n;replace p:=a7 a lE p;have g:Hid (me ((t.map Prod.snd).take (i+1))=wrap64 (s+q)):=zH (by rw[e.out];exact wQ (by rw[fh,f];rfl));clear f;go_wp2_with fail;go_roundw
   case rel=>exact⟨i+1,_,oG,by go_num,rfl,zH (by rw[g.out]),a.alloc a.size _⟩
   case measure=>exact mI
  ·obtain rfl:i=t.length:=oG;go_wp2_with fail;go_ret;exact⟨_,rfl,by rw[e.out,fj sI],a⟩
open Go.RowKit jm ko kN J8
def VM (p:Pc):List Value:=[p.1,p.2.1,p.2.2.1,.bool p.2.2.2]
def kJ (r:List Pc):List Value:=r.flatMap VM
def gZ:(prog.info? 355).map (·.size)=some 20:=kR
def rf:(prog.info? 353).map (·.size)=some 4:=kR
abbrev gO:List Value:=[Zo,Zo,Zo,false,Zo,Zo,Zo,false,Zo,Zo,Zo,false,Zo,Zo,Zo,false,Zo,Zo,Zo,false]
def qY {B n b e:Nat} {w w1 o p:World} (h:Below B w w1) (c:(w1.drewN n).grownBy o (some b)) (d:o.grownBy p (some e)) (j:B<=b) (l:B<=e) (f:B<=w.heap.size:=by exact lE):Below B w p:=by have g:=below_drewN h n;have i:=g.grown c (eZ f g.size) (fun k a=>by cases a;exact j);exact i.grown d (eZ f i.size) (fun k a=>by cases a;exact l)
def L9 (k a b i j h lb:Int) (t: -1000000000<=j/\j<=1000000000) (w:World):
  Calls prog 343 #[.agg #[k,a,b,i,j,h,lb]] w fun e w'=>
   e=.returned (.tuple #[.agg (kJ [(a,0,i,false),(a,i,j+1,true),(a,j+1,h,false),zP,zP]).toArray,.agg (kJ [zP,zP,zP,zP,zP]).toArray])/\Below w w w':=by
 go_enter func343,ntmps343;go_wp2_with fail;have n:=(fc.fW (w.alloc (cB 400 [k,a,b,i,j,h,lb])) 355 gO (g:=w.heap.size+1) sI).alloc (cB 355 gO);have q:=fc.fW ((w.alloc (cB 400 [k,a,b,i,j,h,lb])).alloc (cB 355 gO)) 355 gO (g:=w.heap.size+1+1) sI;have f:=bL (bL (bL (bS w w) (cB 400 [k,a,b,i,j,h,lb])) (cB 355 gO)) (cB 355 gO)
 go_quiet (fail)
 go_wp2_with (first
  |(refine fH _ rfl 355 (.tmp 2) (.tmp 30) rfl (w+1) 355 _ _ (n.drewN _) rfl rfl gZ rfl rfl ?_;intro o l c r)
  |(refine fH _ rfl 355 (.tmp 3) (.tmp 31) rfl (w+1+1) 355 _ _ ((q.drewN _).grown c sI) rfl rfl gZ rfl rfl ?_;intro p m d s))
 refine bodyPost_ret (tH rfl _ _ (w+1) (w+1+1) 355 355 _ _ _ _ rfl rfl (l.grown d sI) m underlying355 rfl gZ underlying355 rfl gZ) rfl ⟨rfl,?_⟩;exact qY f c d oG oG
open Go.RowKit jm ko kN J8
theorem K6{p:Prop}(h:p:=by refine bodyPost_ret (tH rfl _ _ (w+1) (w+1+1) 355 355 _ _ _ _ rfl rfl (z.grown r sI) A underlying355 rfl gZ underlying355 rfl gZ) rfl ⟨rfl,?_⟩;exact qY (n:=0) l m r oG oG):p:=h
theorem Rj{p:Prop}(h:p:=by intro Z A r O;refine I _ _ ?_;refine tD ?_;go_wp2_with fail;refine bodyPost_ret (tH rfl _ _ (w+1) (w+1+1) 355 355 _ _ _ _ rfl rfl (z.grown r sI) A underlying355 rfl gZ underlying355 rfl gZ) rfl ⟨rfl,?_⟩;exact qY (n:=1) l m r oG oG):p:=h
def H8 (k a b i j q lb:Int) (U: -1000000000<=i/\i<=1000000000) (V: -1000000000<=j/\j<=1000000000) (w:World):
  Calls prog 349 #[.agg #[k,a,b,i,j,q,lb]] w fun e w'=>
   e=.returned (.tuple #[.agg (kJ [(a,0,i,false),(b,j,lb,false),zP,zP,zP]).toArray,.agg (kJ [(b,0,j,false),(a,i,q,false),zP,zP,zP]).toArray])/\Below w w w':=by
 go_enter func349,ntmps349;go_wp2_with fail;obtain⟨w1,h,⟨s,D,E,-⟩,f,o⟩:=sk w [(400,[k,a,b,i,j,q,lb]),(355,gO),(355,gO)];simp only[Hk] at h;rw[h];have L:=s.lt;have F:=s.iY;simp only[im,Nat.reduceAdd] at F;have u:Hid (w1.heap.size=w+3):=zH o;clear o h
 go_quiet (fail)
 go_wp2_with fail;refine rG (fun wS=>fc wS w 400 [k,a,b,i,j,q,lb]) [19] ((s.drewN _).drew) fun hS=>?_;refine kL [0,1,2,3,4,5,6,7,8,9,10,11,12,13,14,15,16,17] ?_;refine tO 18 fun K I=>?_;refine gY _ 355 (.tmp 2) (.tmp 28) rfl (w+1) 355 gO _ (D.drewN _).drew rfl rfl gZ rfl rfl ?_;intro r g c m;refine I _ _ (hS.grown c sI) ?_;refine tL 19 fun K I=>?_;refine gY _ 355 (.tmp 3) (.tmp 37) rfl (w+1+1) 355 gO _ ((E.drewN _).drew.grown c sI) rfl rfl gZ rfl rfl ?_;intro t l d p;refine I _ _ ?_;refine tD ?_;go_wp2_with fail;refine bodyPost_ret (tH rfl _ _ (w+1) (w+1+1) 355 355 _ _ _ _ rfl rfl (g.grown d sI) l underlying355 rfl gZ underlying355 rfl gZ) rfl ⟨rfl,?_⟩;exact qY (n:=1) (below_drewN f _) c d oG oG
def JE (k a i j q lb:Int) (U: -1000000000<=i/\i<=1000000000) (V: -1000000000<=j/\j<=1000000000) (w:World):
  Calls prog 347 #[.agg #[k,a,a,i,j,q,lb]] w fun e w'=>
   e=.returned (.tuple #[.agg (kJ [(a,0,i,false),(a,j,j+1,false),(a,i+1,j,false),(a,i,i+1,false),(a,j+1,q,false)]).toArray,.agg (kJ [zP,zP,zP,zP,zP]).toArray])/\Below w w w':=by
 go_enter func347,ntmps347;go_wp2_with fail;obtain⟨w1,h,⟨s,D,E,-⟩,f,o⟩:=sk w [(400,[k,a,a,i,j,q,lb]),(355,gO),(355,gO)];simp only[Hk] at h;rw[h];have L:=s.lt;have F:=s.iY;simp only[im,Nat.reduceAdd] at F;have u:Hid (w1.heap.size=w+3):=zH o;clear o h
 go_quiet (fail)
 go_wp2_with (first
  |(refine fH _ rfl 353 (.tmp 8) (.tmp 26) rfl w1 353 [.int .i64 0,.int .i64 0,.int .i64 0,false] _ ((fc.fW (w1.drewN _) 353 [.int .i64 0,.int .i64 0,.int .i64 0,false] (g:=w1.heap.size) sI).alloc _) rfl rfl rf rfl rfl ?_;intro w4 T t J)
  |(refine fH _ rfl 353 (.tmp 9) (.tmp 31) rfl (w1+1) 353 [.int .i64 0,.int .i64 0,.int .i64 0,false] _ ((fc.fW ((w1.drewN _).alloc (cB 353 [.int .i64 0,.int .i64 0,.int .i64 0,false])) 353 [.int .i64 0,.int .i64 0,.int .i64 0,false] (g:=w1.heap.size+1) sI).grown t sI) rfl rfl rf rfl rfl ?_;intro C d c B;have v:=u.out;have l:Below w w C:=(((below_drewN f _).alloc oS _|>.alloc oS _).grown t oS (fun k H=>by cases H;omega)).grown c (by rw[J];first|omega|(simp;done)|(simp;omega)) (fun k H=>by cases H;omega);have p:=((((s.drewN _).alloc _).alloc _).grown t oS).grown c oS;have x:=((((D.drewN _).alloc _).alloc _).grown t oS).grown c oS;have y:=((((E.drewN _).alloc _).alloc _).grown t oS).grown c oS;have M:=T.grown c sI;have W:C.cell? (pA w 5)=some q:=p.cell 5;have X:C.cell? (pA w 6)=some lb:=p.cell 6;have q0:=M.cell 0;have q1:=M.cell 1;have q2:=M.cell 2;have q3:=M.cell 3;have P:=d.cell 0;have Q:=d.cell 1;have R:=d.cell 2;have S:=d.cell 3;simp only[df,fK] at q0 q1 q2 q3 P Q R S;clear v t c J B D E s f F L)
  |(refine fH _ rfl 355 (.tmp 2) (.tmp 51) rfl (w+1) 355 _ _ x rfl rfl gZ rfl rfl ?_;intro Y z m N)
  |(refine fH _ rfl 355 (.tmp 3) (.tmp 52) rfl (w+1+1) 355 _ _ (y.grown m sI) rfl rfl gZ rfl rfl ?_;intro Z A r O))
 exact K6
def JD (k a b i j q lb:Int) (U: -1000000000<=i/\i<=1000000000) (V: -1000000000<=j/\j<=1000000000) (G:a≠b) (w:World):
  Calls prog 347 #[.agg #[k,a,b,i,j,q,lb]] w fun e w'=>
   e=.returned (.tuple #[.agg (kJ [(a,0,i,false),(b,j,j+1,false),(a,i+1,q,false),zP,zP]).toArray,.agg (kJ [(b,0,j,false),(a,i,i+1,false),(b,j+1,lb,false),zP,zP]).toArray])/\Below w w w':=by
 have aa:(a==b)=false:=by rw[beq_eq_false_iff_ne];exact G
 clear G;go_enter func347,ntmps347;go_wp2_with fail;obtain⟨w1,h,⟨s,D,E,-⟩,f,o⟩:=sk w [(400,[k,a,b,i,j,q,lb]),(355,gO),(355,gO)];simp only[Hk] at h;rw[h];have L:=s.lt;have F:=s.iY;simp only[im,Nat.reduceAdd] at F;have u:Hid (w1.heap.size=w+3):=zH o;clear o h
 go_quiet (fail)
 go_wp2_with (first
  |(refine fH _ rfl 353 (.tmp 8) (.tmp 26) rfl w1 353 [.int .i64 0,.int .i64 0,.int .i64 0,false] _ ((fc.fW (w1.drewN _) 353 [.int .i64 0,.int .i64 0,.int .i64 0,false] (g:=w1.heap.size) sI).alloc _) rfl rfl rf rfl rfl ?_;intro w4 T t J)
  |(refine fH _ rfl 353 (.tmp 9) (.tmp 31) rfl (w1+1) 353 [.int .i64 0,.int .i64 0,.int .i64 0,false] _ ((fc.fW ((w1.drewN _).alloc (cB 353 [.int .i64 0,.int .i64 0,.int .i64 0,false])) 353 [.int .i64 0,.int .i64 0,.int .i64 0,false] (g:=w1.heap.size+1) sI).grown t sI) rfl rfl rf rfl rfl ?_;intro C d c B;have v:=u.out;have l:Below w w C:=(((below_drewN f _).alloc oS _|>.alloc oS _).grown t oS (fun k H=>by cases H;omega)).grown c (by rw[J];first|omega|(simp;done)|(simp;omega)) (fun k H=>by cases H;omega);have p:=((((s.drewN _).alloc _).alloc _).grown t oS).grown c oS;have x:=((((D.drewN _).alloc _).alloc _).grown t oS).grown c oS;have y:=((((E.drewN _).alloc _).alloc _).grown t oS).grown c oS;have M:=T.grown c sI;have W:C.cell? (pA w 5)=some q:=p.cell 5;have X:C.cell? (pA w 6)=some lb:=p.cell 6;have q0:=M.cell 0;have q1:=M.cell 1;have q2:=M.cell 2;have q3:=M.cell 3;have P:=d.cell 0;have Q:=d.cell 1;have R:=d.cell 2;have S:=d.cell 3;simp only[df,fK] at q0 q1 q2 q3 P Q R S;clear v t c J B D E s f F L))
 refine rG (fun wS=>fc wS w 400 [k,a,b,i,j,q,lb]/\fc wS w1 353 [a,i,(i+1:),false]/\fc wS (w1+1) 353 [b,j,(j+1:),false]) [23] (⟨p.drew,M.drew,d.drew⟩) fun hS=>?_;have e1:IntKind.i64.wrap (i+1)=i+1:=iM _ oG;have e2:IntKind.i64.wrap (j+1)=j+1:=iM _ oG;refine kL [0,1,2,3,4,5,6,7,8,9,10,11,12,13,14,15,16,17,18,19,20,21] ?_;clear e1 e2;have v:=u.out;refine tO 22 fun K I=>?_;refine gY _ 355 (.tmp 2) (.tmp 63) rfl (w+1) 355 gO _ x.drew rfl rfl gZ rfl rfl ?_;intro Y z m N;refine I _ _ (⟨hS.1.grown m sI,hS.2.1.grown m sO,hS.2.2.grown m sO⟩) ?_;refine tL 23 fun K I=>?_;refine gY _ 355 (.tmp 3) (.tmp 74) rfl (w+1+1) 355 gO _ (y.drew.grown m sI) rfl rfl gZ rfl rfl ?_;exact Rj
def GL (k a i j q lb:Int) (U: -1000000000<=i/\i<=1000000000) (V: -1000000000<=j/\j<=1000000000) (b:i<j) (w:World):
  Calls prog 345 #[.agg #[k,a,a,i,j,q,lb]] w fun e w'=>
   e=.returned (.tuple #[.agg (kJ [(a,0,i,false),(a,i+1,j+1,false),(a,i,i+1,false),(a,j+1,q,false),zP]).toArray,.agg (kJ [zP,zP,zP,zP,zP]).toArray])/\Below w w w':=by
 go_enter func345,ntmps345;go_wp2_with fail;obtain⟨w1,h,⟨s,D,E,-⟩,f,o⟩:=sk w [(400,[k,a,a,i,j,q,lb]),(355,gO),(355,gO)];simp only[Hk] at h;rw[h];have L:=s.lt;have F:=s.iY;simp only[im,Nat.reduceAdd] at F;have u:Hid (w1.heap.size=w+3):=zH o;clear o h
 go_quiet (fail)
 go_wp2_with (first
  |(refine fH _ rfl 353 (.tmp 8) (.tmp 25) rfl w1 353 [.int .i64 0,.int .i64 0,.int .i64 0,false] _ (fc.fW (w1.drewN _) 353 [.int .i64 0,.int .i64 0,.int .i64 0,false] (g:=w1.heap.size) sI) rfl rfl rf rfl rfl ?_;intro C d c B;have v:=u.out;have l:Below w w C:=((below_drewN f _).alloc oS _).grown c oS (fun k H=>by cases H;omega);have p:=((s.drewN _).alloc _).grown c oS;have x:=((D.drewN _).alloc _).grown c oS;have y:=((E.drewN _).alloc _).grown c oS;have W:C.cell? (pA w 5)=some q:=p.cell 5;have X:C.cell? (pA w 6)=some lb:=p.cell 6;have P:=d.cell 0;have Q:=d.cell 1;have R:=d.cell 2;have S:=d.cell 3;simp only[df,fK] at P Q R S;clear v c B D E s f F L)
  |(refine fH _ rfl 355 (.tmp 2) (.tmp 70) rfl (w+1) 355 _ _ x rfl rfl gZ rfl rfl ?_;intro Y z m N)
  |(refine fH _ rfl 355 (.tmp 3) (.tmp 71) rfl (w+1+1) 355 _ _ (y.grown m sI) rfl rfl gZ rfl rfl ?_;intro Z A r O))
 exact K6
def GJ (k a i j q lb:Int) (U: -1000000000<=i/\i<=1000000000) (V: -1000000000<=j/\j<=1000000000) (b:j<=i) (w:World):
  Calls prog 345 #[.agg #[k,a,a,i,j,q,lb]] w fun e w'=>
   e=.returned (.tuple #[.agg (kJ [(a,0,j,false),(a,i,i+1,false),(a,j,i,false),(a,i+1,q,false),zP]).toArray,.agg (kJ [zP,zP,zP,zP,zP]).toArray])/\Below w w w':=by
 go_enter func345,ntmps345;go_wp2_with fail;obtain⟨w1,h,⟨s,D,E,-⟩,f,o⟩:=sk w [(400,[k,a,a,i,j,q,lb]),(355,gO),(355,gO)];simp only[Hk] at h;rw[h];have L:=s.lt;have F:=s.iY;simp only[im,Nat.reduceAdd] at F;have u:Hid (w1.heap.size=w+3):=zH o;clear o h
 go_quiet (fail)
 go_wp2_with (first
  |(refine fH _ rfl 353 (.tmp 8) (.tmp 25) rfl w1 353 [.int .i64 0,.int .i64 0,.int .i64 0,false] _ (fc.fW (w1.drewN _) 353 [.int .i64 0,.int .i64 0,.int .i64 0,false] (g:=w1.heap.size) sI) rfl rfl rf rfl rfl ?_;intro C d c B;have v:=u.out;have l:Below w w C:=((below_drewN f _).alloc oS _).grown c oS (fun k H=>by cases H;omega);have p:=((s.drewN _).alloc _).grown c oS;have x:=((D.drewN _).alloc _).grown c oS;have y:=((E.drewN _).alloc _).grown c oS;have W:C.cell? (pA w 5)=some q:=p.cell 5;have X:C.cell? (pA w 6)=some lb:=p.cell 6;have P:=d.cell 0;have Q:=d.cell 1;have R:=d.cell 2;have S:=d.cell 3;simp only[df,fK] at P Q R S;clear v c B D E s f F L)
  |(refine fH _ rfl 355 (.tmp 2) (.tmp 86) rfl (w+1) 355 _ _ x rfl rfl gZ rfl rfl ?_;intro Y z m N)
  |(refine fH _ rfl 355 (.tmp 3) (.tmp 87) rfl (w+1+1) 355 _ _ (y.grown m sI) rfl rfl gZ rfl rfl ?_;intro Z A r O))
 exact K6
def GK (k a b i j q lb:Int) (U: -1000000000<=i/\i<=1000000000) (V: -1000000000<=j/\j<=1000000000) (G:a≠b) (w:World):
  Calls prog 345 #[.agg #[k,a,b,i,j,q,lb]] w fun e w'=>
   e=.returned (.tuple #[.agg (kJ [(a,0,i,false),(a,i+1,q,false),zP,zP,zP]).toArray,.agg (kJ [(b,0,j,false),(a,i,i+1,false),(b,j,lb,false),zP,zP]).toArray])/\Below w w w':=by
 have aa:(a==b)=false:=by rw[beq_eq_false_iff_ne];exact G
 have t:(a !=b)=true:=by rw[bne_iff_ne];exact G
 clear G;go_enter func345,ntmps345;go_wp2_with fail;obtain⟨w1,h,⟨s,D,E,-⟩,f,o⟩:=sk w [(400,[k,a,b,i,j,q,lb]),(355,gO),(355,gO)];simp only[Hk] at h;rw[h];have L:=s.lt;have F:=s.iY;simp only[im,Nat.reduceAdd] at F;have u:Hid (w1.heap.size=w+3):=zH o;clear o h
 go_quiet (fail)
 go_wp2_with (first
  |(refine fH _ rfl 353 (.tmp 8) (.tmp 25) rfl w1 353 [.int .i64 0,.int .i64 0,.int .i64 0,false] _ (fc.fW (w1.drewN _) 353 [.int .i64 0,.int .i64 0,.int .i64 0,false] (g:=w1.heap.size) sI) rfl rfl rf rfl rfl ?_;intro C d c B;have v:=u.out;have l:Below w w C:=((below_drewN f _).alloc oS _).grown c oS (fun k H=>by cases H;omega);have p:=((s.drewN _).alloc _).grown c oS;have x:=((D.drewN _).alloc _).grown c oS;have y:=((E.drewN _).alloc _).grown c oS;have W:C.cell? (pA w 5)=some q:=p.cell 5;have X:C.cell? (pA w 6)=some lb:=p.cell 6;have P:=d.cell 0;have Q:=d.cell 1;have R:=d.cell 2;have S:=d.cell 3;simp only[df,fK] at P Q R S;clear v c B D E s f F L))
 refine rG (fun wS=>fc wS w 400 [k,a,b,i,j,q,lb]/\fc wS w1 353 [a,i,(i+1:),false]) [21] (⟨p.drew,d.drew⟩) fun hS=>?_;have e1:IntKind.i64.wrap (i+1)=i+1:=iM _ oG;have e2:IntKind.i64.wrap (j+1)=j+1:=iM _ oG;refine kL [0,1,2,3,4,5,6,7,8,9,10,11,12,13,14,15,16,17,18,19] ?_;clear e1 e2;have v:=u.out;refine tO 20 fun K I=>?_;refine gY _ 355 (.tmp 2) (.tmp 39) rfl (w+1) 355 gO _ x.drew rfl rfl gZ rfl rfl ?_;intro Y z m N;refine I _ _ (⟨hS.1.grown m sI,hS.2.grown m sO⟩) ?_;refine tL 21 fun K I=>?_;refine gY _ 355 (.tmp 3) (.tmp 49) rfl (w+1+1) 355 gO _ (y.drew.grown m sI) rfl rfl gZ rfl rfl ?_;exact Rj
theorem Az{p:Prop}(h:p:=by go_wp2;go_ret;exact⟨false,rfl,nF,(fun h=>by first|omega|(exfalso;simp_all;done)),bF.alloc lE _⟩):p:=h
theorem xV{p:Prop}(h:p:=by go_wp2;go_ret;exact⟨_,rfl,(fun h=>by have n:=of_decide_eq_true h;clear h;first|omega|(refine⟨trivial,?_⟩;omega)|(refine⟨rfl,?_⟩;omega)),(fun h=>decide_eq_true oG),bF.alloc lE _⟩):p:=h
inductive rZ (P:Prop) (w:World) (e:Ending) (w':World):Prop
 |mk (b:Bool) (he:e=.returned b) (hp:b=true->P) (hq:P->b=true) (hb:Below w w w')
def Ee (k a b i j d lb:Int) (w:World) (f:0<=d/\d<=1000000) (g:0<=lb/\lb<=1000000):
  Calls prog 342 #[.agg #[k,a,b,i,j,d,lb]] w (rZ (b=a/\0<=i/\i<j/\j<d) w):=by
 by_cases c:b=a;rotate_left
 ·have e:(b==a)=false:=(by rw[beq_eq_false_iff_ne];exact c);clear c;go_enter func342,ntmps342;exact Az
 have o:=c;clear c;subst o;by_cases c:0<=i;rotate_left
 ·have e:i<0:=oG;clear c;go_enter func342,ntmps342;exact Az
 have l:=c;clear c;by_cases c:i<j;rotate_left
 ·have e:j<=i:=oG;clear c;go_enter func342,ntmps342;exact Az
 have m:=c;clear c;go_enter func342,ntmps342;exact xV
def Db (k a b i j d lb:Int) (w:World) (f:0<=d/\d<=1000000) (g:0<=lb/\lb<=1000000):
  Calls prog 348 #[.agg #[k,a,b,i,j,d,lb]] w (rZ (a<b/\0<=i/\i<=d/\0<=j/\j<=lb) w):=by
 by_cases c:a<b;rotate_left
 ·have e:b<=a:=oG;clear c;go_enter func348,ntmps348;exact Az
 have o:=c;clear c;by_cases c:0<=i;rotate_left
 ·have e:i<0:=oG;clear c;go_enter func348,ntmps348;exact Az
 have l:=c;clear c;by_cases c:i<=d;rotate_left
 ·have e:d<i:=oG;clear c;go_enter func348,ntmps348;exact Az
 have m:=c;clear c;by_cases c:0<=j;rotate_left
 ·have e:j<0:=oG;clear c;go_enter func348,ntmps348;exact Az
 have p:=c;clear c;go_enter func348,ntmps348;exact xV
def BN (k a b i j d lb:Int) (w:World) (f:0<=d/\d<=1000000) (g:0<=lb/\lb<=1000000) (q:(a==b)=false):
  Calls prog 344 #[.agg #[k,a,b,i,j,d,lb]] w (rZ (0<=i/\i<d/\0<=j/\j<=lb) w):=by
 by_cases c:0<=i;rotate_left
 ·have e:i<0:=oG;clear c;go_enter func344,ntmps344;exact Az
 have l:=c;clear c;by_cases c:i<d;rotate_left
 ·have e:d<=i:=oG;clear c;go_enter func344,ntmps344;exact Az
 have m:=c;clear c;by_cases c:0<=j;rotate_left
 ·have e:j<0:=oG;clear c;go_enter func344,ntmps344;exact Az
 have p:=c;clear c;go_enter func344,ntmps344;exact xV
def BO (k a i j d lb:Int) (w:World) (f:0<=d/\d<=1000000) (g:0<=lb/\lb<=1000000):
  Calls prog 344 #[.agg #[k,a,a,i,j,d,lb]] w (rZ (0<=i/\i<d/\0<=j/\j<=lb-1) w):=by
 by_cases c:0<=i;rotate_left
 ·have e:i<0:=oG;clear c;go_enter func344,ntmps344;exact Az
 have l:=c;clear c;by_cases c:i<d;rotate_left
 ·have e:d<=i:=oG;clear c;go_enter func344,ntmps344;exact Az
 have m:=c;clear c;by_cases c:0<=j;rotate_left
 ·have e:j<0:=oG;clear c;go_enter func344,ntmps344;exact Az
 have p:=c;clear c;go_enter func344,ntmps344;exact xV
def Dc (k a b i j d lb:Int) (w:World) (f:0<=d/\d<=1000000) (g:0<=lb/\lb<=1000000) (q:a≠b):
  Calls prog 346 #[.agg #[k,a,b,i,j,d,lb]] w (rZ (a<b/\0<=i/\i<d/\0<=j/\j<lb) w):=by
 by_cases c:a<b;rotate_left
 ·have e:b<a:=oG;clear c;go_enter func346,ntmps346;exact Az
 have o:=c;clear c;have e:(a==b)=false:=by rw[beq_eq_false_iff_ne];omega
 have r:a<=b:=oG;by_cases c:0<=i;rotate_left
 ·have e:i<0:=oG;clear c;go_enter func346,ntmps346;exact Az
 have l:=c;clear c;by_cases c:i<d;rotate_left
 ·have e:d<=i:=oG;clear c;go_enter func346,ntmps346;exact Az
 have m:=c;clear c;by_cases c:0<=j;rotate_left
 ·have e:j<0:=oG;clear c;go_enter func346,ntmps346;exact Az
 have p:=c;clear c;go_enter func346,ntmps346;exact xV
def Dd (k a i j d lb:Int) (w:World) (f:0<=d/\d<=1000000) (g:0<=lb/\lb<=1000000):
  Calls prog 346 #[.agg #[k,a,a,i,j,d,lb]] w (rZ (i<j/\0<=i/\i<d/\0<=j/\j<lb) w):=by
 by_cases c:i<j;rotate_left
 ·have e:j<=i:=oG;clear c;go_enter func346,ntmps346;exact Az
 have o:=c;clear c;by_cases c:0<=i;rotate_left
 ·have e:i<0:=oG;clear c;go_enter func346,ntmps346;exact Az
 have l:=c;clear c;by_cases c:i<d;rotate_left
 ·have e:d<=i:=oG;clear c;go_enter func346,ntmps346;exact Az
 have m:=c;clear c;have p:0<=j:=oG;go_enter func346,ntmps346;exact xV
def Bi (w:World):
  Calls prog 325 #[] w fun e w'=>e=.returned (.agg #[.func (.func 342) #[] #[],.func (.func 343) #[] #[],.func (.func 344) #[] #[],.func (.func 345) #[] #[],
   .func (.func 346) #[] #[],.func (.func 347) #[] #[],.func (.func 348) #[] #[],.func (.func 349) #[] #[]])/\Below w w w':=by
 go_enter func325,ntmps325;have d:=fc.new w 396 [.nilFunc,.nilFunc,.nilFunc,.nilFunc,.nilFunc,.nilFunc,.nilFunc,.nilFunc];have a:(prog.info? 396).map (·.size)=some 8:=kR;go_wp2_with (refine fH _ rfl 396 (.tmp 0) (.tmp 5) rfl w 396 _ _ d rfl rfl a rfl rfl ?_;intro h b c g);refine bodyPost_ret (ia rfl _ _ w 396 _ _ rfl b underlying396 rfl a) rfl ⟨rfl,?_⟩;exact(bL (bS w w) _).grown c sI (fun k f=>by cases f;omega)
open Go.RowKit jm ko kN J8
def KP (k a b i j d lb:Int):Prop:=
 if k=0 then b=a/\0<=i/\i<j/\j<d else if k=1 then(a=b->0<=i/\i<d/\0<=j/\j<=lb-1)/\(a≠b->0<=i/\i<d/\0<=j/\j<=lb)
 else if k=2 then(a=b->i<j/\0<=i/\i<d/\0<=j/\j<lb)/\(a≠b->a<b/\0<=i/\i<d/\0<=j/\j<lb) else a<b/\0<=i/\i<=d/\0<=j/\j<=lb
def abQ (k:Int):Nat:=if k=0 then 342 else if k=1 then 344 else if k=2 then 346 else 348
def aaJ (k:Int):Nat:=if k=0 then 343 else if k=1 then 345 else if k=2 then 347 else 349
def LK (d:Dy) (k a b i j:Int):Prop:=(0<=k/\k<=3)/\ ∃(c e:Nat) (f g:Tr),a=c/\b=e/\d[c]? =some f/\d[e]? =some g/\KP k a b i j f g
inductive Td (a b la lb:Int) (w:World) (e:Ending) (w':World):Prop
 |mk (r1 r2:List Pc) (he:e=.returned (.tuple #[.agg (kJ r1).toArray,.agg (kJ r2).toArray])) (hr:tW a b la lb r1 r2) (hb:Below w w w')
def Wq (k a b i j d lb:Int) (q:k=0\/k=1\/k=2\/k=3) (w:World) (l:0<=d/\d<=1000000) (m:0<=lb/\lb<=1000000):
  Calls prog (abQ k) #[.agg #[k,a,b,i,j,d,lb]] w (rZ (KP k a b i j d lb) w):=by
 have n: ∀{P p:Prop} {e:Ending} {w':World},(P↔p)->rZ P w e w'->rZ p w e w':=fun h ⟨x,f,g,r,s⟩=>⟨x,f,fun o=>h.1 (g o),fun o=>r (h.2 o),s⟩
 rcases q with rfl|rfl|rfl|rfl
 ·exact(Ee 0 a b i j d lb w l m).mono fun e w' h=>n ⟨fun h=>h,fun h=>h⟩ h
 ·by_cases c:a=b
  ·subst c;exact(BO 1 a i j d lb w l m).mono fun e w' h=>n ⟨fun h=>⟨fun _=>h,fun h=>absurd rfl h⟩,fun h=>And.left h rfl⟩ h
  ·exact(BN 1 a b i j d lb w l m (by rw[beq_eq_false_iff_ne];exact c)).mono fun e w' h=>n ⟨fun h=>⟨fun e=>absurd e c,fun _=>h⟩,fun h=>And.right h c⟩ h
 ·by_cases c:a=b
  ·subst c;exact(Dd 2 a i j d lb w l m).mono fun e w' h=>n ⟨fun h=>⟨fun _=>h,fun h=>absurd rfl h⟩,fun h=>And.left h rfl⟩ h
  ·exact(Dc 2 a b i j d lb w l m c).mono fun e w' h=>n ⟨fun h=>⟨fun e=>absurd e c,fun _=>h⟩,fun h=>And.right h c⟩ h
 ·exact(Db 3 a b i j d lb w l m).mono fun e w' h=>n ⟨fun h=>h,fun h=>h⟩ h
def V8 (k a b i j d lb:Int) (q:k=0\/k=1\/k=2\/k=3) (p:KP k a b i j d lb) (w:World) (l:0<=d/\d<=1000000) (m:0<=lb/\lb<=1000000) (o:a=b->d=lb):
  Calls prog (aaJ k) #[.agg #[k,a,b,i,j,d,lb]] w (Td a b d lb w):=by
 rcases q with rfl|rfl|rfl|rfl
 ·have h:b=a/\0<=i/\i<j/\j<d:=p;obtain⟨rfl,h⟩:=h;exact(L9 0 b b i j d lb oG w).mono fun e w' ⟨f,g⟩=>⟨_,_,f,Jk h,g⟩
 ·have h:(a=b->0<=i/\i<d/\0<=j/\j<=lb-1)/\(a≠b->0<=i/\i<d/\0<=j/\j<=lb):=p;by_cases c:a=b
  ·have f:=h.1 c;have:=o c;subst c;by_cases n:i<j
   ·exact(GL 1 a i j d lb oG oG n w).mono fun e w' ⟨f,g⟩=>⟨_,_,f,Ek oG n,g⟩
   ·exact(GJ 1 a i j d lb oG oG oG w).mono fun e w' ⟨f,g⟩=>⟨_,_,f,Ei oG oG,g⟩
  ·have f:=h.2 c;exact(GK 1 a b i j d lb oG oG c w).mono fun e w' ⟨f,g⟩=>⟨_,_,f,Ej c oG,g⟩
 ·have h:(a=b->i<j/\0<=i/\i<d/\0<=j/\j<lb)/\(a≠b->a<b/\0<=i/\i<d/\0<=j/\j<lb):=p;by_cases c:a=b
  ·have f:=h.1 c;have:=o c;subst c;exact(JE 2 a i j d lb oG oG w).mono fun e w' ⟨f,g⟩=>⟨_,_,f,GA oG,g⟩
  ·have f:=h.2 c;exact(JD 2 a b i j d lb oG oG c w).mono fun e w' ⟨f,g⟩=>⟨_,_,f,Gz c oG,g⟩
 ·have h:a<b/\0<=i/\i<=d/\0<=j/\j<=lb:=p;exact(H8 3 a b i j d lb oG oG w).mono fun e w' ⟨f,g⟩=>⟨_,_,f,Gy oG oG,g⟩
end
end Go.Proofs.YtgimnjldndkalaaGreatDoor
