/- Of the proof of TopCosts: The reference's planning: four numbers, and small ones of them. -/
import Derived.Deep.Cut
import Derived.Test.YtgimnjldndkalaaGreatDoorF33
set_option linter.all false
set_option maxHeartbeats 2000000
set_option maxRecDepth 100000
namespace Go.Proofs.YtgimnjldndkalaaGreatDoor
section
open Go.Proofs.Tryz
open Go.RowKit jm ko Et kN
theorem Rt{p:Prop}(h:p:=by exact(((d.setCell (p:=w) lE _).setCell (p:=pA w 1) lE _).setCell (p:=pA w 2) lE _).setCell (p:=pA w 3) lE _):p:=h
def Bf (l:List Int):Int:=l.headD 0
def LJ (l:List Int) (v:Value) (w:World) (D:gx w .i64 v l):
  Calls prog 57 #[v] w fun e w'=>e=.returned (.agg #[(Bf l),(rJ l 1),(rJ l 2),(rJ l 3)])/\Below w w w':=by
 have s:=zH D;obtain⟨A,c,rfl,Q,R,j⟩:=D.open_;have M:=zH j;clear D j;go_enter func57,ntmps57;go_wp2_with fail;have q:Below w w (w.alloc (cB 70 [Zo,Zo,Zo,Zo])):=bL bF _;have a:=fc.new w 70 [Zo,Zo,Zo,Zo];refine(vR l 1 _ _ (s.below q lE) oG).mono ?_;rintro e Z ⟨rfl,g⟩;replace a:=a.below g a.lt;replace g:=q.trans (g.mono q.size);go_wp2_with fail;refine(vR l 2 _ _ (s.below g lE) oG).mono ?_;rintro e w3 ⟨rfl,h⟩;replace a:=a.below h a.lt;replace h:=g.trans (h.mono g.size);go_wp2_with fail;refine(vR l 3 _ _ (s.below h lE) oG).mono ?_;rintro e r ⟨rfl,i⟩;replace a:=a.below i a.lt;replace i:=h.trans (i.mono h.size);have X:=a.lt;obtain⟨k,u⟩:=nR (rJ l 1);obtain⟨m,x⟩:=nR (rJ l 2);obtain⟨n,B⟩:=nR (rJ l 3);rw[u,x,B];have d:Below w w (r.alloc (cB 70 [Zo,k,m,n])):=bL i _;have f:=fc.new r 70 [Zo,k,m,n];replace a:=a.alloc (cB 70 [Zo,k,m,n]);go_upto_region 2 with fail
 revert a f d;generalize r.alloc (cB 70 [Zo,k,m,n])=W;intro d f a;have Y:=f.lt;have c0:=a.c 0;have c1:=a.c 1;have c2:=a.c 2;have c3:=a.c 3;have I:=a.frozen 0;have J:=a.frozen 1;have K:=a.frozen 2;have L:=a.frozen 3;have E:=f.c 0;have F:=f.c 1;have G:=f.c 2;have H:=f.c 3;have P:=f.frozen 0;have S:=i.size;have hW:=d.size;have T:w.heap.size≠r.heap.size:=oG;cases l with
 |nil=>
  go_wp2_with fail;refine bodyPost_ret (v:=.agg #[Zo,k,m,n]) (ia rfl _ _ w 70 [Zo,k,m,n] _ rfl ((((a.gH 0 _).gH 1 _).gH 2 _).gH 3 _) underlying70 rfl kR) rfl ⟨by rw[u,x,B];rfl,?_⟩;exact Rt
 |cons z t=>
  obtain⟨b,o,rfl,U,y⟩:=M 0 z rfl;replace y:W.cell? (pA b o)=some z:=a7 d lE y;go_upto_region 4 with fail
  have N:=f.gH 0 z;have O:=a.kj (p:=r) T z;have C:=d.setCell (p:=r) S z;clear c0 c1 c2 c3 I J K L E F G H P d a f y;revert N O C;generalize W.setCell r z=V;intro f a d;simp only[List.set] at f;have c0:=a.c 0;have c1:=a.c 1;have c2:=a.c 2;have c3:=a.c 3;have I:=a.frozen 0;have J:=a.frozen 1;have K:=a.frozen 2;have L:=a.frozen 3;have E:=f.c 0;have F:=f.c 1;have G:=f.c 2;have H:=f.c 3;go_wp2_with fail;refine bodyPost_ret (v:=.agg #[z,k,m,n]) (ia rfl _ _ w 70 [z,k,m,n] _ rfl ((((a.gH 0 _).gH 1 _).gH 2 _).gH 3 _) underlying70 rfl kR) rfl ⟨by rw[u,x,B];rfl,?_⟩;exact Rt
theorem Jv (l:List Int) (v:Value) (w:World) (hl:gx w .i64 v l):
  Calls prog 34 #[v] w fun e w'=>(∃z1 z2 z3:Int,0<=z1/\z1<=8/\0<=z2/\z2<=20/\0<=z3/\z3<=12/\e=.returned (.agg #[(Bf l),z1,z2,z3]))/\Below w.heap.size w w':=by
 have HL:=zH hl;obtain⟨A,c,rfl,hc1,hc2,-⟩:=hl.open_;clear hl;go_enter func34,ntmps34;go_wp2_with fail;have hb0:Below w.heap.size w (w.alloc (cB 70 [Zo,Zo,Zo,Zo])):=bL bF _;have b0:=fc.new w 70 [Zo,Zo,Zo,Zo];refine(LJ l _ _ (HL.out.below hb0 lE)).mono ?_;rintro e w2 ⟨rfl,hb2⟩;have hb2':=hb0.trans (hb2.mono hb0.size);replace b0:=b0.below hb2 b0.lt;have t1:=DL l 1;have t2:=DL l 2;have t3:=DL l 3;obtain⟨z0,e0⟩:=nR (Bf l);obtain⟨z1,e1⟩:=nR (rJ l 1);obtain⟨z2,e2⟩:=nR (rJ l 2);obtain⟨z3,e3⟩:=nR (rJ l 3);rw[e1] at t1;rw[e2] at t2;rw[e3] at t3;rw[e0,e1,e2,e3];clear e1 e2 e3;replace hb2:=hb2';clear hb2' hb0;have l0:=b0.lt;have hb5:Below w.heap.size w (w2.alloc (cB 70 [z0,z1,z2,z3])):=bL hb2 _;have b1:=fc.new w2 70 [z0,z1,z2,z3];replace b0:=b0.alloc (cB 70 [z0,z1,z2,z3]);have hs:=hb2.size;have ne:w.heap.size≠w2.heap.size:=oG;obtain⟨g,hg⟩:=nR w2.heap.size;go_upto_region 2 with fail
 revert b0 b1 hb5;generalize w2.alloc (cB 70 [z0,z1,z2,z3])=W;intro hb5 b1 b0;rw[hg] at b1 hs ne;clear hg hb2;have d1:=b1.c 1;have f1:=b1.frozen 1;go_upto_region 3 with fail
 have b2:=b1.gH 1 (z1%9:);have b3:=b0.kj (p:=⟨g,1,none⟩) ne (z1%9:);have hb6:=hb5.setCell (p:=⟨g,1,none⟩) hs (z1%9:);clear d1 f1 hb5 b0 b1;revert b2 b3 hb6;generalize W.setCell ⟨g,1,none⟩ (z1%9:)=V;clear W;obtain⟨W,hV⟩:=nE V;subst hV;intro b1 b0 hb5;simp only[List.set] at b1;have d2:=b1.c 2;have f2:=b1.frozen 2;go_upto_region 4 with fail
 have b2:=b1.gH 2 (z2%21:);have b3:=b0.kj (p:=⟨g,2,none⟩) ne (z2%21:);have hb6:=hb5.setCell (p:=⟨g,2,none⟩) hs (z2%21:);clear d2 f2 hb5 b0 b1;revert b2 b3 hb6;generalize W.setCell ⟨g,2,none⟩ (z2%21:)=V;clear W;obtain⟨W,hV⟩:=nE V;subst hV;intro b1 b0 hb5;simp only[List.set] at b1;have d3:=b1.c 3;have f3:=b1.frozen 3;go_upto_region 5 with fail
 have b2:=b1.gH 3 (z3%13:);have b3:=b0.kj (p:=⟨g,3,none⟩) ne (z3%13:);have hb6:=hb5.setCell (p:=⟨g,3,none⟩) hs (z3%13:);clear d3 f3 hb5 b0 b1;revert b2 b3 hb6;generalize W.setCell ⟨g,3,none⟩ (z3%13:)=V;clear W;obtain⟨W,hV⟩:=nE V;subst hV;intro b1 b0 hb5;simp only[List.set] at b1;have c0:=b0.c 0;have c1:=b0.c 1;have c2:=b0.c 2;have c3:=b0.c 3;have f0:=b0.frozen 0;have f1:=b0.frozen 1;have f2:=b0.frozen 2;have f3:=b0.frozen 3;have d0:=b1.c 0;have d1:=b1.c 1;have d2:=b1.c 2;have d3:=b1.c 3;go_wp2_with fail;refine bodyPost_ret (v:=.agg #[.int .i64 z0,.int .i64 (z1%9),.int .i64 (z2%21),.int .i64 (z3%13)]) (ia rfl _ _ w.heap.size 70 [.int .i64 z0,.int .i64 (z1%9),.int .i64 (z2%21),.int .i64 (z3%13)] _ rfl ((((b0.gH 0 _).gH 1 _).gH 2 _).gH 3 _) Tryz.underlying70 rfl (by kernel_rfl)) rfl ⟨⟨z1%9,z2%21,z3%13,by omega,by omega,by omega,by omega,by omega,by omega,by rw[e0]⟩,?_⟩;exact(((hb5.setCell (p:=⟨w.heap.size,0,none⟩) lE _).setCell (p:=⟨w.heap.size,1,none⟩) lE _).setCell (p:=⟨w.heap.size,2,none⟩) lE _).setCell (p:=⟨w.heap.size,3,none⟩) lE _
def Gn (l:List Int) (v:Value) (w:World) (k:gx w .i64 v l):
  Calls prog 9 #[v] w fun e w'=>(∃(a b d:Int) (n:Value),0<=a/\a<=8/\0<=b/\b<=20/\0<=d/\d<=12/\e=.returned n/\gx w' .i64 n [Bf l,a,b,d])/\Below w w w':=by
 have o:=zH k;obtain⟨A,c,rfl,t,u,-⟩:=k.open_;clear k;go_enter func9,ntmps9;go_wp2_with fail;refine(Jv l _ _ o).mono ?_;rintro e j ⟨⟨a,b,d,x,B,y,C,z,D,rfl⟩,h⟩;obtain⟨i,m⟩:=nR (Bf l);rw[m];have g:=fc.new j 70 [i,a,b,d];have f:Below w w (j.alloc (cB 70 [i,a,b,d])):=bL h _;have F:=h.size;have E:=ij j;go_upto_region 2 with fail
 revert g f;generalize j.alloc (cB 70 [i,a,b,d])=W;intro g f;have p:=fc.cell g 0;have q:=fc.cell g 1;have r:=fc.cell g 2;have s:=fc.cell g 3;simp only[fD,fK] at p q r s;go_wp2_with fail;go_ret;refine⟨⟨a,b,d,_,x,B,y,C,z,D,rfl,?_⟩,bL f _⟩;rw[m];exact(fc.new W 3 [i,a,b,d]).gx (l:=[i,a,b,d]) rfl lE dE
end
end Go.Proofs.YtgimnjldndkalaaGreatDoor
