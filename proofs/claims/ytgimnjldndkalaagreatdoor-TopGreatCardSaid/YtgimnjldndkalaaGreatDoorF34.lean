/- Of the proof of TopGreat: The reference's planning: four numbers, and small ones of them. -/
import Derived.Deep.Cut
import Derived.Test.YtgimnjldndkalaaGreatDoorF26
set_option linter.all false
set_option maxHeartbeats 2000000
set_option maxRecDepth 100000
namespace Go.Proofs.YtgimnjldndkalaaGreatDoor
section
open Go.Proofs.Tryz
open Go.RowKit jm ko Et kN
theorem Rt{p:Prop}(h:p:=by exact(((d.setCell (p:=w) lE _).setCell (p:=pA w 1) lE _).setCell (p:=pA w 2) lE _).setCell (p:=pA w 3) lE _):p:=h
def Bf (l:List Int):Int:=l.headD 0
def LJ (l:List Int) (v:Value) (w:World) (C:gx w .i64 v l):
  Calls prog 57 #[v] w fun e w'=>e=.returned (.agg #[(Bf l),(rJ l 1),(rJ l 2),(rJ l 3)])/\Below w w w':=by
 have r:=zH C;obtain⟨A,c,rfl,P,Q,j⟩:=C.open_;have L:=zH j;clear C j;go_enter func57,ntmps57;go_wp2_with fail;have n:Below w w (w.alloc (cB 70 [Zo,Zo,Zo,Zo])):=bL bF _;have a:=fc.new w 70 [Zo,Zo,Zo,Zo];refine(vR l 1 _ _ (r.below n lE) oG).mono ?_;rintro e Y ⟨rfl,g⟩;replace a:=a.below g a.lt;replace g:=n.trans (g.mono n.size);go_wp2_with fail;refine(vR l 2 _ _ (r.below g lE) oG).mono ?_;rintro e Z ⟨rfl,h⟩;replace a:=a.below h a.lt;replace h:=g.trans (h.mono g.size);go_wp2_with fail;refine(vR l 3 _ _ (r.below h lE) oG).mono ?_;rintro e q ⟨rfl,i⟩;replace a:=a.below i a.lt;replace i:=h.trans (i.mono h.size);have U:=a.lt;obtain⟨z1,s⟩:=nR (rJ l 1);obtain⟨k,u⟩:=nR (rJ l 2);obtain⟨m,x⟩:=nR (rJ l 3);rw[s,u,x];have d:Below w w (q.alloc (cB 70 [Zo,z1,k,m])):=bL i _;have f:=fc.new q 70 [Zo,z1,k,m];replace a:=a.alloc (cB 70 [Zo,z1,k,m]);go_upto_region 2 with fail
 revert a f d;generalize q.alloc (cB 70 [Zo,z1,k,m])=W;intro d f a;have X:=f.lt;have c0:=a.c 0;have c1:=a.c 1;have c2:=a.c 2;have c3:=a.c 3;have H:=a.frozen 0;have I:=a.frozen 1;have J:=a.frozen 2;have K:=a.frozen 3;have D:=f.c 0;have E:=f.c 1;have F:=f.c 2;have G:=f.c 3;have O:=f.frozen 0;have R:=i.size;have hW:=d.size;have S:w.heap.size≠q.heap.size:=oG;cases l with
 |nil=>
  go_wp2_with fail;refine bodyPost_ret (v:=.agg #[Zo,z1,k,m]) (ia rfl _ _ w 70 [Zo,z1,k,m] _ rfl ((((a.gH 0 _).gH 1 _).gH 2 _).gH 3 _) underlying70 rfl kR) rfl ⟨by rw[s,u,x];rfl,?_⟩;exact Rt
 |cons z t=>
  obtain⟨b,o,rfl,T,y⟩:=L 0 z rfl;replace y:W.cell? (pA b o)=some z:=a7 d lE y;go_upto_region 4 with fail
  have M:=f.gH 0 z;have N:=a.kj (p:=q) S z;have B:=d.setCell (p:=q) R z;clear c0 c1 c2 c3 H I J K D E F G O d a f y;revert M N B;generalize W.setCell q z=V;intro f a d;simp only[List.set] at f;have c0:=a.c 0;have c1:=a.c 1;have c2:=a.c 2;have c3:=a.c 3;have H:=a.frozen 0;have I:=a.frozen 1;have J:=a.frozen 2;have K:=a.frozen 3;have D:=f.c 0;have E:=f.c 1;have F:=f.c 2;have G:=f.c 3;go_wp2_with fail;refine bodyPost_ret (v:=.agg #[z,z1,k,m]) (ia rfl _ _ w 70 [z,z1,k,m] _ rfl ((((a.gH 0 _).gH 1 _).gH 2 _).gH 3 _) underlying70 rfl kR) rfl ⟨by rw[s,u,x];rfl,?_⟩;exact Rt
theorem Jv (l:List Int) (v:Value) (w:World) (hl:gx w .i64 v l):
  Calls prog 34 #[v] w fun e w'=>(∃z1 z2 z3:Int,0<=z1/\z1<=8/\0<=z2/\z2<=20/\0<=z3/\z3<=12/\e=.returned (.agg #[(Bf l),z1,z2,z3]))/\Below w.heap.size w w':=by
 have HL:=zH hl;obtain⟨A,c,rfl,hc1,hc2,-⟩:=hl.open_;clear hl;go_enter func34,ntmps34;go_wp2_with fail;have hb0:Below w.heap.size w (w.alloc (cB 70 [Zo,Zo,Zo,Zo])):=bL bF _;have b0:=fc.new w 70 [Zo,Zo,Zo,Zo];refine(LJ l _ _ (HL.out.below hb0 lE)).mono ?_;rintro e w2 ⟨rfl,hb2⟩;have hb2':=hb0.trans (hb2.mono hb0.size);replace b0:=b0.below hb2 b0.lt;have t1:=acE l 1;have t2:=acE l 2;have t3:=acE l 3;obtain⟨z0,e0⟩:=nR (Bf l);obtain⟨z1,e1⟩:=nR (rJ l 1);obtain⟨z2,e2⟩:=nR (rJ l 2);obtain⟨z3,e3⟩:=nR (rJ l 3);rw[e1] at t1;rw[e2] at t2;rw[e3] at t3;rw[e0,e1,e2,e3];clear e1 e2 e3;replace hb2:=hb2';clear hb2' hb0;have l0:=b0.lt;have hb5:Below w.heap.size w (w2.alloc (cB 70 [z0,z1,z2,z3])):=bL hb2 _;have b1:=fc.new w2 70 [z0,z1,z2,z3];replace b0:=b0.alloc (cB 70 [z0,z1,z2,z3]);have hs:=hb2.size;have ne:w.heap.size≠w2.heap.size:=oG;obtain⟨g,hg⟩:=nR w2.heap.size;go_upto_region 2 with fail
 revert b0 b1 hb5;generalize w2.alloc (cB 70 [z0,z1,z2,z3])=W;intro hb5 b1 b0;rw[hg] at b1 hs ne;clear hg hb2;have d1:=b1.c 1;have f1:=b1.frozen 1;go_upto_region 3 with fail
 have b2:=b1.gH 1 (z1%9:);have b3:=b0.kj (p:=⟨g,1,none⟩) ne (z1%9:);have hb6:=hb5.setCell (p:=⟨g,1,none⟩) hs (z1%9:);clear d1 f1 hb5 b0 b1;revert b2 b3 hb6;generalize W.setCell ⟨g,1,none⟩ (z1%9:)=V;clear W;obtain⟨W,hV⟩:=nE V;subst hV;intro b1 b0 hb5;simp only[List.set] at b1;have d2:=b1.c 2;have f2:=b1.frozen 2;go_upto_region 4 with fail
 have b2:=b1.gH 2 (z2%21:);have b3:=b0.kj (p:=⟨g,2,none⟩) ne (z2%21:);have hb6:=hb5.setCell (p:=⟨g,2,none⟩) hs (z2%21:);clear d2 f2 hb5 b0 b1;revert b2 b3 hb6;generalize W.setCell ⟨g,2,none⟩ (z2%21:)=V;clear W;obtain⟨W,hV⟩:=nE V;subst hV;intro b1 b0 hb5;simp only[List.set] at b1;have d3:=b1.c 3;have f3:=b1.frozen 3;go_upto_region 5 with fail
 have b2:=b1.gH 3 (z3%13:);have b3:=b0.kj (p:=⟨g,3,none⟩) ne (z3%13:);have hb6:=hb5.setCell (p:=⟨g,3,none⟩) hs (z3%13:);clear d3 f3 hb5 b0 b1;revert b2 b3 hb6;generalize W.setCell ⟨g,3,none⟩ (z3%13:)=V;clear W;obtain⟨W,hV⟩:=nE V;subst hV;intro b1 b0 hb5;simp only[List.set] at b1;have c0:=b0.c 0;have c1:=b0.c 1;have c2:=b0.c 2;have c3:=b0.c 3;have f0:=b0.frozen 0;have f1:=b0.frozen 1;have f2:=b0.frozen 2;have f3:=b0.frozen 3;have d0:=b1.c 0;have d1:=b1.c 1;have d2:=b1.c 2;have d3:=b1.c 3;go_wp2_with fail;refine bodyPost_ret (v:=.agg #[.int .i64 z0,.int .i64 (z1%9),.int .i64 (z2%21),.int .i64 (z3%13)]) (ia rfl _ _ w.heap.size 70 [.int .i64 z0,.int .i64 (z1%9),.int .i64 (z2%21),.int .i64 (z3%13)] _ rfl ((((b0.gH 0 _).gH 1 _).gH 2 _).gH 3 _) Tryz.underlying70 rfl (by kernel_rfl)) rfl ⟨⟨z1%9,z2%21,z3%13,by omega,by omega,by omega,by omega,by omega,by omega,by rw[e0]⟩,?_⟩;exact(((hb5.setCell (p:=⟨w.heap.size,0,none⟩) lE _).setCell (p:=⟨w.heap.size,1,none⟩) lE _).setCell (p:=⟨w.heap.size,2,none⟩) lE _).setCell (p:=⟨w.heap.size,3,none⟩) lE _
def Gn (l:List Int) (v:Value) (w:World) (i:gx w .i64 v l):
  Calls prog 9 #[v] w fun e w'=>(∃(z1 a b:Int) (k:Value),0<=z1/\z1<=8/\0<=a/\a<=20/\0<=b/\b<=12/\e=.returned k/\gx w' .i64 k [Bf l,z1,a,b])/\Below w w w':=by
 have m:=zH i;obtain⟨A,c,rfl,r,s,-⟩:=i.open_;clear i;go_enter func9,ntmps9;go_wp2_with fail;refine(Jv l _ _ m).mono ?_;rintro e h ⟨⟨z1,a,b,t,y,u,z,x,B,rfl⟩,g⟩;obtain⟨z0,j⟩:=nR (Bf l);rw[j];have f:=fc.new h 70 [z0,z1,a,b];have d:Below w w (h.alloc (cB 70 [z0,z1,a,b])):=bL g _;have D:=g.size;have C:=ij h;go_upto_region 2 with fail
 revert f d;generalize h.alloc (cB 70 [z0,z1,a,b])=W;intro f d;have n:=fc.cell f 0;have o:=fc.cell f 1;have p:=fc.cell f 2;have q:=fc.cell f 3;simp only[df,fK] at n o p q;go_wp2_with fail;go_ret;refine⟨⟨z1,a,b,_,t,y,u,z,x,B,rfl,?_⟩,bL d _⟩;rw[j];exact(fc.new W 3 [z0,z1,a,b]).gx (l:=[z0,z1,a,b]) rfl lE dE
end
end Go.Proofs.YtgimnjldndkalaaGreatDoor
