/- Of the proof of TopGreat: A search's script is read. -/
import Derived.Test.YtgimnjldndkalaaGreatDoorF34
import Derived.Test.YtgimnjldndkalaaGreatDoorF9
set_option linter.all false
set_option maxHeartbeats 2000000
set_option maxRecDepth 100000
namespace Go.Proofs.YtgimnjldndkalaaGreatDoor
section
open Go.Proofs.Tryz
open Go.RowKit jm ko Et kN
def R8 (z0 z1 f h:Int) (k:Nat):List Value:=[z0,(if 1<k then kO z1 0 1000 else z1:),(if 2<k then kO f 0 1000 else f:),(if 3<k then kO h 0 1000 else h:)]
def Fl (z0 z1 f h:Int) (A:Option Addr) (n c:Nat) (w:World) (i: ∀W,Below w w W->fc W (w+1) 99 [Zo,Zo,Zo,Zo]-> ∃k V,(Builtin.copy_ #[26,26] 3 #[.slice (pB (w+1)) 4 4,.slice A n c]).run prog W=.ok k V/\fc V (w+1) 99 [z0,z1,f,h]/\W.grownBy V (some (w+1))):
  Calls prog 25 #[.slice A n c] w fun e w'=>e=.returned (.agg #[z0,(kO z1 0 1000),(kO f 0 1000),(kO h 0 1000)])/\Below w w w':=by
 go_enter func25,ntmps25;go_upto_region 2 with fail
 have d:Below w w ((w.alloc (cB 70 [Zo,Zo,Zo,Zo])).alloc (cB 99 [Zo,Zo,Zo,Zo])):=bL (bL bF _) _;have b:=(fc.new w 70 [Zo,Zo,Zo,Zo]).alloc (cB 99 [Zo,Zo,Zo,Zo]);have a:=fc.fW (w.alloc (cB 70 [Zo,Zo,Zo,Zo])) 99 [Zo,Zo,Zo,Zo] (g:=w.heap.size+1) sI;revert d b a;generalize (w.alloc (cB 70 [Zo,Zo,Zo,Zo])).alloc (cB 99 [Zo,Zo,Zo,Zo])=W;intro d b a;obtain⟨I,V,m,l,j⟩:=i W d a;have z:=a.lt;go_wp2_with (simp only[m]);replace b:=b.grown j sI;replace d:=d.grown j d.size (fun k e=>by cases e;omega);replace a:=l;clear m z j l;go_loopw [4] (fun r wr=> ∃k:Nat,1<=k/\k<=4/\r=.int .i64 (k:Int)/\fc wr (w+1) 99 (R8 z0 z1 f h k)/\fc wr w 70 [Zo,Zo,Zo,Zo]/\Below w w wr) (fun r _=>(4-intOf r).toNat)
 case atStart=>exact⟨1,oG,oG,rfl,a,b,d⟩
 case round=>
  clear a b d;obtain⟨k,x,y,rfl,a,b,o⟩:=hrel;have c0:=b.c 0;have c1:=b.c 1;have c2:=b.c 2;have c3:=b.c 3;have E:=b.frozen 0;have F:=b.frozen 1;have G:=b.frozen 2;have H:=b.frozen 3;by_cases u:k=4
  ·subst u;simp only[R8] at a;have q:=a.c 0;have B:=a.c 1;have C:=a.c 2;have D:=a.c 3;go_wp2_with fail;refine bodyPost_ret (v:=.agg #[z0,(kO z1 0 1000),(kO f 0 1000),(kO h 0 1000)]) (ia rfl _ _ w 70 [z0,(kO z1 0 1000),(kO f 0 1000),(kO h 0 1000)] _ rfl ((((b.gH 0 _).gH 1 _).gH 2 _).gH 3 _) underlying70 rfl kR) rfl ⟨rfl,?_⟩;exact(((o.setCell (p:=w) lE _).setCell (p:=pA w 1) lE _).setCell (p:=pA w 2) lE _).setCell (p:=pA w 3) lE _
  ·obtain rfl|rfl|rfl:k=1\/k=2\/k=3:=oG
   ·simp only[R8] at a;have q:=a.c 1;have s:=a.frozen 1;go_wp2_with fail;refine(uh _ _ _ _).mono ?_;rintro e t ⟨rfl,rfl⟩;go_wp2_with fail;go_roundw
    case rel=>exact⟨2,oG,oG,rfl,a.gH 1 _,b.kj (p:=pA (w+1) 1) dO _,o.setCell (p:=pA (w+1) 1) (iW _) _⟩
    case measure=>simp[intOf]
   ·simp only[R8] at a;have q:=a.c 2;have s:=a.frozen 2;go_wp2_with fail;refine(uh _ _ _ _).mono ?_;rintro e t ⟨rfl,rfl⟩;go_wp2_with fail;go_roundw
    case rel=>exact⟨3,oG,oG,rfl,a.gH 2 _,b.kj (p:=pA (w+1) 2) dO _,o.setCell (p:=pA (w+1) 2) (iW _) _⟩
    case measure=>simp[intOf]
   ·simp only[R8] at a;have q:=a.c 3;have s:=a.frozen 3;go_wp2_with fail;refine(uh _ _ _ _).mono ?_;rintro e t ⟨rfl,rfl⟩;go_wp2_with fail;go_roundw
    case rel=>exact⟨4,oG,oG,rfl,a.gH 3 _,b.kj (p:=pA (w+1) 3) dO _,o.setCell (p:=pA (w+1) 3) (iW _) _⟩
    case measure=>simp[intOf]
theorem LH (z0 z1 z2 z3:Int) (v:Value) (w:World) (hl:gx w .i64 v [z0,z1,z2,z3]):
  Calls Tryz.prog 25 #[v] w fun e w'=>e=.returned (.agg #[.int .i64 z0,.int .i64 (kO z1 0 1000),.int .i64 (kO z2 0 1000),.int .i64 (kO z3 0 1000)])/\Below w.heap.size w w':=by
 obtain⟨A,c,rfl,hc1,hc2,hcell⟩:=hl.open_;obtain⟨b,o,rfl,hb,y0⟩:=hcell 0 z0 rfl;have HC:Hid (∀i z,[z0,z1,z2,z3][i]? =some z->w.cell? ⟨b,o+i,none⟩=some (.int .i64 z)):=jA fun i z h=>by obtain⟨b',o',e,-,h⟩:=hcell i z h;cases e;exact h
 refine Fl z0 z1 z2 z3 _ _ c w fun W hb0 b1=> ?_;have hsrc: ∀j v,([.int .i64 z0,.int .i64 z1,.int .i64 z2,.int .i64 z3]:List Value)[j]? =some v->W.cell? ((⟨b,o,none⟩:Addr).add j)=some v:=fun j v h=>by
  match j,h with
  |0,h=>cases h;exact a7 hb0 (ij _) (HC.out 0 _ rfl)
  |1,h=>cases h;exact a7 hb0 (ij _) (HC.out 1 _ rfl)
  |2,h=>cases h;exact a7 hb0 (ij _) (HC.out 2 _ rfl)
  |3,h=>cases h;exact a7 hb0 (ij _) (HC.out 3 _ rfl)
  |(j+4),h=>cases h
 have hcp:(Builtin.copy_ #[26,26] 3 #[.slice (some ⟨w.heap.size+1,0,none⟩) 4 4,.slice (some ⟨b,o,none⟩) 4 c]).run Tryz.prog W=.ok (goInt 4) (W.setRow (w.heap.size+1) #[.int .i64 z0,.int .i64 z1,.int .i64 z2,.int .i64 z3]):=
  ry (P:=Tryz.prog) W 26 26 3 3 1 (w.heap.size+1) 0 4 4 ⟨b,o,none⟩ 4 c #[.int .i64 0,.int .i64 0,.int .i64 0,.int .i64 0] 99 [.int .i64 z0,.int .i64 z1,.int .i64 z2,.int .i64 z3] Tryz.underlying26 (by kernel_rfl) b1 rfl hsrc (by simp) (by simp[Value.oneCell'])
 exact⟨_,_,hcp,b1.setRow [.int .i64 z0,.int .i64 z1,.int .i64 z2,.int .i64 z3],fc.Is⟩
def LI (w:World):Calls prog 25 #[()] w fun e w'=>e=.returned (.agg #[Zo,Zo,Zo,Zo])/\Below w w w':=
 Fl 0 0 0 0 none 0 0 w fun W d a=>⟨.int .i64 0,W,by simp[Builtin.copy_,go_sem],a,nG _ _⟩
end
end Go.Proofs.YtgimnjldndkalaaGreatDoor
