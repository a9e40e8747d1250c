/- Of the proof of TopGreat: Prices of two places: made of zeros. -/
import Derived.Deep.Cut
import Derived.Test.YtgimnjldndkalaaGreatDoorF22
import Derived.Test.YtgimnjldndkalaaGreatDoorF8
set_option linter.all false
set_option maxHeartbeats 1000000
set_option maxRecDepth 100000
namespace Go.Proofs.YtgimnjldndkalaaGreatDoor
section
open Go.Proofs.Tryz
open Go.RowKit jm
theorem acG (x:fS) (s:x.eB.length=1) (A1:Option Addr) (c1:Nat) (A2:Option Addr) (c2:Nat) (w:World):
  Calls prog 123 #[.agg (xC x A1 c1 A2 c2).toArray] w fun e w'=>e=.returned (.int .i64 2)/\Below w w w':=
 (ad6 x A1 c1 A2 c2 w oG).mono fun e w' h=>by rw[s] at h;exact h
theorem np:(prog.info? 103).map (·.size)=some 2:=kR
abbrev prV (go gi:Nat):Value:=.agg #[.slice go 2 2,.slice gi 2 2]
section
variable (x:fS) (A1:Option Addr) (c1:Nat) (A2:Option Addr) (c2:Nat)
theorem acK (s:x.eB.length=1) (w:World):
  Calls prog 156 #[.agg (xC x A1 c1 A2 c2).toArray] w fun e w'=> ∃r q,e=.returned (prV r q)/\fc w' r 3 [Zo,Zo]/\fc w' q 3 [Zo,Zo]/\r≠q/\w.heap.size<=r/\w.heap.size<=q/\Below w w w':=by
 have H:=fun W:World=>pM (P:=prog) underlying26 KG 2 2 rfl oG W;obtain⟨W,hW,⟨A,n,-⟩,D,I⟩:=sk w [(25,xC x A1 c1 A2 c2),(103,[(),()])];simp only[Hk] at hW;have G:=A.lt;have y:=n.lt;obtain⟨J,L,M,N,O,Q,-⟩:=A.iY;have E:=zH s;clear s;go_enter func156,ntmps156;go_wp2_with fail;refine(acG x E A1 c1 A2 c2 W).mono ?_;rintro e a ⟨rfl,p⟩;replace n:=n.below p y;have l:=D.trans (p.mono D.size);have B:=n.frozen 0;have C:=n.frozen 1;have o:=n.lt;clear hW J L M N O Q;go_wp2_with fail;refine rB [5] fun hS=>?_;refine kL [0,2] ?_;refine pU ?_;refine mL 1 3 rfl rfl rfl rfl kR (fun K h=>?_) (fun K h=>?_)
 ·go_simp;have g:Below a a (a.alloc (cB 3 (kE 2))).drew:=(bF.alloc lE _).drew;have j:fc (a.alloc (cB 3 (kE 2))).drew a 3 (kE 2):=(fc.new a 3 (kE 2)).drew;refine h _ _ (g) ?_;clear hS;revert g j;generalize (a.alloc (cB 3 (kE 2))).drew=V;intro g j;have u:=j.lt;refine tO 3 fun K h=>?_;go_simp;have d:Below a a (V.alloc (cB 3 (kE 2))):=g.alloc g.size _;have c:=j.alloc (cB 3 (kE 2));have b:=fc.new V 3 (kE 2);refine h _ _ (d) ?_;revert d c b;generalize V.alloc (cB 3 (kE 2))=F;intro d c b;have hS:=d;have m:=n.below d o;have B:=m.frozen 0;have C:=m.frozen 1;have R:=m.lt;refine kL [4] ?_;refine tL 5 fun K h=>?_;refine gY _ 103 (.tmp 2) (.tmp 10) rfl (w+1) 103 _ [.slice a 2 2,.slice V 2 2] m rfl rfl np rfl rfl ?_;intro S t f z;refine h _ _ ?_;refine tD ?_;go_wp2_with fail;have i:=l.size;refine bodyPost_ret (v:=prV (a) (V)) (ia rfl _ _ (w+1) 103 _ _ rfl t underlying103 rfl np) rfl ⟨a,V,rfl,c.grown f sO,b.grown f sO,oG,oG,oG,(l.trans (d.mono i)).grown f (eZ i d.size) (fun k e=>by cases e;omega)⟩
 ·go_simp;have g:Below a a (a.alloc (cB 3 (kE 2))).drew:=(bF.alloc lE _).drew;have j:fc (a.alloc (cB 3 (kE 2))).drew a 3 (kE 2):=(fc.new a 3 (kE 2)).drew;refine h _ _ (g) ?_;clear hS;revert g j;generalize (a.alloc (cB 3 (kE 2))).drew=V;intro g j;have u:=j.lt;refine tO 1 fun K h=>?_;go_simp;have d:Below a a (V.alloc (cB 3 (kE 2))):=g.alloc g.size _;have c:=j.alloc (cB 3 (kE 2));have b:=fc.new V 3 (kE 2);refine h _ _ (d) ?_;revert d c b;generalize V.alloc (cB 3 (kE 2))=F;intro d c b;have hS:=d;have m:=n.below d o;have B:=m.frozen 0;have C:=m.frozen 1;have R:=m.lt;refine kL [4] ?_;refine tL 5 fun K h=>?_;refine gY _ 103 (.tmp 2) (.tmp 10) rfl (w+1) 103 _ [.slice V 2 2,.slice a 2 2] m rfl rfl np rfl rfl ?_;intro S t f z;refine h _ _ ?_;refine tD ?_;go_wp2_with fail;have i:=l.size;refine bodyPost_ret (v:=prV (V) (a)) (ia rfl _ _ (w+1) 103 _ _ rfl t underlying103 rfl np) rfl ⟨V,a,rfl,b.grown f sO,c.grown f sO,oG,oG,oG,(l.trans (d.mono i)).grown f (eZ i d.size) (fun k e=>by cases e;omega)⟩
end
end
end Go.Proofs.YtgimnjldndkalaaGreatDoor
