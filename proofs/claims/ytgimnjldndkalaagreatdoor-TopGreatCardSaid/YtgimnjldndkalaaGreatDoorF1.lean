/- Of the proof of TopGreat: The wrap for a tied row whose contract leans on the world's shape. -/
import Derived.HandedShaped
import Derived.LaidMore
import Derived.Lay
import Derived.OpenShut
import Derived.ProofKit
import Derived.SevenTiedAt
import Derived.Test.YtgimnjldndkalaaGreatDoorG0
set_option linter.all false
set_option maxRecDepth 100000
namespace Go.Proofs.YtgimnjldndkalaaGreatDoor
section
open Go.Proofs.Tryz
open Go Go.RowKit
def sP {H:Type} {enc:TypeId×Value->H} {a:Assume} {C:Checked} {os:Os} {f:FuncId} {p:Func} {s:ChangeSpec} {l:List PathCond} {b m g k:Bool} {X:World->Array Value->Prop}
  (G:ownKnob C.prog.godebug=none) (n:os.Started) (q:C.prog.inits.idxOf? f=none) (B:C.prog.funcs[f]? =some p)
  (o: ∃(w:World) (c:Tape) (i:Input),w.os=os/\(w.forCall c i).Shaped C.prog/\i.vars=[]/\Input.okWide C.prog (w.forCall c i) .any w f i/\
   ((s.pre enc C.prog p l b (w.forCall c i).memory i.args/\X (w.forCall c i).memory i.args)/\sizedMet enc C.prog p (OpenSpec.ofChange s) b (w.forCall c i).memory i.args)/\a.holds C.prog (lone (Frame.enter C.prog f i.args .normal) [] (w.forCall c i)))
  (h: ∀(W:World) (base:Nat) (args:Array Value) (y A:List (DataW H)) (d:List MemPlace),
   (∀(j:Nat) t v,p.params[j]? =some t->args[j]? =some v->Value.okWide C.prog W .any base t v)->
   DataW.Whole enc C.prog p.params.toList s.vars b W args.toList y A d->
   W.ShapedOpen C.prog->
   Calls C.prog f args W fun e I=> ∃v,e=.returned v/\s.post enc C.prog p b m g k W args v I):
  ReturnsInHanded a C os f .any (fun w args=>(s.pre enc C.prog p l b w args/\X w args)/\sizedMet enc C.prog p (OpenSpec.ofChange s) b w args) (s.post enc C.prog p b m g k):=by
 refine returnsInHanded_of_calls G n q o ?_;intro w c i _ E _ D u _;obtain⟨_,_,_,z,r,_,_,_,_,x⟩:=D;have e:z=p:=fg (r.symm.trans B);subst e;obtain⟨⟨⟨y,A,d,L,_⟩,_⟩,_⟩:=u;have F:=DataW.Whole.of_heap (w':=w.forCall c i) (by rfl) L;refine(h (w.forCall c i) w i.args y A d x F E).mono fun e I ⟨v,J,K⟩=>?_;subst J;exact ChangeSpec.post_blind K
theorem IL {W:World} (h:W.ShapedOpen Tryz.prog): ∃m,W.cell? ⟨0,0,none⟩=some (.int .i64 m):=
 cell_of_shapedOpen_int (t:=3) (zero:= #[.int .i64 0]) h (of_decide_eq_true (by kernel_rfl)) (by kernel_rfl) (by kernel_rfl) (by kernel_rfl) (by kernel_rfl) Tryz.underlying3
end
end Go.Proofs.YtgimnjldndkalaaGreatDoor
