/- 'TopCosts' returns true for every input, and each argument reads behind the call as it read before; the library's listed variables are tied to the program's text. Condition: none. -/
import Derived.Test.YtgimnjldndkalaaGreatDoorF2
import Derived.Test.YtgimnjldndkalaaGreatDoorF39
import Derived.Test.YtgimnjldndkalaaGreatDoorF45
set_option linter.all false
set_option maxRecDepth 100000
namespace Go.Proofs.YtgimnjldndkalaaGreatDoor
namespace topCosts
open Go.ChangeShapes Go.WideShapes Go.ChangeAt Go.RowKit
theorem own:ownKnob Tryz.prog.godebug=none:=by kernel_rfl
theorem laidOut:laidOutB Tryz.prog=true:=by kernel_rfl
def laid:List (String×DataW Unit):=[("unicode/utf8.acceptRanges",Rows.laid_unicode_utf8_acceptRanges),("unicode/utf8.first",Rows.laid_unicode_utf8_first)]
theorem lifted (os:Os) (started:os.Started) (H:Type) (enc:TypeId×Value→H):
  ReturnsInHanded {} Tryz.checked os 3 .any (fun w args=>(Rows.topCostsSpec.pre enc Tryz.prog Tryz.f3 [] false w args∧laidMetH Tryz.prog laid w)∧sizedMet enc Tryz.prog Tryz.f3 (OpenSpec.ofChange Rows.topCostsSpec) false w args)
   (Rows.topCostsSpec.post enc Tryz.prog Tryz.f3 false true false false):=by
 refine sP (C:=Tryz.checked) (X:=fun w _=>laidMetH Tryz.prog laid w) own started (by kernel_rfl) Tryz.func3
  (ChangeSpec.witness_shaped (enc:=enc) (C:=Tryz.checked) (os:=os) (X:=fun w _=>laidMetH Tryz.prog laid w) false (World.laidAll Tryz.prog os laid) #[.agg #[.int .i64 0,.int .i64 0,.int .i64 0,.int .i64 0,.slice none 0 0,.slice none 0 0],.slice none 0 0] 8 (World.laidAll_os _ _ _)
   (World.shaped_of_ZipB (by kernel_rfl) (by kernel_rfl)) (by kernel_rfl) (by kernel_rfl) (by kernel_rfl)
   (by rw[MakeChecks.laidMetH_plain _ _ _ (by kernel_rfl)];exact laidMet_laidAll _ (by kernel_rfl) (by kernel_rfl))) ?_
 intro W base args ds gs before hval0 hW hshape;have hval: ∀(j:Nat) t v,Tryz.f3.params[j]? =some t→args[j]? =some v→Value.okWide Tryz.prog W .any base t v:=hval0;have hW':=hW;obtain⟨p,q,hA0,hV,rfl,hfz,hnd⟩:=hW;have hA:DataW.TrodAll enc Tryz.prog W 0 (fun _=>true) true Tryz.f3.params.toList args.toList ds p:=hA0;rw[Tryz.params3] at hA hval;obtain⟨v0,vs0,d0,ds0,p0,q0,hargs,rfl,rfl,h0,r0⟩:=trodAll_cons hA;obtain⟨v1,vs1,d1,ds1,p1,q1,rfl,rfl,rfl,h1,r1⟩:=trodAll_cons r0;obtain⟨rfl,rfl,rfl⟩:=trodAll_nil r1;obtain rfl:args= #[v0,v1]:=by cases args;simp_all
 obtain⟨rfl,rfl⟩:=trodVars_none hV;clear hA0 hval0 hA hargs;obtain⟨m,hm⟩:=IL hshape;have hk0:=h0;obtain⟨x0,hx0,hw0⟩:=Oi (hval 0 25 v0 rfl rfl) h0;have hlt0: ∀x∈p0,x.block <W.heap.size:=fun x hx=>hW'.lt x (by simp[hx]);have hk1:=h1;obtain⟨x1,hx1,hw1⟩:=Ef (hval 1 26 v1 rfl rfl) h1;have hlt1: ∀x∈p1,x.block <W.heap.size:=fun x hx=>hW'.lt x (by simp[hx]);refine(GQ v0 x0 v1 x1 m W hx0 hw0 hx1 hm (QB hw1)).mono fun e W' ⟨he,hb⟩=> ?_;subst he;refine⟨_,rfl,_,_,_,[],p0++(p1++[]),[],hW',?_,?_,rfl,hb.frame _,fun h=>by cases h⟩
 ·exact trodAll_cons_mk (shut_bool Tryz.underlying4 _) trodAll_mk0
 ·exact(trodAll_cons_mk (Below.trod laidOut (by kernel_rfl) (of_decide_eq_true (by kernel_rfl)) hk0 hb hlt0) (trodAll_cons_mk (Below.trod laidOut (by kernel_rfl) (of_decide_eq_true (by kernel_rfl)) hk1 hb hlt1) trodAll_mk0))
theorem over:Rows.topCostsRow.holds Tryz.pinned (OpenSpec.ofChange Rows.topCostsSpec):=
 OpenClaim.holds_of_wide 3 Tryz.f3 rfl rfl rfl rfl rfl rfl rfl ⟨rfl,rfl,rfl,rfl,rfl⟩ rfl rfl rfl rfl rfl named Tryz.func3 closed
  Ys aaa
  (fun os started H enc _=>lifted os started H enc)
theorem card:Rows.TopCostsCardSaid:=
 Claim7.holds_tied_plain_at .later [] [.data,.pinned] true (true,"daae70411c7369558de5b0ae4f0bb4717236295ec8a9f36955bada3812362b92") true over (fun _ h=>by cases h) XT (fun _ h=>by cases h) topCosts_row_tie rfl ⟨rfl,rfl⟩ XQ rfl
  (fun f fn hf hfn=>by
   obtain rfl:f=3:=fg (named.symm.trans hf)|>.symm
   obtain rfl:fn=Tryz.f3:=(fg (Tryz.func3.symm.trans hfn)).symm;exact⟨XP,fun j t ht=>by
    rw[Tryz.params3] at ht;have hm:t∈[25,26]:=by simpa using Xr ht
    exact(show Tryz.prog.wantsStandIn t=false by simpa using dT.1 XR t hm)⟩)
  XS
end topCosts
section
theorem topCosts_holds:Rows.TopCostsCardSaid:=topCosts.card
#print axioms topCosts_holds
end
end Go.Proofs.YtgimnjldndkalaaGreatDoor
