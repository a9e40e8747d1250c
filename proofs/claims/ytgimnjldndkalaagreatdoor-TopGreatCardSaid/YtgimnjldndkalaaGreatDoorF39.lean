/- 'TopGreat' returns true for every input, and each argument reads behind the call as it read before; the library's listed variables are tied to the program's text. Condition: none. -/
import Derived.Test.YtgimnjldndkalaaGreatDoorF2
import Derived.Test.YtgimnjldndkalaaGreatDoorF44
import Derived.Test.YtgimnjldndkalaaGreatDoorF38
set_option linter.all false
set_option maxRecDepth 100000
namespace Go.Proofs.YtgimnjldndkalaaGreatDoor
namespace topGreat
open Go.ChangeShapes Go.WideShapes Go.ChangeAt Go.RowKit
theorem own:ownKnob Tryz.prog.godebug=none:=by kernel_rfl
theorem laidOut:laidOutB Tryz.prog=true:=by kernel_rfl
def laid:List (String×DataW Unit):=[("unicode/utf8.acceptRanges",Rows.laid_unicode_utf8_acceptRanges),("unicode/utf8.first",Rows.laid_unicode_utf8_first)]
theorem lifted (os:Os) (started:os.Started) (H:Type) (enc:TypeId×Value→H):
  ReturnsInHanded {} Tryz.checked os 4 .any (fun w args=>(Rows.topGreatSpec.pre enc Tryz.prog Tryz.f4 [] false w args∧laidMetH Tryz.prog laid w)∧sizedMet enc Tryz.prog Tryz.f4 (OpenSpec.ofChange Rows.topGreatSpec) false w args)
   (Rows.topGreatSpec.post enc Tryz.prog Tryz.f4 false true false false):=by
 refine sP (C:=Tryz.checked) (X:=fun w _=>laidMetH Tryz.prog laid w) own started (by kernel_rfl) Tryz.func4
  (ChangeSpec.witness_shaped (enc:=enc) (C:=Tryz.checked) (os:=os) (X:=fun w _=>laidMetH Tryz.prog laid w) false (World.laidAll Tryz.prog os laid) #[.int .i64 0,.int .i64 0,.int .i64 0,.int .i64 0,.int .i64 0,.slice none 0 0] 8 (World.laidAll_os _ _ _)
   (World.shaped_of_ZipB (by kernel_rfl) (by kernel_rfl)) (by kernel_rfl) (by kernel_rfl) (by kernel_rfl)
   (by rw[MakeChecks.laidMetH_plain _ _ _ (by kernel_rfl)];exact laidMet_laidAll _ (by kernel_rfl) (by kernel_rfl))) ?_
 intro W base args ds gs before hval0 hW hshape;have hval: ∀(j:Nat) t v,Tryz.f4.params[j]? =some t→args[j]? =some v→Value.okWide Tryz.prog W .any base t v:=hval0;have hW':=hW;obtain⟨p,q,hA0,hV,rfl,hfz,hnd⟩:=hW;have hA:DataW.TrodAll enc Tryz.prog W 0 (fun _=>true) true Tryz.f4.params.toList args.toList ds p:=hA0;rw[Tryz.params4] at hA hval;obtain⟨v0,vs0,d0,ds0,p0,q0,hargs,rfl,rfl,h0,r0⟩:=trodAll_cons hA;obtain⟨v1,vs1,d1,ds1,p1,q1,rfl,rfl,rfl,h1,r1⟩:=trodAll_cons r0;obtain⟨v2,vs2,d2,ds2,p2,q2,rfl,rfl,rfl,h2,r2⟩:=trodAll_cons r1;obtain⟨v3,vs3,d3,ds3,p3,q3,rfl,rfl,rfl,h3,r3⟩:=trodAll_cons r2;obtain⟨v4,vs4,d4,ds4,p4,q4,rfl,rfl,rfl,h4,r4⟩:=trodAll_cons r3;obtain⟨v5,vs5,d5,ds5,p5,q5,rfl,rfl,rfl,h5,r5⟩:=trodAll_cons r4;obtain⟨rfl,rfl,rfl⟩:=trodAll_nil r5;obtain rfl:args= #[v0,v1,v2,v3,v4,v5]:=by cases args;simp_all
 obtain⟨rfl,rfl⟩:=trodVars_none hV;clear hA0 hval0 hA hargs;obtain⟨m,hm⟩:=IL hshape;obtain⟨a0,rfl,rfl,rfl,w0⟩:=open_int Tryz.underlying3 (hval 0 3 v0 rfl rfl) h0;have b0: -9223372036854775808≤a0∧a0≤9223372036854775807:=by simpa[Lit.wf,IntKind.min,IntKind.max,IntKind.signed,IntKind.bits] using w0
 obtain⟨a1,rfl,rfl,rfl,w1⟩:=open_int Tryz.underlying3 (hval 1 3 v1 rfl rfl) h1;have b1: -9223372036854775808≤a1∧a1≤9223372036854775807:=by simpa[Lit.wf,IntKind.min,IntKind.max,IntKind.signed,IntKind.bits] using w1
 obtain⟨a2,rfl,rfl,rfl,w2⟩:=open_int Tryz.underlying3 (hval 2 3 v2 rfl rfl) h2;have b2: -9223372036854775808≤a2∧a2≤9223372036854775807:=by simpa[Lit.wf,IntKind.min,IntKind.max,IntKind.signed,IntKind.bits] using w2
 obtain⟨a3,rfl,rfl,rfl,w3⟩:=open_int Tryz.underlying3 (hval 3 3 v3 rfl rfl) h3;have b3: -9223372036854775808≤a3∧a3≤9223372036854775807:=by simpa[Lit.wf,IntKind.min,IntKind.max,IntKind.signed,IntKind.bits] using w3
 obtain⟨a4,rfl,rfl,rfl,w4⟩:=open_int Tryz.underlying3 (hval 4 3 v4 rfl rfl) h4;have b4: -9223372036854775808≤a4∧a4≤9223372036854775807:=by simpa[Lit.wf,IntKind.min,IntKind.max,IntKind.signed,IntKind.bits] using w4
 have hk5:=h5;obtain⟨x5,hx5,hw5⟩:=Ef (hval 5 26 v5 rfl rfl) h5;have hlt5: ∀x∈p5,x.block <W.heap.size:=fun x hx=>hW'.lt x (by simp[hx]);refine(adk a0 a1 a2 a3 a4 v5 x5 m W b0 b1 b2 b3 b4 hx5 hm).mono fun e W' ⟨he,hb⟩=> ?_;subst he;refine⟨_,rfl,_,_,_,[],[]++([]++([]++([]++([]++(p5++[]))))),[],hW',?_,?_,rfl,hb.frame _,fun h=>by cases h⟩
 ·exact trodAll_cons_mk (shut_bool Tryz.underlying4 _) trodAll_mk0
 ·exact(trodAll_cons_mk (shut_int Tryz.underlying3 w0) (trodAll_cons_mk (shut_int Tryz.underlying3 w1) (trodAll_cons_mk (shut_int Tryz.underlying3 w2) (trodAll_cons_mk (shut_int Tryz.underlying3 w3) (trodAll_cons_mk (shut_int Tryz.underlying3 w4) (trodAll_cons_mk (Below.trod laidOut (by kernel_rfl) (of_decide_eq_true (by kernel_rfl)) hk5 hb hlt5) trodAll_mk0))))))
theorem over:Rows.topGreatRow.holds Tryz.pinned (OpenSpec.ofChange Rows.topGreatSpec):=
 OpenClaim.holds_of_wide 4 Tryz.f4 rfl rfl rfl rfl rfl rfl rfl ⟨rfl,rfl,rfl,rfl,rfl⟩ rfl rfl rfl rfl rfl named Tryz.func4 closed
  Ys aaa
  (fun os started H enc _=>lifted os started H enc)
theorem card:Rows.TopGreatCardSaid:=
 Claim7.holds_tied_plain_at .later [] [.data,.pinned] true (true,"daae70411c7369558de5b0ae4f0bb4717236295ec8a9f36955bada3812362b92") true over (fun _ h=>by cases h) XT (fun _ h=>by cases h) topGreat_row_tie rfl ⟨rfl,rfl⟩ XQ rfl
  (fun f fn hf hfn=>by
   obtain rfl:f=4:=fg (named.symm.trans hf)|>.symm
   obtain rfl:fn=Tryz.f4:=(fg (Tryz.func4.symm.trans hfn)).symm;exact⟨XP,fun j t ht=>by
    rw[Tryz.params4] at ht;have hm:t∈[3,3,3,3,3,26]:=by simpa using Xr ht
    exact(show Tryz.prog.wantsStandIn t=false by simpa using dT.1 XR t hm)⟩)
  XS
end topGreat
section
theorem topGreat_holds:Rows.TopGreatCardSaid:=topGreat.card
#print axioms topGreat_holds
end
end Go.Proofs.YtgimnjldndkalaaGreatDoor
