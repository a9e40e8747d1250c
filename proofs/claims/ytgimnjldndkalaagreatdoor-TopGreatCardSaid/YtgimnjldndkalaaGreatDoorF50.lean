/- Of the proof of TopGreat: A customer that is in no plan is put in. -/
import Derived.Test.YtgimnjldndkalaaGreatDoorF49
import Derived.Test.YtgimnjldndkalaaGreatDoorF29
set_option linter.all false
set_option maxHeartbeats 2000000
set_option maxRecDepth 100000
namespace Go.Proofs.YtgimnjldndkalaaGreatDoor
variable {c1 c2 g o:Nat} {A2:Option Addr} {W W' w:World}
section
open Go.Proofs.Tryz
open Go.RowKit jm ko Et kN J8
theorem kd (w:World) (g i:Nat) (v:Value):w.grownBy (w.setCell ⟨g,i,none⟩ v) (some g):=
 ⟨rfl,rfl,rfl,by simp[World.setCell],fun b _ hne=>heap_setCell_other w ⟨g,i,none⟩ b v fun e=>hne (by rw[e])⟩
theorem afu {lb g cap n:Nat} {e:TypeId} {w:World} {xs:List Value} (h:w.ownsRow lb e 1 (.slice (some ⟨g,0,none⟩) n cap) n xs) (i:Nat) (u:Value):
  (w.setCell ⟨g,i,none⟩ u).ownsRow lb e 1 (.slice (some ⟨g,0,none⟩) n cap) n (xs.set i u):=by
 refine⟨by rw[jt];exact h.1,?_⟩
 rcases h.2 with ⟨he,-⟩|⟨g',cap',cur,he,hb,hg,hn,hm,hs,ht⟩
 ·cases he
 ·cases he;have hB:fc w g e cur.toList:=by unfold fc;simpa using hg
  have hB2:=hB.gH i u;refine .inr ⟨g,cap,(cur.toList.set i u).toArray,rfl,hb,hB2,hn,hm,by simpa using hs,?_⟩;rw[←ht,Vg]
theorem OD.put {lb g cap n:Nat} {w:World} {p:Pl} (h:OD lb w (.slice (some ⟨g,0,none⟩) n cap) p) (hn:n=p.length) {i:Nat} {tv:Value} {d:Dy} (hd:OT lb w tv d):
  OD lb (w.setCell ⟨g,i,none⟩ tv) (.slice (some ⟨g,0,none⟩) n cap) (p.set i d):=by
 subst hn;obtain⟨css,h1,h2,h3,h4⟩:=h;have hfl: ∀css:List (List Value),(∀cs∈css,cs.length=1)→(css.set i [tv]).flatten=css.flatten.set i tv:=by
  intro css
  induction css generalizing i with
  |nil=>intro _;rfl
  |cons a css ih=>
   intro hl;have ha:=hl a (.head _);obtain⟨y,rfl⟩: ∃y,a=[y]:=by
    match a,ha with
    | [y],_=>exact⟨y,rfl⟩
   cases i with
   |zero=>rfl
   |succ i=>
    show [y]++(css.set i [tv]).flatten=[y]++(css.flatten.set i tv);rw[ih fun cs hcs=>hl cs (.tail _ hcs)]
 have hlb:lb≤g:=(iB h3 g rfl).1
 rcases id h3.2 with ⟨e,-⟩|⟨g',cap',cur,e,hb,hg,-⟩
 ·cases e
 ·cases e;have hB:fc w g 39 cur.toList:=by unfold fc;simpa using hg
  have hk:kQ 39 lb w (w.setCell ⟨g,i,none⟩ tv):=kQ.MD (kd w g i tv) hB hlb;refine⟨css.set i [tv],by rw[jt,jt,h1],fun cs hcs=> ?_,by rw[hfl css h2,jt];exact afu h3 i tv,fun j y cs hx hc=> ?_⟩
  ·rcases lU hcs with h|h
   ·exact h2 cs h
   ·rw[h];rfl
  ·rw[xz] at hx hc;by_cases hij:i=j
   ·subst hij;rw[if_pos rfl] at hx hc;split at hx
    ·cases hx;split at hc
     ·cases hc;exact⟨tv,rfl,tT.keep hd hk (by decide) (by decide)⟩
     ·cases hc
    ·cases hx
   ·rw[if_neg hij] at hx hc;exact si.keep (h4 j y cs hx hc) hk (by decide) (by decide)
theorem OD.ig {lb n cap:Nat} {A:Option Addr} {w:World} {p:Pl} (h:OD lb w (.slice A n cap) p) (h0:0 <p.length): ∃g cur,A=some ⟨g,0,none⟩∧lb≤g∧n=p.length∧fc w g 39 cur∧p.length≤cur.length:=by
 obtain⟨xs,hx⟩:=OL.own h
 rcases hx.2 with ⟨-,e⟩|⟨g,cap',cur,e,hb,hg,hn,-,hs,-⟩
 ·omega
 ·cases e;exact⟨g,cur.toList,rfl,hb,rfl,by unfold fc;simpa using hg,by simp;omega⟩
theorem aej: ∀(q:List Int) (k:Nat),(mx k q).Pairwise (fun u v=>u.1 <v.1)
 | [],k=>List.Pairwise.nil
 |z::q,k=>by
  rw[mx];refine afW.2 ⟨by split <;>simp,aej q (k+1),fun u hu v hv=> ?_⟩;obtain⟨d,h1,-⟩:=tg hv;split at hu
  ·cases nw.1 hu;rw[h1];show(k:Int) <((k+1+d:Nat):Int);omega
  ·cases hu
theorem afv {q:List Int} {j:Nat} {v:Int×Int} (h:(gg q)[j]? =some v): ∃d:Nat,v.1=(d:Int)∧d <q.length∧(PC (List.replicate q.length []) ((gg q).take j))[d]? =some []:=by
 obtain⟨d,h1,h2,-⟩:=tg (a8 h);rw[gW] at h1;refine⟨d,h1,h2,?_⟩;rw[ae8 _ d fun u hu=> ?_,rW,if_pos h2];obtain⟨i,hi⟩:=afV hu;rw[eU] at hi;split at hi
 ·rename_i hij;obtain⟨d',h3,-⟩:=tg (a8 hi);obtain⟨hl1,e1⟩:=bX.1 hi;obtain⟨hl2,e2⟩:=bX.1 h;have:=wW.1 (aej q 0) i j hl1 hl2 hij;have e1':(mx 0 q)[i]=u:=e1;have e2':(mx 0 q)[j]=v:=e2;rw[e1',e2'] at this;rw[←h1];omega
 ·cases hi
section
variable {x:fS} {c:kc} {a b:Int} (hx:iF x c a b) (g o:Nat) (c1:Nat) (A2:Option Addr) (c2:Nat) (dm:Int) (A0:Option Addr) (n0 c0:Nat)
include hx
theorem aez (dv:Value) (n:Nat) (w:World) (hm:qk w g o dm A0 n0 c0 c) (hr:iz w (.agg (xC x (some ⟨g,o,none⟩) c1 A2 c2).toArray) x) (hn:x.days=n) (hp:jP w dv (List.replicate n [])):
  Calls Tryz.prog 278 #[.agg (xC x (some ⟨g,o,none⟩) c1 A2 c2).toArray,.agg #[dv],.int .i64 0] w fun e w'=>
   ∃A m cp ok,e= .returned (.tuple #[.agg #[.slice A m cp],.bool ok])∧(ok=true→ ∃q,qn x.days c.size c.start q∧OD w.heap.size w' (.slice A m cp) (ep q))∧Below w.heap.size w w':=by
 have hdd:=hx.hd;have hst:=hx.start;have hct:=hx.ct;have hn64:1≤n∧n≤64:=by omega
 have HPR:=jA fun W h1 h2 h3=>adu hx g o c1 A2 c2 dm A0 n0 c0 dv n W h1 h2 hn64.2 h3;have HA:=jA fun pv l W h=>abR dm A0 n0 c0 c.size c.start c.hold n x.cap pv l W hct.2.2.2.1 hst (by omega) hn64 h;have HCL:=jA fun W (h:jP W dv (List.replicate n []))=>acp (.agg #[dv]) (List.replicate n []) W ⟨dv,rfl,h⟩ ⟨by rw[Xt];omega,(fun d hd=>by rw[Vf hd];decide),fun d hd t ht=>by rw[Vf hd] at ht;cases ht⟩;have HIN:=jA fun Ad cd q W h1 h2=>vK x (some ⟨g,o,none⟩) c1 A2 c2 Ad cd [] 0 q W h1 hx.ok h2 (jS.jL _ _) (fun t h=>by cases h);have HQ:Hid (∀q:List Int,q.length=n→pX 1 c.size c.start q=0→qn x.days c.size c.start q):=jA fun q h1 h2=>⟨by rw[h1,hn],h2⟩;have HP:=jA hp;have HR:=jA hr;have HM:=jA hm;have HL:=jA hx.len;have HN:=jA hn;obtain⟨Ap,cp,rfl,-⟩:=hp.open_;rw[Xt] at HP HPR HCL;rw[Xt];clear hp hr hm hdd hst hct hn;obtain⟨W,hW,⟨bx,bp,br,-⟩,hb,hsz⟩:=sk w [(25,xC x (some ⟨g,o,none⟩) c1 A2 c2),(30,[.slice Ap n cp]),(30,[.slice none 0 0])];simp only[Hk] at hW;obtain⟨k0,k1,k2,k3,k4,k5,-⟩:=bx.iY;have p0:=bp.c 0;have hlx:=bx.lt;have hlp:=bp.lt;obtain⟨hgl,y0,y1,y2,y3,y4,y5,y6,y7⟩:=HM.out.below hb (ij _);have hl1:(0:Int) <x.eB.length:=by rw[HL.out];decide
 have hl2:0 <x.eB.length:=by rw[HL.out];decide
 go_enter Tryz.func278,Tryz.ntmps278;go_upto_region 1 with fail
 clear hW hsz;refine rB [] fun hS=> ?_;refine tk 0 hS ?_;refine tk 1 hS ?_;refine tk 2 hS ?_;refine tk 3 hS ?_;refine tk 4 hS ?_;refine tk 5 hS ?_;refine tk 6 hS ?_;refine tk 7 hS ?_;refine tk 8 hS ?_;refine tk 9 hS ?_;refine tk 10 hS ?_;refine tk 11 hS ?_;refine tO 12 fun K hK=> ?_;go_simp;have hbS:=hb.trans (hS.mono hb.size);refine(HPR.out _ (HM.out.below hbS (ij _)) (HR.out.below hbS (ij _)) (HP.out.below hbS (ij _))).mono ?_;rintro e w2 ⟨lv,l,rfl,hli,hb2⟩;have HLI:=jA hli;obtain⟨Al,cl,rfl,-⟩:=hli.open_;have hS:=hS.trans (hb2.mono hS.size);clear hli hb2 hbS;refine hK.out _ _ (hS) ?_;clear hK K;refine tO 13 fun K hK=> ?_;go_simp;rw[HN.out];refine(HA.out _ l _ HLI.out).mono ?_;rintro e w3 ⟨lv,q,rfl,hql,hqe,hov,hb3⟩;have HQ2:=jA (HQ.out q hql hqe);have HQL:=jA hql;have HOV:=jA hov.reads;obtain⟨Av,cv,rfl,-⟩:=hov.slice;have hS:=hS.trans (hb3.mono hS.size);clear hov hb3 hql hqe;rw[←HN.out];refine hK.out _ _ (hS) ?_;clear hK K;refine tk 14 hS ?_;refine tk 15 hS ?_;refine tk 16 hS ?_;refine tk 17 hS ?_;refine tk 18 hS ?_;refine tD ?_;have bx3:=bx.below hS hlx;have bp3:=bp.below hS hlp;have br3:=br.below hS br.lt;have hb3:=hb.trans (hS.mono hb.size);have p3:=bp3.c 0;have hlp3:=bp3.lt;clear k0 k1 k2 k3 k4 k5 p0 hlx hlp hgl y0 y1 y2 y3 y4 y5 y6 y7 hl1 hl2 hS hb bx bp br;go_wp2_with fail;refine(HCL.out w3 (HP.out.below hb3 (ij _))).mono ?_;rintro e w4 ⟨v',rfl,⟨dq,rfl,hod⟩,hb4⟩;have HOD:=jA (show OD w3.heap.size w4 dq (List.replicate n []) from hod);obtain⟨gD,cur,rfl,hgD,hn0,-,-⟩: ∃gD cur,dq= .slice (some ⟨gD,0,none⟩) n cur∧w3.heap.size≤gD∧True∧True∧True:=by obtain⟨A,cc,rfl,-⟩:=OD.slice HOD.out;obtain⟨gD,cur,rfl,h1,-⟩:=OD.ig HOD.out (by rw[Xt];omega);rw[Xt];exact⟨gD,cc,rfl,h1,trivial,trivial,trivial⟩
 have bx4:=bx3.below hb4 bx3.lt;have br4:=br3.below hb4 br3.lt;have hs4:=hb4.size;clear hod p3 hlp3;go_upto_region 5 with fail
 obtain⟨gq,hgq⟩: ∃k,k=w4.heap.size:=⟨_,rfl⟩;have hba:=bL (bS w4.heap.size w4) (.cells #[.slice (some ⟨gD,0,none⟩) n cur] 30);have bq5:=fc.new w4 30 [.slice (some ⟨gD,0,none⟩) n cur];have HO5:=jA (ft.below HOD.out hba (ij _));have hb5:=hb4.trans (hba.mono hs4);rw[←hgq] at bq5⊢;have hq5:w3.heap.size≤gq:=by omega
 clear HOD hba bx4 br4 hb4 hgq hs4;revert bq5 HO5 hb5;generalize w4.alloc (.cells #[.slice (some ⟨gD,0,none⟩) n cur] 30)=w5;intro bq5 HO5 hb5;have HVM:=jA fun j v=>afv (q:=q) (j:=j) (v:=v);have HEND:=jA (aeE q);have HVL:Hid ((gg q).length≤64):=jA (by have:=px q 0;have:=HQL.out;unfold gg;omega);rw[HQL.out] at HVM HEND;obtain⟨V,hV⟩: ∃V,gg q=V:=⟨_,rfl⟩;rw[hV] at HVM HEND HVL HOV⊢;clear hV;go_wp2_with fail;go_loopw [40] (fun iv wr=> ∃(j:Nat),j≤V.length∧iv= .int .i64 j∧fc wr gq 30 [.slice (some ⟨gD,0,none⟩) n cur]∧Hid (OD w3.heap.size wr (.slice (some ⟨gD,0,none⟩) n cur) (PC (List.replicate n []) (V.take j)))∧Below w3.heap.size w3 wr) (fun iv _=>V.length - (intOf iv).toNat)
 case atStart=>exact⟨0,eC _,rfl,bq5,HO5,hb5⟩
 case round=>
  clear bq5 HO5 hb5;obtain⟨j,hj,rfl,bq,HO,hb⟩:=hrel;have bx:=bx3.below hb bx3.lt;have br:=br3.below hb br3.lt;have hbw:=hb3.trans (hb.mono hb3.size);obtain⟨k0,k1,k2,k3,k4,k5,-⟩:=bx.iY;have q0:=bq.c 0;have hlx:=bx.lt;have hlq:=bq.lt;by_cases hlt:j <V.length
  ·obtain⟨v,hv⟩:=ec hlt;obtain⟨d,hvd,hdn,hpd⟩:=HVM.out j v hv;obtain⟨A,c',e,-,-,hc⟩:=fQ.open_ (fQ.below HOV.out hb (ij _));cases e;obtain⟨bv,ov,rfl,hbl,y0,y1⟩:=hc j v hv;rw[hvd] at y0;have HSN:=jA (aeF (List.replicate n []) (V.take j) v);have HTK:=jA (iC hv);have HVD:=jA hvd;have HPD:=jA hpd;clear hc hv hvd hpd;go_upto_region 9 with fail
   obtain⟨w6,hw6,⟨bv6,bs6,-⟩,hb6,-⟩:=sk wr [(86,[.int .i64 (d:Int),.int .i64 v.2]),(84,[.int .i64 0,.int .i64 v.2])];simp only[Hk] at hw6;rw[hw6];obtain⟨e1,he1⟩: ∃k,k=wr.heap.size:=⟨_,rfl⟩;rw[←he1] at bv6 bs6⊢;have bx6:=bx.below hb6 hlx;have bq6:=bq.below hb6 hlq;have HO6:=jA (ft.below HO.out hb6 (ij _));have hb7:=hb.trans (hb6.mono hb.size);have hbw6:=hb3.trans (hb7.mono hb3.size);clear hw6 he1 hb6 bx bq HO hb hbw k0 k1 k2 k3 k4 k5 q0 hlx hlq y0 y1 hbl br;obtain⟨A,c',e,-,-,hc⟩:=jP.open_ (OD.reads HO6.out);have hpl:(PC (List.replicate n []) (V.take j)).length=n:=by rw[ae9,Xt]
   rw[hpl] at e;cases e;obtain⟨gd,od,e,hgl,tv,htv,y0⟩:=hc d [] HPD.out;cases e;have HTV:=jA htv;obtain⟨At,ct,rfl,-⟩:=htv.open_;rw[gW] at y0;have HPL:=jA hpl;clear hc htv hpl;obtain⟨k0,k1,k2,k3,k4,k5,-⟩:=bx6.iY;have hlx:=bx6.lt;have q0:=bq6.c 0;have hlq:=bq6.lt;have s0:=bs6.c 0;have s1:=bs6.c 1;have hls:=bs6.lt;have v0:=bv6.c 0;have v1:=bv6.c 1;have hlv:=bv6.lt;have hdn2:(d:Int) <n:=by omega
   go_cut [14,15] from 48 to 59 (fun pv bv wc=> ∃gE Ae ce d' ok,pv= .pointer (some ⟨gE,0,none⟩)∧bv= .bool ok∧fc wc gE 39 [.slice Ae (List.length d') ce]∧w6.heap.size≤gE∧Hid (OT w6.heap.size wc (.slice Ae (List.length d') ce) d')∧Hid (ok=true→d'=[[(0,v.2)]])∧Below w6.heap.size w6 wc)
   case first=>
    refine rB [] fun hS=> ?_;refine tk 0 hS ?_;refine tk 1 hS ?_;refine tk 2 hS ?_;refine tk 3 hS ?_;refine tk 4 hS ?_;refine tk 5 hS ?_;refine tk 6 hS ?_;refine tk 7 hS ?_;try simp only[Act.put,gK,fJ,fI]
    refine mL 8 12 rfl rfl rfl rfl (by kernel_rfl) (fun K hK=> ?_) (fun K hK=> ?_)
    ·go_simp;refine(HIN.out At ct v.2 _ (HR.out.below (hbw6.trans (hS.mono hbw6.size)) (ij _)) (iK.below HTV.out hS (ij _))).mono ?_;rintro e w7 ⟨dv',d',ok,rfl,hot5,-,hne5,hb5⟩;obtain⟨Ae,ce,rfl,-⟩:=hot5.slice;replace hot5:=hot5.mono hS.size;have HNE:=jA (show ok=true→d'=[[(0,v.2)]] from fun h=>(hne5.2 h).2 (by first|rfl|trivial));have hS:=hS.trans (hb5.mono hS.size);have hw5:=hS.size;refine hK.out _ _ (hS) ?_;clear hK K;refine tk 9 hS ?_;refine tk 10 hS ?_;refine tk 11 hS ?_;refine tO 12 fun K hK=> ?_;go_simp;have b6:=fc.new w7 39 [.slice none 0 0];have h6:=hS.alloc hS.size (.cells [.slice none 0 0].toArray 39);replace hot5:=hot5.alloc (.cells [.slice none 0 0].toArray 39);have hS:=h6;refine hK.out _ _ (h6) ?_;clear hK K;refine tO 13 fun K hK=> ?_;refine gY _ 39 (.tmp 14) (.tmp 58) rfl w7.heap.size 39 [.slice none 0 0] [.slice Ae d'.length ce] b6 rfl rfl qw rfl rfl ?_;intro w9 b9 hg9 hz9;have hk9:=kQ.MD (base:=w6.heap.size) hg9 b6 (hw5);have hS:=hS.trans (hk9.below hS.size);refine hK.out _ _ (hS) ?_;clear hK K;refine tk 14 hS ?_;refine tD ?_;go_wp2_with fail;go_meet;exact⟨_,Ae,ce,d',ok,rfl,rfl,b9,hw5,jA (hot5.keep hk9 (by decide) (by decide)),HNE,hS⟩
    ·go_simp;have b6:=fc.new w6.drew 39 [.slice none 0 0];have h6:=hS.alloc hS.size (.cells [.slice none 0 0].toArray 39);refine hK.out _ _ (h6) ?_;clear hK K;have hS:=h6;refine tO 8 fun K hK=> ?_;go_simp;refine(HIN.out At ct v.2 _ (HR.out.below (hbw6.trans (hS.mono hbw6.size)) (ij _)) (iK.below HTV.out hS (ij _))).mono ?_;rintro e w7 ⟨dv',d',ok,rfl,hot5,-,hne5,hb5⟩;obtain⟨Ae,ce,rfl,-⟩:=hot5.slice;replace hot5:=hot5.mono hS.size;have HNE:=jA (show ok=true→d'=[[(0,v.2)]] from fun h=>(hne5.2 h).2 (by first|rfl|trivial));have hS:=hS.trans (hb5.mono hS.size);have hw5:=hS.size;refine hK.out _ _ (hS) ?_;clear hK K;refine tk 9 hS ?_;refine tk 10 hS ?_;refine tk 11 hS ?_;replace b6:=b6.below hb5 b6.lt;refine tO 13 fun K hK=> ?_;refine gY _ 39 (.tmp 14) (.tmp 58) rfl w6.heap.size 39 [.slice none 0 0] [.slice Ae d'.length ce] b6 rfl rfl qw rfl rfl ?_;intro w9 b9 hg9 hz9;have hk9:=kQ.MD (base:=w6.heap.size) hg9 b6 (ij _);have hS:=hS.trans (hk9.below hS.size);refine hK.out _ _ (hS) ?_;clear hK K;refine tk 14 hS ?_;refine tD ?_;go_wp2_with fail;go_meet;exact⟨_,Ae,ce,d',ok,rfl,rfl,b9,ij _,jA (hot5.keep hk9 (by decide) (by decide)),HNE,hS⟩
   case rest=>
    obtain⟨gE,Ae,ce,d',ok,rfl,rfl,b9,hgE,HOT,HNE,hbc⟩:=hcut;have bqc:=bq6.below hbc hlq;have bvc:=bv6.below hbc hlv;have HOc:=jA (ft.below HO6.out hbc (ij _));have hb8:=hb7.trans (hbc.mono hb7.size);have hs6:=hb7.size;have brc:=br3.below hb8 br3.lt;have hbw8:=hb3.trans (hb8.mono hb3.size);clear k0 k1 k2 k3 k4 k5 hlx q0 hlq s0 s1 hls v0 v1 hlv y0 hgl bq6 bv6 HO6 hb7 hbw6 HTV;cases ok with
    |false=>
     have r0:=brc.c 0;have fr:=brc.frozen 0;have hlr:=brc.lt;go_wp2_with fail;refine bodyPost_ret (iw rfl _ _ (w.heap.size+1+1) 30 [.slice none 0 0] _ (.bool false) rfl rfl (brc.gH 0 _) Tryz.underlying30 rfl gB) rfl ⟨_,_,_,_,rfl,(fun h=>by cases h),hbw8.setCell (p:=⟨w.heap.size+1+1,0,none⟩) (by show w.heap.size≤w.heap.size+1+1;omega) _⟩
    |true=>
     have hVL:=HVL.out;obtain rfl:=HNE.out rfl;obtain⟨gD',cur',e,hlD,-,bD,hcur⟩:=OD.ig HOc.out (by rw[HPL.out];omega);cases e;rw[HPL.out] at hcur;obtain⟨u,hu⟩:=ec (show d <cur'.length by omega);have yD:wc.cell? ⟨gD,d,none⟩=some u:=by rw[bD.cell];exact hu
     have fD:=bD.frozen d;have lD:=bD.lt;have q0:=bqc.c 0;have hlq:=bqc.lt;have v0:=bvc.c 0;have hlv:=bvc.lt;have t0:=b9.c 0;have hlE:=b9.lt;have hne:gq≠gD:=fun e=>by subst e;have h1:=bqc;have h2:=bD;unfold fc at h1 h2;rw[h1] at h2;cases h2
     clear hu hcur;go_wp2_with fail;go_roundw
     case rel=>refine⟨j+1,hlt,by go_num,bqc.kj (p:=⟨gD,d,none⟩) (by exact hne) _,jA ?_,hb8.setCell (p:=⟨gD,d,none⟩) hlD _⟩;rw[HTK.out,HSN.out,HVD.out,gu];exact OD.put HOc.out HPL.out.symm (HOT.out.mono hs6)
     case measure=>exact mI
  ·obtain rfl:j=V.length:=by omega
   have r0:=br.c 0;have fr:=br.frozen 0;have hlr:=br.lt;rw[gh,HEND.out] at HO;go_wp2_with fail;refine bodyPost_ret (iw rfl _ _ (w.heap.size+1+1) 30 [.slice (some ⟨gD,0,none⟩) n cur] _ (.bool true) rfl rfl (br.gH 0 _) Tryz.underlying30 rfl gB) rfl ⟨_,_,_,_,rfl,(fun _=>⟨q,HQ2.out,(ft.fG (q:=⟨w.heap.size+1+1,0,none⟩) HO.out (by have:=br3.lt;exact this) _).mono hb3.size⟩),hbw.setCell (p:=⟨w.heap.size+1+1,0,none⟩) (by show w.heap.size≤w.heap.size+1+1;omega) _⟩
end
end
section
open Go.Proofs.Tryz
open Go.RowKit jm ko Et kN J8
theorem adz {q:List Int} (hq: ∀z∈q,0≤z∧z≤2147483648):(∀d∈ep q,d.length≤6)∧ ∀d∈ep q,∀t∈d,t.length≤8:=by
 have h: ∀d∈ep q,d.length≤6∧ ∀t∈d,t.length≤8:=fun d hd=>by
  obtain⟨z,-,rfl⟩:=cy.1 hd;unfold ic;split
  ·exact⟨by simp,fun t ht=>by cases nw.1 ht;simp⟩
  ·exact⟨by simp,fun t ht=>by cases ht⟩
 exact⟨fun d hd=>(h d hd).1,fun d hd=>(h d hd).2⟩
structure AnS (x:fS) (A1:Option Addr) (c1:Nat) (A2:Option Addr) (c2:Nat) (w:World) (dv dq:Value) (W:World):Prop where
 bx:fc W w.heap.size 25 (xC x A1 c1 A2 c2)
 bp:fc W (w.heap.size+1) 30 [dv]
 br:fc W (w.heap.size+1+1) 30 [.slice none 0 0]
 bq:fc W (w.heap.size+1+1+1) 30 [dq]
 bl:Below w.heap.size w W
theorem AnS.below {x:fS} {A1:Option Addr} {c1:Nat} {A2:Option Addr} {c2:Nat} {w W W':World} {dv dq:Value} (h:AnS x A1 c1 A2 c2 w dv dq W) (hb:Below W.heap.size W W'):AnS x A1 c1 A2 c2 w dv dq W':=
 ⟨h.bx.below hb h.bx.lt,h.bp.below hb h.bp.lt,h.br.below hb h.br.lt,h.bq.below hb h.bq.lt,h.bl.trans (hb.mono h.bl.size)⟩
theorem AnS.put {x:fS} {A1:Option Addr} {c1:Nat} {A2:Option Addr} {c2:Nat} {w W:World} {dv dq:Value} (h:AnS x A1 c1 A2 c2 w dv dq W) (u:Value):AnS x A1 c1 A2 c2 w dv u (W.setCell ⟨w.heap.size+1+1+1,0,none⟩ u):=
 ⟨h.bx.kj (p:=⟨w.heap.size+1+1+1,0,none⟩) (by show w.heap.size≠w.heap.size+1+1+1;omega) _,h.bp.kj (p:=⟨w.heap.size+1+1+1,0,none⟩) (by show w.heap.size+1≠w.heap.size+1+1+1;omega) _,h.br.kj (p:=⟨w.heap.size+1+1+1,0,none⟩) (by show w.heap.size+1+1≠w.heap.size+1+1+1;omega) _,h.bq.gH 0 u,h.bl.setCell (p:=⟨w.heap.size+1+1+1,0,none⟩) (by show w.heap.size≤w.heap.size+1+1+1;omega) _⟩
section
variable {x:fS} {c:kc} {a b:Int} (hx:iF x c a b) (g o:Nat) (c1:Nat) (A2:Option Addr) (c2:Nat) (dm:Int) (A0:Option Addr) (n0 c0:Nat)
include hx
theorem vx (dv:Value) (q:List Int) (w:World) (hq:qn x.days c.size c.start q) (hp:jP w dv (ep q)):
  Calls Tryz.prog 176 #[.agg #[dv]] w fun e w'=> ∃A m cp,e= .returned (.agg #[.slice A m cp])∧OD w.heap.size w' (.slice A m cp) (ep q)∧Below w.heap.size w w':=by
 obtain⟨h1,h2⟩:=adz hq.bd;refine(acp (.agg #[dv]) (ep q) w ⟨dv,rfl,hp⟩ ⟨by rw[o5];have:=hq.len;have:=hx.hd;omega,h1,h2⟩).mono ?_;rintro e w4 ⟨v',rfl,⟨dq,rfl,hod⟩,hb4⟩;have hod':OD w.heap.size w4 dq (ep q):=hod;obtain⟨A,cc,rfl,-⟩:=OD.slice hod';exact⟨_,_,_,rfl,hod',hb4⟩
theorem iF.aeY {dv:Value} {q:List Int} {w:World} (hq:qn x.days c.size c.start q) (hp:jP w dv (ep q)):tj x.eB.length w dv (ep q):=
 ⟨hp,by rw[o5];have:=hq.len;have:=hx.hd;omega,fun d hd=>by obtain⟨h1,h2⟩:=ady hq.bd d hd;rw[hx.len];exact⟨h1.1,eZ h1.2 (by decide)⟩⟩
theorem aeQ (dv:Value) (q0':List Int) (gc:Nat) (w:World) (hm:qk w g o dm A0 n0 c0 c) (hr:iz w (.agg (xC x (some ⟨g,o,none⟩) c1 A2 c2).toArray) x) (hq:qn x.days c.size c.start q0') (hp:jP w dv (ep q0')) (hc:w.cell? ⟨gc,0,none⟩=some (.int .i64 0)):
  Calls Tryz.prog 244 #[.agg (xC x (some ⟨g,o,none⟩) c1 A2 c2).toArray,.agg #[dv],.slice (some ⟨gc,0,none⟩) 1 1] w fun e w'=>
   ∃A m cp ok q,e= .returned (.tuple #[.agg #[.slice A m cp],.bool ok])∧qn x.days c.size c.start q∧OD w.heap.size w' (.slice A m cp) (ep q)∧Below w.heap.size w w':=by
 have hdd:=hx.hd;obtain⟨n,hn⟩: ∃n:Nat,x.days=n:=⟨x.days.toNat,by omega⟩;have hqn:q0'.length=n:=by have:=hq.len;omega
 have HTH:=jA fun W=>acZ hx (some ⟨g,o,none⟩) c1 A2 c2 W;have HCL:=jA fun W h=>vx hx dv q0' W hq h;have HWI:=jA fun W h=>adK hx dv q0' W hq h;have HPU:=jA fun dq W h1 h2 h3=>aez hx g o c1 A2 c2 dm A0 n0 c0 dq n W h1 h2 hn h3;have HOP:=jA fun dq q W h1 h2 h3=>aew hx (some ⟨g,o,none⟩) c1 A2 c2 dq q W h1 h2 h3;have HCO:=jA fun dq p W h1 h2=>Cz hx.ok (.agg (xC x (some ⟨g,o,none⟩) c1 A2 c2).toArray) dq p W h1 h2;have HLQ:=jA fun dq q W h1 h2=>iF.aeY hx (dv:=dq) (q:=q) (w:=W) h1 h2;have HQ0:=jA hq;have HP:=jA hp;have HR:=jA hr;have HM:=jA hm;rw[hqn] at HWI;obtain⟨Ap,cp,rfl,-⟩:=hp.open_;have HLP:=jA fun W h=>iF.aeY hx (dv:= .slice Ap (ep q0').length cp) (q:=q0') (w:=W) hq h;obtain⟨P,hP⟩: ∃P,ep q0'=P:=⟨_,rfl⟩;rw[hP] at HP HCL HWI HLP⊢;have HPE:=jA hP;have hgc:=aag w _ hc;clear hm hr hq hdd hn hqn hp hP;obtain⟨W,hW,⟨bx,bp,br,bq,-⟩,hb,-⟩:=sk w [(25,xC x (some ⟨g,o,none⟩) c1 A2 c2),(30,[.slice Ap P.length cp]),(30,[.slice none 0 0]),(30,[.slice Ap P.length cp])];simp only[Hk] at hW;have AN:=jA (show AnS x (some ⟨g,o,none⟩) c1 A2 c2 w (.slice Ap P.length cp) (.slice Ap P.length cp) W from⟨bx,bp,br,bq,hb⟩);clear bx bp br bq hb;go_enter Tryz.func244,Tryz.ntmps244;go_upto_region 2 with fail
 clear hW;have c0':=a7 AN.out.bl (ij _) hc;have hgcW:=aag W _ c0';have h01:(0:Int) <1:=by decide
 go_wp2_with fail;clear c0' hgcW
 go_loopw [17] (fun iv wr=> ∃i:Nat,i≤1∧iv= .int .i64 i∧Hid (i=0→wr=W)∧Hid (i=1→ ∃A m cq,AnS x (some ⟨g,o,none⟩) c1 A2 c2 w (.slice Ap P.length cp) (.slice A m cq) wr∧jP wr (.slice A m cq) (List.replicate n []))) (fun iv _=>1 - (intOf iv).toNat)
 case atStart=>exact⟨0,by omega,rfl,jA fun _=>rfl,jA fun h=>by omega⟩
 case round=>
  obtain⟨i,hi,rfl,hw,hO⟩:=hrel;obtain rfl|rfl:i=0∨i=1:=by omega
  ·obtain rfl:=hw.out (by omega);have c0':=a7 AN.out.bl (ij _) hc;have hgcW:=aag wr _ c0';obtain⟨k0,k1,k2,k3,k4,k5,-⟩:=AN.out.bx.iY;have p0:=AN.out.bp.c 0;have r0:=AN.out.br.c 0;have q0:=AN.out.bq.c 0;have fr:=AN.out.br.frozen 0;have fq:=AN.out.bq.frozen 0;have hlx:=AN.out.bx.lt;have hlp:=AN.out.bp.lt;have hlr:=AN.out.br.lt;have hlq:=AN.out.bq.lt;clear hw hO;go_wp2_with fail;refine(HTH.out wr).mono ?_;rintro e w2 ⟨rfl,hb2⟩;have A2':=jA (AN.out.below hb2);clear k0 k1 k2 k3 k4 k5 p0 r0 q0 fr fq hlx hlp hlr hlq;clear c0' hgcW;obtain⟨k0,k1,k2,k3,k4,k5,-⟩:=A2'.out.bx.iY;have p0:=A2'.out.bp.c 0;have r0:=A2'.out.br.c 0;have q0:=A2'.out.bq.c 0;have fr:=A2'.out.br.frozen 0;have fq:=A2'.out.bq.frozen 0;have hlx:=A2'.out.bx.lt;have hlp:=A2'.out.bp.lt;have hlr:=A2'.out.br.lt;have hlq:=A2'.out.bq.lt;go_wp2_with fail;refine(HWI.out w2 (HP.out.below A2'.out.bl (ij _))).mono ?_;rintro e w3 ⟨dq,rfl,hod,hb3⟩;have A3:=jA (A2'.out.below hb3);have HOD:=jA (OD.reads hod);obtain⟨Aq,cq,rfl,-⟩:=OD.slice hod;have hl3:=A2'.out.bq.lt;have HOD2:=jA hod;rw[Xt] at HOD2;clear hod;clear k0 k1 k2 k3 k4 k5 p0 r0 q0 fr fq hlx hlp hlr hlq;obtain⟨k0,k1,k2,k3,k4,k5,-⟩:=A3.out.bx.iY;have p0:=A3.out.bp.c 0;have r0:=A3.out.br.c 0;have q0:=A3.out.bq.c 0;have fr:=A3.out.br.frozen 0;have fq:=A3.out.bq.frozen 0;have hlx:=A3.out.bx.lt;have hlp:=A3.out.bp.lt;have hlr:=A3.out.br.lt;have hlq:=A3.out.bq.lt;go_wp2_with fail;go_roundw
   case rel=>exact⟨1,by omega,by go_num,jA fun h=>by omega,jA fun _=>⟨_,_,_,A3.out.put _,OD.reads (ft.fG (q:=⟨w.heap.size+1+1+1,0,none⟩) HOD2.out (by exact hl3) _)⟩⟩
   case measure=>simp[intOf]
  ·obtain⟨Aq,mq,cq,hA,hR⟩:=hO.out (by first|rfl|trivial);have AN2:=jA hA;have HRD:=jA hR;have c0':=a7 hA.bl (ij _) hc;have hgcW:=aag wr _ c0';have h11: ¬(1:Int) <1:=by decide
   clear hA hR hO hw;go_wp2_with fail;clear c0' hgcW;obtain⟨W2,hW2⟩: ∃W2,W2=wr:=⟨_,rfl⟩;subst hW2;go_loopw [33] (fun iv wr=> ∃i:Nat,i≤1∧iv= .int .i64 i∧Hid (i=0→wr=W2)∧Hid (i=1→ ∃A m cq q,AnS x (some ⟨g,o,none⟩) c1 A2 c2 w (.slice Ap P.length cp) (.slice A m cq) wr∧qn x.days c.size c.start q∧OD (w.heap.size+4) wr (.slice A m cq) (ep q))) (fun iv _=>1 - (intOf iv).toNat)
   case atStart=>exact⟨0,by omega,rfl,jA fun _=>rfl,jA fun h=>by omega⟩
   case round=>
    obtain⟨i,hi2,rfl,hw,hO⟩:=hrel;obtain rfl|rfl:i=0∨i=1:=by omega
    ·obtain rfl:=hw.out (by omega);have c0':=a7 AN2.out.bl (ij _) hc;have hgcW:=aag wr _ c0';obtain⟨k0,k1,k2,k3,k4,k5,-⟩:=AN2.out.bx.iY;have p0:=AN2.out.bp.c 0;have r0:=AN2.out.br.c 0;have q0:=AN2.out.bq.c 0;have fr:=AN2.out.br.frozen 0;have fq:=AN2.out.bq.frozen 0;have hlx:=AN2.out.bx.lt;have hlp:=AN2.out.bp.lt;have hlr:=AN2.out.br.lt;have hlq:=AN2.out.bq.lt;clear hw hO;go_wp2_with fail;refine(HPU.out _ wr (HM.out.below AN2.out.bl (ij _)) (HR.out.below AN2.out.bl (ij _)) HRD.out).mono ?_;rintro e w3 ⟨Ar,mr,cr,ok,rfl,hok,hb3⟩;have A3:=jA (AN2.out.below hb3);have HOK:=jA hok;clear hok;have hl3:w.heap.size+4≤wr.heap.size:=hlq;clear k0 k1 k2 k3 k4 k5 p0 r0 q0 fr fq hlx hlp hlr hlq;clear c0' hgcW;obtain⟨k0,k1,k2,k3,k4,k5,-⟩:=A3.out.bx.iY;have p0:=A3.out.bp.c 0;have r0:=A3.out.br.c 0;have q0:=A3.out.bq.c 0;have fr:=A3.out.br.frozen 0;have fq:=A3.out.bq.frozen 0;have hlx:=A3.out.bx.lt;have hlp:=A3.out.bp.lt;have hlr:=A3.out.br.lt;have hlq:=A3.out.bq.lt;cases ok with
     |false=>
      go_upto_region 13 with fail
      have A4:=jA (A3.out.put (.slice Ar mr cr));clear k0 k1 k2 k3 k4 k5 p0 r0 q0 fr fq hlx hlp hlr hlq;clear A3;revert A4;generalize w3.setCell ⟨w.heap.size+1+1+1,0,none⟩ (.slice Ar mr cr)=w4;intro A4;obtain⟨k0,k1,k2,k3,k4,k5,-⟩:=A4.out.bx.iY;have p0:=A4.out.bp.c 0;have r0:=A4.out.br.c 0;have q0:=A4.out.bq.c 0;have fr:=A4.out.br.frozen 0;have fq:=A4.out.bq.frozen 0;have hlx:=A4.out.bx.lt;have hlp:=A4.out.bp.lt;have hlr:=A4.out.br.lt;have hlq:=A4.out.bq.lt;go_wp2_with fail;refine(HCL.out w4 (HP.out.below (A4.out).bl (ij _))).mono ?_;rintro e w9 ⟨Ac,mc,cc,rfl,hoc,hb9⟩;have HOC:=jA hoc;have A9:=jA ((A4.out).below hb9);clear k0 k1 k2 k3 k4 k5 p0 r0 q0 fr fq hlx hlp hlr hlq;have r0:=A9.out.br.c 0;have fr:=A9.out.br.frozen 0;have hlr:=A9.out.br.lt;have hs9:=hb9.size;have hl1:=(A4.out).br.lt;clear hoc;go_wp2_with fail;refine bodyPost_ret (iw rfl _ _ (w.heap.size+1+1) 30 [.slice Ac mc cc] _ (.bool false) rfl rfl (A9.out.br.gH 0 _) Tryz.underlying30 rfl gB) rfl ⟨_,_,_,_,q0',rfl,HQ0.out,(by rw[HPE.out];exact(ft.fG (q:=⟨w.heap.size+1+1,0,none⟩) HOC.out (by exact hl1) _).mono (A4.out).bl.size),A9.out.bl.setCell (p:=⟨w.heap.size+1+1,0,none⟩) (by show w.heap.size≤w.heap.size+1+1;omega) _⟩
     |true=>
      obtain⟨q,hq,hoq⟩:=HOK.out rfl;have HQQ:=jA hq;have HOQ:=jA hoq;clear hq hoq;go_wp2_with fail;go_roundw
      case rel=>exact⟨1,by omega,by go_num,jA fun h=>by omega,jA fun _=>⟨_,_,_,q,A3.out.put _,HQQ.out,(ft.fG (q:=⟨w.heap.size+1+1+1,0,none⟩) HOQ.out (by exact hl3) _).mono hl3⟩⟩
      case measure=>simp[intOf]
    ·obtain⟨Ar,mr,cr,q,hA,hq,hoq⟩:=hO.out (by first|rfl|trivial);have A3:=jA hA;have HQQ:=jA hq;have HOQ:=jA hoq;clear hA hq hoq hO hw;obtain⟨k0,k1,k2,k3,k4,k5,-⟩:=A3.out.bx.iY;have p0:=A3.out.bp.c 0;have r0:=A3.out.br.c 0;have q0:=A3.out.bq.c 0;have fr:=A3.out.br.frozen 0;have fq:=A3.out.bq.frozen 0;have hlx:=A3.out.bx.lt;have hlp:=A3.out.bp.lt;have hlr:=A3.out.br.lt;have hlq:=A3.out.bq.lt;go_upto_region 16 with fail
     refine rB [] fun hS=> ?_;refine tk 0 hS ?_;refine tk 1 hS ?_;refine tO 2 fun K hK=> ?_;go_simp;refine(HOP.out _ q _ (HR.out.below (A3.out.bl.trans (hS.mono A3.out.bl.size)) (ij _)) HQQ.out ((OD.reads HOQ.out).below hS (ij _))).mono ?_;rintro e w5 ⟨rfl,hb5⟩;have hS:=hS.trans (hb5.mono hS.size);clear hb5;refine hK.out _ _ (hS) ?_;clear hK K;refine tk 3 hS ?_;refine tk 4 hS ?_;refine tkG 5 hS ?_;refine tkG 6 hS ?_;refine tkG 8 hS ?_;refine tkG 9 hS ?_;try simp only[Act.put,gK,fJ,fI]
     refine BD 7 rfl (by rfl) (by kernel_rfl) (fun K hK=> ?_);go_simp;refine(HCO.out _ (ep q) _ (HLQ.out _ q _ HQQ.out ((OD.reads HOQ.out).below hS (ij _))) (HR.out.below (A3.out.bl.trans (hS.mono A3.out.bl.size)) (ij _))).mono ?_;rintro e w6 ⟨rfl,hb6⟩;obtain⟨C1,hC1⟩: ∃C1,xj x (ep q)=C1:=⟨_,rfl⟩;rw[hC1];have hS:=hS.trans (hb6.mono hS.size);clear hb6 hC1;refine hK.out _ _ (hS) ?_;clear hK K;try simp only[Act.put,gK,fJ,fI]
     refine BD 10 rfl (by rfl) (by kernel_rfl) (fun K hK=> ?_);go_simp;refine(HCO.out _ P _ (HLP.out _ (HP.out.below (A3.out.bl.trans (hS.mono A3.out.bl.size)) (ij _))) (HR.out.below (A3.out.bl.trans (hS.mono A3.out.bl.size)) (ij _))).mono ?_;rintro e w7 ⟨rfl,hb6⟩;obtain⟨C2,hC2⟩: ∃C2,xj x P=C2:=⟨_,rfl⟩;rw[hC2];have hS:=hS.trans (hb6.mono hS.size);clear hb6 hC2;refine hK.out _ _ (hS) ?_;clear hK K;refine tkG 11 hS ?_;refine tk 12 hS ?_;refine tD ?_;have A7:=jA (A3.out.below hS);have HO7:=jA (ft.below HOQ.out hS (ij _));clear k0 k1 k2 k3 k4 k5 p0 r0 q0 fr fq hlx hlp hlr hlq;obtain⟨k0,k1,k2,k3,k4,k5,-⟩:=A7.out.bx.iY;have p0:=A7.out.bp.c 0;have r0:=A7.out.br.c 0;have q0:=A7.out.bq.c 0;have fr:=A7.out.br.frozen 0;have fq:=A7.out.bq.frozen 0;have hlx:=A7.out.bx.lt;have hlp:=A7.out.bp.lt;have hlr:=A7.out.br.lt;have hlq:=A7.out.bq.lt;clear hS;by_cases hcc:C1≥C2
     ·go_wp2_with fail;refine(HCL.out w7 (HP.out.below (A7.out).bl (ij _))).mono ?_;rintro e w9 ⟨Ac,mc,cc,rfl,hoc,hb9⟩;have HOC:=jA hoc;have A9:=jA ((A7.out).below hb9);clear k0 k1 k2 k3 k4 k5 p0 r0 q0 fr fq hlx hlp hlr hlq;have r0:=A9.out.br.c 0;have fr:=A9.out.br.frozen 0;have hlr:=A9.out.br.lt;have hs9:=hb9.size;have hl1:=(A7.out).br.lt;clear hoc;go_wp2_with fail;refine bodyPost_ret (iw rfl _ _ (w.heap.size+1+1) 30 [.slice Ac mc cc] _ (.bool false) rfl rfl (A9.out.br.gH 0 _) Tryz.underlying30 rfl gB) rfl ⟨_,_,_,_,q0',rfl,HQ0.out,(by rw[HPE.out];exact(ft.fG (q:=⟨w.heap.size+1+1,0,none⟩) HOC.out (by exact hl1) _).mono (A7.out).bl.size),A9.out.bl.setCell (p:=⟨w.heap.size+1+1,0,none⟩) (by show w.heap.size≤w.heap.size+1+1;omega) _⟩
     ·go_wp2_with fail;refine bodyPost_ret (iw rfl _ _ (w.heap.size+1+1) 30 [.slice Ar mr cr] _ (.bool true) rfl rfl (A7.out.br.gH 0 _) Tryz.underlying30 rfl gB) rfl ⟨_,_,_,.inr rfl,q,HQQ.out,(ft.fG (q:=⟨w.heap.size+1+1,0,none⟩) HO7.out (by show w.heap.size+1+1 <w.heap.size+4;omega) _).mono (by omega),A7.out.bl.setCell (p:=⟨w.heap.size+1+1,0,none⟩) (by show w.heap.size≤w.heap.size+1+1;omega) _⟩
end
end
section
open Go.Proofs.Tryz
open Go.RowKit jm ko Et kN J8
theorem vB: ∀{d:Dy},(∀t∈d,t≠[])→d.flatten.length≤1→d.length=d.flatten.length
 | [],_,_=>rfl
 |t::d,h,h1=>by have h0:t.length≠0:=fun e=>h t (.head _) (gj e);rw[qm,fa] at h1⊢;have ih:=vB (d:=d) (fun u hu=>h u (.tail _ hu)) (by omega);rw[ff];omega
section
variable {x:fS} {c:kc} {a b:Int} (hx:iF x c a b)
include hx
theorem iF.afC {d:Dy} {z:Int} (hd:jS x.eB.length 4000 d) (hne: ∀t∈d,t≠[]) (hz:0≤z∧z≤2147483648) (hl:d.flatten.length=(ic z).flatten.length):me (d.map (uA x))=me ((ic z).map (uA x)):=by
 obtain⟨h1,h2⟩:=ac7 hz;have hf:(ic z).flatten.length≤1:=by unfold ic;split <;>simp
 rw[hx.day hd hne,hx.day (by rw[hx.len];exact⟨h1.1,eZ h1.2 (by decide)⟩) h2,vB hne (by omega),vB h2 hf,hl]
variable (g o:Nat) (c1:Nat) (A2:Option Addr) (c2:Nat) (dm:Int) (A0:Option Addr) (n0 c0:Nat)
theorem aeb (dv:Value) (q0':List Int) (w:World) (hm:qk w g o dm A0 n0 c0 c) (hr:iz w (.agg (xC x (some ⟨g,o,none⟩) c1 A2 c2).toArray) x) (hq:qn x.days c.size c.start q0') (hp:jP w dv (ep q0')):
  Calls Tryz.prog 216 #[.agg (xC x (some ⟨g,o,none⟩) c1 A2 c2).toArray,.agg #[dv],.int .i64 0] w fun e w'=>
   ∃A m cp ok q,e= .returned (.tuple #[.agg #[.slice A m cp],ok])∧qn x.days c.size c.start q∧OD w.heap.size w' (.slice A m cp) (ep q)∧Below w.heap.size w w':=by
 have HAN:=jA fun gc W h1 h2 h3 h4=>aeQ hx g o c1 A2 c2 dm A0 n0 c0 dv q0' gc W h1 h2 hq h3 h4;have HP:=jA hp;have HR:=jA hr;have HM:=jA hm;obtain⟨Ap,cp,rfl,-⟩:=hp.open_;obtain⟨P,hP⟩: ∃P,ep q0'=P:=⟨_,rfl⟩;rw[hP] at HP HAN⊢;clear hm hr hq hp hP;obtain⟨W,hW,⟨bx,bp,br,-⟩,hb,-⟩:=sk w [(25,xC x (some ⟨g,o,none⟩) c1 A2 c2),(30,[.slice Ap P.length cp]),(30,[.slice none 0 0])];simp only[Hk] at hW;obtain⟨k0,k1,k2,k3,k4,k5,-⟩:=bx.iY;have p0:=bp.c 0;have hlx:=bx.lt;have hlp:=bp.lt;go_enter Tryz.func216,Tryz.ntmps216;go_upto_region 1 with fail
 clear hW;go_wp2_with fail;have hba:=bL (bS W.heap.size W) (.cells #[.int .i64 0] 3);have bn:=fc.new W 3 [.int .i64 0];have hbw:=hb.trans (hba.mono hb.size);refine(HAN.out _ _ (HM.out.below hbw (ij _)) (HR.out.below hbw (ij _)) (HP.out.below hbw (ij _)) (bn.c 0)).mono ?_;rintro e w3 ⟨Ar,mr,cr,ok,q,rfl,hq,hod,hb3⟩;have HQ:=jA hq;have HOD:=jA hod;have hb4:=hba.trans (hb3.mono hba.size);have br3:=br.below hb4 br.lt;have r0:=br3.c 0;have fr:=br3.frozen 0;have hlr:=br3.lt;have hs3:=hba.size;have hl0:=br.lt;clear hq hod k0 k1 k2 k3 k4 k5 p0 hlx hlp bx bp hba bn hbw hb3;go_wp2_with fail;refine bodyPost_ret (iw rfl _ _ (w.heap.size+1+1) 30 [.slice Ar mr cr] _ _ rfl rfl (br3.gH 0 _) Tryz.underlying30 rfl gB) rfl ⟨_,_,_,_,q,rfl,HQ.out,(ft.fG (q:=⟨w.heap.size+1+1,0,none⟩) HOD.out (by show w.heap.size+1+1 <(W.alloc _).heap.size;omega) _).mono (by have:=hb.size;omega),(hb.trans (hb4.mono hb.size)).setCell (p:=⟨w.heap.size+1+1,0,none⟩) (by show w.heap.size≤w.heap.size+1+1;omega) _⟩
theorem ae6 (dv:Value) (q0':List Int) (w:World) (hq:qn x.days c.size c.start q0') (hp:jP w dv (ep q0')):
  Calls Tryz.prog 217 #[.agg (xC x (some ⟨g,o,none⟩) c1 A2 c2).toArray,.agg #[dv],.int .i64 0,.int .i64 0] w fun e w'=>
   ∃A m cp ok q,e= .returned (.tuple #[.agg #[.slice A m cp],ok])∧qn x.days c.size c.start q∧OD w.heap.size w' (.slice A m cp) (ep q)∧Below w.heap.size w w':=by
 have HCL:=jA fun W h=>vx hx dv q0' W hq h;have HP:=jA hp;have HQ:=jA hq;obtain⟨Ap,cp,rfl,-⟩:=hp.open_;obtain⟨P,hP⟩: ∃P,ep q0'=P:=⟨_,rfl⟩;rw[hP] at HP HCL⊢;have HPE:=jA hP;clear hq hp hP;obtain⟨W,hW,⟨bx,bp,br,-⟩,hb,-⟩:=sk w [(25,xC x (some ⟨g,o,none⟩) c1 A2 c2),(30,[.slice Ap P.length cp]),(30,[.slice none 0 0])];simp only[Hk] at hW;have p0:=bp.c 0;have hlp:=bp.lt;go_enter Tryz.func217,Tryz.ntmps217;go_upto_region 1 with fail
 clear hW;go_wp2_with fail;refine(HCL.out W (HP.out.below hb (ij _))).mono ?_;rintro e w9 ⟨Ac,mc,cc,rfl,hoc,hb9⟩;have HOC:=jA hoc;have br9:=br.below hb9 br.lt;have r0:=br9.c 0;have fr:=br9.frozen 0;have hlr:=br9.lt;have hl0:=br.lt;clear hoc p0 hlp bp bx;go_wp2_with fail;refine bodyPost_ret (iw rfl _ _ (w.heap.size+1+1) 30 [.slice Ac mc cc] _ (.bool false) rfl rfl (br9.gH 0 _) Tryz.underlying30 rfl gB) rfl ⟨_,_,_,_,q0',rfl,HQ.out,(by rw[HPE.out];exact(ft.fG (q:=⟨w.heap.size+1+1,0,none⟩) HOC.out (by exact hl0) _).mono hb.size),(hb.trans (hb9.mono hb.size)).setCell (p:=⟨w.heap.size+1+1,0,none⟩) (by show w.heap.size≤w.heap.size+1+1;omega) _⟩
theorem ad7 (dv:Value) (q0':List Int) (k:Nat) (bud:Int) (w:World) (hr:iz w (.agg (xC x (some ⟨g,o,none⟩) c1 A2 c2).toArray) x) (hq:qn x.days c.size c.start q0') (hp:jP w dv (ep q0')) (hk:k <q0'.length) (hbud:bud≤9223372036854775807):
  Calls Tryz.prog 218 #[.agg (xC x (some ⟨g,o,none⟩) c1 A2 c2).toArray,.agg #[dv],.int .i64 (k:Int),.int .i64 bud] w fun e w'=>
   ∃A m cp ok q,e= .returned (.tuple #[.agg #[.slice A m cp],ok])∧qn x.days c.size c.start q∧OD w.heap.size w' (.slice A m cp) (ep q)∧Below w.heap.size w w':=by
 have HCL:=jA fun W h=>vx hx dv q0' W hq h;obtain⟨z,hz⟩:=ec hk;have hzb:=hq.bd z (a8 hz);have hdk:jS x.eB.length 4000 (ic z)∧ ∀t∈ic z,t≠[]:=Ex hq.bd hx.len (acX hz);have HIM:=jA fun tv W h1 h2=>xm (.agg (xC x (some ⟨g,o,none⟩) c1 A2 c2).toArray) tv x (ic z) 4000 bud W h1 hx.ok h2 hdk.1 (by decide) hdk.2 hbud;have HCO:=jA fun tv d W h1 h2 h3=>xI (.agg (xC x (some ⟨g,o,none⟩) c1 A2 c2).toArray) tv x d 4000 W h1 hx.ok h2 h3 (by decide);have HPO:=jA fun d h1 h2 h3=>hx.afC (d:=d) (z:=z) h1 h2 hzb h3;have HG:=jA (acX hz);have HDK:=jA hdk.1;have HP:=jA hp;have HQ:=jA hq;have HR:=jA hr;have hpl:(ep q0').length=q0'.length:=o5 q0';have hq64:q0'.length≤64:=by have:=hq.len;have:=hx.hd;omega
 obtain⟨Ap,cp,rfl,-⟩:=hp.open_;obtain⟨P,hP⟩: ∃P,ep q0'=P:=⟨_,rfl⟩;rw[hP] at HP HCL HG hpl⊢;have HPE:=jA hP;have hkp:k <P.length:=by omega
 have hp64:P.length≤64:=by omega
 clear hq hp hP hr hz hzb hdk hk hq64 hpl;obtain⟨W,hW,⟨bx,bp,br,-⟩,hb,-⟩:=sk w [(25,xC x (some ⟨g,o,none⟩) c1 A2 c2),(30,[.slice Ap P.length cp]),(30,[.slice none 0 0])];simp only[Hk] at hW;have p0:=bp.c 0;have hlp:=bp.lt;go_enter Tryz.func218,Tryz.ntmps218;go_upto_region 1 with fail
 clear hW;go_wp2_with fail;refine(HCL.out W (HP.out.below hb (ij _))).mono ?_;rintro e w9 ⟨Ac,mc,cc,rfl,hoc,hb9⟩;have HOC:=jA hoc;obtain⟨A9,cc9,e,-⟩:=OD.slice hoc;cases e;have hbw:=hb.trans (hb9.mono hb.size);have br9:=br.below hb9 br.lt;have bx9:=bx.below hb9 bx.lt;have hl0:=br.lt;have hs9:=hb9.size;have hs0:=hb.size;clear hoc p0 hlp bp bx br hb hb9;go_upto_region 2 with fail
 obtain⟨gq,hgq⟩: ∃k,k=w9.heap.size:=⟨_,rfl⟩;have hba:=bL (bS w9.heap.size w9) (.cells #[.slice Ac P.length cc] 30);have bq:=fc.new w9 30 [.slice Ac P.length cc];have HO2:=jA (ft.below HOC.out hba (ij _));have br2:=br9.below hba br9.lt;have bx2:=bx9.below hba bx9.lt;have hb2:=hbw.trans (hba.mono hbw.size);rw[←hgq] at bq⊢;clear HOC hba hbw br9 bx9 hgq hs9;revert bq HO2 br2 bx2 hb2;generalize w9.alloc (.cells #[.slice Ac P.length cc] 30)=w2;intro bq HO2 br2 bx2 hb2;obtain⟨A,c',e,-,-,hc⟩:=jP.open_ (OD.reads HO2.out);cases e;obtain⟨gd,od,rfl,hgl,tv,htv,y0⟩:=hc k _ HG.out;have HTV:=jA htv;obtain⟨At,ct,rfl,-⟩:=htv.open_;obtain⟨k0,k1,k2,k3,k4,k5,-⟩:=bx2.iY;have hlx:=bx2.lt;have q0:=bq.c 0;have hlq:=bq.lt;have hki:(k:Int) <P.length:=by omega
 have hkn: ¬(k:Int) <0:=by omega
 have hkg: ¬(k:Int)≥P.length:=by omega
 clear hc htv;go_upto_region 4 with fail
 go_cut [11,12] from 25 to 35 (fun pv zv wc=> ∃gE Ae ce d' z',pv= .pointer (some ⟨gE,0,none⟩)∧zv= .int .i64 z'∧fc wc gE 39 [.slice Ae (List.length d') ce]∧w2.heap.size≤gE∧Hid (RL 1 jf wc (.slice Ae (List.length d') ce) d')∧Hid (jS x.eB.length 4000 d'∧me (d'.map (uA x))=me ((ic z).map (uA x)))∧Below w2.heap.size w2 wc)
 case first=>
  refine rB [] fun hS=> ?_;refine tk 0 hS ?_;refine tk 1 hS ?_;refine tk 2 hS ?_;refine tk 3 hS ?_;refine tk 4 hS ?_;refine tk 5 hS ?_;refine tk 6 hS ?_;try simp only[Act.put,gK,fJ,fI]
  refine mL 7 11 rfl rfl rfl rfl (by kernel_rfl) (fun K hK=> ?_) (fun K hK=> ?_)
  ·go_simp;refine(HIM.out _ _ (HR.out.below (hb2.trans (hS.mono hb2.size)) (ij _)) (iK.below HTV.out hS (ij _))).mono ?_;rintro e w7 ⟨dv',d',zi,rfl,hot5,hdk5,hne5,hfl5,hb5⟩;obtain⟨Ae,ce,rfl,-⟩:=hot5.slice;replace hot5:=hot5.mono hS.size;have HDE:=jA (And.intro hdk5 (HPO.out d' hdk5 hne5 hfl5));have hS:=hS.trans (hb5.mono hS.size);have hw5:=hS.size;refine hK.out _ _ (hS) ?_;clear hK K;refine tk 8 hS ?_;refine tk 9 hS ?_;refine tk 10 hS ?_;refine tO 11 fun K hK=> ?_;go_simp;have b6:=fc.new w7 39 [.slice none 0 0];have h6:=hS.alloc hS.size (.cells [.slice none 0 0].toArray 39);replace hot5:=hot5.alloc (.cells [.slice none 0 0].toArray 39);have hS:=h6;refine hK.out _ _ (h6) ?_;clear hK K;refine tO 12 fun K hK=> ?_;refine gY _ 39 (.tmp 11) (.tmp 34) rfl w7.heap.size 39 [.slice none 0 0] [.slice Ae d'.length ce] b6 rfl rfl qw rfl rfl ?_;intro w9 b9 hg9 hz9;have hk9:=kQ.MD (base:=w2.heap.size) hg9 b6 (hw5);have hS:=hS.trans (hk9.below hS.size);refine hK.out _ _ (hS) ?_;clear hK K;refine tk 13 hS ?_;refine tD ?_;go_wp2_with fail;go_meet;exact⟨_,Ae,ce,d',_,rfl,rfl,b9,hw5,jA (OT.reads (hot5.keep hk9 (by decide) (by decide))),HDE,hS⟩
  ·go_simp;have b6:=fc.new w2.drew 39 [.slice none 0 0];have h6:=hS.alloc hS.size (.cells [.slice none 0 0].toArray 39);refine hK.out _ _ (h6) ?_;clear hK K;have hS:=h6;refine tO 7 fun K hK=> ?_;go_simp;refine(HIM.out _ _ (HR.out.below (hb2.trans (hS.mono hb2.size)) (ij _)) (iK.below HTV.out hS (ij _))).mono ?_;rintro e w7 ⟨dv',d',zi,rfl,hot5,hdk5,hne5,hfl5,hb5⟩;obtain⟨Ae,ce,rfl,-⟩:=hot5.slice;replace hot5:=hot5.mono hS.size;have HDE:=jA (And.intro hdk5 (HPO.out d' hdk5 hne5 hfl5));have hS:=hS.trans (hb5.mono hS.size);have hw5:=hS.size;refine hK.out _ _ (hS) ?_;clear hK K;refine tk 8 hS ?_;refine tk 9 hS ?_;refine tk 10 hS ?_;replace b6:=b6.below hb5 b6.lt;refine tO 12 fun K hK=> ?_;refine gY _ 39 (.tmp 11) (.tmp 34) rfl w2.heap.size 39 [.slice none 0 0] [.slice Ae d'.length ce] b6 rfl rfl qw rfl rfl ?_;intro w9 b9 hg9 hz9;have hk9:=kQ.MD (base:=w2.heap.size) hg9 b6 (ij _);have hS:=hS.trans (hk9.below hS.size);refine hK.out _ _ (hS) ?_;clear hK K;refine tk 13 hS ?_;refine tD ?_;go_wp2_with fail;go_meet;exact⟨_,Ae,ce,d',_,rfl,rfl,b9,ij _,jA (OT.reads (hot5.keep hk9 (by decide) (by decide))),HDE,hS⟩
 case rest=>
  obtain⟨gE,Ae,ce,d',z',rfl,rfl,bE,hgE,HRE,HDE,hbc⟩:=hcut;have bqc:=bq.below hbc hlq;have bxc:=bx2.below hbc hlx;have brc:=br2.below hbc br2.lt;have HO3:=jA (ft.below HO2.out hbc (ij _));have hbw:=hb2.trans (hbc.mono hb2.size);replace y0:=a7 hbc (ij _) y0;have HTVc:=jA (iK.below HTV.out hbc (ij _));have hglc:=aag wc _ y0;clear k0 k1 k2 k3 k4 k5 hlx q0 hlq hgl bq bx2 br2 HO2 hb2 HTV;obtain⟨k0,k1,k2,k3,k4,k5,-⟩:=bxc.iY;have hlx:=bxc.lt;have q0:=bqc.c 0;have hlq:=bqc.lt;have t0:=bE.c 0;have hlE:=bE.lt;go_upto_region 5 with fail
  refine rB [] fun hS=> ?_;refine tk 0 hS ?_;refine tk 1 hS ?_;refine tk 3 hS ?_;refine tk 4 hS ?_;refine tk 5 hS ?_;refine tk 6 hS ?_;refine tk 7 hS ?_;refine tk 8 hS ?_;refine tO 2 fun K hK=> ?_;go_simp;refine(HCO.out _ d' _ (HR.out.below (hbw.trans (hS.mono hbw.size)) (ij _)) (iK.below HRE.out hS (ij _)) HDE.out.1).mono ?_;rintro e w6 ⟨rfl,hb6⟩;have hS:=hS.trans (hb6.mono hS.size);rw[HDE.out.2];clear hb6;refine hK.out _ _ (hS) ?_;clear hK K;refine tO 9 fun K hK=> ?_;go_simp;refine(HCO.out _ (ic z) _ (HR.out.below (hbw.trans (hS.mono hbw.size)) (ij _)) (iK.below HTVc.out hS (ij _)) HDK.out).mono ?_;rintro e w7 ⟨rfl,hb6⟩;have hS:=hS.trans (hb6.mono hS.size);obtain⟨C,hC⟩: ∃C,me ((ic z).map (uA x))=C:=⟨_,rfl⟩;rw[hC];clear hb6 hC;refine hK.out _ _ (hS) ?_;clear hK K;refine tk 10 hS ?_;refine tD ?_;have hCC:C≥C:=ui _;have bq7:=bqc.below hS hlq;have br7:=brc.below hS brc.lt;have HO7:=jA (ft.below HO3.out hS (ij _));have hb7:=hbw.trans (hS.mono hbw.size);clear k0 k1 k2 k3 k4 k5 hlx q0 hlq t0 hlE y0 hglc;have q0:=bq7.c 0;have hlq:=bq7.lt;have r0:=br7.c 0;have fr:=br7.frozen 0;have hlr:=br7.lt;go_wp2_with fail;refine bodyPost_ret (iw rfl _ _ (w.heap.size+1+1) 30 [.slice _ P.length cc] _ (.bool false) rfl rfl (br7.gH 0 _) Tryz.underlying30 rfl gB) rfl ⟨_,_,_,⟨_,rfl⟩,q0',HQ.out,(by rw[HPE.out];exact(ft.fG (q:=⟨w.heap.size+1+1,0,none⟩) HO7.out (by exact hl0) _).mono hs0),hb7.setCell (p:=⟨w.heap.size+1+1,0,none⟩) (by show w.heap.size≤w.heap.size+1+1;omega) _⟩
end
end
section
open Go.Proofs.Tryz
open Go.RowKit jm ko Et kN J8
theorem aeZ{p:Prop}(h:p:=by
 go_simp;have l:fc _ a 245 (xL x (pA g o) c1 A2 c2 (.slice v E C) 0 0 k b):=f.gH 6 (.slice v E C);refine n _ _ (pg l) ?_;refine tD ?_;go_wp2_with fail
 go_end0
 exact⟨rfl,v,E,C,t,z,l,ft.fG (q:=(pA a 6)) y (by exact J) _,((abP h _).trans (kd Q a 6 _))⟩):p:=h
abbrev xL (x:fS) (A1:Option Addr) (c1:Nat) (A2:Option Addr) (c2:Nat) (p:Value) (a b d bud:Int):List Value:=(yX x A1 c1 A2 c2 [p,a,b,d,bud])
theorem abP {w w':World} (h:Below w w w') (g:Option Nat):w.grownBy w' g:=⟨h.os,h.tape,h.output,h.size,fun k U _=>h.block k U⟩
theorem pg {x:fS} {g o:Nat} {c1:Nat} {A2:Option Addr} {c2:Nat} {p:Value} {d b:Int} {a:Nat} {wS:World} (h:fc wS a 245 (xL x (pA g o) c1 A2 c2 p 0 0 d b)):
  wS.cell? a=some x.days/\wS.cell? (pA a 1)=some x.mm/\wS.cell? (pA a 2)=some x.cap/\wS.cell? (pA a 3)=some x.len/\wS.cell? (pA a 4)=some (.slice (pA g o) x.eB c1)/\wS.cell? (pA a 5)=some (.slice A2 x.gn c2)/\wS.cell? (pA a 7)=some (.int .i64 0)/\wS.cell? (pA a 8)=some (.int .i64 0)/\wS.cell? (pA a 9)=some d/\wS.cell? (pA a 10)=some b:=
 ⟨h.c 0,h.c 1,h.c 2,h.c 3,h.c 4,h.c 5,h.c 7,h.c 8,h.c 9,h.c 10⟩
section
variable {x:fS} {c:kc} {a b:Int} (hx:iF x c a b) (g o:Nat) (c1:Nat) (A2:Option Addr) (c2:Nat) (dm:Int) (A0:Option Addr) (n0 c0:Nat)
include hx
theorem adE (a:Nat) (u:Option Addr) (D j:Nat) (k:Nat) (b:Int) (q:List Int) (w:World) (G:qk w g o dm A0 n0 c0 c) (F:iz w (.agg (xC x (pA g o) c1 A2 c2).toArray) x) (I:qn x.days c.size c.start q) (H:jP w (.slice u D j) (ep q))
  (s:fc w a 245 (xL x (pA g o) c1 A2 c2 (.slice u D j) 0 0 k b)):
  Calls prog 177 #[.pointer a] w fun e w'=>e=.returned (.tuple #[])/\ ∃A m j t,qn x.days c.size c.start t/\fc w' a 245 (xL x (pA g o) c1 A2 c2 (.slice A m j) 0 0 k b)/\OD w w' (.slice A m j) (ep t)/\w.grownBy w' (some a):=by
 have B:=zH fun W T O N=>aeb hx g o c1 A2 c2 dm A0 n0 c0 (.slice u D j) q W T O I N;obtain⟨S,R,L,V⟩:=Zd G F H I;clear G F H;have d:=s.iY;simp only[im,Nat.reduceAdd] at d;obtain⟨X,Y,Z,d3,d4,d5,d6,d7,d8,d9,M,-⟩:=d;have J:=s.lt;go_enter func177,ntmps177;go_upto_region 0 with fail
 refine rG (fun wS=>wS.cell? a=some x.days/\wS.cell? (pA a 1)=some x.mm/\wS.cell? (pA a 2)=some x.cap/\wS.cell? (pA a 3)=some x.len/\wS.cell? (pA a 4)=some (.slice (pA g o) x.eB c1)/\wS.cell? (pA a 5)=some (.slice A2 x.gn c2)/\wS.cell? (pA a 7)=some (.int .i64 0)/\wS.cell? (pA a 8)=some (.int .i64 0)/\wS.cell? (pA a 9)=some k/\wS.cell? (pA a 10)=some b) [] (pg s) fun hS=>?_;refine kL [0,1,2,3,4,5,6,7,9,10,11,12] ?_;refine tO 8 fun K n=>?_;go_simp;refine n _ _ (hS) ?_;refine tO 13 fun K n=>?_;go_simp;have i:=(bS w w).drew;refine(B _ (S.below i lE) (R.below i lE) (L.below i lE)).mono ?_;rintro e Q ⟨v,E,C,ok,t,rfl,r,p,h⟩;have h:=i.trans h;have f:=s.below h J;obtain⟨z,y⟩:=Zb r p;have e6:=f.c 6;have f6:=f.frozen 6;have P:=f.lt;have hS:=pg f;clear r p;refine n _ _ (hS) ?_;refine kL [14,15,16,17,18] ?_;refine tO 19 fun K n=>?_;exact aeZ
theorem aeH (a:Nat) (u:Option Addr) (D j:Nat) (k:Nat) (b:Int) (q:List Int) (w:World) (G:qk w g o dm A0 n0 c0 c) (F:iz w (.agg (xC x (pA g o) c1 A2 c2).toArray) x) (I:qn x.days c.size c.start q) (H:jP w (.slice u D j) (ep q))
  (s:fc w a 245 (xL x (pA g o) c1 A2 c2 (.slice u D j) 0 0 k b)):
  Calls prog 178 #[.pointer a] w fun e w'=>e=.returned (.tuple #[])/\ ∃A m j t,qn x.days c.size c.start t/\fc w' a 245 (xL x (pA g o) c1 A2 c2 (.slice A m j) 0 0 k b)/\OD w w' (.slice A m j) (ep t)/\w.grownBy w' (some a):=by
 have B:=zH fun W N=>ae6 hx g o c1 A2 c2 (.slice u D j) q W I N;obtain⟨S,R,L,V⟩:=Zd G F H I;clear G F H;have d:=s.iY;simp only[im,Nat.reduceAdd] at d;obtain⟨X,Y,Z,d3,d4,d5,d6,d7,d8,d9,M,-⟩:=d;have J:=s.lt;go_enter func178,ntmps178;go_upto_region 0 with fail
 refine rG (fun wS=>wS.cell? a=some x.days/\wS.cell? (pA a 1)=some x.mm/\wS.cell? (pA a 2)=some x.cap/\wS.cell? (pA a 3)=some x.len/\wS.cell? (pA a 4)=some (.slice (pA g o) x.eB c1)/\wS.cell? (pA a 5)=some (.slice A2 x.gn c2)/\wS.cell? (pA a 7)=some (.int .i64 0)/\wS.cell? (pA a 8)=some (.int .i64 0)/\wS.cell? (pA a 9)=some k/\wS.cell? (pA a 10)=some b) [] (pg s) fun hS=>?_;refine kL [0,1,2,3,4,5,6,7,9,10,11,12,13,14,15,16] ?_;refine tO 8 fun K n=>?_;go_simp;refine n _ _ (hS) ?_;refine tO 17 fun K n=>?_;go_simp;have i:=(bS w w).drew;refine(B _ (L.below i lE)).mono ?_;rintro e Q ⟨v,E,C,ok,t,rfl,r,p,h⟩;have h:=i.trans h;have f:=s.below h J;obtain⟨z,y⟩:=Zb r p;have e6:=f.c 6;have f6:=f.frozen 6;have P:=f.lt;have hS:=pg f;clear r p;refine n _ _ (hS) ?_;refine kL [18,19,20,21,22] ?_;refine tO 23 fun K n=>?_;exact aeZ
theorem adD (a:Nat) (u:Option Addr) (D j:Nat) (k:Nat) (b:Int) (q:List Int) (w:World) (F:iz w (.agg (xC x (pA g o) c1 A2 c2).toArray) x) (I:qn x.days c.size c.start q) (H:jP w (.slice u D j) (ep q)) (U:k<q) (O:b<=9223372036854775807)
  (s:fc w a 245 (xL x (pA g o) c1 A2 c2 (.slice u D j) 0 0 k b)):
  Calls prog 179 #[.pointer a] w fun e w'=>e=.returned (.tuple #[])/\ ∃A m j t,qn x.days c.size c.start t/\fc w' a 245 (xL x (pA g o) c1 A2 c2 (.slice A m j) 0 0 k b)/\OD w w' (.slice A m j) (ep t)/\w.grownBy w' (some a):=by
 have B:=zH fun W T N=>ad7 hx g o c1 A2 c2 (.slice u D j) q k b W T I N U O;have G:=F;obtain⟨S,R,L,V⟩:=Zd G F H I;clear G F H;have d:=s.iY;simp only[im,Nat.reduceAdd] at d;obtain⟨X,Y,Z,d3,d4,d5,d6,d7,d8,d9,M,-⟩:=d;have J:=s.lt;go_enter func179,ntmps179;go_upto_region 0 with fail
 refine rG (fun wS=>wS.cell? a=some x.days/\wS.cell? (pA a 1)=some x.mm/\wS.cell? (pA a 2)=some x.cap/\wS.cell? (pA a 3)=some x.len/\wS.cell? (pA a 4)=some (.slice (pA g o) x.eB c1)/\wS.cell? (pA a 5)=some (.slice A2 x.gn c2)/\wS.cell? (pA a 7)=some (.int .i64 0)/\wS.cell? (pA a 8)=some (.int .i64 0)/\wS.cell? (pA a 9)=some k/\wS.cell? (pA a 10)=some b) [] (pg s) fun hS=>?_;refine kL [0,1,2,3,4,5,6,7,9,10,11,12,13,14,15,16] ?_;refine tO 8 fun K n=>?_;go_simp;refine n _ _ (hS) ?_;refine tO 17 fun K n=>?_;go_simp;have i:=(bS w w).drew;refine(B _ (R.below i lE) (L.below i lE)).mono ?_;rintro e Q ⟨v,E,C,ok,t,rfl,r,p,h⟩;have h:=i.trans h;have f:=s.below h J;obtain⟨z,y⟩:=Zb r p;have e6:=f.c 6;have f6:=f.frozen 6;have P:=f.lt;have hS:=pg f;clear r p;refine n _ _ (hS) ?_;refine kL [18,19,20,21,22] ?_;refine tO 23 fun K n=>?_;exact aeZ
end
end
section
open Go.Proofs.Tryz
open Go.RowKit jm ko Et kN J8
def PlB (lb ub:Nat) (W:World) (dv:Value) (p:Pl):Prop:=RL 1 (fun W cs d=> ∃tv,cs=[tv]∧nN (fun k=>lb≤k∧k <ub) W tv d) W dv p∧InO (fun k=>lb≤k∧k <ub) dv
section
variable {lb ub:Nat} {dv:Value} {p:Pl}
theorem PlB.at (h:PlB lb ub W dv p) (hk: ∀k,lb≤k→k <ub→W'.heap[k]? =W.heap[k]?) (hs:W.heap.size≤W'.heap.size):PlB lb ub W' dv p:=
 ⟨RL.atG (fun cs d ⟨tv,e,hd⟩=>⟨tv,e,hd.at (fun k hq=>hk k hq.1 hq.2) hs⟩) h.1 (fun g hg=>hk g (h.2 g hg).1 (h.2 g hg).2) hs,h.2⟩
theorem PlB.reads (h:PlB lb ub W dv p):jP W dv p:=RL.imp (fun _ _ ⟨tv,e,hd⟩=>⟨tv,e,hd.reads⟩) h.1
theorem PlB.below (h:PlB lb ub W dv p) (hu:ub≤W.heap.size) (hb:Below W.heap.size W W'):PlB lb ub W' dv p:=h.at (fun k _ hk=>hb.block k (by omega)) hb.size
theorem PlB.grown (h:PlB lb ub W dv p) (hu:ub≤W.heap.size) {g:Nat} (hg:W.grownBy W' (some g)) (hn:g <lb∨ub≤g):PlB lb ub W' dv p:=h.at (fun k h1 h2=>hg.block k (by omega) (fun e=>by cases e;omega)) hg.size
theorem PlB.acI (h:PlB lb ub W dv p) (hu:ub≤W.heap.size):sl lb W dv p:=
 ⟨RL.imp (fun _ _ ⟨tv,e,hd⟩=>⟨tv,e,hd.mono fun k hk=>⟨hk.1,by omega⟩⟩) h.1,fun g hg=>⟨(h.2 g hg).1,by have:=(h.2 g hg).2;omega⟩⟩
theorem sl.low (h:sl lb W dv p) {g i:Nat} {u:Value} (hg:g <lb):sl lb (W.setCell ⟨g,i,none⟩ u) dv p:=
 PlB.acI (PlB.grown (show PlB lb W.heap.size W dv p from h) (ij _) (kd W g i u) (.inl hg)) (by simp[World.setCell])
theorem sl.plB (h:sl lb W dv p):PlB lb W.heap.size W dv p:=h
end
theorem rn {w W W':World} {sb g:Nat} (h:w.grownBy W (some sb)) (h2:W.grownBy W' (some g)) (hg:w.heap.size≤g∨g=sb):w.grownBy W' (some sb):=
 ⟨h2.os.trans h.os,h2.tape.trans h.tape,h2.output.trans h.output,eZ h.size h2.size,fun k hk hne=>(h2.block k (bP hk h.size) (fun e=>by cases e;rcases hg with hg|hg;omega;exact hne (by rw[hg]))).trans (h.block k hk hne)⟩
structure RnS (x:fS) (g o:Nat) (c1:Nat) (A2:Option Addr) (c2:Nat) (w:World) (sb rb:Nat) (d bud:Int) (p:Pl) (W:World):Prop where
 bx:fc W w.heap.size 25 (xC x (some ⟨g,o,none⟩) c1 A2 c2)
 br:fc W (w.heap.size+1+1) 30 [.slice none 0 0]
 bo: ∃A m cp,fc W rb 245 (xL x (some ⟨g,o,none⟩) c1 A2 c2 (.slice A m cp) 0 0 d bud)∧ ∃lb ub,PlB lb ub W (.slice A m cp) p∧ub≤W.heap.size∧w.heap.size+3≤lb∧(ub≤rb∨rb <lb)
 bs: ∃st,fc W sb 188 [.int .u64 st]
 gr:w.grownBy W (some sb)
 ne:sb <w.heap.size∧w.heap.size+3≤rb
section
variable {x:fS} {sb rb:Nat} {d bud:Int} {p:Pl}
theorem RnS.draw (h:RnS x g o c1 A2 c2 w sb rb d bud p W) (hg:W.grownBy W' (some sb)) (hs: ∃st,fc W' sb 188 [.int .u64 st]):RnS x g o c1 A2 c2 w sb rb d bud p W':=by have hn:=h.ne;obtain⟨A,m,cp,ho,lb,ub,h1,h2,h3,h4⟩:=h.bo;exact⟨h.bx.grown hg (by simp;omega),h.br.grown hg (by simp;omega),⟨A,m,cp,ho.grown hg (by simp;omega),lb,ub,h1.grown h2 hg (by omega),eZ h2 hg.size,h3,h4⟩,hs,rn h.gr hg (.inr rfl),hn⟩
theorem RnS.below (h:RnS x g o c1 A2 c2 w sb rb d bud p W) (hb:Below W.heap.size W W'):RnS x g o c1 A2 c2 w sb rb d bud p W':=by obtain⟨st,hs⟩:=h.bs;obtain⟨A,m,cp,ho,lb,ub,h1,h2,h3,h4⟩:=h.bo;exact⟨h.bx.below hb h.bx.lt,h.br.below hb h.br.lt,⟨A,m,cp,ho.below hb ho.lt,lb,ub,h1.below h2 hb,eZ h2 hb.size,h3,h4⟩,⟨st,hs.below hb hs.lt⟩,h.gr.trans (abP hb _),h.ne⟩
theorem RnS.put (h:RnS x g o c1 A2 c2 w sb rb d bud p W) {i:Nat} {u:Value} {d':Int} (hbo: ∀A m cp,fc W rb 245 (xL x (some ⟨g,o,none⟩) c1 A2 c2 (.slice A m cp) 0 0 d bud)→fc (W.setCell ⟨rb,i,none⟩ u) rb 245 (xL x (some ⟨g,o,none⟩) c1 A2 c2 (.slice A m cp) 0 0 d' bud)):RnS x g o c1 A2 c2 w sb rb d' bud p (W.setCell ⟨rb,i,none⟩ u):=by have hn:=h.ne;obtain⟨st,hs⟩:=h.bs;obtain⟨A,m,cp,ho,lb,ub,h1,h2,h3,h4⟩:=h.bo;exact⟨h.bx.kj (p:=⟨rb,i,none⟩) (by show w.heap.size≠rb;omega) _,h.br.kj (p:=⟨rb,i,none⟩) (by show w.heap.size+1+1≠rb;omega) _,⟨A,m,cp,hbo A m cp ho,lb,ub,h1.grown h2 (kd W rb i u) (by omega),by simpa[World.setCell] using h2,h3,h4⟩,⟨st,hs.kj (p:=⟨rb,i,none⟩) (by show sb≠rb;omega) _⟩,rn h.gr (kd W rb i u) (.inl (by omega)),hn⟩
theorem RnS.next (h:RnS x g o c1 A2 c2 w sb rb d bud p W) {A:Option Addr} {m cp:Nat} {p':Pl} (hbo:fc W' rb 245 (xL x (some ⟨g,o,none⟩) c1 A2 c2 (.slice A m cp) 0 0 d bud)) (ho:OD W.heap.size W' (.slice A m cp) p') (hg:W.grownBy W' (some rb)):RnS x g o c1 A2 c2 w sb rb d bud p' W':=by have hn:=h.ne;obtain⟨st,hs⟩:=h.bs;obtain⟨A0,m0,cp0,ho0,-⟩:=h.bo;have hl:=ho0.lt;exact⟨h.bx.grown hg (by simp;omega),h.br.grown hg (by simp;omega),⟨A,m,cp,hbo,W.heap.size,W'.heap.size,OD.acI ho,ij _,by omega,.inr hl⟩,⟨st,hs.grown hg (by simp;omega)⟩,rn h.gr hg (.inl (by omega)),hn⟩
end
section
variable {x:fS} {c:kc} {a b:Int} (hx:iF x c a b) (g o:Nat) (c1:Nat) (A2:Option Addr) (c2:Nat) (dm:Int) (A0:Option Addr) (n0 c0:Nat)
include hx
abbrev afd (rb:Nat):List Value:=[.func (.func 177) #[.pointer (some ⟨rb,0,none⟩)] #[],.func (.func 178) #[.pointer (some ⟨rb,0,none⟩)] #[],.func (.func 179) #[.pointer (some ⟨rb,0,none⟩)] #[]]
theorem ad4 (dv:Value) (q0':List Int) (sb:Nat) (st bud:Int) (w0 w:World) (hm:qk w0 g o dm A0 n0 c0 c) (hr:iz w0 (.agg (xC x (some ⟨g,o,none⟩) c1 A2 c2).toArray) x) (hb0:Below w0.heap.size w0 w) (hsb:w0.heap.size≤sb)
  (hs:fc w sb 188 [.int .u64 st]) (hq:qn x.days c.size c.start q0') (hp:jP w dv (ep q0')) (hbud:bud≤9223372036854775807):
  Calls Tryz.prog 133 #[.agg (xC x (some ⟨g,o,none⟩) c1 A2 c2).toArray,.agg #[dv],.pointer (some ⟨sb,0,none⟩),.int .i64 bud] w fun e w'=>
   ∃A m cp q,e= .returned (.agg #[.slice A m cp])∧qn x.days c.size c.start q∧sl w.heap.size w' (.slice A m cp) (ep q)∧(∃st',fc w' sb 188 [.int .u64 st'])∧w.grownBy w' (some sb):=by
 have hdd:=hx.hd;obtain⟨n,hn⟩: ∃n:Nat,x.days=n:=⟨x.days.toNat,by omega⟩;have hn64:1≤n∧n≤64:=by omega
 have hlsb:=hs.lt;have HCL:=jA fun W h=>vx hx dv q0' W hq h;have HP:=jA hp;have HR:=jA hr;have HM:=jA hm;have HQ:=jA hq;have HN:=jA hn;have HL:=jA hx.len;obtain⟨Ap,cp,rfl,-⟩:=hp.open_;obtain⟨P,hP⟩: ∃P,ep q0'=P:=⟨_,rfl⟩;rw[hP] at HP HCL;have HPE:=jA hP;rw[hP];clear hm hr hq hdd hn hp hP;obtain⟨W,hW,⟨bx,bp,br,-⟩,hb,-⟩:=sk w [(25,xC x (some ⟨g,o,none⟩) c1 A2 c2),(30,[.slice Ap P.length cp]),(30,[.slice none 0 0])];simp only[Hk] at hW;obtain⟨k0,k1,k2,k3,k4,k5,-⟩:=bx.iY;have p0:=bp.c 0;have hlx:=bx.lt;have hlp:=bp.lt;go_enter Tryz.func133,Tryz.ntmps133;go_upto_region 1 with fail
 clear hW;refine rB [] fun hS=> ?_;refine tk 0 hS ?_;refine tk 1 hS ?_;refine tk 3 hS ?_;refine tO 2 fun K hK=> ?_;go_simp;refine(HCL.out _ (HP.out.below (hb.trans (hS.mono hb.size)) (ij _))).mono ?_;rintro e w2 ⟨Ac,mc,cc,rfl,hoc,hb2⟩;have HOC:=jA (OD.acI hoc);have hlb2:=hS.size;have hS:=hS.trans (hb2.mono hS.size);clear hoc;refine hK.out _ _ (hS) ?_;clear hK K;refine tk 4 hS ?_;refine tO 5 fun K hK=> ?_;go_simp;have hs2:=hS.size;have hlw:=hb.size;have hl2:w.heap.size+3≤W.heap.size:=by have:=br.lt;omega
 have bo:=fc.new w2 245 (xL x (some ⟨g,o,none⟩) c1 A2 c2 (.slice Ac mc cc) 0 0 0 bud);have hS3:=hS.alloc hS.size (.cells (xL x (some ⟨g,o,none⟩) c1 A2 c2 (.slice Ac mc cc) 0 0 0 bud).toArray 245);have hba:=bL (bS w2.heap.size w2) (.cells (xL x (some ⟨g,o,none⟩) c1 A2 c2 (.slice Ac mc cc) 0 0 0 bud).toArray 245);have hb3:=hb.trans (hS3.mono hb.size);have RN:Hid (RnS x g o c1 A2 c2 w sb w2.heap.size 0 bud P (w2.alloc (.cells (xL x (some ⟨g,o,none⟩) c1 A2 c2 (.slice Ac mc cc) 0 0 0 bud).toArray 245))):=jA ⟨bx.below hS3 hlx,br.below hS3 br.lt,⟨Ac,mc,cc,bo,_,_,PlB.below (sl.plB HOC.out) (ij _) hba,hba.size,by omega,.inl (ij _)⟩,⟨st,hs.below hb3 hlsb⟩,abP hb3 _,hlsb,by omega⟩;have hS:=hS3;refine hK.out _ _ (hS) ?_;clear hK K;refine tk 6 hS ?_;refine tD ?_;clear bo hS hS3 hba hb3 hb2 HOC k0 k1 k2 k3 k4 k5 p0 hlx hlp bx bp br hb hs hlb2 hs2 hlw hl2;revert RN;generalize w2.alloc (.cells (xL x (some ⟨g,o,none⟩) c1 A2 c2 (.slice Ac mc cc) 0 0 0 bud).toArray 245)=W3;intro RN;obtain⟨rb,hrb⟩: ∃k,k=w2.heap.size:=⟨_,rfl⟩;rw[←hrb] at RN⊢;clear hrb;have bx:=RN.out.bx;have k4:=bx.c 4;have hlx:=bx.lt;have hl1: ¬x.eB.length=0:=by rw[HL.out];decide
 obtain⟨st1,bs⟩:=RN.out.bs;have hl1': ¬x.eB=[]:=fun e=>hl1 (by rw[e];rfl);go_upto_region 5 with fail
 clear k4 hlx hl1' hl1 bx;have hN1:1≤(x.eB.length:Int)∧(x.eB.length:Int)≤9223372036854775807:=by rw[HL.out];decide
 go_wp2_with fail;refine(sr sb st1 _ W3 bs hN1).mono ?_;rintro e w4 ⟨kk,rfl,hk,hg4,hst4⟩;obtain rfl:kk=0:=by rw[HL.out] at hk;omega
 have RN4:=jA ((RN).out.draw hg4 hst4);obtain⟨A4,m4,cp4,bo,-⟩:=RN4.out.bo;have e7:=bo.c 7;have f7:=bo.frozen 7;have hlo:=bo.lt;clear bs hg4 hst4 RN;go_upto_region 6 with fail
 have RN5:=jA (RN4.out.put (i:=7) (u:= .int .i64 0) (d':=0) (fun A m cp h=>h.gH 7 _));clear RN4 bo e7 f7 hlo;revert RN5;generalize w4.setCell ⟨rb,7,none⟩ (.int .i64 0)=w5;intro RN5;obtain⟨st2,bs⟩:=RN5.out.bs;go_wp2_with fail;refine(sr sb st2 _ w5 bs hN1).mono ?_;rintro e w4 ⟨kk,rfl,hk,hg4,hst4⟩;obtain rfl:kk=0:=by rw[HL.out] at hk;omega
 have RN4:=jA ((RN5).out.draw hg4 hst4);obtain⟨A4,m4,cp4,bo,-⟩:=RN4.out.bo;have e7:=bo.c 8;have f7:=bo.frozen 8;have hlo:=bo.lt;clear bs hg4 hst4 RN5;go_upto_region 7 with fail
 have RN5:=jA (RN4.out.put (i:=8) (u:= .int .i64 0) (d':=0) (fun A m cp h=>h.gH 8 _));clear RN4 bo e7 f7 hlo;revert RN5;generalize w4.setCell ⟨rb,8,none⟩ (.int .i64 0)=w5;intro RN5;obtain⟨st2,bs⟩:=RN5.out.bs;have bx:=RN5.out.bx;have k0:=bx.c 0;have hlx:=bx.lt;go_wp2_with fail;refine(sr sb st2 _ w5 bs (by rw[HN.out];omega)).mono ?_;rintro e w4 ⟨kk,rfl,hk,hg4,hst4⟩;rw[HN.out] at hk;obtain⟨kk,rfl⟩:=fw hk.1;clear k0 hlx bx;have RN4:=jA ((RN5).out.draw hg4 hst4);obtain⟨A4,m4,cp4,bo,-⟩:=RN4.out.bo;have e7:=bo.c 9;have f7:=bo.frozen 9;have hlo:=bo.lt;clear bs hg4 hst4 RN5;go_upto_region 8 with fail
 have RN5:=jA (RN4.out.put (i:=9) (u:= .int .i64 kk) (d':=(kk:Int)) (fun A m cp h=>h.gH 9 _));clear RN4 bo e7 f7 hlo;revert RN5;generalize w4.setCell ⟨rb,9,none⟩ (.int .i64 kk)=w5;intro RN5;obtain⟨st2,bs⟩:=RN5.out.bs;clear bs;go_wp2_with fail;have hba:=bL (bS w5.heap.size w5) (.cells (afd rb).toArray 1);have bf:=fc.new w5 1 (afd rb);obtain⟨gf,hgf⟩: ∃k,k=w5.heap.size:=⟨_,rfl⟩;have RN6:=jA (RN5.out.below hba);have hgfr:gf≠rb:=by obtain⟨A4,m4,cp4,bo,-⟩:=RN5.out.bo;have:=bo.lt;omega
 have hgfs:gf≠sb:=by have h1:=RN5.out.gr.size;omega
 rw[←hgf] at bf⊢;clear hba hgf RN5;revert RN6 bf;show _→_→Code.wp _ _ _ _ (w5.alloc (.cells (afd rb).toArray 1));generalize w5.alloc (.cells (afd rb).toArray 1)=w6;intro bf RN6;go_loopw [12,55] (fun _ iv wr=> ∃(i:Nat) (q:List Int),i≤3∧iv= .int .i64 i∧fc wr gf 1 (afd rb)∧Hid (qn x.days c.size c.start q)∧Hid (RnS x g o c1 A2 c2 w sb rb kk bud (ep q) wr)∧(0 <i→ ∃A m cp,Hid (sl (w.heap.size+3) wr (.slice A m cp) (ep q))∧Hid (fc wr rb 245 (xL x (some ⟨g,o,none⟩) c1 A2 c2 (.slice A m cp) 0 0 kk bud)))) (fun _ iv _=>3 - (intOf iv).toNat)
 case atStart=>exact⟨0,q0',by omega,rfl,bf,HQ,by rw[HPE.out];exact RN6,fun h=>by omega⟩
 case round=>
  clear RN6 bf;obtain⟨i,q,hi,rfl,bf,HQQ,RN,hres⟩:=hrel;have hlf:=bf.lt;obtain⟨A4,m4,cp4,bo,lb,ub,hpl,hub,hlb,hap⟩:=RN.out.bo;have hw:=hb0.trans (show Below w0.heap.size w wr from⟨RN.out.gr.os,RN.out.gr.tape,RN.out.gr.output,RN.out.gr.size,fun k hk=>RN.out.gr.block k (by have:=hb0.size;omega) (fun e=>by cases e;omega)⟩);have HPD:=jA hpl.reads;have HRr:=jA (HR.out.below hw (ij _));have HMr:=jA (HM.out.below hw (ij _));clear hw hpl;obtain rfl|rfl|rfl|rfl:i=0∨i=1∨i=2∨i=3:=by omega
  ·have f0:=bf.c 0;go_wp2_with fail;refine(adE hx g o c1 A2 c2 dm A0 n0 c0 rb A4 m4 cp4 kk bud q wr HMr.out HRr.out HQQ.out HPD.out bo).mono ?_;rintro e w7 ⟨rfl,A5,m5,cp5,q5,hq5,bo5,hod5,hg5⟩;have RN7:=jA (RN.out.next bo5 hod5 hg5);have bf7:=bf.grown hg5 (by simp;omega);have HQ5:=jA hq5;have HPI:=jA ((OD.acI hod5).mono (show w.heap.size+3≤wr.heap.size by have h1:=RN.out.ne;have h2:=bo.lt;omega));have HBO:=jA bo5;clear hod5 bo5 hq5 hg5 bo f0 hlf hub;go_wp2_with fail;go_roundw
   case rel=>exact⟨1,q5,by omega,by go_num,bf7,HQ5,RN7,fun _=>⟨A5,m5,cp5,HPI,HBO⟩⟩
   case measure=>simp[intOf]
  ·have f0:=bf.c 1;go_wp2_with fail;refine(aeH hx g o c1 A2 c2 dm A0 n0 c0 rb A4 m4 cp4 kk bud q wr HMr.out HRr.out HQQ.out HPD.out bo).mono ?_;rintro e w7 ⟨rfl,A5,m5,cp5,q5,hq5,bo5,hod5,hg5⟩;have RN7:=jA (RN.out.next bo5 hod5 hg5);have bf7:=bf.grown hg5 (by simp;omega);have HQ5:=jA hq5;have HPI:=jA ((OD.acI hod5).mono (show w.heap.size+3≤wr.heap.size by have h1:=RN.out.ne;have h2:=bo.lt;omega));have HBO:=jA bo5;clear hod5 bo5 hq5 hg5 bo f0 hlf hub;go_wp2_with fail;go_roundw
   case rel=>exact⟨2,q5,by omega,by go_num,bf7,HQ5,RN7,fun _=>⟨A5,m5,cp5,HPI,HBO⟩⟩
   case measure=>simp[intOf]
  ·have f0:=bf.c 2;go_wp2_with fail;refine(adD hx g o c1 A2 c2 rb A4 m4 cp4 kk bud q wr HRr.out HQQ.out HPD.out (by have:=HQQ.out.len;have:=HN.out;omega) hbud bo).mono ?_;rintro e w7 ⟨rfl,A5,m5,cp5,q5,hq5,bo5,hod5,hg5⟩;have RN7:=jA (RN.out.next bo5 hod5 hg5);have bf7:=bf.grown hg5 (by simp;omega);have HQ5:=jA hq5;have HPI:=jA ((OD.acI hod5).mono (show w.heap.size+3≤wr.heap.size by have h1:=RN.out.ne;have h2:=bo.lt;omega));have HBO:=jA bo5;clear hod5 bo5 hq5 hg5 bo f0 hlf hub;go_wp2_with fail;go_roundw
   case rel=>exact⟨3,q5,by omega,by go_num,bf7,HQ5,RN7,fun _=>⟨A5,m5,cp5,HPI,HBO⟩⟩
   case measure=>simp[intOf]
  ·obtain⟨A5,m5,cp5,HPI,HBO⟩:=hres (by omega);clear bo;have bo:=HBO.out;have e6:=bo.c 6;have hlo:=bo.lt;have br:=RN.out.br;have r0:=br.c 0;have fr:=br.frozen 0;have hlr:=br.lt;have hGR:=jA RN.out.gr;have hne:=RN.out.ne;obtain⟨st9,bs⟩:=RN.out.bs;go_wp2_with fail;refine bodyPost_ret (v:= .agg #[_]) (ia rfl _ _ (w.heap.size+1+1) 30 [.slice A5 m5 cp5] _ rfl (br.gH 0 _) Tryz.underlying30 rfl gB) rfl ⟨_,_,_,q,rfl,HQQ.out,(HPI.out.low (g:=w.heap.size+1+1) (i:=0) (by omega)).mono (by omega),⟨st9,bs.kj (p:=⟨w.heap.size+1+1,0,none⟩) (by show sb≠w.heap.size+1+1;omega) _⟩,rn hGR.out (kd wr (w.heap.size+1+1) 0 _) (.inl (by omega))⟩
end
end
section
open Go.Proofs.Tryz
open Go.RowKit jm ko Et kN J8
abbrev skC (sd rd po cl:Int):List Value:=[.int .i64 sd,.int .i64 rd,.int .i64 po,.int .i64 cl]
theorem acY (A:Option Addr) (m cp lastb:Nat) (u:Value) (w:World) (hb:fc w lastb 30 [u]):
  Calls Tryz.prog 86 #[.agg #[.slice A m cp],.pointer (some ⟨lastb,0,none⟩)] w fun e w'=>e= .returned (.tuple #[])∧fc w' lastb 30 [.slice A m cp]∧w.grownBy w' (some lastb):=by
 have hba:=bL (bS w.heap.size w) (.cells #[.slice A m cp] 30);have hb2:=hb.below hba hb.lt;have r0:=hb2.c 0;have fr:=hb2.frozen 0;have hl:=hb2.lt;have hl2:=hb.lt;go_enter Tryz.func86,Tryz.ntmps86;go_wp2_with fail
 go_end0
 exact⟨rfl,(hb.gH 0 _).alloc _,(kd w lastb 0 _).trans (abP (bL (bS _ _) _) _)⟩
structure WkS (x:fS) (g o:Nat) (c1:Nat) (A2:Option Addr) (c2:Nat) (sd rd po cl:Int) (w:World) (lastb pb:Nat) (A:Option Addr) (m cp:Nat) (p:Pl) (W:World):Prop where
 bx:fc W w.heap.size 25 (xC x (some ⟨g,o,none⟩) c1 A2 c2)
 bc:fc W (w.heap.size+1) 70 (skC sd rd po cl)
 bp:fc W pb 30 [.slice A m cp]
 bl: ∃u,fc W lastb 30 [u]
 pl: ∃lb ub,PlB lb ub W (.slice A m cp) p∧ub≤W.heap.size∧w.heap.size≤lb∧(ub≤pb∨pb <lb)
 gr:w.grownBy W (some lastb)
 ne:lastb <w.heap.size∧w.heap.size+2≤pb
section
variable {x:fS} {sd rd po cl:Int} {lastb pb:Nat} {A:Option Addr} {m cp:Nat} {p:Pl}
theorem WkS.below (h:WkS x g o c1 A2 c2 sd rd po cl w lastb pb A m cp p W) (hb:Below W.heap.size W W'):WkS x g o c1 A2 c2 sd rd po cl w lastb pb A m cp p W':=by obtain⟨u,hu⟩:=h.bl;obtain⟨lb,ub,h1,h2,h3,h4⟩:=h.pl;exact⟨h.bx.below hb h.bx.lt,h.bc.below hb h.bc.lt,h.bp.below hb h.bp.lt,⟨u,hu.below hb hu.lt⟩,⟨lb,ub,h1.below h2 hb,eZ h2 hb.size,h3,h4⟩,h.gr.trans (abP hb _),h.ne⟩
theorem WkS.told (h:WkS x g o c1 A2 c2 sd rd po cl w lastb pb A m cp p W) {u:Value} (hl:fc W' lastb 30 [u]) (hg:W.grownBy W' (some lastb)):WkS x g o c1 A2 c2 sd rd po cl w lastb pb A m cp p W':=by obtain⟨lb,ub,h1,h2,h3,h4⟩:=h.pl;have hn:=h.ne;exact⟨h.bx.grown hg (by simp;omega),h.bc.grown hg (by simp;omega),h.bp.grown hg (by simp;omega),⟨u,hl⟩,⟨lb,ub,h1.grown h2 hg (by omega),eZ h2 hg.size,h3,h4⟩,h.gr.trans hg,hn⟩
theorem WkS.next (h:WkS x g o c1 A2 c2 sd rd po cl w lastb pb A m cp p W) {sb:Nat} (hg:W.grownBy W' (some sb)) (hsb:pb <sb) {A':Option Addr} {m' cp':Nat} {p':Pl} (hpi:sl W.heap.size W' (.slice A' m' cp') p'):WkS x g o c1 A2 c2 sd rd po cl w lastb pb A' m' cp' p' (W'.setCell ⟨pb,0,none⟩ (.slice A' m' cp')):=by
 obtain⟨u,hu⟩:=h.bl;have hn:=h.ne;have hp:=h.bp.lt;have hgs:=kd W' pb 0 (.slice A' m' cp');exact⟨(h.bx.grown hg (by simp;omega)).kj (p:=⟨pb,0,none⟩) (by show w.heap.size≠pb;omega) _,(h.bc.grown hg (by simp;omega)).kj (p:=⟨pb,0,none⟩) (by show w.heap.size+1≠pb;omega) _,(h.bp.grown hg (by simp;omega)).gH 0 _,⟨u,(hu.grown hg (by simp;omega)).kj (p:=⟨pb,0,none⟩) (by show lastb≠pb;omega) _⟩,
  ⟨_,_,PlB.grown (sl.plB hpi) (ij _) hgs (.inl hp),hgs.size,h.gr.size,.inr hp⟩,rn (rn h.gr hg (.inl (by omega))) hgs (.inl (by omega)),hn⟩
end
section
variable {x:fS} {c:kc} {a b:Int} (hx:iF x c a b) (g o:Nat) (c1:Nat) (A2:Option Addr) (c2:Nat) (dm:Int) (A0:Option Addr) (n0 c0:Nat)
include hx
theorem aey (sd rd po cl:Int) (lastb:Nat) (u:Value) (w0 w:World) (hm:qk w0 g o dm A0 n0 c0 c) (hr:iz w0 (.agg (xC x (some ⟨g,o,none⟩) c1 A2 c2).toArray) x) (hb0:Below w0.heap.size w0 w) (hlast:w0.heap.size≤lastb)
  (hl:fc w lastb 30 [u]) (hpo:po≤9223372036854775807) (hrd:rd≤1000000):
  Calls Tryz.prog 85 #[.agg (xC x (some ⟨g,o,none⟩) c1 A2 c2).toArray,.agg (skC sd rd po cl).toArray,.func (.func 86) #[] #[.pointer (some ⟨lastb,0,none⟩)]] w fun e w'=>
   ∃A m cp q,e= .returned (.int .i64 0)∧qn x.days c.size c.start q∧fc w' lastb 30 [.slice A m cp]∧sl w.heap.size w' (.slice A m cp) (ep q)∧w.grownBy w' (some lastb):=by
 have HST:=jA fun W h1 h2=>ad5 hx g o c1 A2 c2 dm A0 n0 c0 po W h1 h2 hpo;have HR:=jA hr;have HM:=jA hm;have hll:=hl.lt;clear hm hr;obtain⟨W,hW,⟨bx,bc,-⟩,hb,hsz⟩:=sk w [(25,xC x (some ⟨g,o,none⟩) c1 A2 c2),(70,skC sd rd po cl)];simp only[Hk] at hW;obtain⟨k0,k1,k2,k3,k4,k5,-⟩:=bx.iY;have s2:=bc.c 2;have hlx:=bx.lt;have hlc:=bc.lt;have hbw:=hb0.trans (hb.mono hb0.size);clear hsz;go_enter Tryz.func85,Tryz.ntmps85;go_upto_region 1 with fail
 clear hW;go_wp2_with fail;refine(HST.out W (HM.out.below hbw (ij _)) (HR.out.below hbw (ij _))).mono ?_;rintro e w3 ⟨dv,q,rfl,hq,hpi,hb3⟩;have HQ:=jA hq;obtain⟨Ad,cd,rfl,-⟩:=hpi.reads.open_;have HPI:=jA hpi;have bx3:=bx.below hb3 hlx;have bc3:=bc.below hb3 hlc;have hb4:=hb.trans (hb3.mono hb.size);have hs4:=hb3.size;have hs0:=hb.size;clear hq hpi k0 k1 k2 k3 k4 k5 s2 hlx hlc bx bc hbw;go_upto_region 2 with fail
 obtain⟨P,hP⟩: ∃P,ep q=P:=⟨_,rfl⟩;rw[hP] at HPI⊢;have HPE:=jA hP;clear hP;obtain⟨pb,hpb⟩: ∃k,k=w3.heap.size:=⟨_,rfl⟩;have hba:=bL (bS w3.heap.size w3) (.cells #[.slice Ad P.length cd] 30);have bp:=fc.new w3 30 [.slice Ad P.length cd];have hb5:=hb4.trans (hba.mono hb4.size);rw[←hpb] at bp⊢;have WK:Hid (WkS x g o c1 A2 c2 sd rd po cl w lastb pb Ad P.length cd P (w3.alloc (.cells #[.slice Ad P.length cd] 30))):=jA ⟨bx3.below hba bx3.lt,bc3.below hba bc3.lt,bp,⟨u,hl.below hb5 hll⟩,⟨_,_,PlB.below (sl.plB HPI.out) (ij _) hba,hba.size,by omega,.inl (by omega)⟩,abP hb5 _,hll,by have:=bc3.lt;omega⟩;clear bp bx3 bc3 hb3 hb4 hb5 hba hs4 hs0 hpb HPI hb hl;revert WK;generalize w3.alloc (.cells #[.slice Ad P.length cd] 30)=w4;intro WK;have bp:=WK.out.bp;have p0:=bp.c 0;have hlp:=bp.lt;obtain⟨u1,bl⟩:=WK.out.bl;go_wp2_with fail;refine(acY Ad P.length cd lastb u1 w4 bl).mono ?_;rintro e w5 ⟨rfl,hl5,hg5⟩;have WK5:=jA (WK.out.told hl5 hg5);have HL5:=jA hl5;clear WK p0 hlp bp bl hg5 hl5;have bc:=WK5.out.bc;have s0:=bc.c 0;have hlc:=bc.lt;go_wp2_with fail;refine(ads sd w5).mono ?_;rintro e w6 ⟨st,rfl,bs,hb6⟩;obtain⟨sb,hsb⟩: ∃k,k=w5.heap.size:=⟨_,rfl⟩;have WK6:=jA (WK5.out.below hb6);have HL6:=jA (HL5.out.below hb6 HL5.out.lt);have hsbn:pb <sb∧w.heap.size≤sb:=by have h1:=WK5.out.bp.lt;have h2:=WK5.out.gr.size;omega
 rw[←hsb] at bs⊢;clear s0 hlc bc hb6 WK5 HL5 hsb;have bc:=WK6.out.bc;have s1:=bc.c 1;have hlc:=bc.lt;go_wp2_with fail;clear s1 hlc bc;go_loopw [28] (fun iv wr=> ∃(i:Nat) (A:Option Addr) (m cp:Nat) (q:List Int),(i:Int)≤max rd 0∧iv= .int .i64 i∧Hid (qn x.days c.size c.start q)∧Hid (WkS x g o c1 A2 c2 sd rd po cl w lastb pb A m cp (ep q) wr)∧Hid (fc wr lastb 30 [.slice A m cp])∧ ∃st,fc wr sb 188 [.int .u64 st]) (fun iv _=>(rd - intOf iv).toNat)
 case atStart=>exact⟨0,Ad,P.length,cd,q,by omega,rfl,HQ,by rw[HPE.out];exact WK6,HL6,st,bs⟩
 case round=>
  clear WK6 HL6 bs;obtain⟨i,A,m,cp,q,hi,rfl,HQQ,WK,HL,st,bs⟩:=hrel;have hne:=WK.out.ne;obtain⟨lb,ub,hpl,hub,hlb,-⟩:=WK.out.pl;have hw:=hb0.trans (show Below w0.heap.size w wr from⟨WK.out.gr.os,WK.out.gr.tape,WK.out.gr.output,WK.out.gr.size,fun k hk=>WK.out.gr.block k (by have:=hb0.size;omega) (fun e=>by cases e;omega)⟩);by_cases hlt:(i:Int) <rd
  ·have bx:=WK.out.bx;have bc:=WK.out.bc;have bp:=WK.out.bp;obtain⟨k0,k1,k2,k3,k4,k5,-⟩:=bx.iY;have p0:=bp.c 0;have s2:=bc.c 2;have hlx:=bx.lt;have hlc:=bc.lt;have hlp:=bp.lt;have HPD:=jA hpl.reads;have hs0:=hb0.size;clear hpl;go_wp2_with fail;refine(ad4 hx g o c1 A2 c2 dm A0 n0 c0 (.slice A m cp) q sb st po w0 wr HM.out HR.out hw (by omega) bs HQQ.out HPD.out hpo).mono ?_;rintro e w7 ⟨A7,m7,cp7,q7,rfl,hq7,hpi7,hst7,hg7⟩;have WK7:=jA (WK.out.next hg7 hsbn.1 hpi7);have HQ7:=jA hq7;have bp7:=bp.grown hg7 (by simp;omega);have p7:=bp7.c 0;have f7:=bp7.frozen 0;have hl7:=bp7.lt;obtain⟨st7,bs7⟩:=hst7;have bs8:=bs7.kj (p:=⟨pb,0,none⟩) (by show sb≠pb;omega) (.slice A7 m7 cp7);clear k0 k1 k2 k3 k4 k5 p0 s2 hlx hlc hlp bx bc bp hq7 hpi7 hg7 bs7 bs WK HL HQQ hub;go_upto_region 9 with fail
   clear p7 f7 hl7 bp7;revert WK7 bs8;generalize w7.setCell ⟨pb,0,none⟩ (.slice A7 m7 cp7)=w8;intro WK7 bs8;have bp:=WK7.out.bp;have p0:=bp.c 0;have hlp:=bp.lt;obtain⟨u1,bl⟩:=WK7.out.bl;go_wp2_with fail;refine(acY A7 m7 cp7 lastb u1 w8 bl).mono ?_;rintro e w9 ⟨rfl,hl9,hg9⟩;have WK9:=jA (WK7.out.told hl9 hg9);have HL9:=jA hl9;have bs9:=bs8.grown hg9 (by simp;omega);clear p0 hlp bp bl hg9 hl9 bs8;go_wp2_with fail;go_roundw
   case rel=>exact⟨i+1,A7,m7,cp7,q7,by omega,by go_num,HQ7,WK9,HL9,st7,bs9⟩
   case measure=>exact mI
  ·have HPI:=jA ((hpl.acI hub).mono hlb);clear hpl;go_wp2_with fail;go_ret;exact⟨rfl,A,m,cp,q,HQQ.out,HL.out,HPI.out,WK.out.gr⟩
theorem aeV (sd rd po cl:Int) (w:World) (hm:qk w g o dm A0 n0 c0 c) (hr:iz w (.agg (xC x (some ⟨g,o,none⟩) c1 A2 c2).toArray) x) (hpo:po≤9223372036854775807) (hrd:rd≤1000000):
  Calls Tryz.prog 51 #[.agg (xC x (some ⟨g,o,none⟩) c1 A2 c2).toArray,.agg (skC sd rd po cl).toArray] w fun e w'=>
   ∃A m cp q,e= .returned (.tuple #[.agg #[.slice A m cp],.int .i64 0])∧qn x.days c.size c.start q∧sl w.heap.size w' (.slice A m cp) (ep q)∧Below w.heap.size w w':=by
 have HR:=jA hr;have HM:=jA hm;clear hm hr;obtain⟨W,hW,⟨bx,bc,br,bl,-⟩,hb,-⟩:=sk w [(25,xC x (some ⟨g,o,none⟩) c1 A2 c2),(70,skC sd rd po cl),(30,[.slice none 0 0]),(30,[.slice none 0 0])];simp only[Hk] at hW;obtain⟨k0,k1,k2,k3,k4,k5,-⟩:=bx.iY;have d:=bc.iY;simp only[im,Nat.reduceAdd] at d;obtain⟨s0,s1,s2,s3,-⟩:=d;have hlx:=bx.lt;have hlc:=bc.lt;have hll:=bl.lt;have HB:=jA hb;go_enter Tryz.func51,Tryz.ntmps51;go_upto_region 2 with fail
 clear hW;go_wp2_with fail;refine(aey hx g o c1 A2 c2 dm A0 n0 c0 sd rd po cl (w.heap.size+1+1+1) _ w W HM.out HR.out HB.out (by omega) bl hpo hrd).mono ?_;rintro e w3 ⟨A,m,cp,q,rfl,hq,hl3,hpi,hg⟩;have HQ:=jA hq;have HPI:=jA hpi;have br3:=br.grown hg (by simp);have hb3:Below w.heap.size w w3:=HB.out.trans ⟨hg.os,hg.tape,hg.output,hg.size,fun k hk=>hg.block k (by have:=HB.out.size;omega) (fun e=>by cases e;omega)⟩;have hlr0:=br.lt;have hsz:=HB.out.size;have l0:=hl3.c 0;have hl:=hl3.lt;have r0:=br3.c 0;have fr:=br3.frozen 0;have hlr:=br3.lt;clear k0 k1 k2 k3 k4 k5 s0 s1 s2 s3 hlx hlc bx bc br bl hq hpi hg hb;go_wp2_with fail;refine bodyPost_ret (iw rfl _ _ (w.heap.size+1+1) 30 [.slice A m cp] _ (.int .i64 0) rfl rfl (br3.gH 0 _) Tryz.underlying30 rfl gB) rfl ⟨_,_,_,q,rfl,HQ.out,(HPI.out.low (g:=w.heap.size+1+1) (i:=0) (by omega)).mono hsz,hb3.setCell (p:=⟨w.heap.size+1+1,0,none⟩) (by show w.heap.size≤w.heap.size+1+1;omega) _⟩
end
end
end Go.Proofs.YtgimnjldndkalaaGreatDoor
