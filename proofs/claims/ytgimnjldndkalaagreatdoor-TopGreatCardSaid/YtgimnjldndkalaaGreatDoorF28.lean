/- Of the proof of TopGreat: One number, so many times. -/
import Derived.Test.YtgimnjldndkalaaGreatDoorF9
import Derived.Test.YtgimnjldndkalaaGreatDoorF10
set_option linter.all false
set_option maxHeartbeats 20000000
set_option maxRecDepth 100000
namespace Go.Proofs.YtgimnjldndkalaaGreatDoor
section
open Go.Proofs.Tryz
open Go Go.RowKit jm ko kN
theorem add_lit (b o j:Nat):(⟨b,o,none⟩:Addr).add j=⟨b,o+j,none⟩:=by unfold Addr.add;split <;>simp_all
def m0 (n:Nat):Int:=IntKind.u64.wrap (bits BinOp.and IntKind.u64 1 4294967295*bits BinOp.and IntKind.u64 (n:Int) 4294967295)
def m1 (n:Nat):Int:=IntKind.u64.wrap (m0 n/4294967296)
def hiE (n:Nat):Int:=IntKind.u64.wrap (IntKind.u64.wrap (m1 n/4294967296)+
 IntKind.u64.wrap (bits BinOp.and IntKind.u64 (m1 n) 4294967295+IntKind.u64.wrap (bits BinOp.and IntKind.u64 1 4294967295*((n:Int)/4294967296)))/4294967296)
theorem Wj:((List.range 65).all fun k=>decide (hiE k=0)&&decide (IntKind.u64.wrap (k:Int)=k))=true:=by kernel_rfl
theorem Oe (n:Nat) (hn:n≤64) (w:World):Calls Tryz.prog 238 #[.int .u64 1,.int .u64 (n:Int)] w fun e w'=>e= .returned (.tuple #[.int .u64 0,.int .u64 (n:Int)])∧w'=w:=by
 have h:Hid (n≤64):=jA hn;clear hn;go_enter Tryz.func238,Tryz.ntmps238;go_wp2
 go_ret2
 have h2:=dT.1 Wj n (jz.2 (by have:=h.out;omega));simp only[a6,decide_eq_true_eq] at h2;have h3:Ending.returned (.tuple #[.int .u64 (hiE n),.int .u64 (IntKind.u64.wrap (n:Int))])=Ending.returned (.tuple #[.int .u64 0,.int .u64 (n:Int)]):=by rw[h2.1,h2.2]
 exact⟨h3,rfl⟩
theorem RB (n:Nat) (hn:n≤64) (w:World):Calls Tryz.prog 208 #[.int .u64 1,.int .u64 (n:Int)] w fun e w'=>e= .returned (.tuple #[.int .u64 0,.int .u64 (n:Int)])∧w'=w:=by
 have h:Hid (n≤64):=jA hn;clear hn;go_enter Tryz.func208,Tryz.ntmps208;go_wp2_with fail;refine(Oe n h.out w).mono ?_;rintro e w' ⟨rfl,rfl⟩;go_wp2
 go_ret2
 exact⟨rfl,rfl⟩
def E9 (n k:Nat) (z:Int):List Value:=List.replicate k (.int .i64 z)++List.replicate (n - k) (.int .i64 0)
theorem afa {n k:Nat} {z:Int}:(E9 n k z).length=k+(n - k):=by simp[E9]
theorem afb {n k:Nat} {z:Int}: ∀u∈E9 n k z,u.oneCell'=true:=fun u hu=>by
 rcases fO.1 hu with h|h <;>(rw[Vf h];rfl)
theorem adB {n k:Nat} {z:Int} (hk:k≤n):Go.splice (E9 n k z) k ((E9 n k z).take (min k (n - k)))=E9 n (k+min k (n - k)) z:=by
 have e1:(E9 n k z).take (min k (n - k))=List.replicate (min k (n - k)) (.int .i64 z):=by unfold E9;rw[pw (by simp;omega),afZ];congr 1;omega
 have e2:(E9 n k z).take k=List.replicate k (.int .i64 z):=by unfold E9;rw[pw (by simp),afZ,Nat.min_self]
 unfold Go.splice;rw[e1,e2,Xt];unfold E9;rw[List.drop_append,Xt,List.drop_of_length_le (by simp),gQ,List.drop_replicate,←eT,List.replicate_append_replicate];congr 2;omega
theorem hu3:Tryz.prog.underlying 26=some (.slice 3):=by kernel_rfl
theorem TP:(Tryz.prog.info? 3).map (·.size)=some 1:=by kernel_rfl
theorem LM (w:World) (b o c:Nat) (z:Int) (hc:w.cell? ⟨b,o,none⟩=some (.int .i64 z)) (hb:b <w.heap.size) (n:Nat) (h1:1≤n) (h2:n≤64):
  Calls Tryz.prog 164 #[.slice (some ⟨b,o,none⟩) 1 c,.int .i64 (n:Int)] w fun e w'=>e= .returned (.slice (some ⟨w.heap.size,0,none⟩) n n)∧fc w' w.heap.size 3 (List.replicate n (.int .i64 z))∧Below w.heap.size w w':=by
 have e1:IntKind.u64.wrap (n:Int)=n:=by show(n:Int)%18446744073709551616=n;omega
 have e2:IntKind.i64.wrap (n:Int)=n:=iM _ (by omega);have e3:wrap64 (n:Int)=n:=by unfold wrap64;omega
 have e4:decide ((n:Int) <0)=false:=decide_eq_false (by omega);have hmk:=fun W=>pM (P:=Tryz.prog) (t:=26) (e:=3) (by kernel_rfl) (by kernel_rfl) n (n:Int) rfl (by omega) W;have hal:=(bS w.heap.size w).alloc (ij _) (.cells (kE n).toArray 3);have hnew:(w.alloc (.cells (kE n).toArray 3)).heap[w.heap.size]? =some (.cells (kE n).toArray 3 (0,0)):=fc.new w 3 (kE n);have h5:=jA h1;have h6:=jA h2;go_enter Tryz.func164,Tryz.ntmps164;go_wp2_with fail;refine(RB n h6.out w).mono ?_;rintro e w1 ⟨rfl,rfl⟩;go_wp2_with fail;have hcp:=run_copy_row (P:=Tryz.prog) (w1.alloc (.cells (kE n).toArray 3)) 26 26 3 3 w1.heap.size 0 n n ⟨b,o,none⟩ 1 c (kE n).toArray 3 [.int .i64 z] hu3 TP hnew (by show 1=Nat.min 1 n;have:Nat.min 1 n=min 1 n:=rfl;omega) (fun j v hj=>by
  cases j with
  |zero=>simp at hj;subst hj;rw[add_lit,eW];exact(hal.cell hb).trans hc
  |succ j=>simp at hj) (by simp[kE];exact h1) (fun v hv=>by simp at hv;subst hv;rfl)
 obtain⟨w2,hw2⟩: ∃w2,(w1.alloc (.cells (kE n).toArray 3)).setRow w1.heap.size ((kE n).toArray.toList.take 0++[Value.int .i64 z]++(kE n).toArray.toList.drop (0+[Value.int .i64 z].length)).toArray=w2:=⟨_,rfl⟩;have H2:=jA (show w2.heap[w1.heap.size]? =some (.cells (Go.splice (kE n) 0 [Value.int .i64 z]).toArray 3 (0,0)) by rw[←hw2,setRow_heap _ _ _ _ 3 _ hnew];simp[Go.splice]);have hB2:Below w1.heap.size w1 w2:=by rw[←hw2];exact below_setRow hal (ij _) _
 rw[hw2] at hcp;rw[hcp];have h7:=jA hB2;have hL:Hid (Go.splice (kE n) 0 [Value.int .i64 z]=E9 n 1 z):=jA (by unfold Go.splice E9 kE;simp);clear hB2 hnew hal hcp hw2 hmk;go_wp2_with fail;go_loopw [8] (fun kv wr=> ∃(k:Nat) (L:List Value),kv= .int .i64 k∧Hid (1≤k∧k≤n)∧Hid (L=E9 n k z)∧Hid (wr.heap[w1.heap.size]? =some (.cells L.toArray 3 (0,0)))∧Hid (Below w1.heap.size w1 wr)) (fun kv _=>n - (intOf kv).toNat)
 case atStart=>exact⟨1,_,rfl,jA ⟨by omega,h5.out⟩,hL,H2,h7⟩
 case round=>
  obtain⟨k,L,rfl,hk,hl,hr,hb⟩:=hrel;by_cases hlt:k <n
  ·have hk1:k≤n:=by omega
   have hn:L.length=n:=by rw[hl.out,afa];omega
   have hmin:Nat.min k (n - k)=min k (n - k):=rfl;have hcs:(L.take (min k (n - k))).length=Nat.min k (n - k):=by rw[fB,hn,hmin];omega
   have hfit:k+(L.take (min k (n - k))).length≤L.length:=by rw[hcs,hmin,hn];omega
   have hone: ∀u∈L.take (min k (n - k)),u.oneCell'=true:=fun u hu=>afb u (by rw[←hl.out];exact mh hu);have hsrc: ∀(j:Nat) v,(L.take (min k (n - k)))[j]? =some v→wr.cell? ((⟨w1.heap.size,0,none⟩:Addr).add j)=some v:=fun j v hj=>by
    rw[add_lit,cell_of_row wr _ _ _ _ _ hr.out];rw[eU] at hj;split at hj
    ·simpa using hj
    ·cases hj
   have HL:=jA (show Go.splice L k (L.take (min k (n - k)))=E9 n (k+min k (n - k)) z by rw[hl.out];exact adB hk.out.2);have HN:=jA hcs;have HK:=jA hk.out.1;go_wp2_with fail
   go_region_law (refine step_copy_splice (o:=⟨some 45,_,_,_,_,_⟩) (by rfl) (.tmp 41) (.tmp 44) 26 26 (by rfl) 3 hu3 TP (if n=k then some ⟨w1.heap.size,0,none⟩ else some ⟨w1.heap.size,k,none⟩) (some ⟨w1.heap.size,0,none⟩) (n - k) (n - k) k n (by rfl) (by rfl) w1.heap.size k L 3 hr.out (L.take (min k (n - k))) hcs (fun _=>⟨if_neg (by omega),_,rfl,hsrc⟩) hfit hone w1.heap.size w1 hb.out.drew (ij _) ?_;intro w3 H3 hB3)
   have hB3':=jA hB3;clear hB3;go_wp2_with fail;go_roundw
   case rel=>have hmin:Nat.min k (n - k)=min k (n - k):=rfl;have hk1:=hk.out.1;exact⟨k+min k (n - k),by rw[hmin,iM _ (by omega)];omega,jA ⟨by omega,by omega⟩,_,HL,H3⟩
   case measure=>have hmin:Nat.min k (n - k)=min k (n - k):=rfl;have hk1:=hk.out.1;rw[hmin,iM _ (by omega)];simp only[intOf];omega
  ·obtain rfl:k=n:=by have:=hk.out;omega
   go_wp2_with fail;go_ret
   exact⟨rfl,by have:=hr.out;rw[hl.out] at this;unfold E9 at this;rw[pG,List.replicate_zero,mz] at this;exact this,hb.out⟩
end
end Go.Proofs.YtgimnjldndkalaaGreatDoor
