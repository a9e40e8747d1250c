/- Of the proof of TopGreat: Short words for small proofs: a default argument is run where it is used;. -/
import Derived.Lib.Hide
import Derived.WalkKit
set_option linter.all false
namespace Go.Proofs.YtgimnjldndkalaaGreatDoor
def AW:=@List.filter_eq_nil_iff
def BE:=@Bool.eq_iff_iff
def BG:=@UInt8.toNat_inj
def BZ:=@List.set_append_right
def Cf:=@Go.Addr.add_lit
def DW:=@Array.mem_toList_iff
def Er:=@List.length_reverse
def Es:=@List.length_take_le
def FH:=@Nat.lt_irrefl
def G7:=@Nat.add_sub_cancel
def G8:=@Nat.lt_of_le_of_lt
def G9:=@Nat.mod_lt
def He:=@Go.World.ownsRow.alloc
def J5:=@Bool.eq_false_iff
def Kc:=@Go.Calls.mono
def Mo:=@List.filter_cons
def Mp:=@List.getElem_mem
def Mr:=@Option.getD_some
def Nl:=@List.map_id
def Nn:=@Nat.min_def
def Np:=@Prod.mk.inj
def PA:=@List.head?_cons
def PB:=@List.prefix_append_right_inj
def PE:=@Nat.div_le_self
def Pz:=@Int.natCast_add
def S5:=@List.getElem?_take_eq_none
def S6:=@List.length_eraseIdx_of_lt
def S7:=@List.take_take
def TT:=@Int.mul_comm
def Vd:=@Array.getElem?_push_size
def Vf:=@List.eq_of_mem_replicate
def Vg:=@List.take_set
def Xi:=@Array.getElem?_eq_none
def Xj:=@List.all_map
def Xl:=@List.range_succ_eq_map
def Xr:=@Array.mem_of_getElem?
def Xs:=@ByteArray.data_append
def Xt:=@List.length_replicate
def a6:=@Bool.and_eq_true
def a8:=@List.mem_of_getElem?
def aaf:=@List.getElem?_modify
def aag:=@Go.World.block_lt_of_cell?
def aah:=@Array.getElem?_eq_some_iff
def aap:=@Int.ediv_nonneg
def aaq:=@Go.Region.free_spec
def aas:=@List.IsPrefix.trans
def aat:=@List.flatten_append
def aax:=@Go.Oper.wp_mono
def ac9:=@List.countP_cons
def acO:=@Array.toList_push
def acP:=@List.isEmpty_cons
def acR:=@List.pairwise_map
def acS:=@List.take_sublist
def acT:=@Go.Region.noSelect_spec
def acU:=@Go.World.ownsRow.cellAt
def acg:=@Array.toList_range
def ach:=@Bool.false_eq_true
def aci:=@List.countP_append
def acj:=@List.count_eq_zero
def ack:=@List.pairwise_cons
def acm:=@List.prefix_append
def acn:=@List.zip_cons_cons
def aco:=@Nat.sub_add_cancel
def ada:=@List.drop_length
def adb:=@List.ext_getElem
def ade:=@List.perm_middle
def adm:=@List.map_replicate
def aeL:=@List.range_succ
def aeM:=@List.sum_append
def aef:=@Int.mul_le_mul_of_nonneg_right
def afH:=@Int.ediv_le_of_le_mul
def afI:=@List.length_singleton
def afU:=@List.replicate_succ'
def afV:=@List.getElem?_of_mem
def afW:=@List.pairwise_append
def afZ:=@List.take_replicate
def afm:=@Classical.byContradiction
def agc:=@Nat.le_of_succ_le
def agl:=@Int.natCast_zero
def bP:=@Nat.lt_of_lt_of_le
def bS:=@Go.RowKit.Below.refl
def bX:=@List.getElem?_eq_some_iff
def cy:=@List.mem_map
def dT:=@List.all_eq_true
def df:=@List.getElem?_cons_succ
def eC:=@Nat.zero_le
def eR:=@List.all_cons
def eS:=@Int.mul_nonneg
def eT:=@List.append_assoc
def eU:=@List.getElem?_take
def eW:=@Nat.add_zero
def eX:=@Int.mul_le_mul
def eZ:=@Nat.le_trans
def fA:=@Array.getElem?_toList
def fB:=@List.length_take
def fC:=@List.mem_cons
def fI:=@List.set_cons_succ
def fJ:=@List.set_cons_zero
def fK:=@List.getElem?_cons_zero
def fM:=@Array.getElem?_eq_getElem
def fO:=@List.mem_append
def fT:=@Nat.blt_eq
def fU:=@List.flatMap_append
def fY:=@List.cons_append
def fZ:=@List.length_nil
def fa:=@List.length_append
def ff:=@List.length_cons
def fg:=@Option.some.inj
def fh:=@List.getElem?_map
def fj:=@List.take_of_length_le
def fm:=@List.length_map
def fo:=@List.getElem?_append_right
def fp:=@List.getElem?_eq_getElem
def fu:=@List.getElem?_append_left
def fw:=@Int.eq_ofNat_of_zero_le
def gG:=@List.flatMap_cons
def gJ:=@List.map_append
def gK:=@List.setIfInBounds_toArray
def gL:=@Go.World.ownsRow_nil
def gN:=@List.map_cons
def gQ:=@List.nil_append
def gR:=@List.getD_eq_getElem?_getD
def gS:=@List.getElem?_drop
def gU:=@List.size_toArray
def gW:=@Nat.zero_add
def gh:=@List.take_length
def gj:=@List.eq_nil_of_length_eq_zero
def gk:=@List.take_add_one
def gu:=@Int.toNat_natCast
def gy:=@List.ext_getElem?
def gz:=@List.mem_iff_getElem?
def hU:=@Bool.or_eq_true
def hX:=@List.getElem?_eq_none
def iA:=@List.append_toArray
def iB:=@Go.World.ownsRow.lt
def iE:=@List.drop_eq_nil_of_le
def iG:=@List.getElem?_take_of_lt
def iI:=@Go.MapKept.run_getObj_map
def iM:=@Go.IntWalk.i64_in
def iO:=@Go.Oper.semAt_some
def iQ:=@Array.getElem?_setIfInBounds_ne
def iT:=@List.getElem?_set_self
def iU:=@Nat.lt_or_ge
def iV:=@List.drop_eq_getElem?_toList_append
def iW:=@Nat.le_succ
def iX:=@List.push_toArray
def ij:=@Nat.le_refl
def iq:=@Array.replicate_succ
def ir:=@Array.replicate_zero
def iu:=@List.getElem?_set_ne
def iy:=@List.not_mem_nil
def jA:=@Go.Lib.hid
def jB:=@Go.IntKind.wrap_i64
def jN:=@Ne.symm
def jO:=@Bool.eq_false_or_eq_true
def jQ:=@List.length_pos_iff
def jR:=@Nat.mul_one
def jY:=@Go.MapKept.run_findKey
def jc:=@Array.getElem?_modify
def je:=@Array.length_toList
def jj:=@List.mem_of_mem_drop
def jk:=@Nat.pow_le_pow_right
def js:=@Nat.pow_succ
def jt:=@List.length_set
def jz:=@List.mem_range
def kF:=@Bool.and_true
def kK:=@List.map_map
def kM:=@Nat.min_eq_left
def kV:=@Nat.eq_zero_or_pos
def kg:=@Nat.mul_le_mul
def kh:=@Bool.true_and
def km:=@List.length_drop
def kn:=@Option.bind_some
def ks:=@Go.Sem.run_bind
def lF:=@List.all_nil
def lG:=@List.map_nil
def lH:=@Option.some.injEq
def lL:=@Option.map_some
def lO:=@Go.Result.andThen_ok
def lU:=@List.mem_or_eq_of_mem_set
def lV:=@List.take_append_drop
def lY:=@Option.toList_some
def lz:=@Go.World.size_alloc
def mC:=@List.mem_filter
def mN:=@Nat.div_div_eq_div_mul
def mP:=@Option.map_eq_some_iff
def mR:=@Go.ByteArray.toList_eq
def mT:=@List.map_toArray
def mV:=@Go.MapKept.run_setObj_map
def mh:=@List.mem_of_mem_take
def mu:=@Go.MapKept.run_checkKey
def my:=@List.all_append
def mz:=@List.append_nil
def nA:=@ByteArray.size_append
def nG:=@Go.World.grownBy.refl
def nM:=@List.nodup_cons
def nV:=@List.all_eq_false
def nW:=@List.foldl_append
def nX:=@List.mem_cons_of_mem
def nY:=@Nat.mul_comm
def nZ:=@Nat.mul_le_mul_right
def ng:=@Int.mul_le_mul_of_nonneg_left
def nm:=@Nat.add_assoc
def nu:=@List.filter_append
def nw:=@List.mem_singleton
def nz:=@Array.getElem?_mapIdx
def oD:=@Go.World.cell?_of_block
def oH:=@List.getElem?_range
def oI:=@List.map_congr_left
def pC:=@Nat.mod_one
def pF:=@Nat.le_of_lt
def pG:=@Nat.sub_self
def pR:=@Go.Sem.run_pure
def pZ:=@Bool.and_eq_false_iff
def pw:=@List.take_append_of_le_length
def pz:=@Nat.add_mul
def qN:=@Bool.false_and
def qO:=@Go.IntWalk.wrap64_in
def qR:=@List.mem_flatMap
def qW:=@List.drop_eq_getElem_cons
def ql:=@Bool.not_eq_true'
def qm:=@List.flatten_cons
def rA:=@Go.Act.put_comm
def rM:=@List.foldl_cons
def rN:=@Go.World.grownBy_alloc
def rQ:=@Int.emod_lt_of_pos
def rW:=@List.getElem?_replicate
def rX:=@List.length_eq_zero_iff
def rY:=@Nat.add_sub_cancel_left
def rp:=@List.drop_succ_cons
def rq:=@List.take_succ_cons
def sF:=@Int.emod_add_mul_ediv
def sV:=@Go.RowKit.Below.heap_alloc
def sX:=@List.drop_zero
def sY:=@Nat.add_comm
def tP:=@List.eq_nil_or_concat
def tQ:=@List.length_filter_le
def ui:=@Int.le_refl
def vY:=@Array.toList_setIfInBounds
def vZ:=@Bool.and_assoc
def vd:=@Int.mul_add
def vf:=@Int.emod_nonneg
def vq:=@Nat.zero_mul
def wW:=@List.pairwise_iff_getElem
def xT:=@Int.zero_add
def xy:=@Array.size_append
def xz:=@List.getElem?_set
def yo:=@Array.setIfInBounds_comm
def yu:=@List.sum_cons
def zG:=@List.flatMap_def
def zK:=@Option.bind_eq_some_iff
def zN:=@Go.World.cell?_setCell_same
section
open Go Go.RowKit
theorem oG {p:Prop} (h:p:=by omega):p:=h
theorem kR {p:Prop} (h:p:=by kernel_rfl):p:=h
theorem sI {p:Prop} (h:p:=by simp):p:=h
theorem dE {p:Prop} (h:p:=by decide):p:=h
theorem oS {p:Prop} (h:p:=by first|omega|(simp;done)|(simp;omega)):p:=h
theorem sO {p:Prop} (h:p:=by(simp;omega)):p:=h
theorem mO {p:Prop} (h:p:=by(simp only[maxLen];omega)):p:=h
theorem dO {p:Prop} (h:p:=by first|(dsimp only;omega)|omega):p:=h
theorem nF {p:Prop} (h:p:=by(intro h;cases h)):p:=h
theorem jF {p:Prop} (h:p:=by exact fun _ _ _ h=>h):p:=h
theorem pU {p q:Prop} (k:q) (h:q→p:=by(intro hk;(try simp only[Act.put,gK,fJ,fI]);exact hk)):p:=h k
theorem cS {α:Type} {a b:α} (h:a=b:=by kernel_rfl):some a=some b:=congrArg some h
theorem mI {p:Prop} (h:p:=by(simp[intOf];omega)):p:=h
theorem lE {n:Nat}:n≤n:=ij n
theorem lS {n:Nat}:n <n.succ:=Nat.lt_succ_self n
theorem zH {p:Prop} (h:p):Hid p:=jA h
theorem Zb {a b:Prop} (h:a) (i:b):Hid a∧Hid b:=⟨h,i⟩
theorem Zc {a b c:Prop} (h:a) (i:b) (j:c):Hid a∧Hid b∧Hid c:=⟨h,i,j⟩
theorem Zd {a b c d:Prop} (h:a) (i:b) (j:c) (k:d):Hid a∧Hid b∧Hid c∧Hid d:=⟨h,i,j,k⟩
theorem Ze {a b c d e:Prop} (h:a) (i:b) (j:c) (k:d) (l:e):Hid a∧Hid b∧Hid c∧Hid d∧Hid e:=⟨h,i,j,k,l⟩
theorem Zf {a b c d e f:Prop} (h:a) (i:b) (j:c) (k:d) (l:e) (m:f):Hid a∧Hid b∧Hid c∧Hid d∧Hid e∧Hid f:=⟨h,i,j,k,l,m⟩
theorem Zg {a b c d e f g:Prop} (h:a) (i:b) (j:c) (k:d) (l:e) (m:f) (n:g):Hid a∧Hid b∧Hid c∧Hid d∧Hid e∧Hid f∧Hid g:=⟨h,i,j,k,l,m,n⟩
theorem Zh {a b c d e f g o:Prop} (h:a) (i:b) (j:c) (k:d) (l:e) (m:f) (n:g) (p:o):Hid a∧Hid b∧Hid c∧Hid d∧Hid e∧Hid f∧Hid g∧Hid o:=⟨h,i,j,k,l,m,n,p⟩
theorem nE {α:Sort _} (x:α): ∃y,y=x:=⟨x,rfl⟩
theorem nR {α:Sort _} (x:α): ∃y,x=y:=⟨x,rfl⟩
theorem bF {n:Nat} {w:World}:Below n w w:=bS n w
structure Ya where
 g:Nat
 i:Nat
def pA (g i:Nat):Ya:=⟨g,i⟩
structure Yb where
 g:Nat
def pB (g:Nat):Yb:=⟨g⟩
structure Yc where
 t:TypeId
 l:List Value
def cB (t:TypeId) (l:List Value):Yc:=⟨t,l⟩
instance {t:TypeId} {l:List Value}:CoeDep Yc (cB t l) Obj:=⟨.cells l.toArray t⟩
structure Yz where
 n:Nat
def Zo:Yz:=⟨0⟩
instance:CoeDep Yz Zo Value:=⟨.int .i64 0⟩
instance:Coe Int Value:=⟨Value.int .i64⟩
instance:Coe Nat Value:=⟨fun n=>Value.int .i64 n⟩
instance:Coe Bool Value:=⟨Value.bool⟩
instance:Coe Unit Value:=⟨fun _=> .slice none 0 0⟩
instance:Coe World Nat:=⟨fun w=>w.heap.size⟩
instance {α:Type}:CoeOut (List α) Nat:=⟨List.length⟩
instance:Coe Nat Addr:=⟨fun g=>⟨g,0,none⟩⟩
instance:Coe Nat (Option Addr):=⟨fun g=>some ⟨g,0,none⟩⟩
instance:Coe World Addr:=⟨fun w=>⟨w.heap.size,0,none⟩⟩
instance:Coe World (Option Addr):=⟨fun w=>some ⟨w.heap.size,0,none⟩⟩
instance {g i:Nat}:CoeDep Ya (pA g i) Addr:=⟨⟨g,i,none⟩⟩
instance {g i:Nat}:CoeDep Ya (pA g i) (Option Addr):=⟨some ⟨g,i,none⟩⟩
instance {g:Nat}:CoeDep Yb (pB g) Addr:=⟨⟨g,0,none⟩⟩
instance {g:Nat}:CoeDep Yb (pB g) (Option Addr):=⟨some ⟨g,0,none⟩⟩
end
end Go.Proofs.YtgimnjldndkalaaGreatDoor
