/- Of the proof of TopGreat: What Go's library functions do that the search calls, as the kit's own tool lays its contracts over this progr. -/
import Derived.Shelf.Small.Bits
import Derived.Shelf.Small.Wraps
import Derived.Shelf.Sort.Plain
import Derived.Shelf.Slices.In.SortNone
import Derived.Shelf.Slices.Empties
import Derived.Shelf.Slices.Empties2
import Derived.Shelf.SlicesQ.Reverse
import Derived.Test.YtgimnjldndkalaaGreatDoorProg
import Derived.Test.YtgimnjldndkalaaGreatDoorF0
namespace Go.Proofs
open Go.Shelf Go.RowKit Go.Lib Go.Sort Go.Proofs.Tryz Go.Proofs.YtgimnjldndkalaaGreatDoor
def Tryz.ID:Ren:=⟨fun|122=>361|215=>288|n=>n,fun|3=>3|4=>4|n=>n,fun|n=>n⟩
theorem Tryz.TU:Lays.n122 prog ID:=⟨kR,func361.trans cS,func288.trans cS,underlying3,isAgg3,sizeOf3,zeroValue3,underlying4,isAgg4,sizeOf4,zeroValue4⟩
theorem Tryz.cmp_Compare_int (x y:Int) (w:World):
  Calls prog 361 #[.int .i64 x,.int .i64 y] w fun e w'=>e= .returned (.int .i64 (Lib.compareInt x y))∧w'=w:=Any.cmp_Compare_int TU x y w
def Tryz.IG:Ren:=⟨fun|189=>181|125=>224|257=>223|128=>256|129=>257|294=>247|295=>248|296=>249|297=>250|298=>251|299=>252|216=>253|300=>254|301=>255|328=>283|329=>284|330=>285|331=>286|332=>287|215=>288|343=>315|n=>n,fun|28=>26|3=>3|46=>228|0=>0|51=>277|53=>80|4=>4|183=>291|182=>290|131=>112|5=>5|9=>9|218=>324|222=>327|228=>361|229=>87|n=>n,fun|n=>n⟩
theorem Tryz.ML:Lays.n189 prog IG:=⟨kR,func224.trans cS,func256.trans cS,func257.trans cS,func181.trans cS,func288.trans cS,func253.trans cS,func223.trans cS,func247.trans cS,func248.trans cS,func249.trans cS,func250.trans cS,func251.trans cS,func252.trans cS,func254.trans cS,func255.trans cS,func283.trans cS,func284.trans cS,func285.trans cS,func286.trans cS,func287.trans cS,func315.trans cS,underlying0,isAgg0,sizeOf0,zeroValue0,underlying3,isAgg3,sizeOf3,zeroValue3,underlying4,isAgg4,sizeOf4,zeroValue4,underlying5,isAgg5,sizeOf5,zeroValue5,underlying9,isAgg9,sizeOf9,zeroValue9,underlying26,isAgg26,sizeOf26,zeroValue26,underlying228,isAgg228,sizeOf228,zeroValue228,underlying277,isAgg277,sizeOf277,zeroValue277,underlying80,isAgg80,sizeOf80,zeroValue80,underlying112,isAgg112,sizeOf112,zeroValue112,underlying290,isAgg290,sizeOf290,zeroValue290,underlying291,isAgg291,sizeOf291,zeroValue291,underlying324,isAgg324,sizeOf324,zeroValue324,underlying327,isAgg327,sizeOf327,zeroValue327,underlying361,isAgg361,sizeOf361,zeroValue361,underlying87,isAgg87,sizeOf87,zeroValue87⟩
theorem Tryz.slices_Sort_int (ig off cap:Nat) (zs:List Int) (w:World) (hH:Holds (Value.int .i64) w ig off zs.toArray) (hblk:ig <w.heap.size) (hsz:zs.length <4611686018427387904):
  Calls prog 181 #[.slice (some ⟨ig,off,none⟩) zs.length cap] w fun e w'=>
   e= .returned (.tuple #[])∧ ∃n os,w'=grow (putRow (Value.int .i64) (Sort.ahead w n) ig off (zs.mergeSort fun x y=>decide (x≤y)).toArray) os:=Any.slices_Sort_int ML ig off cap zs w hH hblk hsz
def Tryz.Eb:Ren:=⟨fun|25=>338|31=>253|32=>356|37=>288|n=>n,fun|22=>26|3=>3|4=>4|40=>228|0=>0|n=>n,fun|n=>n⟩
theorem Tryz.E0:Lays2.n25 prog Eb:=⟨kR,func338.trans cS,func253.trans cS,func356.trans cS,func288.trans cS,underlying0,isAgg0,sizeOf0,zeroValue0,underlying3,isAgg3,sizeOf3,zeroValue3,underlying4,isAgg4,sizeOf4,zeroValue4,underlying26,isAgg26,sizeOf26,zeroValue26,underlying228,isAgg228,sizeOf228,zeroValue228⟩
theorem Tryz.slices_BinarySearch_int (b off n c:Nat) (zs:List Int) (x:Int) (w:World) (hz:n≤zs.length) (hbig:n <4611686018427387904) (hc: ∀j,j <zs.length→w.cell? ⟨b,off+j,none⟩=some (.int .i64 (zs.getD j 0))) (hs:(zs.take n).Pairwise (· ≤ ·)):
  Calls prog 338 #[.slice (some ⟨b,off,none⟩) n c,.int .i64 x] w fun e w'=>e= .returned (.tuple #[.int .i64 ((zs.take n).countP (· <x):Nat),.bool ((zs.take n).contains x)])∧ ∃q,w'=w.drewN q:=Any.slices_BinarySearch_int E0 b off n c zs x w hz hbig hc hs
theorem Tryz.slices_Sort_int_none (p:Option Addr) (cap:Nat) (w:World):
  Calls prog 181 #[.slice p 0 cap] w fun e w'=>e= .returned (.tuple #[])∧w'=w:=Any.slices_Sort_int_none ML p cap w
theorem Tryz.slices_BinarySearch_int_empty (a:Option Addr) (c:Nat) (x:Int) (w:World):
  Calls prog 338 #[.slice a 0 c,.int .i64 x] w fun e w'=>e= .returned (.tuple #[.int .i64 0,.bool false])∧w'=w:=Any.slices_BinarySearch_int_empty E0 a c x w
def Tryz.CX:Ren:=⟨fun|35=>329|n=>n,fun|22=>42|23=>84|3=>3|4=>4|0=>0|n=>n,fun|n=>n⟩
theorem Tryz.KQ:SlLaysE0.n35 prog CX:=⟨kR,⟨f329.name,dE,func329.trans cS⟩,underlying0,isAgg0,sizeOf0,zeroValue0,underlying3,isAgg3,sizeOf3,zeroValue3,underlying4,isAgg4,sizeOf4,zeroValue4,underlying42,isAgg42,sizeOf42,zeroValue42⟩
end Go.Proofs
