/- Of the proof of TopGreat: What Go's library functions do that this seat's program calls, as the kit's own tool lays its contracts over t. -/
import Derived.Shelf.Strings.OnBuilder
import Derived.Shelf.Small.Wraps
import Derived.Shelf.Strings.Shaped
import Derived.Shelf.Strings.SplitShaped
import Derived.Shelf.Bits.Mul64
import Derived.Shelf.Unicode.DecodeSlow
import Derived.Shelf.Slices.Empties
import Derived.Shelf.Slices.Empties2
import Derived.Shelf.SlSortCmp.Insertion1
import Derived.Test.YtgimnjldndkalaaGreatDoorProg
import Derived.Test.YtgimnjldndkalaaGreatDoorF0
namespace Go.Proofs
open Go.Shelf Go.RowKit Go.Lib Go.Sort Go.Proofs.Tryz Go.Proofs.YtgimnjldndkalaaGreatDoor
def Tryz.Bl:Ren:=⟨fun|169=>99|n=>n,fun|70=>149|9=>9|0=>0|72=>151|37=>109|127=>212|3=>3|5=>5|n=>n,fun|n=>n⟩
theorem Tryz.MK:Lays.n169 prog Bl:=⟨kR,func99.trans cS,underlying0,isAgg0,sizeOf0,zeroValue0,underlying3,isAgg3,sizeOf3,zeroValue3,underlying9,isAgg9,sizeOf9,zeroValue9,underlying109,isAgg109,sizeOf109,zeroValue109,underlying149,isAgg149,sizeOf149,zeroValue149,underlying151,isAgg151,sizeOf151,zeroValue151,underlying212,isAgg212,sizeOf212,zeroValue212⟩
theorem Tryz.ti:Builder.Extra prog Bl:={sizeBuilder:=kR,liesBuilder:=kR,t5:=underlying5,a5:=isAgg5,z5:=sizeOf5,v5:=zeroValue5,infoByte:=kR,cellsByte:=kR,sizeByte:=kR,neB5:=dE}
theorem Tryz.Builder_String (B b:Nat) (l:List UInt8) (w:World) (h:Lib.IsBuilder 151 5 B b (Lib.byteCells l) w) (h0:l≠[]):
  Calls prog 99 #[.pointer (some ⟨b,0,none⟩)] w fun e w'=>e= .returned (.string ⟨l.toArray⟩)∧Below B w w':=Any.Builder_String MK ti B b l w h h0
theorem Tryz.Builder_String_any (B b:Nat) (l:List UInt8) (w:World) (h:Lib.IsBuilder 151 5 B b (Lib.byteCells l) w) (hBw:B≤w.heap.size):
  Calls prog 99 #[.pointer (some ⟨b,0,none⟩)] w fun e w'=>e= .returned (.string ⟨l.toArray⟩)∧Below B w w':=Any.Builder_String_any MK ti B b l w h hBw
def Tryz.Bk:Ren:=⟨fun|156=>144|165=>188|166=>96|169=>99|240=>145|241=>226|276=>189|277=>258|n=>n,fun|31=>76|9=>9|3=>3|4=>4|0=>0|20=>20|72=>151|76=>154|70=>149|37=>109|75=>153|127=>212|164=>258|5=>5|80=>158|n=>n,fun|n=>n⟩
theorem Tryz.MJ:Lays.n156 prog Bk:=⟨kR,func144.trans cS,func188.trans cS,func96.trans cS,func99.trans cS,func145.trans cS,func226.trans cS,func189.trans cS,func258.trans cS,underlying0,isAgg0,sizeOf0,zeroValue0,underlying3,isAgg3,sizeOf3,zeroValue3,underlying4,isAgg4,sizeOf4,zeroValue4,underlying9,isAgg9,sizeOf9,zeroValue9,underlying20,isAgg20,sizeOf20,zeroValue20,underlying76,isAgg76,sizeOf76,zeroValue76,underlying109,isAgg109,sizeOf109,zeroValue109,underlying149,isAgg149,sizeOf149,zeroValue149,underlying151,isAgg151,sizeOf151,zeroValue151,underlying153,isAgg153,sizeOf153,zeroValue153,underlying154,isAgg154,sizeOf154,zeroValue154,underlying212,isAgg212,sizeOf212,zeroValue212,underlying258,isAgg258,sizeOf258,zeroValue258⟩
theorem Tryz.th:Builder.Extra prog Bk:={sizeBuilder:=kR,liesBuilder:=kR,t5:=underlying5,a5:=isAgg5,z5:=sizeOf5,v5:=zeroValue5,infoByte:=kR,cellsByte:=kR,sizeByte:=kR,neB5:=dE}
theorem Tryz.strings_Join_none (a:Option Addr) (c:Nat) (sep:ByteArray) (w:World):
  Calls prog 144 #[.slice a 0 c,.string sep] w fun e w'=>e= .returned (.string ⟨#[]⟩)∧w'=w:=Any.strings_Join_none MJ th a c sep w
theorem Tryz.strings_Join (bk o c:Nat) (xs:List ByteArray) (sep:ByteArray) (w:World) (hcells: ∀(j:Nat) x,xs[j]? =some x→w.cell? ⟨bk,o+j,none⟩=some (.string x)) (hbk:bk <w.heap.size) (hN:xs.length≤140737488355328) (hcap:xs.length≤c) (hlen:(Lib.join (xs.map (·.data.toList)) sep.data.toList).length≤140737488355328):
  Calls prog 144 #[.slice (some ⟨bk,o,none⟩) xs.length c,.string sep] w fun e w'=>e= .returned (.string ⟨(Lib.join (xs.map (·.data.toList)) sep.data.toList).toArray⟩)∧Below w.heap.size w w':=Any.strings_Join MJ th bk o c xs sep w hcells hbk hN hcap hlen
def Tryz.IE:Ren:=⟨fun|145=>111|220=>150|219=>191|217=>227|225=>228|224=>229|267=>230|266=>259|314=>260|n=>n,fun|9=>9|4=>4|59=>170|3=>3|5=>5|46=>228|146=>278|51=>277|n=>n,fun|1=>0|n=>n⟩
theorem Tryz.TW:Lays.n145 prog IE:=⟨kR,func111.trans cS,func227.trans cS,func191.trans cS,func150.trans cS,func229.trans cS,func228.trans cS,func259.trans cS,func230.trans cS,func260.trans cS,underlying3,isAgg3,sizeOf3,zeroValue3,underlying4,isAgg4,sizeOf4,zeroValue4,underlying5,isAgg5,sizeOf5,zeroValue5,underlying9,isAgg9,sizeOf9,zeroValue9,underlying228,isAgg228,sizeOf228,zeroValue228,underlying277,isAgg277,sizeOf277,zeroValue277,underlying170,isAgg170,sizeOf170,zeroValue170,underlying278,isAgg278,sizeOf278,zeroValue278,kR⟩
theorem Tryz.strings_Cut (s sep:ByteArray) (m:Int) (w:World) (hs:s.size <4294967281) (hm:w.cell? ⟨0,0,none⟩=some (.int .i64 m)):
  Calls prog 111 #[.string s,.string sep] w fun e w'=>e= .returned (.tuple #[.string ⟨(Lib.cut s.data.toList sep.data.toList).1.toArray⟩,.string ⟨(Lib.cut s.data.toList sep.data.toList).2.1.toArray⟩,.bool (Lib.cut s.data.toList sep.data.toList).2.2])∧ ∃n,w'=w.drewN n:=Any.strings_Cut TW s sep m w hs hm
def Tryz.IF:Ren:=⟨fun|146=>112|221=>151|268=>192|138=>193|143=>194|195=>231|197=>232|218=>233|219=>191|260=>261|217=>227|225=>228|224=>229|267=>230|266=>259|314=>260|n=>n,fun|9=>9|31=>76|3=>3|4=>4|0=>0|105=>274|21=>21|5=>5|46=>228|119=>329|139=>332|138=>331|146=>278|51=>277|n=>n,fun|1=>0|3=>1|4=>2|n=>n⟩
theorem Tryz.TX:Lays.n146 prog IF:=⟨kR,func193.trans cS,func194.trans cS,func112.trans cS,func231.trans cS,func232.trans cS,func227.trans cS,func233.trans cS,func191.trans cS,func151.trans cS,func229.trans cS,func228.trans cS,func261.trans cS,func259.trans cS,func230.trans cS,func192.trans cS,func260.trans cS,underlying0,isAgg0,sizeOf0,zeroValue0,underlying3,isAgg3,sizeOf3,zeroValue3,underlying4,isAgg4,sizeOf4,zeroValue4,underlying5,isAgg5,sizeOf5,zeroValue5,underlying9,isAgg9,sizeOf9,zeroValue9,underlying21,isAgg21,sizeOf21,zeroValue21,underlying76,isAgg76,sizeOf76,zeroValue76,underlying228,isAgg228,sizeOf228,zeroValue228,underlying277,isAgg277,sizeOf277,zeroValue277,underlying274,isAgg274,sizeOf274,zeroValue274,underlying329,isAgg329,sizeOf329,underlying331,isAgg331,sizeOf331,zeroValue331,underlying332,isAgg332,sizeOf332,zeroValue332,underlying278,isAgg278,sizeOf278,zeroValue278,kR,kR,kR⟩
theorem Tryz.strings_Split (s sep:ByteArray) (m:Int) (w:World) (hs:s.size <4294967281) (hm:w.cell? ⟨0,0,none⟩=some (.int .i64 m)) (h1:1≤sep.size):
  Calls prog 112 #[.string s,.string sep] w fun e w'=>
   e= .returned (.slice (some ⟨w.heap.size,0,none⟩) (Lib.countB s sep+1) (Lib.countB s sep+1))∧w'=w.alloc (.cells ((Lib.splitB sep 0 (Lib.countB s sep) s).map Value.string).toArray 9):=Any.strings_Split TX kR s sep m w hs hm h1
end Go.Proofs
