/- Of the proof of TopGreat: What Go's library functions do that the search calls, as the kit's own tool lays its contracts over this progr. -/
import Derived.Shelf.Small.Wraps
import Derived.Shelf.Sort.Plain
import Derived.Shelf.Slices.In.SortNone
import Derived.Shelf.Slices.Empties
import Derived.Shelf.Slices.Empties2
import Derived.Shelf.SlSortCmp.Whole1
import Derived.Test.YtgimnjldndkalaaGreatDoorProg
import Derived.Test.YtgimnjldndkalaaGreatDoorF0
namespace Go.Proofs
open Go.Shelf Go.RowKit Go.Lib Go.Sort Go.Proofs.Tryz Go.Proofs.YtgimnjldndkalaaGreatDoor
def Tryz.rO:Ren:=⟨fun|6=>358|15=>224|14=>364|28=>256|29=>257|20=>366|21=>367|22=>368|23=>369|24=>370|25=>371|26=>372|27=>373|46=>374|47=>284|48=>285|49=>375|50=>376|57=>377|n=>n,fun|22=>26|24=>3|25=>56|3=>3|39=>228|0=>0|53=>277|55=>80|4=>4|46=>291|45=>290|50=>112|5=>5|9=>9|66=>324|70=>327|76=>361|77=>87|n=>n,fun|n=>n⟩
theorem Tryz.Bj:SlLaysF.n6 prog rO:=⟨kR,⟨f358.name,dE,func358.trans cS⟩,⟨f364.name,dE,func364.trans cS⟩,func224.trans cS,⟨f366.name,dE,func366.trans cS⟩,⟨f367.name,dE,func367.trans cS⟩,⟨f368.name,dE,func368.trans cS⟩,⟨f369.name,dE,func369.trans cS⟩,⟨f370.name,dE,func370.trans cS⟩,⟨f371.name,dE,func371.trans cS⟩,⟨f372.name,dE,func372.trans cS⟩,⟨f373.name,dE,func373.trans cS⟩,func256.trans cS,func257.trans cS,⟨f374.name,dE,func374.trans cS⟩,func284.trans cS,func285.trans cS,⟨f375.name,dE,func375.trans cS⟩,⟨f376.name,dE,func376.trans cS⟩,⟨f377.name,dE,func377.trans cS⟩,underlying0,isAgg0,sizeOf0,zeroValue0,underlying3,isAgg3,sizeOf3,zeroValue3,underlying4,isAgg4,sizeOf4,zeroValue4,underlying5,isAgg5,sizeOf5,zeroValue5,underlying9,isAgg9,sizeOf9,zeroValue9,underlying26,isAgg26,sizeOf26,zeroValue26,isAgg3,sizeOf3,underlying56,isAgg56,sizeOf56,zeroValue56,underlying228,isAgg228,sizeOf228,zeroValue228,underlying290,isAgg290,sizeOf290,zeroValue290,underlying291,isAgg291,sizeOf291,zeroValue291,underlying112,isAgg112,sizeOf112,zeroValue112,underlying277,isAgg277,sizeOf277,zeroValue277,underlying80,isAgg80,sizeOf80,zeroValue80,underlying324,isAgg324,sizeOf324,zeroValue324,underlying327,isAgg327,sizeOf327,zeroValue327,underlying361,isAgg361,sizeOf361,zeroValue361,underlying87,isAgg87,sizeOf87,zeroValue87⟩
end Go.Proofs
