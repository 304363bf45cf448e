/- Part: ShelfB. -/
import Derived.Shelf.SlicesQ.IndexFunc
import Derived.Shelf.SlicesE.Clone
import Derived.Shelf.Strings.SlTrimAscii
import Derived.Test.YtjpbmbgincdjaaaGreatDoorProg
set_option linter.all false
set_option maxRecDepth 100000
set_option maxHeartbeats 0
namespace Go.Proofs
open Go.Shelf Tryz
def Tryz.idxN_ren:Go.Shelf.Ren:=⟨fun|6=>251|n=>n,fun|22=>287|23=>176|25=>288|3=>3|0=>0|4=>4|n=>n,fun|n=>n⟩
theorem Tryz.idxN:Go.Proofs.SlLaysH0.n6 prog Tryz.idxN_ren:={
 mixed:=by kernel_rfl
 f6:=⟨Tryz.f251.name,by decide,func251.trans (congrArg some (by kernel_rfl))⟩
 t0:=underlying0
 a0:=isAgg0
 z0:=sizeOf0
 v0:=zeroValue0
 t3:=underlying3
 a3:=isAgg3
 z3:=sizeOf3
 v3:=zeroValue3
 t4:=underlying4
 a4:=isAgg4
 z4:=sizeOf4
 v4:=zeroValue4
 t22:=underlying287
 a22:=isAgg287
 z22:=sizeOf287
 v22:=zeroValue287
 t25:=underlying288
 a25:=isAgg288
 z25:=sizeOf288
 v25:=zeroValue288}
def Tryz.idxP_ren:Go.Shelf.Ren:=⟨fun|6=>45|n=>n,fun|22=>27|23=>59|25=>101|3=>3|0=>0|4=>4|n=>n,fun|n=>n⟩
theorem Tryz.idxP:Go.Proofs.SlLaysH0.n6 prog Tryz.idxP_ren:={
 mixed:=by kernel_rfl
 f6:=⟨Tryz.f45.name,by decide,func45.trans (congrArg some (by kernel_rfl))⟩
 t0:=underlying0
 a0:=isAgg0
 z0:=sizeOf0
 v0:=zeroValue0
 t3:=underlying3
 a3:=isAgg3
 z3:=sizeOf3
 v3:=zeroValue3
 t4:=underlying4
 a4:=isAgg4
 z4:=sizeOf4
 v4:=zeroValue4
 t22:=underlying27
 a22:=isAgg27
 z22:=sizeOf27
 v22:=zeroValue27
 t25:=underlying101
 a25:=isAgg101
 z25:=sizeOf101
 v25:=zeroValue101}
def Tryz.conD_ren:Go.Shelf.Ren:=⟨fun|8=>63|6=>123|n=>n,fun|22=>25|23=>53|25=>126|4=>4|3=>3|0=>0|n=>n,fun|n=>n⟩
theorem Tryz.conD:Go.Proofs.SlLaysH0.n8 prog Tryz.conD_ren:={
 mixed:=by kernel_rfl
 f6:=⟨Tryz.f123.name,by decide,func123.trans (congrArg some (by kernel_rfl))⟩
 f8:=⟨Tryz.f63.name,by decide,func63.trans (congrArg some (by kernel_rfl))⟩
 t0:=underlying0
 a0:=isAgg0
 z0:=sizeOf0
 v0:=zeroValue0
 t3:=underlying3
 a3:=isAgg3
 z3:=sizeOf3
 v3:=zeroValue3
 t4:=underlying4
 a4:=isAgg4
 z4:=sizeOf4
 v4:=zeroValue4
 t22:=underlying25
 a22:=isAgg25
 z22:=sizeOf25
 v22:=zeroValue25
 t25:=underlying126
 a25:=isAgg126
 z25:=sizeOf126
 v25:=zeroValue126}
def Tryz.conP_ren:Go.Shelf.Ren:=⟨fun|8=>66|6=>45|n=>n,fun|22=>27|23=>59|25=>101|4=>4|3=>3|0=>0|n=>n,fun|n=>n⟩
theorem Tryz.conP:Go.Proofs.SlLaysH0.n8 prog Tryz.conP_ren:={
 mixed:=by kernel_rfl
 f6:=⟨Tryz.f45.name,by decide,func45.trans (congrArg some (by kernel_rfl))⟩
 f8:=⟨Tryz.f66.name,by decide,func66.trans (congrArg some (by kernel_rfl))⟩
 t0:=underlying0
 a0:=isAgg0
 z0:=sizeOf0
 v0:=zeroValue0
 t3:=underlying3
 a3:=isAgg3
 z3:=sizeOf3
 v3:=zeroValue3
 t4:=underlying4
 a4:=isAgg4
 z4:=sizeOf4
 v4:=zeroValue4
 t22:=underlying27
 a22:=isAgg27
 z22:=sizeOf27
 v22:=zeroValue27
 t25:=underlying101
 a25:=isAgg101
 z25:=sizeOf101
 v25:=zeroValue101}
def Tryz.conS_ren:Go.Shelf.Ren:=⟨fun|8=>68|6=>124|n=>n,fun|22=>26|23=>71|25=>130|4=>4|3=>3|0=>0|n=>n,fun|n=>n⟩
theorem Tryz.conS:Go.Proofs.SlLaysH0.n8 prog Tryz.conS_ren:={
 mixed:=by kernel_rfl
 f6:=⟨Tryz.f124.name,by decide,func124.trans (congrArg some (by kernel_rfl))⟩
 f8:=⟨Tryz.f68.name,by decide,func68.trans (congrArg some (by kernel_rfl))⟩
 t0:=underlying0
 a0:=isAgg0
 z0:=sizeOf0
 v0:=zeroValue0
 t3:=underlying3
 a3:=isAgg3
 z3:=sizeOf3
 v3:=zeroValue3
 t4:=underlying4
 a4:=isAgg4
 z4:=sizeOf4
 v4:=zeroValue4
 t22:=underlying26
 a22:=isAgg26
 z22:=sizeOf26
 v22:=zeroValue26
 t25:=underlying130
 a25:=isAgg130
 z25:=sizeOf130
 v25:=zeroValue130}
def Tryz.conB_ren:Go.Shelf.Ren:=⟨fun|8=>74|6=>130|n=>n,fun|22=>69|23=>132|25=>137|4=>4|3=>3|0=>0|n=>n,fun|n=>n⟩
theorem Tryz.conB:Go.Proofs.SlLaysH0.n8 prog Tryz.conB_ren:={
 mixed:=by kernel_rfl
 f6:=⟨Tryz.f130.name,by decide,func130.trans (congrArg some (by kernel_rfl))⟩
 f8:=⟨Tryz.f74.name,by decide,func74.trans (congrArg some (by kernel_rfl))⟩
 t0:=underlying0
 a0:=isAgg0
 z0:=sizeOf0
 v0:=zeroValue0
 t3:=underlying3
 a3:=isAgg3
 z3:=sizeOf3
 v3:=zeroValue3
 t4:=underlying4
 a4:=isAgg4
 z4:=sizeOf4
 v4:=zeroValue4
 t22:=underlying69
 a22:=isAgg69
 z22:=sizeOf69
 v22:=zeroValue69
 t25:=underlying137
 a25:=isAgg137
 z25:=sizeOf137
 v25:=zeroValue137}
end Go.Proofs
