import Derived.Shelf.SlIter.Nil
import Derived.Shelf.SortM.Plain
import Derived.Shelf.SortM.SortNone
import Derived.Shelf.SlGeneric
import Derived.Ground.GgzProg
import Derived.Ground.SlgmProg
import Derived.Test.YtnhpclmbhbblbaaDoorProg
namespace Go.Proofs
open Go.Shelf
def Tryd.sortT_ren:Go.Shelf.Ren:=⟨fun|6=>16|8=>34|9=>33|19=>56|20=>57|21=>47|22=>48|23=>49|24=>50|25=>51|26=>52|27=>53|28=>54|29=>55|36=>65|31=>66|32=>67|37=>68|38=>69|39=>45|41=>82|n=>n,fun|27=>23|29=>9|3=>3|32=>65|26=>23|0=>0|44=>84|46=>86|4=>4|36=>77|35=>76|41=>39|5=>5|9=>9|53=>91|57=>95|63=>106|64=>107|n=>n,fun|n=>n⟩
theorem Tryd.sortT:Go.Proofs.SlLaysM.n6 Tryd.prog Tryd.sortT_ren := {
 mixed:=by kernel_rfl
 f6:=⟨Tryd.f16.name,by decide,Tryd.func16.trans (congrArg some (by kernel_rfl))⟩
 f8:=Tryd.func34.trans (congrArg some (by kernel_rfl))
 f9:=⟨Tryd.f33.name,by decide,Tryd.func33.trans (congrArg some (by kernel_rfl))⟩
 f19:=Tryd.func56.trans (congrArg some (by kernel_rfl))
 f20:=Tryd.func57.trans (congrArg some (by kernel_rfl))
 f21:=⟨Tryd.f47.name,by decide,Tryd.func47.trans (congrArg some (by kernel_rfl))⟩
 f22:=⟨Tryd.f48.name,by decide,Tryd.func48.trans (congrArg some (by kernel_rfl))⟩
 f23:=⟨Tryd.f49.name,by decide,Tryd.func49.trans (congrArg some (by kernel_rfl))⟩
 f24:=⟨Tryd.f50.name,by decide,Tryd.func50.trans (congrArg some (by kernel_rfl))⟩
 f25:=⟨Tryd.f51.name,by decide,Tryd.func51.trans (congrArg some (by kernel_rfl))⟩
 f26:=⟨Tryd.f52.name,by decide,Tryd.func52.trans (congrArg some (by kernel_rfl))⟩
 f27:=⟨Tryd.f53.name,by decide,Tryd.func53.trans (congrArg some (by kernel_rfl))⟩
 f28:=⟨Tryd.f54.name,by decide,Tryd.func54.trans (congrArg some (by kernel_rfl))⟩
 f29:=⟨Tryd.f55.name,by decide,Tryd.func55.trans (congrArg some (by kernel_rfl))⟩
 f31:=Tryd.func66.trans (congrArg some (by kernel_rfl))
 f32:=Tryd.func67.trans (congrArg some (by kernel_rfl))
 f36:=⟨Tryd.f65.name,by decide,Tryd.func65.trans (congrArg some (by kernel_rfl))⟩
 f37:=⟨Tryd.f68.name,by decide,Tryd.func68.trans (congrArg some (by kernel_rfl))⟩
 f38:=⟨Tryd.f69.name,by decide,Tryd.func69.trans (congrArg some (by kernel_rfl))⟩
 f39:=⟨Tryd.f45.name,by decide,Tryd.func45.trans (congrArg some (by kernel_rfl))⟩
 f41:=⟨Tryd.f82.name,by decide,Tryd.func82.trans (congrArg some (by kernel_rfl))⟩
 t0:=Tryd.underlying0
 a0:=Tryd.isAgg0
 z0:=Tryd.sizeOf0
 v0:=Tryd.zeroValue0
 t3:=Tryd.underlying3
 a3:=Tryd.isAgg3
 z3:=Tryd.sizeOf3
 v3:=Tryd.zeroValue3
 t4:=Tryd.underlying4
 a4:=Tryd.isAgg4
 z4:=Tryd.sizeOf4
 v4:=Tryd.zeroValue4
 t5:=Tryd.underlying5
 a5:=Tryd.isAgg5
 z5:=Tryd.sizeOf5
 v5:=Tryd.zeroValue5
 t9:=Tryd.underlying9
 a9:=Tryd.isAgg9
 z9:=Tryd.sizeOf9
 v9:=Tryd.zeroValue9
 t26:=Tryd.underlying23
 a26:=Tryd.isAgg23
 z26:=Tryd.sizeOf23
 v26:=Tryd.zeroValue23
 t27:=Tryd.underlying23
 a27:=Tryd.isAgg23
 z27:=Tryd.sizeOf23
 v27:=Tryd.zeroValue23
 t29:=Tryd.underlying9
 a29:=Tryd.isAgg9
 z29:=Tryd.sizeOf9
 v29:=Tryd.zeroValue9
 t32:=Tryd.underlying65
 a32:=Tryd.isAgg65
 z32:=Tryd.sizeOf65
 v32:=Tryd.zeroValue65
 t35:=Tryd.underlying76
 a35:=Tryd.isAgg76
 z35:=Tryd.sizeOf76
 v35:=Tryd.zeroValue76
 t36:=Tryd.underlying77
 a36:=Tryd.isAgg77
 z36:=Tryd.sizeOf77
 v36:=Tryd.zeroValue77
 t41:=Tryd.underlying39
 a41:=Tryd.isAgg39
 z41:=Tryd.sizeOf39
 v41:=Tryd.zeroValue39
 t44:=Tryd.underlying84
 a44:=Tryd.isAgg84
 z44:=Tryd.sizeOf84
 v44:=Tryd.zeroValue84
 t46:=Tryd.underlying86
 a46:=Tryd.isAgg86
 z46:=Tryd.sizeOf86
 v46:=Tryd.zeroValue86
 t53:=Tryd.underlying91
 a53:=Tryd.isAgg91
 z53:=Tryd.sizeOf91
 v53:=Tryd.zeroValue91
 t57:=Tryd.underlying95
 a57:=Tryd.isAgg95
 z57:=Tryd.sizeOf95
 v57:=Tryd.zeroValue95
 t63:=Tryd.underlying106
 a63:=Tryd.isAgg106
 z63:=Tryd.sizeOf106
 v63:=Tryd.zeroValue106
 t64:=Tryd.underlying107
 a64:=Tryd.isAgg107
 z64:=Tryd.sizeOf107
 v64:=Tryd.zeroValue107 }
end Go.Proofs
