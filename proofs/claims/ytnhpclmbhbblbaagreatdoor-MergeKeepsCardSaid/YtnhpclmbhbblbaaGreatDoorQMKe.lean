/- PROVED: the given statement MergeKeepsCardSaid: each text that a side changed is there, at its path or aside; and what comes passes Check, and each argument reads behind the call as it read before; the listed package-level variables tied to the program's text by the given tie. No condition of ours. -/
import Derived.Test.YtnhpclmbhbblbaaGreatDoorMz22
import Derived.Test.YtnhpclmbhbblbaaGreatDoorMz25
import Derived.Test.YtnhpclmbhbblbaaGreatDoorRows
import Derived.Test.YtnhpclmbhbblbaaGreatDoorCards
import Derived.Test.YtnhpclmbhbblbaaGreatDoorTie
import Derived.ProofKit
import Derived.OpenShut
import Derived.SizedLaws
import Derived.ChangeMaps5
import Derived.ChangeOld
import Derived.ChangeCalls
import Derived.LaidMore
import Derived.Lay
import Derived.SevenTiedAt
import Derived.Stop.Joined
import Derived.Deep.DeepHandedRow
namespace Go.Proofs.YtnhpclmbhbblbaaGreatDoor.MergeKeepsDone
open Go.ChangeMaps Go.ChangeShapes Go.WideShapes Go.ChangeAt Go.RowKit Go.Ab
theorem own:ownKnob Tryz.prog.godebug = none:=by kernel_rfl
theorem qaR:laidOutB Tryz.prog = true:=by kernel_rfl
theorem W0:(Tryz.f4.params.toList).all (fun t=>Tryz.prog.readableRec t && decide (t < Tryz.prog.types.size)) = true:=by kernel_rfl
set_option maxRecDepth 1000000 in
theorem Wl (H:Type) (enc:TypeId × Value → H) (W:World) (base:Nat) (args:Array Value) (ds gs:List (DataW H)) (before:List MemPlace)
  (hval : ∀ (j:Nat) t v,Tryz.f4.params[j]? = some t → args[j]? = some v → Value.okWide Tryz.prog W .any base t v)
  (hW:DataW.Whole enc Tryz.prog Tryz.f4.params.toList Rows.mergeKeepsSpec.vars false W args.toList ds gs before) (hsz0:(DataW.weightsEach Tryz.prog (Tryz.f4.params.toList ++ []) (ds ++ gs)).all (· ≤ reachBytes) = true) (htab : ∀ b p,XX b = some p → ∃ cs e fr,p cs ∧ W.heap[b]? = some (.cells cs e fr)) :
  Calls Tryz.prog 4 args W fun e W' => ∃ v,e = .returned v ∧ Rows.mergeKeepsSpec.post enc Tryz.prog Tryz.f4 false true false false W args v W':=by
 have hW':=hW
 obtain ⟨p,q,hA0,hV,rfl,hfz,hnd⟩:=hW
 obtain ⟨rfl,rfl⟩:=trodVars_none hV
 have hA:DataW.TrodAll enc Tryz.prog W 0 (fun _=>true) true Tryz.f4.params.toList args.toList ds p:=hA0
 have hval' : ∀ (j:Nat) t v,Tryz.f4.params.toList[j]? = some t → args.toList[j]? = some v → Value.okWide Tryz.prog W .any base t v:=fun j t v ht hv=>hval j t v (by rw [← Array.getElem?_toList];exact ht) (by rw [← Array.getElem?_toList];exact hv)
 have hsz1:(DataW.weightsEach Tryz.prog (Tryz.f4.params.toList ++ []) (ds ++ [])).all (· ≤ reachBytes) = true:=hsz0
 rw [List.append_nil,List.append_nil] at hsz1
 have hsz : ∀ m,m ∈ DataW.weightsEach Tryz.prog Tryz.f4.params.toList ds → m ≤ 140737488355328:=fun m hm=>by
  have:=List.all_eq_true.1 hsz1 m hm
  have h2:=reachBytes_lt
  simp at this
  omega
 have hlaw:=Zs 140737488355328 C (f:=4) hA hval' hsz qaR W0 (by rw [Tryz.params4];exact J6) htab
 rw [Array.toArray_toList] at hlaw
 have hdl:ds.length = 3:=(trodAll_length hA).2.trans (by rw [Tryz.params4];rfl)
 match ds,hdl,hW',hlaw with
 | [d0,d1,d2],_,hW',hlaw =>
 refine hlaw.mono fun e W' ⟨he,bel,hT⟩=>?_
 subst he
 exact ⟨_,rfl,_,_,_,[],_,[],hW',trodAll_mk1 (shut_bool Tryz.underlying4 _),hT,rfl,bel.frame _,fun h=>by cases h⟩
set_option maxRecDepth 1000000 in
theorem KB (os:Os) (args:Array Value):laidMet Tryz.prog Rows.mergeKeepsRow.laid ((World.laidAll Tryz.prog os Rows.mergeKeepsRow.laid).forCall (fun _ _=>0) ⟨#[],args,[]⟩).memory:=laidMet_laidAll args (by kernel_rfl) (by kernel_rfl)
theorem reads (os:Os) {H:Type} (enc:TypeId × Value → H) : ∃ places,DataW.whole enc Tryz.prog ((World.laidAll Tryz.prog os Rows.mergeKeepsRow.laid).forCall (fun _ _=>0) ⟨#[], #[.slice none 0 0,.slice none 0 0,.slice none 0 0],[]⟩).memory Tryz.f4.params.toList Rows.mergeKeepsSpec.vars false #[.slice none 0 0,.slice none 0 0,.slice none 0 0].toList 8 = some ([.nil,.nil,.nil],[],places) :=
 ⟨[],by kernel_rfl⟩
theorem KZ (os:Os) {H:Type} (enc:TypeId × Value → H) :
  ∃ (w:World) (tape:Tape) (i:Input),w.os = os ∧ (w.forCall tape i).Shaped Tryz.prog ∧ i.vars = [] ∧ Input.okWide Tryz.prog (w.forCall tape i) .any w.heap.size 4 i ∧
    (OpenSpec.ofChange Rows.mergeKeepsSpec).preRow enc Tryz.prog Tryz.f4 Rows.mergeKeepsRow.domain false Rows.mergeKeepsRow.laid (w.forCall tape i).memory i.args ∧ ({}:Assume).holds Tryz.prog (lone (Frame.enter Tryz.prog 4 i.args .normal) [] (w.forCall tape i)):=by
 obtain ⟨places,hx⟩:=reads os enc
 have hok:Input.okWideB Tryz.prog ((World.laidAll Tryz.prog os Rows.mergeKeepsRow.laid).forCall (fun _ _=>0) ⟨#[], #[.slice none 0 0,.slice none 0 0,.slice none 0 0],[]⟩) 4 ⟨#[], #[.slice none 0 0,.slice none 0 0,.slice none 0 0],[]⟩ = true:=by kernel_rfl
 exact ⟨World.laidAll Tryz.prog os Rows.mergeKeepsRow.laid,fun _ _=>0,⟨#[], #[.slice none 0 0,.slice none 0 0,.slice none 0 0],[]⟩,World.laidAll_os _ _ _,World.shaped_of_ZipB (by kernel_rfl) (by kernel_rfl),
  (Input.okWide_of_okWideB (base:=0) hok).1,(Input.okWide_of_okWideB hok).2,OpenSpec.preRow_of_cond 8 hx (by kernel_rfl) (fun k hk=>by cases hk) (by kernel_rfl) (KB os _),by
  simp only [Assume.holds]
  exact ⟨by simp,by simp,fun _=>Modest.zero,by simp,by simp⟩⟩
theorem qaS:("internal/strconv.uint64pow10",Lib.tabData .u64 Lib.pow10Tab) ∈ Rows.mergeKeepsRow.laid:=List.mem_of_getElem? (show Rows.mergeKeepsRow.laid[2]? = some ("internal/strconv.uint64pow10",Lib.tabData .u64 Lib.pow10Tab) by kernel_rfl)
set_option maxRecDepth 100000 in
theorem qbz (os:Os) (started:os.Started) (H:Type) (enc:TypeId × Value → H) (F:Stop.Interp) :
  ReturnsInHanded {} Tryz.checked os 4 .any ((OpenSpec.ofChange Rows.mergeKeepsSpec).preRow enc Tryz.prog Tryz.f4 Rows.mergeKeepsRow.domain false Rows.mergeKeepsRow.laid) (((OpenSpec.ofChange Rows.mergeKeepsSpec).at F).post enc Tryz.prog Tryz.f4 false true false false):=by
 refine returnsInHanded_of_row (C:=Tryz.checked) (s:=OpenSpec.ofChange Rows.mergeKeepsSpec) own started (by kernel_rfl) Tryz.func4 (KZ os enc) ?_
 intro W base args ds gs before hval hW _ _ hsz hlaid _ _
 exact Wl H enc W base args ds gs before hval hW hsz (XY (show laidMet _ _ _ from hlaid) qaS)
theorem qcq:Rows.MergeKeepsSaid :=
 OpenClaim.holds_of_cond 4 Tryz.f4 rfl rfl rfl rfl rfl rfl rfl ⟨rfl,rfl,rfl,rfl,rfl⟩ rfl rfl rfl rfl rfl (by kernel_rfl) Tryz.func4 (by kernel_rfl)
  (of_decide_eq_true (by kernel_rfl)) (by unfold Func.isWrapper;rw [if_neg (of_decide_eq_false (by kernel_rfl))];exact ⟨rfl,rfl⟩)
  (fun os started H enc _ F=>by rw [OpenClaim.pre_eq_preRow];exact qbz os started H enc F)
theorem qbX (f:FuncId) (fn:Func) (hf:Tryz.pinned.checked.prog.funcNamed "tetherpost/tetherpostlaw.MergeKeeps" = some f) (hfn:Tryz.pinned.checked.prog.funcs[f]? = some fn) :
  false = Tryz.pinned.checked.prog.looks [] ∧ ∀ (j:Nat) t,fn.params[j]? = some t → Tryz.pinned.checked.prog.wantsStandIn t = false:=by
 obtain rfl:f = 4:=Option.some.inj ((show Tryz.prog.funcNamed "tetherpost/tetherpostlaw.MergeKeeps" = some 4 by kernel_rfl).symm.trans hf) |>.symm
 obtain rfl:fn = Tryz.f4:=(Option.some.inj (Tryz.func4.symm.trans hfn)).symm
 refine ⟨by kernel_rfl,fun j t ht=>?_⟩
 rw [Tryz.params4] at ht
 have hm:t ∈ [22]:=by simpa [or_comm,or_assoc,or_left_comm] using Array.mem_of_getElem? ht
 have hall:([22].all fun u => !Tryz.prog.wantsStandIn u) = true:=by kernel_rfl
 exact (show Tryz.prog.wantsStandIn t = false by simpa using List.all_eq_true.1 hall t hm)
theorem card:Rows.MergeKeepsCardSaid :=
 Claim7.holds_tied_plain_at .later [] _ _ _ _ qcq (fun _ h=>by cases h) (by kernel_rfl) (fun _ h=>by cases h) mergeKeeps_row_tie rfl ⟨rfl,rfl⟩ (by kernel_rfl) rfl qbX (by kernel_rfl)
end Go.Proofs.YtnhpclmbhbblbaaGreatDoor.MergeKeepsDone
namespace Go.Proofs.YtnhpclmbhbblbaaGreatDoor
theorem mergeKeeps_holds:Rows.MergeKeepsCardSaid:=MergeKeepsDone.card
end Go.Proofs.YtnhpclmbhbblbaaGreatDoor
