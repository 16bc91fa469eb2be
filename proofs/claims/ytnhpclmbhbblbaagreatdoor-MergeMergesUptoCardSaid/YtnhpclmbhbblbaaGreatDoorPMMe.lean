/- PROVED: the given statement MergeMergesUptoCardSaid: Merge and Clean answer just what the document says, errors too, whatever they are handed, where the arguments hold together at most 1048576 values and letters, and each argument reads behind the call as it read before; the listed package-level variables tied to the program's text by the given tie. The bound is the statement's own; no condition of ours. -/
import Derived.Test.YtnhpclmbhbblbaaGreatDoorMz34
import Derived.Test.YtnhpclmbhbblbaaGreatDoorMz35
import Derived.Test.YtnhpclmbhbblbaaGreatDoorRows
import Derived.Test.YtnhpclmbhbblbaaGreatDoorCards
import Derived.Test.YtnhpclmbhbblbaaGreatDoorTie
import Derived.ProofKit
import Derived.OpenShut
import Derived.SizedLaws
import Derived.ChangeMaps5
import Derived.ChangeOld
import Derived.ChangeCalls
import Derived.LaidMore
import Derived.Lay
import Derived.SevenTiedAt
import Derived.Stop.Joined
import Derived.Deep.DeepHandedRow
namespace Go.Proofs.YtnhpclmbhbblbaaGreatDoor.MergeMergesDone
open Go.ChangeMaps Go.ChangeShapes Go.WideShapes Go.ChangeAt Go.RowKit Go.Ab
theorem own:ownKnob Tryz.prog.godebug = none:=by kernel_rfl
theorem qaS:laidOutB Tryz.prog = true:=by kernel_rfl
theorem Wy:(Tryz.f3.params.toList).all (fun t=>Tryz.prog.readableRec t && decide (t < Tryz.prog.types.size)) = true:=by kernel_rfl
theorem few:(Tryz.f3.params.toList).all (QP Tryz.prog 800 12) = true:=by kernel_rfl
set_option maxRecDepth 1000000 in
theorem WC (H:Type) (enc:TypeId × Value → H) (W:World) (base:Nat) (args:Array Value) (ds gs:List (DataW H)) (before:List MemPlace)
  (hval : ∀ (j:Nat) t v,Tryz.f3.params[j]? = some t → args[j]? = some v → Value.okWide Tryz.prog W .any base t v)
  (hW:DataW.Whole enc Tryz.prog Tryz.f3.params.toList Rows.mergeMergesSpec.vars false W args.toList ds gs before) (hk:Rows.uptoSmall H (ds ++ gs) = true) (htab : ∀ b cs,JZ b = some cs → ∃ e fr,W.heap[b]? = some (.cells cs e fr)) :
  Calls Tryz.prog 3 args W fun e W' => ∃ v,e = .returned v ∧ Rows.mergeMergesSpec.post enc Tryz.prog Tryz.f3 false true false false W args v W':=by
 have hW':=hW
 obtain ⟨p,q,hA0,hV,rfl,hfz,hnd⟩:=hW
 obtain ⟨rfl,rfl⟩:=trodVars_none hV
 have hA:DataW.TrodAll enc Tryz.prog W 0 (fun _=>true) true Tryz.f3.params.toList args.toList ds p:=hA0
 have hval' : ∀ (j:Nat) t v,Tryz.f3.params.toList[j]? = some t → args.toList[j]? = some v → Value.okWide Tryz.prog W .any base t v:=fun j t v ht hv=>hval j t v (by rw [← Array.getElem?_toList];exact ht) (by rw [← Array.getElem?_toList];exact hv)
 have hb:=of_decide_eq_true hk
 rw [List.append_nil] at hb
 have hsz : ∀ m,m ∈ DataW.weightsEach Tryz.prog Tryz.f3.params.toList ds → m ≤ 1000000000:=fun m hm=>by
  have:=wE (B:=800) (by decide) ds 12 Tryz.f3.params.toList few m hm
  omega
 have hlaw:=ZI 1000000000 C (f:=3) hA hval' hsz qaS Wy (by rw [Tryz.params3];exact Jp) htab
 rw [Array.toArray_toList] at hlaw
 have hdl:ds.length = 3:=(trodAll_length hA).2.trans (by rw [Tryz.params3];rfl)
 match ds,hdl,hW',hlaw with
 | [d0,d1,d2],_,hW',hlaw =>
 refine hlaw.mono fun e W' ⟨he,bel,hT⟩=>?_
 subst he
 exact ⟨_,rfl,_,_,_,[],_,[],hW',trodAll_mk1 (shut_bool Tryz.underlying4 _),hT,rfl,bel.frame _,fun h=>by cases h⟩
set_option maxRecDepth 1000000 in
theorem Kk (os:Os) (args:Array Value):laidMet Tryz.prog Rows.mergeMergesUptoRow.laid ((World.laidAll Tryz.prog os Rows.mergeMergesUptoRow.laid).forCall (fun _ _=>0) ⟨#[],args,[]⟩).memory:=laidMet_laidAll args (by kernel_rfl) (by kernel_rfl)
theorem reads (os:Os) {H:Type} (enc:TypeId × Value → H) : ∃ places,DataW.whole enc Tryz.prog ((World.laidAll Tryz.prog os Rows.mergeMergesUptoRow.laid).forCall (fun _ _=>0) ⟨#[], #[.slice none 0 0,.slice none 0 0,.slice none 0 0],[]⟩).memory Tryz.f3.params.toList Rows.mergeMergesSpec.vars false #[.slice none 0 0,.slice none 0 0,.slice none 0 0].toList 8 = some ([.nil,.nil,.nil],[],places) :=
 ⟨[],by kernel_rfl⟩
theorem K9 (os:Os) {H:Type} (enc:TypeId × Value → H) :
  ∃ (w:World) (tape:Tape) (i:Input),w.os = os ∧ (w.forCall tape i).Shaped Tryz.prog ∧ i.vars = [] ∧ Input.okWide Tryz.prog (w.forCall tape i) .any w.heap.size 3 i ∧
    (Rows.OpenSpec.upto Rows.mergeMergesSpec).preRow enc Tryz.prog Tryz.f3 Rows.mergeMergesUptoRow.domain false Rows.mergeMergesUptoRow.laid (w.forCall tape i).memory i.args ∧ ({}:Assume).holds Tryz.prog (lone (Frame.enter Tryz.prog 3 i.args .normal) [] (w.forCall tape i)):=by
 obtain ⟨places,hx⟩:=reads os enc
 have hok:Input.okWideB Tryz.prog ((World.laidAll Tryz.prog os Rows.mergeMergesUptoRow.laid).forCall (fun _ _=>0) ⟨#[], #[.slice none 0 0,.slice none 0 0,.slice none 0 0],[]⟩) 3 ⟨#[], #[.slice none 0 0,.slice none 0 0,.slice none 0 0],[]⟩ = true:=by kernel_rfl
 exact ⟨World.laidAll Tryz.prog os Rows.mergeMergesUptoRow.laid,fun _ _=>0,⟨#[], #[.slice none 0 0,.slice none 0 0,.slice none 0 0],[]⟩,World.laidAll_os _ _ _,World.shaped_of_ZipB (by kernel_rfl) (by kernel_rfl),
  (Input.okWide_of_okWideB (base:=0) hok).1,(Input.okWide_of_okWideB hok).2,OpenSpec.preRow_of_cond 8 hx (by kernel_rfl) (fun k hk=>by cases hk;kernel_rfl) (by kernel_rfl) (Kk os _),by
  simp only [Assume.holds]
  exact ⟨by simp,by simp,fun _=>Modest.zero,by simp,by simp⟩⟩
theorem qa0:("internal/strconv.uint64pow10",Lib.tabData .u64 Lib.pow10Tab) ∈ Rows.mergeMergesUptoRow.laid:=List.mem_of_getElem? (show Rows.mergeMergesUptoRow.laid[2]? = some ("internal/strconv.uint64pow10",Lib.tabData .u64 Lib.pow10Tab) by kernel_rfl)
set_option maxRecDepth 100000 in
theorem qbK (os:Os) (started:os.Started) (H:Type) (enc:TypeId × Value → H) (F:Stop.Interp) :
  ReturnsInHanded {} Tryz.checked os 3 .any ((Rows.OpenSpec.upto Rows.mergeMergesSpec).preRow enc Tryz.prog Tryz.f3 Rows.mergeMergesUptoRow.domain false Rows.mergeMergesUptoRow.laid) (((Rows.OpenSpec.upto Rows.mergeMergesSpec).at F).post enc Tryz.prog Tryz.f3 false true false false):=by
 refine returnsInHanded_of_row (C:=Tryz.checked) (s:=Rows.OpenSpec.upto Rows.mergeMergesSpec) own started (by kernel_rfl) Tryz.func3 (K9 os enc) ?_
 intro W base args ds gs before hval hW _ hcond _ hlaid _ _
 exact WC H enc W base args ds gs before hval hW (hcond _ rfl) (XB (show laidMet _ _ _ from hlaid) qa0)
theorem qcD:Rows.MergeMergesUptoSaid :=
 OpenClaim.holds_of_cond 3 Tryz.f3 rfl rfl rfl rfl rfl rfl rfl ⟨rfl,rfl,rfl,rfl,rfl⟩ rfl rfl rfl rfl rfl (by kernel_rfl) Tryz.func3 (by kernel_rfl)
  (of_decide_eq_true (by kernel_rfl)) (by unfold Func.isWrapper;rw [if_neg (of_decide_eq_false (by kernel_rfl))];exact ⟨rfl,rfl⟩)
  (fun os started H enc _ F=>by rw [OpenClaim.pre_eq_preRow];exact qbK os started H enc F)
theorem qcc (f:FuncId) (fn:Func) (hf:Tryz.pinned.checked.prog.funcNamed "tetherpost/tetherpostlaw.MergeMerges" = some f) (hfn:Tryz.pinned.checked.prog.funcs[f]? = some fn) :
  false = Tryz.pinned.checked.prog.looks [] ∧ ∀ (j:Nat) t,fn.params[j]? = some t → Tryz.pinned.checked.prog.wantsStandIn t = false:=by
 obtain rfl:f = 3:=Option.some.inj ((show Tryz.prog.funcNamed "tetherpost/tetherpostlaw.MergeMerges" = some 3 by kernel_rfl).symm.trans hf) |>.symm
 obtain rfl:fn = Tryz.f3:=(Option.some.inj (Tryz.func3.symm.trans hfn)).symm
 refine ⟨by kernel_rfl,fun j t ht=>?_⟩
 rw [Tryz.params3] at ht
 have hm:t ∈ [22]:=by simpa [or_comm,or_assoc,or_left_comm] using Array.mem_of_getElem? ht
 have hall:([22].all fun u => !Tryz.prog.wantsStandIn u) = true:=by kernel_rfl
 exact (show Tryz.prog.wantsStandIn t = false by simpa using List.all_eq_true.1 hall t hm)
theorem card:Rows.MergeMergesUptoCardSaid :=
 Claim7.holds_tied_plain_at .later [] _ _ _ _ qcD (fun _ h=>by cases h) (by kernel_rfl) (fun _ h=>by cases h) mergeMergesUpto_row_tie rfl ⟨rfl,rfl⟩ (by kernel_rfl) rfl qcc (by kernel_rfl)
end Go.Proofs.YtnhpclmbhbblbaaGreatDoor.MergeMergesDone
namespace Go.Proofs.YtnhpclmbhbblbaaGreatDoor
theorem mergeMerges_holds:Rows.MergeMergesUptoCardSaid:=MergeMergesDone.card
end Go.Proofs.YtnhpclmbhbblbaaGreatDoor
