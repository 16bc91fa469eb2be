/- PROVED: the given statement TreeListsUptoCardSaid: List and Size answer just what the document says, errors too, whatever they are handed, where the arguments hold together at most 1048576 values and letters, and each argument reads behind the call as it read before; the listed package-level variables tied to the program's text by the given tie. The bound is the statement's own; no condition of ours. -/
import Derived.Test.YtnhpclmbhbblbaaDoorMz21
import Derived.Test.YtnhpclmbhbblbaaDoorMz22
import Derived.Test.YtnhpclmbhbblbaaDoorRows
import Derived.Test.YtnhpclmbhbblbaaDoorCards
import Derived.Test.YtnhpclmbhbblbaaDoorTie
import Derived.ProofKit
import Derived.OpenShut
import Derived.SizedLaws
import Derived.ChangeMaps5
import Derived.ChangeOld
import Derived.ChangeCalls
import Derived.LaidMore
import Derived.Lay
import Derived.SevenTiedAt
import Derived.Stop.Joined
import Derived.Deep.DeepHandedRow
namespace Go.Proofs.YtnhpclmbhbblbaaDoor.TreeListsDone
open Go.ChangeMaps Go.ChangeShapes Go.WideShapes Go.ChangeAt Go.RowKit Go.Ab
theorem own:ownKnob Tryd.prog.godebug = none:=by kernel_rfl
theorem XP:laidOutB Tryd.prog = true:=by kernel_rfl
theorem XB:(Tryd.f3.params.toList).all (fun t=>Tryd.prog.readableRec t && decide (t < Tryd.prog.types.size)) = true:=by kernel_rfl
theorem few:(Tryd.f3.params.toList).all (zC Tryd.prog 800 12) = true:=by kernel_rfl
set_option maxRecDepth 1000000 in
theorem Y4 (H:Type) (enc:TypeId × Value → H) (W:World) (base:Nat) (args:Array Value) (ds gs:List (DataW H)) (before:List MemPlace)
  (hval : ∀ (j:Nat) t v,Tryd.f3.params[j]? = some t → args[j]? = some v → Value.okWide Tryd.prog W .any base t v)
  (hW:DataW.Whole enc Tryd.prog Tryd.f3.params.toList Rows.treeListsSpec.vars false W args.toList ds gs before) (hk:Rows.uptoSmall H (ds ++ gs) = true) :
  Calls Tryd.prog 3 args W fun e W' => ∃ v,e = .returned v ∧ Rows.treeListsSpec.post enc Tryd.prog Tryd.f3 false true false false W args v W':=by
 have hW':=hW
 obtain ⟨p,q,hA0,hV,rfl,hfz,hnd⟩:=hW
 obtain ⟨rfl,rfl⟩:=trodVars_none hV
 have hA:DataW.TrodAll enc Tryd.prog W 0 (fun _=>true) true Tryd.f3.params.toList args.toList ds p:=hA0
 have hval' : ∀ (j:Nat) t v,Tryd.f3.params.toList[j]? = some t → args.toList[j]? = some v → Value.okWide Tryd.prog W .any base t v:=fun j t v ht hv=>hval j t v (by rw [← Array.getElem?_toList];exact ht) (by rw [← Array.getElem?_toList];exact hv)
 have hb:=of_decide_eq_true hk
 rw [List.append_nil] at hb
 have hsz : ∀ m,m ∈ DataW.weightsEach Tryd.prog Tryd.f3.params.toList ds → m ≤ 1000000000:=fun m hm=>by
  have:=vO (B:=800) (by decide) ds 12 Tryd.f3.params.toList few m hm
  omega
 have hlaw:=Jz 1000000000 C (f:=3) hA hval' hsz XP XB (by rw [Tryd.params3];exact kI)
 rw [Array.toArray_toList] at hlaw
 have hdl:ds.length = 2:=(trodAll_length hA).2.trans (by rw [Tryd.params3];rfl)
 match ds,hdl,hW',hlaw with
 | [d0,d1],_,hW',hlaw =>
 refine hlaw.mono fun e W' ⟨he,bel,hT⟩=>?_
 subst he
 exact ⟨_,rfl,_,_,_,[],_,[],hW',trodAll_mk1 (shut_bool Tryd.underlying4 _),hT,rfl,bel.frame _,fun h=>by cases h⟩
set_option maxRecDepth 1000000 in
theorem Yo (os:Os) (args:Array Value):laidMet Tryd.prog Rows.treeListsUptoRow.laid ((World.laidAll Tryd.prog os Rows.treeListsUptoRow.laid).forCall (fun _ _=>0) ⟨#[],args,[]⟩).memory:=laidMet_laidAll args (by kernel_rfl) (by kernel_rfl)
theorem VX (os:Os) {H:Type} (enc:TypeId × Value → H) : ∃ places,DataW.whole enc Tryd.prog ((World.laidAll Tryd.prog os Rows.treeListsUptoRow.laid).forCall (fun _ _=>0) ⟨#[], #[.slice none 0 0,.string ⟨#[]⟩],[]⟩).memory Tryd.f3.params.toList Rows.treeListsSpec.vars false #[.slice none 0 0,.string ⟨#[]⟩].toList 8 = some ([.nil,.lit (.string [])],[],places) :=
 ⟨[],by kernel_rfl⟩
theorem Yk (os:Os) {H:Type} (enc:TypeId × Value → H) :
  ∃ (w:World) (tape:Tape) (i:Input),w.os = os ∧ (w.forCall tape i).Shaped Tryd.prog ∧ i.vars = [] ∧ Input.okWide Tryd.prog (w.forCall tape i) .any w.heap.size 3 i ∧
    (Rows.OpenSpec.upto Rows.treeListsSpec).preRow enc Tryd.prog Tryd.f3 Rows.treeListsUptoRow.domain false Rows.treeListsUptoRow.laid (w.forCall tape i).memory i.args ∧ ({}:Assume).holds Tryd.prog (lone (Frame.enter Tryd.prog 3 i.args .normal) [] (w.forCall tape i)):=by
 obtain ⟨places,hx⟩:=VX os enc
 have hok:Input.okWideB Tryd.prog ((World.laidAll Tryd.prog os Rows.treeListsUptoRow.laid).forCall (fun _ _=>0) ⟨#[], #[.slice none 0 0,.string ⟨#[]⟩],[]⟩) 3 ⟨#[], #[.slice none 0 0,.string ⟨#[]⟩],[]⟩ = true:=by kernel_rfl
 exact ⟨World.laidAll Tryd.prog os Rows.treeListsUptoRow.laid,fun _ _=>0,⟨#[], #[.slice none 0 0,.string ⟨#[]⟩],[]⟩,World.laidAll_os _ _ _,World.shaped_of_ZipB (by kernel_rfl) (by kernel_rfl),
  (Input.okWide_of_okWideB (base:=0) hok).1,(Input.okWide_of_okWideB hok).2,OpenSpec.preRow_of_cond 8 hx (by kernel_rfl) (fun k hk=>by cases hk;kernel_rfl) (by kernel_rfl) (Yo os _),by
  simp only [Assume.holds]
  exact ⟨by simp,by simp,fun _=>Modest.zero,by simp,by simp⟩⟩
set_option maxRecDepth 100000 in
theorem Vt (os:Os) (started:os.Started) (H:Type) (enc:TypeId × Value → H) (F:Stop.Interp) :
  ReturnsInHanded {} Tryd.checked os 3 .any ((Rows.OpenSpec.upto Rows.treeListsSpec).preRow enc Tryd.prog Tryd.f3 Rows.treeListsUptoRow.domain false Rows.treeListsUptoRow.laid) (((Rows.OpenSpec.upto Rows.treeListsSpec).at F).post enc Tryd.prog Tryd.f3 false true false false):=by
 refine returnsInHanded_of_row (C:=Tryd.checked) (s:=Rows.OpenSpec.upto Rows.treeListsSpec) own started (by kernel_rfl) Tryd.func3 (Yk os enc) ?_
 intro W base args ds gs before hval hW _ hcond _ _ _ _
 exact Y4 H enc W base args ds gs before hval hW (hcond _ rfl)
theorem Zb:Rows.TreeListsUptoSaid :=
 OpenClaim.holds_of_cond 3 Tryd.f3 rfl rfl rfl rfl rfl rfl rfl ⟨rfl,rfl,rfl,rfl,rfl⟩ rfl rfl rfl rfl rfl (by kernel_rfl) Tryd.func3 (by kernel_rfl)
  (of_decide_eq_true (by kernel_rfl)) (by unfold Func.isWrapper;rw [if_neg (of_decide_eq_false (by kernel_rfl))];exact ⟨rfl,rfl⟩)
  (fun os started H enc _ F=>by rw [OpenClaim.pre_eq_preRow];exact Vt os started H enc F)
theorem VV (f:FuncId) (fn:Func) (hf:Tryd.pinned.checked.prog.funcNamed "tetherpost/tetherpostlaw.TreeLists" = some f) (hfn:Tryd.pinned.checked.prog.funcs[f]? = some fn) :
  false = Tryd.pinned.checked.prog.looks [] ∧ ∀ (j:Nat) t,fn.params[j]? = some t → Tryd.pinned.checked.prog.wantsStandIn t = false:=by
 obtain rfl:f = 3:=Option.some.inj ((show Tryd.prog.funcNamed "tetherpost/tetherpostlaw.TreeLists" = some 3 by kernel_rfl).symm.trans hf) |>.symm
 obtain rfl:fn = Tryd.f3:=(Option.some.inj (Tryd.func3.symm.trans hfn)).symm
 refine ⟨by kernel_rfl,fun j t ht=>?_⟩
 rw [Tryd.params3] at ht
 have hm:t ∈ [22,9]:=by simpa [or_comm,or_assoc,or_left_comm] using Array.mem_of_getElem? ht
 have hall:([22,9].all fun u => !Tryd.prog.wantsStandIn u) = true:=by kernel_rfl
 exact (show Tryd.prog.wantsStandIn t = false by simpa using List.all_eq_true.1 hall t hm)
theorem card:Rows.TreeListsUptoCardSaid :=
 Claim7.holds_tied_plain_at .later [] _ _ _ _ Zb (fun _ h=>by cases h) (by kernel_rfl) (fun _ h=>by cases h) treeListsUpto_row_tie rfl ⟨rfl,rfl⟩ (by kernel_rfl) rfl VV (by kernel_rfl)
end Go.Proofs.YtnhpclmbhbblbaaDoor.TreeListsDone
namespace Go.Proofs.YtnhpclmbhbblbaaDoor
theorem treeLists_holds:Rows.TreeListsUptoCardSaid:=TreeListsDone.card
end Go.Proofs.YtnhpclmbhbblbaaDoor
