/- PROVED: the given statement ClientHearsUptoCardSaid: Hear answers just what the document says, errors too, whatever it is handed, where the arguments hold together at most 1048576 values and letters, and each argument reads behind the call as it read before; the listed package-level variables tied to the program's text by the given tie. The bound is the statement's own; no condition of ours. -/
import Derived.Test.YtnhpclmbhbblbaaGreatDoorMz41
import Derived.Test.YtnhpclmbhbblbaaGreatDoorMz42
import Derived.Test.YtnhpclmbhbblbaaGreatDoorRows
import Derived.Test.YtnhpclmbhbblbaaGreatDoorCards
import Derived.Test.YtnhpclmbhbblbaaGreatDoorTie
import Derived.ProofKit
import Derived.OpenShut
import Derived.SizedLaws
import Derived.ChangeMaps5
import Derived.ChangeOld
import Derived.ChangeCalls
import Derived.LaidMore
import Derived.Lay
import Derived.SevenTiedAt
import Derived.Stop.Joined
import Derived.Deep.DeepHandedRow
namespace Go.Proofs.YtnhpclmbhbblbaaGreatDoor.ClientHearsDone
open Go.ChangeMaps Go.ChangeShapes Go.WideShapes Go.ChangeAt Go.RowKit Go.Ab
theorem own:ownKnob Tryz.prog.godebug = none:=by kernel_rfl
theorem qfo:laidOutB Tryz.prog = true:=by kernel_rfl
theorem qeu:(Tryz.f5.params.toList).all (fun t=>Tryz.prog.readableRec t && decide (t < Tryz.prog.types.size)) = true:=by kernel_rfl
theorem few:(Tryz.f5.params.toList).all (Xj Tryz.prog 800 12) = true:=by kernel_rfl
set_option maxRecDepth 1000000 in
theorem qdI (H:Type) (enc:TypeId × Value → H) (W:World) (base:Nat) (args:Array Value) (ds gs:List (DataW H)) (before:List MemPlace)
  (hval : ∀ (j:Nat) t v,Tryz.f5.params[j]? = some t → args[j]? = some v → Value.okWide Tryz.prog W .any base t v)
  (hW:DataW.Whole enc Tryz.prog Tryz.f5.params.toList Rows.clientHearsSpec.vars false W args.toList ds gs before) (hk:Rows.uptoSmall H (ds ++ gs) = true) (htab : ∀ b cs,wG b = some cs → ∃ e fr,W.heap[b]? = some (.cells cs e fr)) :
  Calls Tryz.prog 5 args W fun e W' => ∃ v,e = .returned v ∧ Rows.clientHearsSpec.post enc Tryz.prog Tryz.f5 false true false false W args v W':=by
 have hW':=hW
 obtain ⟨p,q,hA0,hV,rfl,hfz,hnd⟩:=hW
 obtain ⟨rfl,rfl⟩:=trodVars_none hV
 have hA:DataW.TrodAll enc Tryz.prog W 0 (fun _=>true) true Tryz.f5.params.toList args.toList ds p:=hA0
 have hval' : ∀ (j:Nat) t v,Tryz.f5.params.toList[j]? = some t → args.toList[j]? = some v → Value.okWide Tryz.prog W .any base t v:=fun j t v ht hv=>hval j t v (by rw [← Array.getElem?_toList];exact ht) (by rw [← Array.getElem?_toList];exact hv)
 have hb:=of_decide_eq_true hk
 rw [List.append_nil] at hb
 have hsz : ∀ m,m ∈ DataW.weightsEach Tryz.prog Tryz.f5.params.toList ds → m ≤ 1000000000:=fun m hm=>by
  have:=J7 (B:=800) (by decide) ds 12 Tryz.f5.params.toList few m hm
  omega
 have hlaw:=qa3 1000000000 C (f:=5) hA hval' hsz qfo qeu (by rw [Tryz.params5];exact VX) htab
 rw [Array.toArray_toList] at hlaw
 have hdl:ds.length = 3:=(trodAll_length hA).2.trans (by rw [Tryz.params5];rfl)
 match ds,hdl,hW',hlaw with
 | [d0,d1,d2],_,hW',hlaw =>
 refine hlaw.mono fun e W' ⟨he,bel,hT⟩=>?_
 subst he
 exact ⟨_,rfl,_,_,_,[],_,[],hW',trodAll_mk1 (shut_bool Tryz.underlying4 _),hT,rfl,bel.frame _,fun h=>by cases h⟩
set_option maxRecDepth 1000000 in
theorem qcw (os:Os) (args:Array Value):laidMet Tryz.prog Rows.clientHearsUptoRow.laid ((World.laidAll Tryz.prog os Rows.clientHearsUptoRow.laid).forCall (fun _ _=>0) ⟨#[],args,[]⟩).memory:=laidMet_laidAll args (by kernel_rfl) (by kernel_rfl)
theorem reads (os:Os) {H:Type} (enc:TypeId × Value → H) : ∃ places,DataW.whole enc Tryz.prog ((World.laidAll Tryz.prog os Rows.clientHearsUptoRow.laid).forCall (fun _ _=>0) ⟨#[], #[.agg #[.string ⟨#[]⟩,.string ⟨#[]⟩,.slice none 0 0,.int .i64 0,.slice none 0 0,.string ⟨#[]⟩,.slice none 0 0,.int .i64 0],.int .i64 0,.agg #[.int .i64 0,.int .i64 0,.bool false,.slice none 0 0,.slice none 0 0,.int .i64 0,.bool false]],[]⟩).memory Tryz.f5.params.toList Rows.clientHearsSpec.vars false #[.agg #[.string ⟨#[]⟩,.string ⟨#[]⟩,.slice none 0 0,.int .i64 0,.slice none 0 0,.string ⟨#[]⟩,.slice none 0 0,.int .i64 0],.int .i64 0,.agg #[.int .i64 0,.int .i64 0,.bool false,.slice none 0 0,.slice none 0 0,.int .i64 0,.bool false]].toList 8 = some ([.agg [.lit (.string []),.lit (.string []),.nil,.lit (.int .i64 0),.nil,.lit (.string []),.nil,.lit (.int .i64 0)],.lit (.int .i64 0),.agg [.lit (.int .i64 0),.lit (.int .i64 0),.agg [.lit (.bool false),.nil,.nil,.lit (.int .i64 0),.lit (.bool false)]]],[],places) :=
 ⟨[],by kernel_rfl⟩
theorem qdc (os:Os) {H:Type} (enc:TypeId × Value → H) :
  ∃ (w:World) (tape:Tape) (i:Input),w.os = os ∧ (w.forCall tape i).Shaped Tryz.prog ∧ i.vars = [] ∧ Input.okWide Tryz.prog (w.forCall tape i) .any w.heap.size 5 i ∧
    (Rows.OpenSpec.upto Rows.clientHearsSpec).preRow enc Tryz.prog Tryz.f5 Rows.clientHearsUptoRow.domain false Rows.clientHearsUptoRow.laid (w.forCall tape i).memory i.args ∧ ({}:Assume).holds Tryz.prog (lone (Frame.enter Tryz.prog 5 i.args .normal) [] (w.forCall tape i)):=by
 obtain ⟨places,hx⟩:=reads os enc
 have hok:Input.okWideB Tryz.prog ((World.laidAll Tryz.prog os Rows.clientHearsUptoRow.laid).forCall (fun _ _=>0) ⟨#[], #[.agg #[.string ⟨#[]⟩,.string ⟨#[]⟩,.slice none 0 0,.int .i64 0,.slice none 0 0,.string ⟨#[]⟩,.slice none 0 0,.int .i64 0],.int .i64 0,.agg #[.int .i64 0,.int .i64 0,.bool false,.slice none 0 0,.slice none 0 0,.int .i64 0,.bool false]],[]⟩) 5 ⟨#[], #[.agg #[.string ⟨#[]⟩,.string ⟨#[]⟩,.slice none 0 0,.int .i64 0,.slice none 0 0,.string ⟨#[]⟩,.slice none 0 0,.int .i64 0],.int .i64 0,.agg #[.int .i64 0,.int .i64 0,.bool false,.slice none 0 0,.slice none 0 0,.int .i64 0,.bool false]],[]⟩ = true:=by kernel_rfl
 exact ⟨World.laidAll Tryz.prog os Rows.clientHearsUptoRow.laid,fun _ _=>0,⟨#[], #[.agg #[.string ⟨#[]⟩,.string ⟨#[]⟩,.slice none 0 0,.int .i64 0,.slice none 0 0,.string ⟨#[]⟩,.slice none 0 0,.int .i64 0],.int .i64 0,.agg #[.int .i64 0,.int .i64 0,.bool false,.slice none 0 0,.slice none 0 0,.int .i64 0,.bool false]],[]⟩,World.laidAll_os _ _ _,World.shaped_of_ZipB (by kernel_rfl) (by kernel_rfl),
  (Input.okWide_of_okWideB (base:=0) hok).1,(Input.okWide_of_okWideB hok).2,OpenSpec.preRow_of_cond 8 hx (by kernel_rfl) (fun k hk=>by cases hk;kernel_rfl) (by kernel_rfl) (qcw os _),by
  simp only [Assume.holds]
  exact ⟨by simp,by simp,fun _=>Modest.zero,by simp,by simp⟩⟩
theorem qfp:("internal/strconv.uint64pow10",Lib.tabData .u64 Lib.pow10Tab) ∈ Rows.clientHearsUptoRow.laid:=List.mem_of_getElem? (show Rows.clientHearsUptoRow.laid[2]? = some ("internal/strconv.uint64pow10",Lib.tabData .u64 Lib.pow10Tab) by kernel_rfl)
set_option maxRecDepth 100000 in
theorem qgE (os:Os) (started:os.Started) (H:Type) (enc:TypeId × Value → H) (F:Stop.Interp) :
  ReturnsInHanded {} Tryz.checked os 5 .any ((Rows.OpenSpec.upto Rows.clientHearsSpec).preRow enc Tryz.prog Tryz.f5 Rows.clientHearsUptoRow.domain false Rows.clientHearsUptoRow.laid) (((Rows.OpenSpec.upto Rows.clientHearsSpec).at F).post enc Tryz.prog Tryz.f5 false true false false):=by
 refine returnsInHanded_of_row (C:=Tryz.checked) (s:=Rows.OpenSpec.upto Rows.clientHearsSpec) own started (by kernel_rfl) Tryz.func5 (qdc os enc) ?_
 intro W base args ds gs before hval hW _ hcond _ hlaid _ _
 exact qdI H enc W base args ds gs before hval hW (hcond _ rfl) (K0 (show laidMet _ _ _ from hlaid) qfp)
theorem qhq:Rows.ClientHearsUptoSaid :=
 OpenClaim.holds_of_cond 5 Tryz.f5 rfl rfl rfl rfl rfl rfl rfl ⟨rfl,rfl,rfl,rfl,rfl⟩ rfl rfl rfl rfl rfl (by kernel_rfl) Tryz.func5 (by kernel_rfl)
  (of_decide_eq_true (by kernel_rfl)) (by unfold Func.isWrapper;rw [if_neg (of_decide_eq_false (by kernel_rfl))];exact ⟨rfl,rfl⟩)
  (fun os started H enc _ F=>by rw [OpenClaim.pre_eq_preRow];exact qgE os started H enc F)
theorem qhd (f:FuncId) (fn:Func) (hf:Tryz.pinned.checked.prog.funcNamed "tetherpost/tetherpostlaw.ClientHears" = some f) (hfn:Tryz.pinned.checked.prog.funcs[f]? = some fn) :
  false = Tryz.pinned.checked.prog.looks [] ∧ ∀ (j:Nat) t,fn.params[j]? = some t → Tryz.pinned.checked.prog.wantsStandIn t = false:=by
 obtain rfl:f = 5:=Option.some.inj ((show Tryz.prog.funcNamed "tetherpost/tetherpostlaw.ClientHears" = some 5 by kernel_rfl).symm.trans hf) |>.symm
 obtain rfl:fn = Tryz.f5:=(Option.some.inj (Tryz.func5.symm.trans hfn)).symm
 refine ⟨by kernel_rfl,fun j t ht=>?_⟩
 rw [Tryz.params5] at ht
 have hm:t ∈ [43,38,3]:=by simpa [or_comm,or_assoc,or_left_comm] using Array.mem_of_getElem? ht
 have hall:([43,38,3].all fun u => !Tryz.prog.wantsStandIn u) = true:=by kernel_rfl
 exact (show Tryz.prog.wantsStandIn t = false by simpa using List.all_eq_true.1 hall t hm)
theorem card:Rows.ClientHearsUptoCardSaid :=
 Claim7.holds_tied_plain_at .later [] _ _ _ _ qhq (fun _ h=>by cases h) (by kernel_rfl) (fun _ h=>by cases h) clientHearsUpto_row_tie rfl ⟨rfl,rfl⟩ (by kernel_rfl) rfl qhd (by kernel_rfl)
end Go.Proofs.YtnhpclmbhbblbaaGreatDoor.ClientHearsDone
namespace Go.Proofs.YtnhpclmbhbblbaaGreatDoor
theorem clientHears_holds:Rows.ClientHearsUptoCardSaid:=ClientHearsDone.card
end Go.Proofs.YtnhpclmbhbblbaaGreatDoor
