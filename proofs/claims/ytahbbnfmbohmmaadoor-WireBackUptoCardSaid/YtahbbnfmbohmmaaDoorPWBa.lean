/- PROVED: the given statement WireBackUptoCardSaid: what is asked is read as it was, and nothing else is; answers likewise, where the arguments hold together at most 1048576 values and letters, and each argument reads behind the call as it read before; the listed package-level variables tied to the program's text by the given tie. The bound is the statement's own; no condition of ours. -/
import Derived.Test.YtahbbnfmbohmmaaDoorMz30
import Derived.Test.YtahbbnfmbohmmaaDoorMz31
import Derived.Test.YtahbbnfmbohmmaaDoorRows
import Derived.Test.YtahbbnfmbohmmaaDoorCards
import Derived.Test.YtahbbnfmbohmmaaDoorTie
import Derived.ProofKit
import Derived.OpenShut
import Derived.SizedLaws
import Derived.ChangeMaps5
import Derived.ChangeOld
import Derived.ChangeCalls
import Derived.LaidMore
import Derived.Lay
import Derived.SevenTiedAt
import Derived.Stop.Joined
import Derived.Deep.DeepHandedRow
namespace Go.Proofs.YtahbbnfmbohmmaaDoor.WireBackDone
open Go.ChangeMaps Go.ChangeShapes Go.WideShapes Go.ChangeAt Go.RowKit Go.Ab
theorem own:ownKnob Tryd.prog.godebug = none:=by kernel_rfl
theorem Wl:laidOutB Tryd.prog = true:=by kernel_rfl
theorem KA:(Tryd.f7.params.toList).all (fun t=>Tryd.prog.readableRec t && decide (t < Tryd.prog.types.size)) = true:=by kernel_rfl
theorem few:(Tryd.f7.params.toList).all (kY Tryd.prog 800 12) = true:=by kernel_rfl
set_option maxRecDepth 1000000 in
theorem Z7 (H:Type) (enc:TypeId × Value → H) (W:World) (base:Nat) (args:Array Value) (ds gs:List (DataW H)) (before:List MemPlace)
  (hval : ∀ (j:Nat) t v,Tryd.f7.params[j]? = some t → args[j]? = some v → Value.okWide Tryd.prog W .any base t v)
  (hW:DataW.Whole enc Tryd.prog Tryd.f7.params.toList Rows.wireBackSpec.vars false W args.toList ds gs before) (hk:Rows.uptoSmall H (ds ++ gs) = true) (htab : ∀ b p,yZ b = some p → ∃ cs e fr,p cs ∧ W.heap[b]? = some (.cells cs e fr)) :
  Calls Tryd.prog 7 args W fun e W' => ∃ v,e = .returned v ∧ Rows.wireBackSpec.post enc Tryd.prog Tryd.f7 false true false false W args v W':=by
 have hW':=hW
 obtain ⟨p,q,hA0,hV,rfl,hfz,hnd⟩:=hW
 obtain ⟨rfl,rfl⟩:=trodVars_none hV
 have hA:DataW.TrodAll enc Tryd.prog W 0 (fun _=>true) true Tryd.f7.params.toList args.toList ds p:=hA0
 have hval' : ∀ (j:Nat) t v,Tryd.f7.params.toList[j]? = some t → args.toList[j]? = some v → Value.okWide Tryd.prog W .any base t v:=fun j t v ht hv=>hval j t v (by rw [← Array.getElem?_toList];exact ht) (by rw [← Array.getElem?_toList];exact hv)
 have hb:=of_decide_eq_true hk
 rw [List.append_nil] at hb
 have hsz : ∀ m,m ∈ DataW.weightsEach Tryd.prog Tryd.f7.params.toList ds → m ≤ 1000000000:=fun m hm=>by
  have:=z8 (B:=800) (by decide) ds 12 Tryd.f7.params.toList few m hm
  omega
 have hlaw:=XH 1000000000 C (f:=7) hA hval' hsz Wl KA (by rw [Tryd.params7];exact Q6) htab
 rw [Array.toArray_toList] at hlaw
 have hdl:ds.length = 3:=(trodAll_length hA).2.trans (by rw [Tryd.params7];rfl)
 match ds,hdl,hW',hlaw with
 | [d0,d1,d2],_,hW',hlaw =>
 refine hlaw.mono fun e W' ⟨he,bel,hT⟩=>?_
 subst he
 exact ⟨_,rfl,_,_,_,[],_,[],hW',trodAll_mk1 (shut_bool Tryd.underlying4 _),hT,rfl,bel.frame _,fun h=>by cases h⟩
set_option maxRecDepth 1000000 in
theorem Zf (os:Os) (args:Array Value):laidMet Tryd.prog Rows.wireBackUptoRow.laid ((World.laidAll Tryd.prog os Rows.wireBackUptoRow.laid).forCall (fun _ _=>0) ⟨#[],args,[]⟩).memory:=laidMet_laidAll args (by kernel_rfl) (by kernel_rfl)
theorem qaB (os:Os) {H:Type} (enc:TypeId × Value → H) : ∃ places,DataW.whole enc Tryd.prog ((World.laidAll Tryd.prog os Rows.wireBackUptoRow.laid).forCall (fun _ _=>0) ⟨#[], #[.agg #[.int .i64 0,.string ⟨#[]⟩,.string ⟨#[]⟩,.string ⟨#[]⟩,.string ⟨#[]⟩,.string ⟨#[]⟩,.int .i64 0,.int .i64 0,.int .i64 0,.slice none 0 0],.agg #[.int .i64 0,.int .i64 0,.bool false,.slice none 0 0,.slice none 0 0,.int .i64 0,.bool false],.string ⟨#[]⟩],[]⟩).memory Tryd.f7.params.toList Rows.wireBackSpec.vars false #[.agg #[.int .i64 0,.string ⟨#[]⟩,.string ⟨#[]⟩,.string ⟨#[]⟩,.string ⟨#[]⟩,.string ⟨#[]⟩,.int .i64 0,.int .i64 0,.int .i64 0,.slice none 0 0],.agg #[.int .i64 0,.int .i64 0,.bool false,.slice none 0 0,.slice none 0 0,.int .i64 0,.bool false],.string ⟨#[]⟩].toList 8 = some ([.agg [.lit (.int .i64 0),.lit (.string []),.lit (.string []),.lit (.string []),.lit (.string []),.lit (.string []),.lit (.int .i64 0),.lit (.int .i64 0),.lit (.int .i64 0),.nil],.agg [.lit (.int .i64 0),.lit (.int .i64 0),.agg [.lit (.bool false),.nil,.nil,.lit (.int .i64 0),.lit (.bool false)]],.lit (.string [])],[],places) :=
 ⟨[],by kernel_rfl⟩
theorem ZG (os:Os) {H:Type} (enc:TypeId × Value → H) :
  ∃ (w:World) (tape:Tape) (i:Input),w.os = os ∧ (w.forCall tape i).Shaped Tryd.prog ∧ i.vars = [] ∧ Input.okWide Tryd.prog (w.forCall tape i) .any w.heap.size 7 i ∧
    (Rows.OpenSpec.upto Rows.wireBackSpec).preRow enc Tryd.prog Tryd.f7 Rows.wireBackUptoRow.domain false Rows.wireBackUptoRow.laid (w.forCall tape i).memory i.args ∧ ({}:Assume).holds Tryd.prog (lone (Frame.enter Tryd.prog 7 i.args .normal) [] (w.forCall tape i)):=by
 obtain ⟨places,hx⟩:=qaB os enc
 have hok:Input.okWideB Tryd.prog ((World.laidAll Tryd.prog os Rows.wireBackUptoRow.laid).forCall (fun _ _=>0) ⟨#[], #[.agg #[.int .i64 0,.string ⟨#[]⟩,.string ⟨#[]⟩,.string ⟨#[]⟩,.string ⟨#[]⟩,.string ⟨#[]⟩,.int .i64 0,.int .i64 0,.int .i64 0,.slice none 0 0],.agg #[.int .i64 0,.int .i64 0,.bool false,.slice none 0 0,.slice none 0 0,.int .i64 0,.bool false],.string ⟨#[]⟩],[]⟩) 7 ⟨#[], #[.agg #[.int .i64 0,.string ⟨#[]⟩,.string ⟨#[]⟩,.string ⟨#[]⟩,.string ⟨#[]⟩,.string ⟨#[]⟩,.int .i64 0,.int .i64 0,.int .i64 0,.slice none 0 0],.agg #[.int .i64 0,.int .i64 0,.bool false,.slice none 0 0,.slice none 0 0,.int .i64 0,.bool false],.string ⟨#[]⟩],[]⟩ = true:=by kernel_rfl
 exact ⟨World.laidAll Tryd.prog os Rows.wireBackUptoRow.laid,fun _ _=>0,⟨#[], #[.agg #[.int .i64 0,.string ⟨#[]⟩,.string ⟨#[]⟩,.string ⟨#[]⟩,.string ⟨#[]⟩,.string ⟨#[]⟩,.int .i64 0,.int .i64 0,.int .i64 0,.slice none 0 0],.agg #[.int .i64 0,.int .i64 0,.bool false,.slice none 0 0,.slice none 0 0,.int .i64 0,.bool false],.string ⟨#[]⟩],[]⟩,World.laidAll_os _ _ _,World.shaped_of_ZipB (by kernel_rfl) (by kernel_rfl),
  (Input.okWide_of_okWideB (base:=0) hok).1,(Input.okWide_of_okWideB hok).2,OpenSpec.preRow_of_cond 8 hx (by kernel_rfl) (fun k hk=>by cases hk;kernel_rfl) (by kernel_rfl) (Zf os _),by
  simp only [Assume.holds]
  exact ⟨by simp,by simp,fun _=>Modest.zero,by simp,by simp⟩⟩
theorem Wo:("internal/strconv.uint64pow10",Lib.tabData .u64 Lib.pow10Tab) ∈ Rows.wireBackUptoRow.laid:=List.mem_of_getElem? (show Rows.wireBackUptoRow.laid[2]? = some ("internal/strconv.uint64pow10",Lib.tabData .u64 Lib.pow10Tab) by kernel_rfl)
theorem Wn:("strconv.ErrSyntax",(Rows.laid_strconv_ErrSyntax:DataW Unit)) ∈ Rows.wireBackUptoRow.laid:=List.mem_of_getElem? (show Rows.wireBackUptoRow.laid[4]? = some ("strconv.ErrSyntax",Rows.laid_strconv_ErrSyntax) by kernel_rfl)
theorem Wm:("strconv.ErrRange",(Rows.laid_strconv_ErrRange:DataW Unit)) ∈ Rows.wireBackUptoRow.laid:=List.mem_of_getElem? (show Rows.wireBackUptoRow.laid[3]? = some ("strconv.ErrRange",Rows.laid_strconv_ErrRange) by kernel_rfl)
set_option maxRecDepth 100000 in
theorem W4 (os:Os) (started:os.Started) (H:Type) (enc:TypeId × Value → H) (F:Stop.Interp) :
  ReturnsInHanded {} Tryd.checked os 7 .any ((Rows.OpenSpec.upto Rows.wireBackSpec).preRow enc Tryd.prog Tryd.f7 Rows.wireBackUptoRow.domain false Rows.wireBackUptoRow.laid) (((Rows.OpenSpec.upto Rows.wireBackSpec).at F).post enc Tryd.prog Tryd.f7 false true false false):=by
 refine returnsInHanded_of_row (C:=Tryd.checked) (s:=Rows.OpenSpec.upto Rows.wireBackSpec) own started (by kernel_rfl) Tryd.func7 (ZG os enc) ?_
 intro W base args ds gs before hval hW _ hcond _ hlaid _ _
 exact Z7 H enc W base args ds gs before hval hW (hcond _ rfl) (Yn (show laidMet _ _ _ from hlaid) Wo Wn Wm)
theorem qaP:Rows.WireBackUptoSaid :=
 OpenClaim.holds_of_cond 7 Tryd.f7 rfl rfl rfl rfl rfl rfl rfl ⟨rfl,rfl,rfl,rfl,rfl⟩ rfl rfl rfl rfl rfl (by kernel_rfl) Tryd.func7 (by kernel_rfl)
  (of_decide_eq_true (by kernel_rfl)) (by unfold Func.isWrapper;rw [if_neg (of_decide_eq_false (by kernel_rfl))];exact ⟨rfl,rfl⟩)
  (fun os started H enc _ F=>by rw [OpenClaim.pre_eq_preRow];exact W4 os started H enc F)
theorem qav (f:FuncId) (fn:Func) (hf:Tryd.pinned.checked.prog.funcNamed "tetherpost/tetherpostlaw.WireBack" = some f) (hfn:Tryd.pinned.checked.prog.funcs[f]? = some fn) :
  true = Tryd.pinned.checked.prog.looks [] ∧ ∀ (j:Nat) t,fn.params[j]? = some t → Tryd.pinned.checked.prog.wantsStandIn t = false:=by
 obtain rfl:f = 7:=Option.some.inj ((show Tryd.prog.funcNamed "tetherpost/tetherpostlaw.WireBack" = some 7 by kernel_rfl).symm.trans hf) |>.symm
 obtain rfl:fn = Tryd.f7:=(Option.some.inj (Tryd.func7.symm.trans hfn)).symm
 refine ⟨by kernel_rfl,fun j t ht=>?_⟩
 rw [Tryd.params7] at ht
 have hm:t ∈ [40,24,9]:=by simpa [or_comm,or_assoc,or_left_comm] using Array.mem_of_getElem? ht
 have hall:([40,24,9].all fun u => !Tryd.prog.wantsStandIn u) = true:=by kernel_rfl
 exact (show Tryd.prog.wantsStandIn t = false by simpa using List.all_eq_true.1 hall t hm)
theorem card:Rows.WireBackUptoCardSaid :=
 Claim7.holds_tied_plain_at .later [] _ _ _ _ qaP (fun _ h=>by cases h) (by kernel_rfl) (fun _ h=>by cases h) wireBackUpto_row_tie rfl ⟨rfl,rfl⟩ (by kernel_rfl) rfl qav (by kernel_rfl)
end Go.Proofs.YtahbbnfmbohmmaaDoor.WireBackDone
namespace Go.Proofs.YtahbbnfmbohmmaaDoor
theorem wireBack_holds:Rows.WireBackUptoCardSaid:=WireBackDone.card
end Go.Proofs.YtahbbnfmbohmmaaDoor
