/- PROVED: the given statement WireTellsUptoCardSaid: Tell answers just what the document says, errors too, whatever answer it is handed, where the arguments hold together at most 1048576 values and letters, and each argument reads behind the call as it read before; the listed package-level variables tied to the program's text by the given tie. The bound is the statement's own; no condition of ours. -/
import Derived.Test.YtahbbnfmbohmmaaDoorMz26
import Derived.Test.YtahbbnfmbohmmaaDoorMz27
import Derived.Test.YtahbbnfmbohmmaaDoorRows
import Derived.Test.YtahbbnfmbohmmaaDoorCards
import Derived.Test.YtahbbnfmbohmmaaDoorTie
import Derived.ProofKit
import Derived.OpenShut
import Derived.SizedLaws
import Derived.ChangeMaps5
import Derived.ChangeOld
import Derived.ChangeCalls
import Derived.LaidMore
import Derived.Lay
import Derived.SevenTiedAt
import Derived.Stop.Joined
import Derived.Deep.DeepHandedRow
namespace Go.Proofs.YtahbbnfmbohmmaaDoor.WireTellsDone
open Go.ChangeMaps Go.ChangeShapes Go.WideShapes Go.ChangeAt Go.RowKit Go.Ab
theorem own:ownKnob Tryd.prog.godebug = none:=by kernel_rfl
theorem Vw:laidOutB Tryd.prog = true:=by kernel_rfl
theorem XM:(Tryd.f5.params.toList).all (fun t=>Tryd.prog.readableRec t && decide (t < Tryd.prog.types.size)) = true:=by kernel_rfl
theorem Z2:(Tryd.f5.params.toList).all (zA Tryd.prog 800 12) = true:=by kernel_rfl
set_option maxRecDepth 1000000 in
theorem Xm (H:Type) (enc:TypeId × Value → H) (W:World) (base:Nat) (args:Array Value) (ds gs:List (DataW H)) (before:List MemPlace)
  (hval : ∀ (j:Nat) t v,Tryd.f5.params[j]? = some t → args[j]? = some v → Value.okWide Tryd.prog W .any base t v)
  (hW:DataW.Whole enc Tryd.prog Tryd.f5.params.toList Rows.wireTellsSpec.vars false W args.toList ds gs before) (hk:Rows.uptoSmall H (ds ++ gs) = true) (htab : ∀ b p,yC b = some p → ∃ cs e fr,p cs ∧ W.heap[b]? = some (.cells cs e fr)) :
  Calls Tryd.prog 5 args W fun e W' => ∃ v,e = .returned v ∧ Rows.wireTellsSpec.post enc Tryd.prog Tryd.f5 false true false false W args v W':=by
 have hW':=hW
 obtain ⟨p,q,hA0,hV,rfl,hfz,hnd⟩:=hW
 obtain ⟨rfl,rfl⟩:=trodVars_none hV
 have hA:DataW.TrodAll enc Tryd.prog W 0 (fun _=>true) true Tryd.f5.params.toList args.toList ds p:=hA0
 have hval' : ∀ (j:Nat) t v,Tryd.f5.params.toList[j]? = some t → args.toList[j]? = some v → Value.okWide Tryd.prog W .any base t v:=fun j t v ht hv=>hval j t v (by rw [← Array.getElem?_toList];exact ht) (by rw [← Array.getElem?_toList];exact hv)
 have hb:=of_decide_eq_true hk
 rw [List.append_nil] at hb
 have hsz : ∀ m,m ∈ DataW.weightsEach Tryd.prog Tryd.f5.params.toList ds → m ≤ 1000000000:=fun m hm=>by
  have:=vR (B:=800) (by decide) ds 12 Tryd.f5.params.toList Z2 m hm
  omega
 have hlaw:=Ju 1000000000 C (f:=5) hA hval' hsz Vw XM (by rw [Tryd.params5];exact kJ) htab
 rw [Array.toArray_toList] at hlaw
 have hdl:ds.length = 1:=(trodAll_length hA).2.trans (by rw [Tryd.params5];rfl)
 match ds,hdl,hW',hlaw with
 | [d0],_,hW',hlaw =>
 refine hlaw.mono fun e W' ⟨he,bel,hT⟩=>?_
 subst he
 exact ⟨_,rfl,_,_,_,[],_,[],hW',trodAll_mk1 (shut_bool Tryd.underlying4 _),hT,rfl,bel.frame _,fun h=>by cases h⟩
set_option maxRecDepth 1000000 in
theorem YG (os:Os) (args:Array Value):laidMet Tryd.prog Rows.wireTellsUptoRow.laid ((World.laidAll Tryd.prog os Rows.wireTellsUptoRow.laid).forCall (fun _ _=>0) ⟨#[],args,[]⟩).memory:=laidMet_laidAll args (by kernel_rfl) (by kernel_rfl)
theorem Zz (os:Os) {H:Type} (enc:TypeId × Value → H) : ∃ places,DataW.whole enc Tryd.prog ((World.laidAll Tryd.prog os Rows.wireTellsUptoRow.laid).forCall (fun _ _=>0) ⟨#[], #[.agg #[.int .i64 0,.int .i64 0,.bool false,.slice none 0 0,.slice none 0 0,.int .i64 0,.bool false]],[]⟩).memory Tryd.f5.params.toList Rows.wireTellsSpec.vars false #[.agg #[.int .i64 0,.int .i64 0,.bool false,.slice none 0 0,.slice none 0 0,.int .i64 0,.bool false]].toList 8 = some ([.agg [.lit (.int .i64 0),.lit (.int .i64 0),.agg [.lit (.bool false),.nil,.nil,.lit (.int .i64 0),.lit (.bool false)]]],[],places) :=
 ⟨[],by kernel_rfl⟩
theorem YZ (os:Os) {H:Type} (enc:TypeId × Value → H) :
  ∃ (w:World) (tape:Tape) (i:Input),w.os = os ∧ (w.forCall tape i).Shaped Tryd.prog ∧ i.vars = [] ∧ Input.okWide Tryd.prog (w.forCall tape i) .any w.heap.size 5 i ∧
    (Rows.OpenSpec.upto Rows.wireTellsSpec).preRow enc Tryd.prog Tryd.f5 Rows.wireTellsUptoRow.domain false Rows.wireTellsUptoRow.laid (w.forCall tape i).memory i.args ∧ ({}:Assume).holds Tryd.prog (lone (Frame.enter Tryd.prog 5 i.args .normal) [] (w.forCall tape i)):=by
 obtain ⟨places,hx⟩:=Zz os enc
 have hok:Input.okWideB Tryd.prog ((World.laidAll Tryd.prog os Rows.wireTellsUptoRow.laid).forCall (fun _ _=>0) ⟨#[], #[.agg #[.int .i64 0,.int .i64 0,.bool false,.slice none 0 0,.slice none 0 0,.int .i64 0,.bool false]],[]⟩) 5 ⟨#[], #[.agg #[.int .i64 0,.int .i64 0,.bool false,.slice none 0 0,.slice none 0 0,.int .i64 0,.bool false]],[]⟩ = true:=by kernel_rfl
 exact ⟨World.laidAll Tryd.prog os Rows.wireTellsUptoRow.laid,fun _ _=>0,⟨#[], #[.agg #[.int .i64 0,.int .i64 0,.bool false,.slice none 0 0,.slice none 0 0,.int .i64 0,.bool false]],[]⟩,World.laidAll_os _ _ _,World.shaped_of_ZipB (by kernel_rfl) (by kernel_rfl),
  (Input.okWide_of_okWideB (base:=0) hok).1,(Input.okWide_of_okWideB hok).2,OpenSpec.preRow_of_cond 8 hx (by kernel_rfl) (fun k hk=>by cases hk;kernel_rfl) (by kernel_rfl) (YG os _),by
  simp only [Assume.holds]
  exact ⟨by simp,by simp,fun _=>Modest.zero,by simp,by simp⟩⟩
theorem Vz:("internal/strconv.uint64pow10",Lib.tabData .u64 Lib.pow10Tab) ∈ Rows.wireTellsUptoRow.laid:=List.mem_of_getElem? (show Rows.wireTellsUptoRow.laid[2]? = some ("internal/strconv.uint64pow10",Lib.tabData .u64 Lib.pow10Tab) by kernel_rfl)
theorem Vy:("strconv.ErrSyntax",(Rows.laid_strconv_ErrSyntax:DataW Unit)) ∈ Rows.wireTellsUptoRow.laid:=List.mem_of_getElem? (show Rows.wireTellsUptoRow.laid[4]? = some ("strconv.ErrSyntax",Rows.laid_strconv_ErrSyntax) by kernel_rfl)
theorem Vx:("strconv.ErrRange",(Rows.laid_strconv_ErrRange:DataW Unit)) ∈ Rows.wireTellsUptoRow.laid:=List.mem_of_getElem? (show Rows.wireTellsUptoRow.laid[3]? = some ("strconv.ErrRange",Rows.laid_strconv_ErrRange) by kernel_rfl)
set_option maxRecDepth 100000 in
theorem V4 (os:Os) (started:os.Started) (H:Type) (enc:TypeId × Value → H) (F:Stop.Interp) :
  ReturnsInHanded {} Tryd.checked os 5 .any ((Rows.OpenSpec.upto Rows.wireTellsSpec).preRow enc Tryd.prog Tryd.f5 Rows.wireTellsUptoRow.domain false Rows.wireTellsUptoRow.laid) (((Rows.OpenSpec.upto Rows.wireTellsSpec).at F).post enc Tryd.prog Tryd.f5 false true false false):=by
 refine returnsInHanded_of_row (C:=Tryd.checked) (s:=Rows.OpenSpec.upto Rows.wireTellsSpec) own started (by kernel_rfl) Tryd.func5 (YZ os enc) ?_
 intro W base args ds gs before hval hW _ hcond _ hlaid _ _
 exact Xm H enc W base args ds gs before hval hW (hcond _ rfl) (Qw (show laidMet _ _ _ from hlaid) Vz Vy Vx)
theorem ZU:Rows.WireTellsUptoSaid :=
 OpenClaim.holds_of_cond 5 Tryd.f5 rfl rfl rfl rfl rfl rfl rfl ⟨rfl,rfl,rfl,rfl,rfl⟩ rfl rfl rfl rfl rfl (by kernel_rfl) Tryd.func5 (by kernel_rfl)
  (of_decide_eq_true (by kernel_rfl)) (by unfold Func.isWrapper;rw [if_neg (of_decide_eq_false (by kernel_rfl))];exact ⟨rfl,rfl⟩)
  (fun os started H enc _ F=>by rw [OpenClaim.pre_eq_preRow];exact V4 os started H enc F)
theorem Zv (f:FuncId) (fn:Func) (hf:Tryd.pinned.checked.prog.funcNamed "tetherpost/tetherpostlaw.WireTells" = some f) (hfn:Tryd.pinned.checked.prog.funcs[f]? = some fn) :
  true = Tryd.pinned.checked.prog.looks [] ∧ ∀ (j:Nat) t,fn.params[j]? = some t → Tryd.pinned.checked.prog.wantsStandIn t = false:=by
 obtain rfl:f = 5:=Option.some.inj ((show Tryd.prog.funcNamed "tetherpost/tetherpostlaw.WireTells" = some 5 by kernel_rfl).symm.trans hf) |>.symm
 obtain rfl:fn = Tryd.f5:=(Option.some.inj (Tryd.func5.symm.trans hfn)).symm
 refine ⟨by kernel_rfl,fun j t ht=>?_⟩
 rw [Tryd.params5] at ht
 have hm:t ∈ [40]:=by simpa [or_comm,or_assoc,or_left_comm] using Array.mem_of_getElem? ht
 have hall:([40].all fun u => !Tryd.prog.wantsStandIn u) = true:=by kernel_rfl
 exact (show Tryd.prog.wantsStandIn t = false by simpa using List.all_eq_true.1 hall t hm)
theorem card:Rows.WireTellsUptoCardSaid :=
 Claim7.holds_tied_plain_at .later [] _ _ _ _ ZU (fun _ h=>by cases h) (by kernel_rfl) (fun _ h=>by cases h) wireTellsUpto_row_tie rfl ⟨rfl,rfl⟩ (by kernel_rfl) rfl Zv (by kernel_rfl)
end Go.Proofs.YtahbbnfmbohmmaaDoor.WireTellsDone
namespace Go.Proofs.YtahbbnfmbohmmaaDoor
theorem wireTells_holds:Rows.WireTellsUptoCardSaid:=WireTellsDone.card
end Go.Proofs.YtahbbnfmbohmmaaDoor
