/- PROVED: the given statement GrantRightsSaid: for every list of grants, folder and somebody, tetherpostlaw.GrantRights returns true, and each argument reads behind the call as it read before. No condition of our own. -/
import Derived.Test.YtdcigjpanpcaaaaLGRi
import Derived.Test.YtdcigjpanpcaaaaRows
import Derived.ProofKit
import Derived.OpenShut
import Derived.SizedLaws
import Derived.ChangeMaps5
import Derived.ChangeOld
import Derived.ChangeCalls
namespace Go.Proofs.Ytdcigjpanpcaaaa.GrantRightsDone
open Go.ChangeMaps Go.ChangeShapes Go.WideShapes Go.ChangeAt Go.RowKit Go.Ab

theorem own : ownKnob Try.prog.godebug = none := by kernel_rfl
theorem laidOut : laidOutB Try.prog = true := by kernel_rfl
theorem readable : (Try.f13.params.toList).all (fun t => Try.prog.readableRec t && decide (t < Try.prog.types.size)) = true := by kernel_rfl

set_option maxRecDepth 100000 in
theorem lifted (os : Os) (started : os.Started) (H : Type) (enc : TypeId × Value → H) :
    ReturnsInHanded {} Try.checked os 13 .any (Rows.grantRightsSpec.pre6 enc Try.prog Try.f13 Rows.grantRightsRow.domain false) (Rows.grantRightsSpec.post enc Try.prog Try.f13 false true false false) := by
  refine returnsInHanded_of_change_sized (C := Try.checked) own started (by kernel_rfl) Try.func13
    (ChangeSpec.witness6 (enc := enc) (C := Try.checked) false ⟨#[], #[.slice none 0 0, .string ⟨#[]⟩, .string ⟨#[]⟩], []⟩ 8 (by kernel_rfl) (by kernel_rfl) (by kernel_rfl) (by kernel_rfl)) ?_
  intro W base args ds gs before hval0 hW hcnd hsz0 _
  have hW' := hW
  obtain ⟨p, q, hA0, hV, rfl, hfz, hnd⟩ := hW
  obtain ⟨rfl, rfl⟩ := trodVars_none hV
  have hA : DataW.TrodAll enc Try.prog W 0 (fun _ => true) true Try.f13.params.toList args.toList ds p := hA0
  have hval : ∀ (j : Nat) t v, Try.f13.params.toList[j]? = some t → args.toList[j]? = some v → Value.okWide Try.prog W .any base t v := fun j t v ht hv => hval0 j t v (by rw [← Array.getElem?_toList]; exact ht) (by rw [← Array.getElem?_toList]; exact hv)
  have hsz1 : (DataW.weightsEach Try.prog (Try.f13.params.toList ++ []) (ds ++ [])).all (· ≤ reachBytes) = true := hsz0
  rw [List.append_nil, List.append_nil] at hsz1
  have hsz : ∀ m, m ∈ DataW.weightsEach Try.prog Try.f13.params.toList ds → m ≤ 140737488355328 := fun m hm => by
    have := List.all_eq_true.1 hsz1 m hm
    have h2 := reachBytes_lt
    simp at this
    omega
  have hlaw := law_calls C (f := 13) hA hval hsz laidOut readable (by rw [Try.params13]; exact law_grights_all)
  rw [Array.toArray_toList] at hlaw
  have hdl : ds.length = 3 := (trodAll_length hA).2.trans (by rw [Try.params13]; rfl)
  match ds, hdl, hW', hlaw with
  | [d0, d1, d2], _, hW', hlaw =>
  refine hlaw.mono fun e W' ⟨he, bel, hT⟩ => ?_
  subst he
  exact ⟨_, rfl, _, _, _, [], _, [], hW', trodAll_mk1 (shut_bool Try.underlying4 _), hT, rfl, bel.frame _, fun h => by cases h⟩

theorem holds : Rows.GrantRightsSaid :=
  OpenClaim.holds_of_wide 13 Try.f13 rfl rfl rfl rfl rfl rfl rfl ⟨rfl, rfl, rfl, rfl, rfl⟩ rfl rfl rfl rfl rfl (by kernel_rfl) Try.func13 (by kernel_rfl)
    (of_decide_eq_true (by kernel_rfl)) (by unfold Func.isWrapper; rw [if_neg (of_decide_eq_false (by kernel_rfl))]; exact ⟨rfl, rfl⟩)
    (fun os started H enc _ => lifted os started H enc)
end Go.Proofs.Ytdcigjpanpcaaaa.GrantRightsDone
namespace Go.Proofs.Ytdcigjpanpcaaaa
theorem grantRights_holds : Rows.GrantRightsSaid := GrantRightsDone.holds
end Go.Proofs.Ytdcigjpanpcaaaa
