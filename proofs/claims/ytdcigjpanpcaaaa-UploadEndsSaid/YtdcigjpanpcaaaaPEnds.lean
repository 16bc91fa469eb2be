/- PROVED: the given statement UploadEndsSaid: for every input that can be read, tetherpostlaw.UploadEnds returns true, and each argument reads behind the call as it read before. No condition of our own. -/
import Derived.Test.YtdcigjpanpcaaaaLEnds
import Derived.Test.YtdcigjpanpcaaaaOpenUp
import Derived.ProofKit
import Derived.OpenShut
import Derived.ChangeMaps5
import Derived.ChangeOld
namespace Go.Proofs.Ytdcigjpanpcaaaa
open Go.RowKit
theorem lawEnds (v : Value) (u : Upl) (who : Str) (number now : Int) (w : World) (hs1 : Sl Sess.cells 5 w w.heap.size v u.sess) (ho : ∀ s ∈ u.sess, s.ok) (hw : who.length ≤ 9223372036854775807) :
    Calls Try.prog 6 #[.agg #[v, .int .i64 u.next, .int .i64 u.lasts, .int .i64 u.room], .string ⟨who.toArray⟩, .int .i64 number, .int .i64 now] w fun e w' => e = .returned (.bool true) ∧ Below w.heap.size w w' := by
  have hF := Lib.hid (fun (v : Value) (W : World) (h1 : Sl Sess.cells 5 W w.heap.size v u.sess) (h2 : w.heap.size ≤ W.heap.size) => finishP v u who number now W w.heap.size h1 h2 ho hw)
  have hR := Lib.hid (fun (v : Value) (W : World) (h1 : Sl Sess.cells 5 W w.heap.size v u.sess) (h2 : w.heap.size ≤ W.heap.size) => finishR_any v u who number now W w.heap.size h1 h2 ho hw)
  have hQ := fun (v : Value) (W : World) (h1 : Sl Sess.cells 5 W w.heap.size v u.sess) (h2 : w.heap.size ≤ W.heap.size) => query_any v u who number now W w.heap.size h1 h2 ho hw
  by_cases he : mineErr u who number now = 0
  · obtain ⟨h0, _, i, hi⟩ := mine_zero he
    have hlt := mine_lt hi
    have HN : queryN u who number now = ((sweptL u.sess now)[i].text.length : Int) := by
      simp only [queryN, he, if_true, hi, Option.bind_some]
      rw [List.getElem?_eq_getElem hlt]; rfl
    rw [HN, he] at hQ
    exact lawEnds_ok v u who number now w hs1 _ _ _ _ _ _ i (sweptL u.sess now) hlt (Lib.hid hQ) hF hR
      (Lib.hid (fun (v : Value) (W : World) (h1 : Sl Sess.cells 5 W w.heap.size v u.sess) (h2 : w.heap.size ≤ W.heap.size) => mineR_ok v u who number now W w.heap.size h1 h2 ho hw he i hi))
  · have HN : queryN u who number now = 0 := by simp [queryN, he]
    rw [HN] at hQ
    exact lawEnds_bad v u who number now w hs1 _ _ _ _ _ _ _ (by simpa using he) (Lib.hid hQ) hF hR
      (Lib.hid (fun (v : Value) (W : World) (h1 : Sl Sess.cells 5 W w.heap.size v u.sess) (h2 : w.heap.size ≤ W.heap.size) => mineR_bad v u who number now W w.heap.size h1 h2 ho hw he))
end Go.Proofs.Ytdcigjpanpcaaaa
namespace Go.Proofs.Ytdcigjpanpcaaaa.UploadEndsDone
open Go.ChangeMaps Go.ChangeShapes Go.WideShapes Go.ChangeAt Go.RowKit

theorem own : ownKnob Try.prog.godebug = none := by kernel_rfl
theorem laidOut : laidOutB Try.prog = true := by kernel_rfl

set_option maxRecDepth 100000 in
theorem lifted (os : Os) (started : os.Started) (H : Type) (enc : TypeId × Value → H) :
    ReturnsInHanded {} Try.checked os 6 .any (Rows.uploadEndsSpec.pre6 enc Try.prog Try.f6 Rows.uploadEndsRow.domain false) (Rows.uploadEndsSpec.post enc Try.prog Try.f6 false true false false) := by
  refine returnsInHanded_of_change (C := Try.checked) own started (by kernel_rfl) Try.func6
    (ChangeSpec.witness6 (enc := enc) (C := Try.checked) false ⟨#[], #[.agg #[.slice none 0 0, .int .i64 0, .int .i64 0, .int .i64 0], .string ⟨#[]⟩, .int .i64 0, .int .i64 0], []⟩ 8 (by kernel_rfl) (by kernel_rfl) (by kernel_rfl) (by kernel_rfl)) ?_
  intro W base args ds gs before hval0 hW hcnd _
  have hval : ∀ (j : Nat) t v, Try.f6.params[j]? = some t → args[j]? = some v → Value.okWide Try.prog W .any base t v := hval0
  have hW' := hW
  obtain ⟨p, q, hA0, hV, rfl, hfz, hnd⟩ := hW
  have hA : DataW.TrodAll enc Try.prog W 0 (fun _ => true) true Try.f6.params.toList args.toList ds p := hA0
  rw [Try.params6] at hA hval
  obtain ⟨v0, vs0, d0, ds0, p0, q0, hargs, rfl, rfl, h0, r0⟩ := trodAll_cons hA
  obtain ⟨v1, vs1, d1, ds1, p1, q1, rfl, rfl, rfl, h1, r1⟩ := trodAll_cons r0
  obtain ⟨v2, vs2, d2, ds2, p2, q2, rfl, rfl, rfl, h2, r2⟩ := trodAll_cons r1
  obtain ⟨v3, vs3, d3, ds3, p3, q3, rfl, rfl, rfl, h3, r3⟩ := trodAll_cons r2
  obtain ⟨rfl, rfl, rfl⟩ := trodAll_nil r3
  obtain rfl : args = #[v0, v1, v2, v3] := by cases args; simp_all
  obtain ⟨rfl, rfl⟩ := trodVars_none hV
  have k0 := h0
  have lt0 : ∀ x ∈ p0, x.block < W.heap.size := by obtain ⟨m, hm⟩ := k0; exact DataW.trod_lt m _ _ _ hm
  obtain ⟨vs, u, rfl, hs, ho, _, _, _⟩ := open_uploads (hval 0 24 v0 rfl rfl) h0
  obtain ⟨s1, rfl, rfl, rfl, b1⟩ := open_string Try.underlying9 (hval 1 9 v1 rfl rfl) h1
  obtain ⟨a2, rfl, rfl, rfl, w2⟩ := open_int Try.underlying3 (hval 2 3 v2 rfl rfl) h2
  obtain ⟨a3, rfl, rfl, rfl, w3⟩ := open_int Try.underlying3 (hval 3 3 v3 rfl rfl) h3
  clear hA0 hval0
  have g1 : s1.data.toList.length ≤ 9223372036854775807 := b1
  have hlaw := lawEnds vs u s1.data.toList a2 a3 W hs ho g1
  rw [← str_of s1] at hlaw
  refine hlaw.mono fun e W' ⟨he, bel⟩ => ?_
  subst he
  exact ⟨_, rfl, _, _, _, [], _, [], hW', trodAll_mk1 (shut_bool Try.underlying4 _), (trodAll_cons_mk (Below.trod laidOut (by kernel_rfl) (of_decide_eq_true (by kernel_rfl)) k0 bel lt0) (trodAll_cons_mk (shut_string Try.underlying9 b1) (trodAll_cons_mk (shut_int Try.underlying3 w2) (trodAll_cons_mk (shut_int Try.underlying3 w3) trodAll_mk0)))), rfl, bel.frame _, fun h => by cases h⟩

theorem holds : Rows.UploadEndsSaid :=
  OpenClaim.holds_of_wide 6 Try.f6 rfl rfl rfl rfl rfl rfl rfl ⟨rfl, rfl, rfl, rfl, rfl⟩ rfl rfl rfl rfl rfl (by kernel_rfl) Try.func6 (by kernel_rfl)
    (of_decide_eq_true (by kernel_rfl)) (by unfold Func.isWrapper; rw [if_neg (of_decide_eq_false (by kernel_rfl))]; exact ⟨rfl, rfl⟩)
    (fun os started H enc _ => lifted os started H enc)
end Go.Proofs.Ytdcigjpanpcaaaa.UploadEndsDone
namespace Go.Proofs.Ytdcigjpanpcaaaa
theorem uploadEnds_holds : Rows.UploadEndsSaid := UploadEndsDone.holds
end Go.Proofs.Ytdcigjpanpcaaaa
