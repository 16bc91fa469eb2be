import Derived.Test.YtkkfilkmkdnboaaDoorMz6
import Derived.Test.YtkkfilkmkdnboaaDoorMz24
/- Names kept: many of them. -/
set_option linter.unusedSimpArgs false
set_option linter.unusedVariables false
namespace Go.Ab
open Go.RowKit
section keeps8
variable {L : List (Nat × Nat)} {nh : Nat} {σ : St} {i : Nat}
theorem p_op8 {n n' a b : Nat} {l : List (Nat × AV)} (hl : TsOk L nh σ l) (hx : getT σ.ts i = .op n a b := by rfl) (hm : Maps L nh n n' := by (refine .inr ?_; (repeat (first | exact List.mem_cons_self .. | apply List.mem_cons_of_mem)))) : TsOk L nh σ ((i, .op n' a b) :: l) := tsok_op hx hm hl
theorem p_osr8 {n n' off len len' : Nat} {l : List (Nat × AV)} (hl : TsOk L nh σ l) (hx : getT σ.ts i = .os n off len := by rfl) (hm : Maps L nh n n' := by (refine .inr ?_; (repeat (first | exact List.mem_cons_self .. | apply List.mem_cons_of_mem)))) (he : len = len' := by first | with_reducible rfl | omega) : TsOk L nh σ ((i, .os n' off len') :: l) := tsok_os hx hm he hl
theorem p_osx8 {n n' off len len' : Nat} {l : List (Nat × AV)} (hl : TsOk L nh σ l) (he : len = len') (hx : getT σ.ts i = .os n off len := by rfl) (hm : Maps L nh n n' := by (refine .inr ?_; (repeat (first | exact List.mem_cons_self .. | apply List.mem_cons_of_mem)))) : TsOk L nh σ ((i, .os n' off len') :: l) := tsok_os hx hm he hl
theorem p_mp8 {n n' : Nat} {l : List (Nat × AV)} (hl : TsOk L nh σ l) (hx : getT σ.ts i = .mp n := by rfl) (hm : Maps L nh n n' := by (refine .inr ?_; (repeat (first | exact List.mem_cons_self .. | apply List.mem_cons_of_mem)))) : TsOk L nh σ ((i, .mp n') :: l) := tsok_mp hx hm hl
theorem q_pm8 {n n' : Nat} {m m' : List (List UInt8 × AV)} {l : List (Nat × HB)} (hl : HsOk L nh σ l) (hr : m.Perm m') (hp : ∀ e, e ∈ m' → e.2.pure = true) (hm : Maps L nh n n' := by (refine .inr ?_; (repeat (first | exact List.mem_cons_self .. | apply List.mem_cons_of_mem)))) (hx : getH σ.hs n = .mp m := by rfl) : HsOk L nh σ ((n', .mp m') :: l) := hsok_pm hx hm hr hp hl
theorem q_row8 {n n' : Nat} {ex ex' : Bool} {k : Nat} {row row' : List AV} {l : List (Nat × HB)} (hr : RenVL L nh row row') (hl : HsOk L nh σ l) (hm : Maps L nh n n' := by (refine .inr ?_; (repeat (first | exact List.mem_cons_self .. | apply List.mem_cons_of_mem)))) (hx : getH σ.hs n = .own ex k [row] := by rfl) (he : ex' = true → ex = true := by first | exact id | exact nofun) : HsOk L nh σ ((n', .own ex' k [row']) :: l) := hsok_own hm hx he (renrows_cons hr renrows_nil) hl
theorem q_r8 {n n' : Nat} {ex ex' : Bool} {k : Nat} {rows rows' : List (List AV)} {l : List (Nat × HB)} (hl : HsOk L nh σ l) (hm : Maps L nh n n' := by (refine .inr ?_; (repeat (first | exact List.mem_cons_self .. | apply List.mem_cons_of_mem)))) (hx : getH σ.hs n = .own ex k rows := by rfl) (he : ex' = true → ex = true := by first | exact id | exact nofun) (hp : ∀ row, row ∈ rows' → AV.pure.pureL row = true := by first | assumption | exact pures_all rfl | exact pures_map fun _ => rfl) (hr : rows = rows' := by with_reducible rfl) : HsOk L nh σ ((n', .own ex' k rows') :: l) := hsok_id hx hm he hr hp hl
theorem q_idx8 {n n' : Nat} {ex ex' : Bool} {k : Nat} {rows rows' : List (List AV)} {l : List (Nat × HB)} (hl : HsOk L nh σ l) (hr : rows = rows') (hm : Maps L nh n n' := by (refine .inr ?_; (repeat (first | exact List.mem_cons_self .. | apply List.mem_cons_of_mem)))) (hx : getH σ.hs n = .own ex k rows := by rfl) (he : ex' = true → ex = true := by first | exact id | exact nofun) (hp : ∀ row, row ∈ rows' → AV.pure.pureL row = true := by first | assumption | exact pures_all rfl | exact pures_map fun _ => rfl) : HsOk L nh σ ((n', .own ex' k rows') :: l) := hsok_id hx hm he hr hp hl
end keeps8
end Go.Ab
