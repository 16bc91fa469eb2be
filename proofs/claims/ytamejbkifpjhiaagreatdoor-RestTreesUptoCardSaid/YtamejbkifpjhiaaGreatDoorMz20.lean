import Derived.Test.YtamejbkifpjhiaaGreatDoorMz6
set_option linter.unusedSimpArgs false
set_option linter.unusedVariables false
namespace Go.Ab
open Go.RowKit
section
variable {L:List (Nat × Nat)} {nh:Nat} {σ:St} {i:Nat}
theorem zi {n n' : Nat} {l:List (Nat × AV)} (hl:vA L nh σ l) (hx:qS σ.ts i = .mp n:=by rfl) (hm:Maps L nh n n':=by (first|exact qN rfl|exact .inr (List.mem_cons_self ..)|exact .inr (List.mem_cons_of_mem _ (List.mem_cons_self ..))|exact .inr (List.mem_cons_of_mem _ (List.mem_cons_of_mem _ (List.mem_cons_self ..)))|exact .inr (List.mem_cons_of_mem _ (List.mem_cons_of_mem _ (List.mem_cons_of_mem _ (List.mem_cons_self ..)))))):vA L nh σ ((i,.mp n') :: l):=qb2 hx hm hl
theorem x2 {n n' : Nat} {m m' : List (List UInt8 × AV)} {l:List (Nat × HB)} (hl:vp L nh σ l) (hr:m.Perm m') (hp : ∀ e,e ∈ m' → e.2.pure = true) (hm:Maps L nh n n':=by (first|exact qN rfl|exact .inr (List.mem_cons_self ..)|exact .inr (List.mem_cons_of_mem _ (List.mem_cons_self ..))|exact .inr (List.mem_cons_of_mem _ (List.mem_cons_of_mem _ (List.mem_cons_self ..)))|exact .inr (List.mem_cons_of_mem _ (List.mem_cons_of_mem _ (List.mem_cons_of_mem _ (List.mem_cons_self ..)))))) (hx:jg σ.hs n = .mp m:=by rfl):vp L nh σ ((n',.mp m') :: l):=qbO hx hm hr hp hl
end
section
variable {L:List (Nat × Nat)} {nh:Nat} {σ:St}
theorem xi {x y:AV} (h:x = y) (hp:y.pure = true):j3 L nh x y:=by subst h;exact qk hp
theorem ju {n n' off len len' : Nat} (h:len = len') (hn:Maps L nh n n':=by (first|exact qN rfl|exact .inr (List.mem_cons_self ..)|exact .inr (List.mem_cons_of_mem _ (List.mem_cons_self ..))|exact .inr (List.mem_cons_of_mem _ (List.mem_cons_of_mem _ (List.mem_cons_self ..)))|exact .inr (List.mem_cons_of_mem _ (List.mem_cons_of_mem _ (List.mem_cons_of_mem _ (List.mem_cons_self ..)))))):j3 L nh (.os n off len) (.os n' off len'):=h ▸ qz hn
theorem yY {n n' : Nat} {ex ex' : Bool} {k:Nat} {row row' : List AV} {l:List (Nat × HB)} (hr:jC L nh row row') (hl:vp L nh σ l) (hm:Maps L nh n n':=by (first|exact qN rfl|exact .inr (List.mem_cons_self ..)|exact .inr (List.mem_cons_of_mem _ (List.mem_cons_self ..))|exact .inr (List.mem_cons_of_mem _ (List.mem_cons_of_mem _ (List.mem_cons_self ..)))|exact .inr (List.mem_cons_of_mem _ (List.mem_cons_of_mem _ (List.mem_cons_of_mem _ (List.mem_cons_self ..)))))) (hx:jg σ.hs n = .own ex k [row]:=by rfl) (he:ex' = true → ex = true:=by first|exact id|exact nofun):vp L nh σ ((n',.own ex' k [row']) :: l) :=
 w3 hm hx he (vx hr zU) hl
end
end Go.Ab
