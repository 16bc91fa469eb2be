import Derived.Test.YtnhpclmbhbblbaaDoorMz6
set_option linter.unusedSimpArgs false
set_option linter.unusedVariables false
namespace Go.Ab
open Go.RowKit
section
variable {L:List (Nat × Nat)} {nh:Nat} {σ:St} {i:Nat}
theorem Yj {n n' : Nat} {l:List (Nat × AV)} (hl:j3 L nh σ l) (hx:qk σ.ts i = .mp n:=by rfl) (hm:Maps L nh n n':=by (first|exact qA rfl|exact .inr (List.mem_cons_self ..)|exact .inr (List.mem_cons_of_mem _ (List.mem_cons_self ..))|exact .inr (List.mem_cons_of_mem _ (List.mem_cons_of_mem _ (List.mem_cons_self ..)))|exact .inr (List.mem_cons_of_mem _ (List.mem_cons_of_mem _ (List.mem_cons_of_mem _ (List.mem_cons_self ..)))))):j3 L nh σ ((i,.mp n') :: l):=XX hx hm hl
end
section
variable {L:List (Nat × Nat)} {nh:Nat} {σ:St}
theorem yb {n n' off len len' : Nat} (h:len = len') (hn:Maps L nh n n':=by (first|exact qA rfl|exact .inr (List.mem_cons_self ..)|exact .inr (List.mem_cons_of_mem _ (List.mem_cons_self ..))|exact .inr (List.mem_cons_of_mem _ (List.mem_cons_of_mem _ (List.mem_cons_self ..)))|exact .inr (List.mem_cons_of_mem _ (List.mem_cons_of_mem _ (List.mem_cons_of_mem _ (List.mem_cons_self ..)))))):jp L nh (.os n off len) (.os n' off len'):=h ▸ wV hn
theorem wy {n n' : Nat} {ex ex' : Bool} {k:Nat} {row row' : List AV} {l:List (Nat × HB)} (hr:jd L nh row row') (hl:xg L nh σ l) (hm:Maps L nh n n':=by (first|exact qA rfl|exact .inr (List.mem_cons_self ..)|exact .inr (List.mem_cons_of_mem _ (List.mem_cons_self ..))|exact .inr (List.mem_cons_of_mem _ (List.mem_cons_of_mem _ (List.mem_cons_self ..)))|exact .inr (List.mem_cons_of_mem _ (List.mem_cons_of_mem _ (List.mem_cons_of_mem _ (List.mem_cons_self ..)))))) (hx:qq σ.hs n = .own ex k [row]:=by rfl) (he:ex' = true → ex = true:=by first|exact id|exact nofun):xg L nh σ ((n',.own ex' k [row']) :: l) :=
 Jl hm hx he (w9 hr Jk) hl
end
end Go.Ab
