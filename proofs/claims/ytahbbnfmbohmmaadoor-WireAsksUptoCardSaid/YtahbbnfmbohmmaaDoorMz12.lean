import Derived.Test.YtahbbnfmbohmmaaDoorMz7
set_option linter.unusedSimpArgs false
set_option linter.unusedVariables false
namespace Go.Ab
open Go.RowKit
section
variable {L:List (Nat × Nat)} {nh:Nat} {σ:St} {i:Nat}
theorem xk {n n' : Nat} {l:List (Nat × AV)} (hl:jV L nh σ l) (hx:qe σ.ts i = .mp n:=by rfl) (hm:Maps L nh n n':=by (first|exact jq rfl|exact .inr (List.mem_cons_self ..)|exact .inr (List.mem_cons_of_mem _ (List.mem_cons_self ..))|exact .inr (List.mem_cons_of_mem _ (List.mem_cons_of_mem _ (List.mem_cons_self ..)))|exact .inr (List.mem_cons_of_mem _ (List.mem_cons_of_mem _ (List.mem_cons_of_mem _ (List.mem_cons_self ..)))))):jV L nh σ ((i,.mp n') :: l):=XU hx hm hl
end
section
variable {L:List (Nat × Nat)} {nh:Nat} {σ:St}
theorem kq {x y:AV} (h:x = y) (hp:y.pure = true):jy L nh x y:=by subst h;exact qy hp
theorem vU {n n' off len len' : Nat} (h:len = len') (hn:Maps L nh n n':=by (first|exact jq rfl|exact .inr (List.mem_cons_self ..)|exact .inr (List.mem_cons_of_mem _ (List.mem_cons_self ..))|exact .inr (List.mem_cons_of_mem _ (List.mem_cons_of_mem _ (List.mem_cons_self ..)))|exact .inr (List.mem_cons_of_mem _ (List.mem_cons_of_mem _ (List.mem_cons_of_mem _ (List.mem_cons_self ..)))))):jy L nh (.os n off len) (.os n' off len'):=h ▸ jc hn
end
end Go.Ab
