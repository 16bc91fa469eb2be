import Derived.Test.YtahbbnfmbohmmaaDoorMz5
set_option linter.unusedSimpArgs false
set_option linter.unusedVariables false
namespace Go.Ab
open Go.RowKit
section
variable {L:List (Nat × Nat)} {nh:Nat} {σ:St} {i:Nat}
theorem yu {n n' : Nat} {l:List (Nat × AV)} (hl:yv L nh σ l) (hx:qn σ.ts i = .mp n:=by rfl) (hm:Maps L nh n n':=by (first|exact jZ rfl|exact .inr (List.mem_cons_self ..)|exact .inr (List.mem_cons_of_mem _ (List.mem_cons_self ..))|exact .inr (List.mem_cons_of_mem _ (List.mem_cons_of_mem _ (List.mem_cons_self ..)))|exact .inr (List.mem_cons_of_mem _ (List.mem_cons_of_mem _ (List.mem_cons_of_mem _ (List.mem_cons_self ..)))))):yv L nh σ ((i,.mp n') :: l):=WE hx hm hl
end
section
variable {L:List (Nat × Nat)} {nh:Nat} {σ:St}
theorem QR {x y:AV} (h:x = y) (hp:y.pure = true):jl L nh x y:=by subst h;exact qI hp
theorem kP {n n' off len len' : Nat} (h:len = len') (hn:Maps L nh n n':=by (first|exact jZ rfl|exact .inr (List.mem_cons_self ..)|exact .inr (List.mem_cons_of_mem _ (List.mem_cons_self ..))|exact .inr (List.mem_cons_of_mem _ (List.mem_cons_of_mem _ (List.mem_cons_self ..)))|exact .inr (List.mem_cons_of_mem _ (List.mem_cons_of_mem _ (List.mem_cons_of_mem _ (List.mem_cons_self ..)))))):jl L nh (.os n off len) (.os n' off len'):=h ▸ jn hn
end
end Go.Ab
