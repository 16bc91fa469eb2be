import Derived.Test.YtahbbnfmbohmmaaDoorMz7
set_option linter.unusedSimpArgs false
set_option linter.unusedVariables false
namespace Go.Ab
open Go.RowKit
section
variable {L:List (Nat × Nat)} {nh:Nat} {σ:St} {i:Nat}
theorem xm {n n' : Nat} {l:List (Nat × AV)} (hl:jX L nh σ l) (hx:qg σ.ts i = .mp n:=by rfl) (hm:Maps L nh n n':=by (first|exact js rfl|exact .inr (List.mem_cons_self ..)|exact .inr (List.mem_cons_of_mem _ (List.mem_cons_self ..))|exact .inr (List.mem_cons_of_mem _ (List.mem_cons_of_mem _ (List.mem_cons_self ..)))|exact .inr (List.mem_cons_of_mem _ (List.mem_cons_of_mem _ (List.mem_cons_of_mem _ (List.mem_cons_self ..)))))):jX L nh σ ((i,.mp n') :: l):=XW hx hm hl
end
section
variable {L:List (Nat × Nat)} {nh:Nat} {σ:St}
theorem ku {x y:AV} (h:x = y) (hp:y.pure = true):jA L nh x y:=by subst h;exact qA hp
theorem vW {n n' off len len' : Nat} (h:len = len') (hn:Maps L nh n n':=by (first|exact js rfl|exact .inr (List.mem_cons_self ..)|exact .inr (List.mem_cons_of_mem _ (List.mem_cons_self ..))|exact .inr (List.mem_cons_of_mem _ (List.mem_cons_of_mem _ (List.mem_cons_self ..)))|exact .inr (List.mem_cons_of_mem _ (List.mem_cons_of_mem _ (List.mem_cons_of_mem _ (List.mem_cons_self ..)))))):jA L nh (.os n off len) (.os n' off len'):=h ▸ je hn
end
end Go.Ab
