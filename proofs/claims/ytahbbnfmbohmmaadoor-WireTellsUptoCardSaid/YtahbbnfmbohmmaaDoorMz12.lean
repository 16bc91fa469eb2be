import Derived.Test.YtahbbnfmbohmmaaDoorMz7
set_option linter.unusedSimpArgs false
set_option linter.unusedVariables false
namespace Go.Ab
open Go.RowKit
section
variable {L:List (Nat × Nat)} {nh:Nat} {σ:St} {i:Nat}
theorem yB {n n' : Nat} {l:List (Nat × AV)} (hl:ye L nh σ l) (hx:qi σ.ts i = .mp n:=by rfl) (hm:Maps L nh n n':=by (first|exact jK rfl|exact .inr (List.mem_cons_self ..)|exact .inr (List.mem_cons_of_mem _ (List.mem_cons_self ..))|exact .inr (List.mem_cons_of_mem _ (List.mem_cons_of_mem _ (List.mem_cons_self ..)))|exact .inr (List.mem_cons_of_mem _ (List.mem_cons_of_mem _ (List.mem_cons_of_mem _ (List.mem_cons_self ..)))))):ye L nh σ ((i,.mp n') :: l):=VM hx hm hl
end
section
variable {L:List (Nat × Nat)} {nh:Nat} {σ:St}
theorem kT {x y:AV} (h:x = y) (hp:y.pure = true):jG L nh x y:=by subst h;exact qy hp
theorem zq {n n' off len len' : Nat} (h:len = len') (hn:Maps L nh n n':=by (first|exact jK rfl|exact .inr (List.mem_cons_self ..)|exact .inr (List.mem_cons_of_mem _ (List.mem_cons_self ..))|exact .inr (List.mem_cons_of_mem _ (List.mem_cons_of_mem _ (List.mem_cons_self ..)))|exact .inr (List.mem_cons_of_mem _ (List.mem_cons_of_mem _ (List.mem_cons_of_mem _ (List.mem_cons_self ..)))))):jG L nh (.os n off len) (.os n' off len'):=h ▸ qY hn
end
end Go.Ab
