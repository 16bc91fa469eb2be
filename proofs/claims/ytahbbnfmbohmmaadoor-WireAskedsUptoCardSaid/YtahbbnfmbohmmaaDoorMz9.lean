import Derived.Test.YtahbbnfmbohmmaaDoorMz5
set_option linter.unusedSimpArgs false
set_option linter.unusedVariables false
namespace Go.Ab
open Go.RowKit
section
variable {L:List (Nat × Nat)} {nh:Nat} {σ:St} {i:Nat}
theorem yn {n n' : Nat} {l:List (Nat × AV)} (hl:j9 L nh σ l) (hx:qj σ.ts i = .mp n:=by rfl) (hm:Maps L nh n n':=by (first|exact jI rfl|exact .inr (List.mem_cons_self ..)|exact .inr (List.mem_cons_of_mem _ (List.mem_cons_self ..))|exact .inr (List.mem_cons_of_mem _ (List.mem_cons_of_mem _ (List.mem_cons_self ..)))|exact .inr (List.mem_cons_of_mem _ (List.mem_cons_of_mem _ (List.mem_cons_of_mem _ (List.mem_cons_self ..)))))):j9 L nh σ ((i,.mp n') :: l):=Z7 hx hm hl
end
section
variable {L:List (Nat × Nat)} {nh:Nat} {σ:St}
theorem Qd {x y:AV} (h:x = y) (hp:y.pure = true):je L nh x y:=by subst h;exact qF hp
theorem ka {n n' off len len' : Nat} (h:len = len') (hn:Maps L nh n n':=by (first|exact jI rfl|exact .inr (List.mem_cons_self ..)|exact .inr (List.mem_cons_of_mem _ (List.mem_cons_self ..))|exact .inr (List.mem_cons_of_mem _ (List.mem_cons_of_mem _ (List.mem_cons_self ..)))|exact .inr (List.mem_cons_of_mem _ (List.mem_cons_of_mem _ (List.mem_cons_of_mem _ (List.mem_cons_self ..)))))):je L nh (.os n off len) (.os n' off len'):=h ▸ jr hn
end
end Go.Ab
