import Derived.Test.YtahbbnfmbohmmaaDoorMz5
set_option linter.unusedSimpArgs false
set_option linter.unusedVariables false
namespace Go.Ab
open Go.RowKit
section
variable {L:List (Nat × Nat)} {nh:Nat} {σ:St} {i:Nat}
theorem jK {n n' : Nat} {l:List (Nat × AV)} (hl:yM L nh σ l) (hx:qr σ.ts i = .mp n:=by rfl) (hm:Maps L nh n n':=by (first|exact yj rfl|exact .inr (List.mem_cons_self ..)|exact .inr (List.mem_cons_of_mem _ (List.mem_cons_self ..))|exact .inr (List.mem_cons_of_mem _ (List.mem_cons_of_mem _ (List.mem_cons_self ..)))|exact .inr (List.mem_cons_of_mem _ (List.mem_cons_of_mem _ (List.mem_cons_of_mem _ (List.mem_cons_self ..)))))):yM L nh σ ((i,.mp n') :: l):=qah hx hm hl
end
section
variable {L:List (Nat × Nat)} {nh:Nat} {σ:St}
theorem Jc {x y:AV} (h:x = y) (hp:y.pure = true):jt L nh x y:=by subst h;exact qI hp
theorem k9 {n n' off len len' : Nat} (h:len = len') (hn:Maps L nh n n':=by (first|exact yj rfl|exact .inr (List.mem_cons_self ..)|exact .inr (List.mem_cons_of_mem _ (List.mem_cons_self ..))|exact .inr (List.mem_cons_of_mem _ (List.mem_cons_of_mem _ (List.mem_cons_self ..)))|exact .inr (List.mem_cons_of_mem _ (List.mem_cons_of_mem _ (List.mem_cons_of_mem _ (List.mem_cons_self ..)))))):jt L nh (.os n off len) (.os n' off len'):=h ▸ jn hn
end
end Go.Ab
