import Derived.Test.YtnhpclmbhbblbaaGreatDoorMz5
set_option linter.unusedSimpArgs false
set_option linter.unusedVariables false
namespace Go.Ab
open Go.RowKit
section
variable {L:List (Nat × Nat)} {nh:Nat} {σ:St} {i:Nat}
theorem xg {n n' : Nat} {l:List (Nat × AV)} (hl:y7 L nh σ l) (hx:qr σ.ts i = .mp n:=by rfl) (hm:Maps L nh n n':=by (first|exact qq rfl|exact .inr (List.mem_cons_self ..)|exact .inr (List.mem_cons_of_mem _ (List.mem_cons_self ..))|exact .inr (List.mem_cons_of_mem _ (List.mem_cons_of_mem _ (List.mem_cons_self ..)))|exact .inr (List.mem_cons_of_mem _ (List.mem_cons_of_mem _ (List.mem_cons_of_mem _ (List.mem_cons_self ..)))))):y7 L nh σ ((i,.mp n') :: l):=Z5 hx hm hl
theorem yo {n n' : Nat} {m m' : List (List UInt8 × AV)} {l:List (Nat × HB)} (hl:yO L nh σ l) (hr:m.Perm m') (hp : ∀ e,e ∈ m' → e.2.pure = true) (hm:Maps L nh n n':=by (first|exact qq rfl|exact .inr (List.mem_cons_self ..)|exact .inr (List.mem_cons_of_mem _ (List.mem_cons_self ..))|exact .inr (List.mem_cons_of_mem _ (List.mem_cons_of_mem _ (List.mem_cons_self ..)))|exact .inr (List.mem_cons_of_mem _ (List.mem_cons_of_mem _ (List.mem_cons_of_mem _ (List.mem_cons_self ..)))))) (hx:qB σ.hs n = .mp m:=by rfl):yO L nh σ ((n',.mp m') :: l):=ZX hx hm hr hp hl
end
section
variable {L:List (Nat × Nat)} {nh:Nat} {σ:St}
theorem jT {x y:AV} (h:x = y) (hp:y.pure = true):jQ L nh x y:=by subst h;exact ql hp
theorem qX {n n' off len len' : Nat} (h:len = len') (hn:Maps L nh n n':=by (first|exact qq rfl|exact .inr (List.mem_cons_self ..)|exact .inr (List.mem_cons_of_mem _ (List.mem_cons_self ..))|exact .inr (List.mem_cons_of_mem _ (List.mem_cons_of_mem _ (List.mem_cons_self ..)))|exact .inr (List.mem_cons_of_mem _ (List.mem_cons_of_mem _ (List.mem_cons_of_mem _ (List.mem_cons_self ..)))))):jQ L nh (.os n off len) (.os n' off len'):=h ▸ qO hn
theorem jZ {n n' : Nat} {ex ex' : Bool} {k:Nat} {row row' : List AV} {l:List (Nat × HB)} (hr:jq L nh row row') (hl:yO L nh σ l) (hm:Maps L nh n n':=by (first|exact qq rfl|exact .inr (List.mem_cons_self ..)|exact .inr (List.mem_cons_of_mem _ (List.mem_cons_self ..))|exact .inr (List.mem_cons_of_mem _ (List.mem_cons_of_mem _ (List.mem_cons_self ..)))|exact .inr (List.mem_cons_of_mem _ (List.mem_cons_of_mem _ (List.mem_cons_of_mem _ (List.mem_cons_self ..)))))) (hx:qB σ.hs n = .own ex k [row]:=by rfl) (he:ex' = true → ex = true:=by first|exact id|exact nofun):yO L nh σ ((n',.own ex' k [row']) :: l) :=
 zI hm hx he (yU hr x3) hl
end
end Go.Ab
