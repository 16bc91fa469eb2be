import Derived.Test.YtnhpclmbhbblbaaGreatDoorMz5
set_option linter.unusedSimpArgs false
set_option linter.unusedVariables false
namespace Go.Ab
open Go.RowKit
section
variable {L:List (Nat × Nat)} {nh:Nat} {σ:St} {i:Nat}
theorem xY {n n' : Nat} {l:List (Nat × AV)} (hl:xx L nh σ l) (hx:qN σ.ts i = .mp n:=by rfl) (hm:Maps L nh n n':=by (first|exact qH rfl|exact .inr (List.mem_cons_self ..)|exact .inr (List.mem_cons_of_mem _ (List.mem_cons_self ..))|exact .inr (List.mem_cons_of_mem _ (List.mem_cons_of_mem _ (List.mem_cons_self ..)))|exact .inr (List.mem_cons_of_mem _ (List.mem_cons_of_mem _ (List.mem_cons_of_mem _ (List.mem_cons_self ..)))))):xx L nh σ ((i,.mp n') :: l):=Ka hx hm hl
theorem yU {n n' : Nat} {m m' : List (List UInt8 × AV)} {l:List (Nat × HB)} (hl:xr L nh σ l) (hr:m.Perm m') (hp : ∀ e,e ∈ m' → e.2.pure = true) (hm:Maps L nh n n':=by (first|exact qH rfl|exact .inr (List.mem_cons_self ..)|exact .inr (List.mem_cons_of_mem _ (List.mem_cons_self ..))|exact .inr (List.mem_cons_of_mem _ (List.mem_cons_of_mem _ (List.mem_cons_self ..)))|exact .inr (List.mem_cons_of_mem _ (List.mem_cons_of_mem _ (List.mem_cons_of_mem _ (List.mem_cons_self ..)))))) (hx:ja σ.hs n = .mp m:=by rfl):xr L nh σ ((n',.mp m') :: l):=Ke hx hm hr hp hl
end
section
variable {L:List (Nat × Nat)} {nh:Nat} {σ:St}
theorem yc {x y:AV} (h:x = y) (hp:y.pure = true):jJ L nh x y:=by subst h;exact qf hp
theorem q3 {n n' off len len' : Nat} (h:len = len') (hn:Maps L nh n n':=by (first|exact qH rfl|exact .inr (List.mem_cons_self ..)|exact .inr (List.mem_cons_of_mem _ (List.mem_cons_self ..))|exact .inr (List.mem_cons_of_mem _ (List.mem_cons_of_mem _ (List.mem_cons_self ..)))|exact .inr (List.mem_cons_of_mem _ (List.mem_cons_of_mem _ (List.mem_cons_of_mem _ (List.mem_cons_self ..)))))):jJ L nh (.os n off len) (.os n' off len'):=h ▸ qy hn
theorem jW {n n' : Nat} {ex ex' : Bool} {k:Nat} {row row' : List AV} {l:List (Nat × HB)} (hr:ju L nh row row') (hl:xr L nh σ l) (hm:Maps L nh n n':=by (first|exact qH rfl|exact .inr (List.mem_cons_self ..)|exact .inr (List.mem_cons_of_mem _ (List.mem_cons_self ..))|exact .inr (List.mem_cons_of_mem _ (List.mem_cons_of_mem _ (List.mem_cons_self ..)))|exact .inr (List.mem_cons_of_mem _ (List.mem_cons_of_mem _ (List.mem_cons_of_mem _ (List.mem_cons_self ..)))))) (hx:ja σ.hs n = .own ex k [row]:=by rfl) (he:ex' = true → ex = true:=by first|exact id|exact nofun):xr L nh σ ((n',.own ex' k [row']) :: l) :=
 zK hm hx he (xn hr vv) hl
end
end Go.Ab
