import Derived.Test.YtnhpclmbhbblbaaGreatDoorMz6
import Derived.Test.YtnhpclmbhbblbaaGreatDoorMz14
set_option linter.unusedSimpArgs false
set_option linter.unusedVariables false
namespace Go.Ab
open Go.RowKit
section keeps8
variable {L:List (Nat × Nat)} {nh:Nat} {σ:St} {i:Nat}
theorem qbe {n n' a b:Nat} {l:List (Nat × AV)} (hl:y7 L nh σ l) (hx:qr σ.ts i = .op n a b:=by rfl) (hm:Maps L nh n n':=by (refine .inr ?_;(repeat (first|exact List.mem_cons_self ..|apply List.mem_cons_of_mem)))):y7 L nh σ ((i,.op n' a b) :: l):=Z6 hx hm hl
theorem WO {n n' off len len' : Nat} {l:List (Nat × AV)} (hl:y7 L nh σ l) (hx:qr σ.ts i = .os n off len:=by rfl) (hm:Maps L nh n n':=by (refine .inr ?_;(repeat (first|exact List.mem_cons_self ..|apply List.mem_cons_of_mem)))) (he:len = len':=by first|with_reducible rfl|omega):y7 L nh σ ((i,.os n' off len') :: l):=Qw hx hm he hl
theorem WP {n n' off len len' : Nat} {l:List (Nat × AV)} (hl:y7 L nh σ l) (he:len = len') (hx:qr σ.ts i = .os n off len:=by rfl) (hm:Maps L nh n n':=by (refine .inr ?_;(repeat (first|exact List.mem_cons_self ..|apply List.mem_cons_of_mem)))):y7 L nh σ ((i,.os n' off len') :: l):=Qw hx hm he hl
theorem qbd {n n' : Nat} {l:List (Nat × AV)} (hl:y7 L nh σ l) (hx:qr σ.ts i = .mp n:=by rfl) (hm:Maps L nh n n':=by (refine .inr ?_;(repeat (first|exact List.mem_cons_self ..|apply List.mem_cons_of_mem)))):y7 L nh σ ((i,.mp n') :: l):=Z5 hx hm hl
theorem qbf {n n' : Nat} {m m' : List (List UInt8 × AV)} {l:List (Nat × HB)} (hl:yO L nh σ l) (hr:m.Perm m') (hp : ∀ e,e ∈ m' → e.2.pure = true) (hm:Maps L nh n n':=by (refine .inr ?_;(repeat (first|exact List.mem_cons_self ..|apply List.mem_cons_of_mem)))) (hx:qB σ.hs n = .mp m:=by rfl):yO L nh σ ((n',.mp m') :: l):=ZX hx hm hr hp hl
theorem WY {n n' : Nat} {ex ex' : Bool} {k:Nat} {row row' : List AV} {l:List (Nat × HB)} (hr:jq L nh row row') (hl:yO L nh σ l) (hm:Maps L nh n n':=by (refine .inr ?_;(repeat (first|exact List.mem_cons_self ..|apply List.mem_cons_of_mem)))) (hx:qB σ.hs n = .own ex k [row]:=by rfl) (he:ex' = true → ex = true:=by first|exact id|exact nofun):yO L nh σ ((n',.own ex' k [row']) :: l):=zI hm hx he (yU hr x3) hl
theorem qbZ {n n' : Nat} {ex ex' : Bool} {k:Nat} {rows rows' : List (List AV)} {l:List (Nat × HB)} (hl:yO L nh σ l) (hm:Maps L nh n n':=by (refine .inr ?_;(repeat (first|exact List.mem_cons_self ..|apply List.mem_cons_of_mem)))) (hx:qB σ.hs n = .own ex k rows:=by rfl) (he:ex' = true → ex = true:=by first|exact id|exact nofun) (hp : ∀ row,row ∈ rows' → AV.pure.pureL row = true:=by first|assumption|exact ye rfl|exact jY fun _=>rfl) (hr:rows = rows':=by with_reducible rfl):yO L nh σ ((n',.own ex' k rows') :: l):=w8 hx hm he hr hp hl
theorem WX {n n' : Nat} {ex ex' : Bool} {k:Nat} {rows rows' : List (List AV)} {l:List (Nat × HB)} (hl:yO L nh σ l) (hr:rows = rows') (hm:Maps L nh n n':=by (refine .inr ?_;(repeat (first|exact List.mem_cons_self ..|apply List.mem_cons_of_mem)))) (hx:qB σ.hs n = .own ex k rows:=by rfl) (he:ex' = true → ex = true:=by first|exact id|exact nofun) (hp : ∀ row,row ∈ rows' → AV.pure.pureL row = true:=by first|assumption|exact ye rfl|exact jY fun _=>rfl):yO L nh σ ((n',.own ex' k rows') :: l):=w8 hx hm he hr hp hl
end keeps8
end Go.Ab
