import Derived.Test.YtgcncinnlmjgdaaGreatDoorMz7
set_option linter.unusedSimpArgs false
set_option linter.unusedVariables false
namespace Go.Ab
open Go.RowKit
section
variable {L:List (Nat × Nat)} {nh:Nat} {σ:St} {i:Nat}
theorem X2 {n n' : Nat} {l:List (Nat × AV)} (hl:y7 L nh σ l) (hx:qm σ.ts i = .mp n:=by rfl) (hm:Maps L nh n n':=by (first|exact jy rfl|exact .inr (List.mem_cons_self ..)|exact .inr (List.mem_cons_of_mem _ (List.mem_cons_self ..))|exact .inr (List.mem_cons_of_mem _ (List.mem_cons_of_mem _ (List.mem_cons_self ..)))|exact .inr (List.mem_cons_of_mem _ (List.mem_cons_of_mem _ (List.mem_cons_of_mem _ (List.mem_cons_self ..)))))):y7 L nh σ ((i,.mp n') :: l):=K4 hx hm hl
theorem qpC {n n' : Nat} {m m' : List (List UInt8 × AV)} {l:List (Nat × HB)} (hl:yd L nh σ l) (hr:m = m') (hp : ∀ e,e ∈ m' → e.2.pure = true) (hm:Maps L nh n n':=by (first|exact jy rfl|exact .inr (List.mem_cons_self ..)|exact .inr (List.mem_cons_of_mem _ (List.mem_cons_self ..))|exact .inr (List.mem_cons_of_mem _ (List.mem_cons_of_mem _ (List.mem_cons_self ..)))|exact .inr (List.mem_cons_of_mem _ (List.mem_cons_of_mem _ (List.mem_cons_of_mem _ (List.mem_cons_self ..)))))) (hx:qh σ.hs n = .mp m:=by rfl):yd L nh σ ((n',.mp m') :: l):=KW hx hm hr hp hl
end
section
variable {L:List (Nat × Nat)} {nh:Nat} {σ:St}
theorem qoD {x y:AV} (h:x = y) (hp:y.pure = true):yA L nh x y:=by subst h;exact qy hp
theorem qnl {n n' off len len' : Nat} (h:len = len') (hn:Maps L nh n n':=by (first|exact jy rfl|exact .inr (List.mem_cons_self ..)|exact .inr (List.mem_cons_of_mem _ (List.mem_cons_self ..))|exact .inr (List.mem_cons_of_mem _ (List.mem_cons_of_mem _ (List.mem_cons_self ..)))|exact .inr (List.mem_cons_of_mem _ (List.mem_cons_of_mem _ (List.mem_cons_of_mem _ (List.mem_cons_self ..)))))):yA L nh (.os n off len) (.os n' off len'):=h ▸ jC hn
end
theorem qod {C:Cx} {N d:Nat} {ty:TypeId} {pos:String} {af:Array Edge} {gd:Option (Nat × Bool)} {t:Nat → AV} {h:Nat → HB} (x y:Operand) (tys:Array TypeId) (a b:Int) (hx:evA t x = .v (.int .i64 a)) (hy:evA t y = .v (.int .i64 b)) (hN:d < N) :
  qz C.P N ⟨some d,.call ⟨.builtin .min, #[x,y],tys⟩,ty,pos,af,gd⟩ t h ⟨qW x ++ qW y,[],some d,.v (.int .i64 (min a b)),[],[]⟩ :=
 qN _ _ rfl hN fun F ρ act w _ hs _=>by
  have h1:=qc (x:=x) hs (fun j hj=>List.mem_append_left _ hj);have h2:=qc (x:=y) hs (fun j hj=>List.mem_append_right _ hj);rw [hx] at h1;rw [hy] at h2;obtain ⟨h1,_⟩:=h1.v_inv;obtain ⟨h2,_⟩:=h2.v_inv;refine ⟨.int .i64 (min a b),?_,.v _ _ rfl⟩;simp [execOp,resolve,invoke,builtin,h1,h2,Builtin.min_,Builtin.min2]
  first
   | omega
   | (split<;>omega)
end Go.Ab
