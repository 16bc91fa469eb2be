import Derived.Test.YtnhpclmbhbblbaaGreatDoorMz6
set_option linter.unusedSimpArgs false
set_option linter.unusedVariables false
namespace Go.Ab
open Go.RowKit
section
variable {L:List (Nat × Nat)} {nh:Nat} {σ:St} {i:Nat}
theorem ze {n n' : Nat} {l:List (Nat × AV)} (hl:vx L nh σ l) (hx:qR σ.ts i = .mp n:=by rfl) (hm:Maps L nh n n':=by (first|exact qJ rfl|exact .inr (List.mem_cons_self ..)|exact .inr (List.mem_cons_of_mem _ (List.mem_cons_self ..))|exact .inr (List.mem_cons_of_mem _ (List.mem_cons_of_mem _ (List.mem_cons_self ..)))|exact .inr (List.mem_cons_of_mem _ (List.mem_cons_of_mem _ (List.mem_cons_of_mem _ (List.mem_cons_self ..)))))):vx L nh σ ((i,.mp n') :: l):=qbY hx hm hl
theorem xY {n n' : Nat} {m m' : List (List UInt8 × AV)} {l:List (Nat × HB)} (hl:vp L nh σ l) (hr:m.Perm m') (hp : ∀ e,e ∈ m' → e.2.pure = true) (hm:Maps L nh n n':=by (first|exact qJ rfl|exact .inr (List.mem_cons_self ..)|exact .inr (List.mem_cons_of_mem _ (List.mem_cons_self ..))|exact .inr (List.mem_cons_of_mem _ (List.mem_cons_of_mem _ (List.mem_cons_self ..)))|exact .inr (List.mem_cons_of_mem _ (List.mem_cons_of_mem _ (List.mem_cons_of_mem _ (List.mem_cons_self ..)))))) (hx:ja σ.hs n = .mp m:=by rfl):vp L nh σ ((n',.mp m') :: l):=qbL hx hm hr hp hl
end
section
variable {L:List (Nat × Nat)} {nh:Nat} {σ:St}
theorem yR {x y:AV} (h:x = y) (hp:y.pure = true):jV L nh x y:=by subst h;exact qk hp
theorem jn {n n' off len len' : Nat} (h:len = len') (hn:Maps L nh n n':=by (first|exact qJ rfl|exact .inr (List.mem_cons_self ..)|exact .inr (List.mem_cons_of_mem _ (List.mem_cons_self ..))|exact .inr (List.mem_cons_of_mem _ (List.mem_cons_of_mem _ (List.mem_cons_self ..)))|exact .inr (List.mem_cons_of_mem _ (List.mem_cons_of_mem _ (List.mem_cons_of_mem _ (List.mem_cons_self ..)))))):jV L nh (.os n off len) (.os n' off len'):=h ▸ qF hn
theorem yH {n n' : Nat} {ex ex' : Bool} {k:Nat} {row row' : List AV} {l:List (Nat × HB)} (hr:jz L nh row row') (hl:vp L nh σ l) (hm:Maps L nh n n':=by (first|exact qJ rfl|exact .inr (List.mem_cons_self ..)|exact .inr (List.mem_cons_of_mem _ (List.mem_cons_self ..))|exact .inr (List.mem_cons_of_mem _ (List.mem_cons_of_mem _ (List.mem_cons_self ..)))|exact .inr (List.mem_cons_of_mem _ (List.mem_cons_of_mem _ (List.mem_cons_of_mem _ (List.mem_cons_self ..)))))) (hx:ja σ.hs n = .own ex k [row]:=by rfl) (he:ex' = true → ex = true:=by first|exact id|exact nofun):vp L nh σ ((n',.own ex' k [row']) :: l) :=
 Qf hm hx he (vv hr zT) hl
end
theorem qaV {C:Cx} {N d:Nat} {ty:TypeId} {pos:String} {af:Array Edge} {gd:Option (Nat × Bool)} {t:Nat → AV} {h:Nat → HB} (x y:Operand) (tys:Array TypeId) (a b:Int) (hx:evA t x = .v (.int .i64 a)) (hy:evA t y = .v (.int .i64 b)) (hN:d < N) :
  qX C.P N ⟨some d,.call ⟨.builtin .min, #[x,y],tys⟩,ty,pos,af,gd⟩ t h ⟨yh x ++ yh y,[],some d,.v (.int .i64 (min a b)),[],[]⟩ :=
 jO _ _ rfl hN fun F ρ act w _ hs _=>by
  have h1:=qu (x:=x) hs (fun j hj=>List.mem_append_left _ hj)
  have h2:=qu (x:=y) hs (fun j hj=>List.mem_append_right _ hj)
  rw [hx] at h1;rw [hy] at h2
  obtain ⟨h1,_⟩:=h1.v_inv
  obtain ⟨h2,_⟩:=h2.v_inv
  refine ⟨.int .i64 (min a b),?_,.v _ _ rfl⟩
  simp [execOp,resolve,invoke,builtin,h1,h2,Builtin.min_,Builtin.min2]
  first
   | omega
   | (split<;>omega)
end Go.Ab
