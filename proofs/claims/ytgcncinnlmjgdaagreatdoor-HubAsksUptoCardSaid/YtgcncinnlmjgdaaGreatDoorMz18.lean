import Derived.Test.YtgcncinnlmjgdaaGreatDoorMz17
set_option linter.unusedSimpArgs false
set_option maxHeartbeats 1000000
set_option maxRecDepth 10000
namespace Go.Proofs.YtgcncinnlmjgdaaGreatDoor
open Go.Ab Go.RowKit
attribute [local irreducible] Awp j9 jr ye Red qz Go.Ab.Fin qf Rz wz jF jU ResOk yA j1 xR qX
def qk1 (f w:qb) (r:Int) (s:List Gra × Bool) (x:Gra):List Gra × Bool :=
 (s.1 ++ ((if s.2 = false ∧ ja x ⟨f,w,0⟩ = false then [⟨f,w,r⟩] else []) ++ (if sameKey ⟨f,w,0⟩ x = true then [] else [x])),s.2 || !ja x ⟨f,w,0⟩)
def qpB (f w:qb) (r:Int) (l:List Gra):List Gra × Bool:=l.foldl (qk1 f w r) ([],decide (r = 0))
@[simp] theorem qo9 (f w:qb) (r:Int):qpB f w r [] = ([],decide (r = 0)):=rfl
theorem qmF:qiG C.P 68 = some [1,1,0]:=by kernel_rfl
theorem qjg (a b:Gra):JB [1,1,0] a.row b.row = some (decide (a = b)):=by
 obtain ⟨a1,a2,a3⟩:=a;obtain ⟨b1,b2,b3⟩:=b;simp only [Gra.row,JB,JR,str,Gra.mk.injEq,if_true,Option.some.injEq];by_cases h1:a1 = b1<;>by_cases h2:a2 = b2<;>by_cases h3:a3 = b3<;>simp [h1,h2,h3]
theorem qie (l:List Gra) (hl:l.length ≤ 1000000):jN C.P 30 [jw l,jw l] (.v (.bool true)):=by
 refine qJ 0 ?_
 repeat' (first|refine qg ?_|fail|(refine xsS ?_ ?_;all_goals first|exact False.elim|intro hp hc)|refine xsA ?_ ?_)
 all_goals try (exfalso;simp_all;done)
 refine Zq (ts:=[(0,jw l),(1,jw l),(5,.v (.int .i64 ((0:Nat):Int)))]) ?_;refine qB (fun n σ => ∃ i:Nat,i ≤ l.length ∧ n = l.length - i ∧ (True) ∧ σ = ⟨[(0,jw l),(1,jw l),(5,.v (.int .i64 (i:Int)))],[],C.nh⟩) l.length ⟨0,Nat.zero_le _,rfl,trivial,rfl⟩ ?_;rintro n σ ⟨i,hi,rfl, -,rfl⟩;by_cases hlt:i < l.length
 ·have hr:=qK (f:=Gra.row) hlt
  repeat' (first|refine qg ?_|(first|(apply qa;apply VC;rfl;rfl;exact qmF;exact qjg _ _;(first|exact .inl ⟨rfl,rfl⟩|exact .inr ⟨rfl,rfl⟩);exact nle rfl))|(refine xsS ?_ ?_;all_goals first|exact False.elim|intro hp hc)|refine xsA ?_ ?_)
  all_goals try (exfalso;omega)
  all_goals try (exfalso;simp_all;done)
  refine ⟨l.length - (i + 1),_,by omega,xsM (ts:=[(0,jw l),(1,jw l),(5,.v (.int .i64 ((i + 1:Nat):Int)))]),i + 1,by omega,rfl,trivial,rfl⟩
 obtain rfl:i = l.length:=by omega
 repeat' (first|refine qg ?_|fail|(refine xsS ?_ ?_;all_goals first|exact False.elim|intro hp hc)|refine xsA ?_ ?_)
 all_goals try (exfalso;omega)
 apply qR;rfl;rfl
theorem qaP {l:List Gra} {f b w:qb} {r:Int} (he:jl l f b w r = 0) (h0:r = 0):zT l ⟨f,w,0⟩ = true:=by
 obtain ⟨hg,_,_,_,hw0⟩:=qfG he;cases h:zT l ⟨f,w,0⟩
 ·have:=Kw (wa hg) h;exact absurd this (hw0.resolve_left (fun e=>e h0))
 ·rfl
theorem qn3 (l:List Gra) (hl:GBig l) (f w:qb) (hf:f.length ≤ 140737488355328) (hw:w.length ≤ 140737488355328) (he:jG l f w = 0) :
  jN C.P 142 [jw l,.v (str f),.v (str w)] (.tup [jw (xP l f w 3),.v (.int .i64 0)]):=by
 have h0:jx l = 0:=by
  cases Classical.em (jx l = 0) with
  | inl h=>exact h
  | inr h=>simp [jG,h] at he
 have hlen:=zr h0;exact qia l hl f w hf hw he _ (qnK l f w 3 (by omega) (wa h0) (fun h=>by omega))
theorem qnZ (l:List Gra) (hl:GBig l) (f b w:qb) (r:Int) (hf:f.length ≤ 140737488355328) (hb:b.length ≤ 140737488355328) (hw:w.length ≤ 140737488355328) (he:jl l f b w r = 0) :
  jN C.P 144 [jw l,.v (str f),.v (str b),.v (str w),.v (.int .i64 r)] (.tup [jw (QB (xP l f w r) f),.v (.int .i64 (yh (xP l f w r) f))]):=by
 have h0:=(qfG he).1;have hlen:=zr h0;have:=qan (l:=l) (f:=f) (w:=w) (r:=r);exact qh8 l hl f b w r hf hb hw he _ (by omega) (qnK l f w r (by omega) (wa h0) (qaP he))
end Go.Proofs.YtgcncinnlmjgdaaGreatDoor
