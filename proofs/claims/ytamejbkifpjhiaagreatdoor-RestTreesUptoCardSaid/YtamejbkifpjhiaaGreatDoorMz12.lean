import Derived.Test.YtamejbkifpjhiaaGreatDoorMz11
import Derived.Test.YtamejbkifpjhiaaGreatDoorMz10
set_option linter.unusedSimpArgs false
set_option linter.unnecessarySimpa false
set_option linter.unusedVariables false
set_option maxHeartbeats 1000000
namespace Go.Proofs.YtamejbkifpjhiaaGreatDoor
open Go.Ab Go.RowKit
set_option maxRecDepth 10000
attribute [local irreducible] Awp yH jH jw Red ja Go.Ab.Fin qZ Rz vn jr jp ResOk j3 jC yC jA
theorem kX {t:List Ent}:qC t = 0 ↔ t.length ≤ 60 ∧ (∀ x,x ∈ t → y9 x = 0) ∧ qU jf t = true ∧ ∀ x,x ∈ t → yN t x = 0:=by
 unfold qC
 constructor
 ·intro h
  split at h
  ·exact absurd h (by decide)
  split at h
  case isFalse h'=>exact absurd h h'
  rename_i h1 h2
  split at h
  case isFalse=>exact absurd h (by decide)
  rename_i h3
  split at h
  case isTrue=>exact absurd h (by decide)
  split at h
  case isTrue=>exact absurd h (by decide)
  rename_i h4 h5
  refine ⟨by omega,xU.1 h2,h3,fun x hx=>?_⟩
  cases e:decide (yN t x = 0)
  ·exact absurd (List.any_eq_true.2 ⟨x,hx,by simpa using e⟩) h5
  ·simpa using e
 ·rintro ⟨h1,h2,h3,h4⟩
  rw [if_neg (by omega),if_pos (xU.2 h2),if_pos h3,if_neg,if_neg]
  ·intro h
   obtain ⟨x,hx,hk⟩:=List.any_eq_true.1 h
   simp [h4 x hx] at hk
  ·intro h
   obtain ⟨x,hx,hk⟩:=List.any_eq_true.1 h
   simp [h4 x hx] at hk
theorem kJ {a b:List Ent}:zN a b = 0 ↔ qC a = 0 ∧ qC b = 0:=by
 rw [Z3]
 by_cases h:qC a = 0<;>simp [h]
def zP (a b:List Ent):List Chg:=if zN a b = 0 then YT a b else []
theorem qf6 (a b:List Ent) (ha:EBig a) (hb:EBig b):xH C.P 29 [qa a,qa b] (.tup [wE (zP a b),.v (.int .i64 (zN a b))]):=by
 have h1:=K7 a b ha hb
 by_cases h:zN a b = 0
 ·obtain ⟨ta,tb⟩:=kJ.1 h
  obtain ⟨la, -,ra, -⟩:=kX.1 ta
  obtain ⟨lb, -,rb, -⟩:=kX.1 tb
  have h2:=qgM a b (by omega) (by omega) ha.each ra rb
  rw [show zP a b = YT a b from if_pos h,h]
  rw [h] at h1
  refine qc Tryz.func29 rfl _ Tryz.ntmps29 (Nat.le_of_ble_eq_true rfl) _ Tryz.results29 0 rfl rfl ?_
  repeat' (first|refine qn ?_|(first|refine jv Tryz.func68 (h1 ..) ?_|refine j1 Tryz.func69 (h2 ..) ?_)|((first|refine xsC ?_ ?_);all_goals (intro hc;have hp:=hc;try simp at hp;try (exfalso;omega)))|refine qX ?_ ?_)
  all_goals try (exfalso;omega)
  (exact zO (rs:=[.tmp 4,.tmp 5]))
 ·rw [show zP a b = [] from if_neg h]
  generalize zN a b = E at *
  refine qc Tryz.func29 rfl _ Tryz.ntmps29 (Nat.le_of_ble_eq_true rfl) _ Tryz.results29 0 rfl rfl ?_
  repeat' (first|refine qn ?_|(first|refine jv Tryz.func68 (h1 ..) ?_)|((first|refine xsC ?_ ?_);all_goals (intro hc;have hp:=hc;try simp at hp;try (exfalso;omega)))|refine qX ?_ ?_)
  all_goals try (exfalso;omega)
  (exact zO (rs:=[.tmp 4,.tmp 5]))
def eA:Ent:=⟨[97],false,[120],1⟩
theorem qdg:xH C.P 26 [] (.v (.bool true)):=by
 have h1:=qf6 [] [eA] ⟨fun e h=>by simp at h,by simp⟩ ⟨fun e h=>by rw [List.mem_singleton.1 h];exact ⟨by decide,by decide⟩,by simp⟩
 rw [show zN [] [eA] = 0 from by decide +kernel,show zP [] [eA] = [⟨2,[97],[],[120], -1⟩] from by decide +kernel] at h1
 have h2:xH C.P 29 [.sl false [],.sl false [[.v (str [97]),.v (.bool false),.v (str [120]),.v (.int .i64 1)]]] (.tup [.sl false [[.v (.int .i64 2),.v (str [97]),.v (str []),.v (str [120]),.v (.int .i64 (-1))]],.v (.int .i64 0)]):=h1
 refine qc Tryz.func26 rfl _ Tryz.ntmps26 (Nat.le_of_ble_eq_true rfl) _ Tryz.results26 0 rfl rfl ?_
 repeat' (first|refine qn ?_|(first|(refine jL ?_)|refine j1 Tryz.func29 (h2 ..) ?_)|((first|refine qf ?_ ?_|refine qe ?_ ?_|refine xsC ?_ ?_);all_goals (intro hc;have hp:=hc;try simp at hp;try (exfalso;omega)))|refine qX ?_ ?_)
 all_goals try (exfalso;simp_all;done)
 all_goals (apply j6;rfl;simp;done)
end Go.Proofs.YtamejbkifpjhiaaGreatDoor
set_option linter.unusedSimpArgs false
set_option linter.unnecessarySimpa false
set_option linter.unusedVariables false
namespace Go.Proofs.YtamejbkifpjhiaaGreatDoor
open Go.Op
def jG (a:List Ent) (g:List qP):List Ent:=a.filter fun x => !(g.any fun p=>inB x.path p)
theorem qed (a:List Ent):jG a [] = a:=by simp [jG]
theorem ZO (a:List Ent) (g:List qP) (q:qP):jG a (g ++ [q]) = j7 (zJ q) (jG a g):=by
 unfold jG j7 zJ
 rw [List.filter_filter]
 congr 1
 funext x
 simp [Bool.and_comm]
theorem kD {a:List Ent} {g:List qP} (h:qU jf a = true):qU jf (jG a g) = true:=jJ.2 ((jJ.1 h).sublist List.filter_sublist)
theorem WE (a:List Ent) (g:List qP):(jG a g).length ≤ a.length:=List.length_filter_le ..
theorem k9 (a:List Ent) (g:List qP) (p:qP):qW (jG a g) p = if (g.any fun q=>inB p q) = true then none else qW a p:=by
 split
 ·rename_i h
  rw [xG]
  intro x hx
  have:=(List.mem_filter.1 hx).2
  intro e
  rw [e,h] at this
  exact absurd this (by decide)
 ·rename_i h
  unfold qW jG
  rw [List.find?_filter]
  congr 1
  funext x
  by_cases hx:x.path = p
  ·have h:(g.any fun q=>inB p q) = false:=by simpa using h
   simp [atP,hx,h]
  ·simp [atP,hx]
theorem qek {t:List Ent} (h:Right t) {q:qP} {y:Ent} (hy:qW t q = some y):¬ q = []:=fun e=>by
 obtain ⟨h6,h7⟩:=jN hy
 have:=(jz (h.ent y h6)).1
 rw [h7,e] at this
 exact vy this [] (by simp [qu]) rfl
theorem qgh {a:List Ent} (h:Right a) {g:List qP} {x:Ent} (hx:x ∈ a) (hg:(g.any fun q=>inB x.path q) = false):vb (jG a g) (xr x.path) 1 = 0 ∧ QJ (jG a g) (xr x.path) 1 = jG a (g ++ [x.path]):=by
 have hxe:=jz (h.ent x hx)
 have hpe:=hxe.1
 have hce:yc (xr x.path) = 0:=by
  unfold yc zG xr
  simp only
  rw [if_neg (by omega),if_neg (by simp [hpe]),if_neg (fun e=>by exact absurd e.1 (by decide)),if_neg (by simp),if_neg (by simp),if_neg (by omega)]
 have hD:jh (jG a g) (xr x.path) 1 = jG a (g ++ [x.path]):=by
  rw [ZO]
  simp [jh,xr]
 have hl:qW (jG a g) x.path = some x:=by rw [k9,hg,if_neg (by decide)];exact vw h.rise hx
 have hpf:ym (jG a g) (qJ x.path) = 0:=by
  rcases yF.1 (h.par x hx) with h2|⟨y,h2,h3⟩
  ·exact yF.2 (.inl h2)
  ·have hpi:=J5 hpe (qek h h2)
   refine yF.2 (.inr ⟨y,?_,h3⟩)
   rw [k9,if_neg]
   ·exact h2
   ·intro h5
    obtain ⟨q,hq,hq2⟩:=List.any_eq_true.1 h5
    rw [List.any_eq_false] at hg
    exact hg q hq (kZ hpi hq2)
 have hmay:va (jG a g) (xr x.path) = 0:=by
  unfold va
  have h0:ym (jG a g) (qJ (jS (xr x.path))) = 0:=hpf
  rw [if_neg (by simp [h0])]
  have h1:v8 (jG a g) (xr x.path) = 0:=by
   show (if j0 (jG a g) x.path = true then (0:Int) else 5) = 0
   rw [Q7,hl];rfl
  have h2:zR (jG a g) (xr x.path) = 0:=rfl
  have h3:yb (jG a g) (xr x.path) = 0:=by
   unfold yb
   rw [if_neg];simp [xr]
  rw [if_neg (by simp [h1]),if_neg (by simp [h2]),h3]
 have hdn:j5 (jG a g) (xr x.path) 1 = 0:=by
  unfold j5
  rw [show yP (jG a g) (xr x.path) = false from rfl,if_neg (by decide),hD,if_neg]
  have:=WE a (g ++ [x.path])
  have:=h.len
  omega
 have hr:vb (jG a g) (xr x.path) 1 = 0:=by
  unfold vb
  rw [if_neg (by simp [hce]),if_neg (by simp [hmay]),hdn]
 exact ⟨hr,by unfold QJ;rw [if_pos hr,hD]⟩
theorem Xg (b:List Ent) : ∀ (l:List Ent) (g:List qP) (p:qP),p ∈ l.foldl (vv b) g → p ∈ g ∨ ∃ z,z ∈ l ∧ z.path = p ∧ zj b z = true
 | [],g,p,h => .inl h
 | x :: l,g,p,h=>by
   rcases Xg b l _ p h with h1|⟨z,h1,h2⟩
   ·unfold vv at h1
    split at h1
    ·exact .inl h1
    ·split at h1
     ·rename_i hd
      rcases List.mem_append.1 h1 with h1|h1
      ·exact .inl h1
      ·exact .inr ⟨x,by simp,(List.mem_singleton.1 h1).symm,hd⟩
     ·exact .inl h1
   ·exact .inr ⟨z,by simp [h1],h2⟩
theorem J3 (b:List Ent) : ∀ (l:List Ent) (g:List qP) (p:qP),p ∈ g → p ∈ l.foldl (vv b) g
 | [],g,p,h=>h
 | x :: l,g,p,h=>J3 b l _ p (by
   unfold vv
   split
   ·exact h
   ·split
    ·exact List.mem_append_left _ h
    ·exact h)
theorem Xe (b:List Ent) : ∀ (l:List Ent) (g:List qP) (z:Ent),z ∈ l → zj b z = true → ∃ p,p ∈ l.foldl (vv b) g ∧ inB z.path p = true
 | x :: l,g,z,hz,hd=>by
   rcases List.mem_cons.1 hz with rfl|hz
   ·by_cases h1:(g.any fun p=>inB z.path p) = true
    ·obtain ⟨p,hp,hp2⟩:=List.any_eq_true.1 h1
     refine ⟨p,J3 b l _ p ?_,hp2⟩
     unfold vv;rw [if_pos h1];exact hp
    ·refine ⟨z.path,J3 b l _ z.path ?_,qeb _⟩
     unfold vv;rw [if_neg h1,if_pos hd];simp
   ·exact Xe b l _ z hz hd
theorem J8 {a b:List Ent} (ha:Right a) (hb:Right b) {x:Ent} (hx:x ∈ b) :
  (match qW (jG a (q7 a b)) x.path with|some y=>x.fold || decide (y.text = x.text)|none=>false) = yQ a x:=by
 have hbx:=vw hb.rise hx
 have hst:yQ a x = match qW a x.path with|some y=>wo y x|none=>false:=rfl
 rw [hst,k9]
 cases hl:qW a x.path with
 | none=>simp
 | some y =>
   obtain ⟨hy,hyp⟩:=jN hl
   have hdf:zj b y = decide (¬ x.fold = y.fold):=by
    unfold zj
    rw [hyp,show b.find? (atP x.path) = some x from hbx]
   by_cases hf:x.fold = y.fold
   ·have hno:((q7 a b).any fun q=>inB x.path q) = false:=by
     rw [List.any_eq_false]
     intro p hp hip
     rcases Xg b a [] p hp with h0|⟨z,hz,hzp,hzd⟩
     ·cases h0
     ·by_cases e:p = x.path
      ·have:z = y:=kH ha.rise hz hy (by rw [hzp,e,hyp])
       rw [this,hdf] at hzd
       simp [hf] at hzd
      ·obtain ⟨w1,h1,h2⟩:=anc ha _ y hy rfl p (by rw [hyp];exact hip) (by rw [hyp];exact e)
       obtain ⟨w2,h3,h4⟩:=anc hb _ x hx rfl p hip e
       obtain ⟨h5,h6⟩:=jN h1
       have:z = w1:=kH ha.rise hz h5 (by rw [hzp,h6])
       unfold zj at hzd
       rw [hzp,show b.find? (atP p) = some w2 from h3,this,h2] at hzd
       simp [h4] at hzd
    rw [hno,if_neg (by decide)]
    have hex:=jz (hb.ent x hx)
    have hey:=jz (ha.ent y hy)
    simp only [wo,hyp,hf,decide_true,Bool.true_and]
    cases hyf:y.fold with
    | false=>simp
    | true =>
      have t1:x.text = []:=by
       cases h:x.text with
       | nil=>rfl
       | cons c s=>exact absurd ⟨by rw [hf,hyf],by simp [h]⟩ hex.2.1
      have t2:y.text = []:=by
       cases h:y.text with
       | nil=>rfl
       | cons c s=>exact absurd ⟨hyf,by simp [h]⟩ hey.2.1
      simp [t1,t2]
   ·have hd:zj b y = true:=by rw [hdf];simp [hf]
    obtain ⟨p,hp,hp2⟩:=Xe b a [] y hy hd
    rw [hyp] at hp2
    have:((q7 a b).any fun q=>inB x.path q) = true:=List.any_eq_true.2 ⟨p,hp,hp2⟩
    rw [this,if_pos rfl]
    have hf2:¬ y.fold = x.fold:=fun e=>hf e.symm
    simp [wo,hf2]
end Go.Proofs.YtamejbkifpjhiaaGreatDoor
set_option linter.unusedSimpArgs false
set_option linter.unnecessarySimpa false
set_option linter.unusedVariables false
set_option maxHeartbeats 1000000
namespace Go.Proofs.YtamejbkifpjhiaaGreatDoor
open Go.Ab Go.RowKit
set_option maxRecDepth 10000
attribute [local irreducible] Awp yH jH jw Red ja Go.Ab.Fin qZ Rz vn jr jp ResOk j3 jC yC jA
theorem yR (o:List Ent) (r s:List AV) {y z:Ent} (hr:r = y.row:=by rfl) (hs:s = z.row:=by rfl):(((o.map Ent.row).take o.length ++ [r]).take (o.length + 1)) ++ [s] = (o ++ ([y] ++ [z])).map Ent.row:=by
 subst hr;subst hs
 have e1:(o.map Ent.row).take o.length = o.map Ent.row:=List.take_of_length_le (by simp)
 rw [e1,List.take_of_length_le (by simp)]
 simp
theorem wB (t:List Ent) (x:Ent) (hl:t.length ≤ 400000):xH C.P 77 [qa t,.agg x.row] (qa (Xx t x)):=by
 refine qc Tryz.func77 rfl _ Tryz.ntmps77 (Nat.le_of_ble_eq_true rfl) _ Tryz.results77 0 rfl rfl ?_
 repeat' (first|refine qn ?_|fail|((first|refine qf ?_ ?_|refine qe ?_ ?_|refine xsC ?_ ?_);all_goals (intro hc;have hp:=hc;try simp at hp;try (exfalso;omega)))|refine qX ?_ ?_)
 refine Awp.red (ye 5 4 rfl (Nat.zero_le _)) ?_
 (refine Awp.red (qB (τ:=⟨[(0,qa t),(3,.op 0 0 0),(5,.os 1 0 0),(6,.v (.bool false)),(7,.v (.int .i64 ((0:Nat):Int)))],[(0,.own false 4 [x.row]),(1,.own false 4 [])],2⟩) [(0,0),(1,1)] rfl ?gts ?ghs) ?gmain;(case gts=>(repeat (first|exact qg|refine qo ?_|refine yg ?_|refine x6 ?_|refine qY ?_ ?_));all_goals skip);(case ghs=>(repeat (first|exact qj|refine j4 ?_|refine q6 ?_ ?_))))
 refine qV (fun n σ => ∃ i:Nat,i ≤ t.length ∧ n = t.length - i ∧ (True) ∧ σ = ⟨[(0,qa t),(3,.op 0 0 0),(5,.os 1 0 (xq (t.take i) x).1.length),(6,.v (.bool (xq (t.take i) x).2)),(7,.v (.int .i64 (i:Int)))],[(0,.own false 4 [x.row]),(1,.own false 4 ((xq (t.take i) x).1.map Ent.row))],2⟩) t.length ⟨0,Nat.zero_le _,rfl,trivial,rfl⟩ ?_
 rintro n σ ⟨i,hi,rfl, -,rfl⟩
 have hgl:=W4 (t.take i) x
 have htl:(t.take i).length ≤ t.length:=by simp;omega
 by_cases hlt:i < t.length
 ·have hr:=jB (f:=Ent.row) hlt
  have hgs := @ZU t x i hlt
  generalize xq (t.take i) x = G at *
  obtain ⟨o,b⟩:=G
  simp only [x4] at hgs
  have hgl:o.length ≤ 2 * (t.take i).length:=hgl
  cases b<;>cases hless:Op.bytesLess t[i].path x.path<;>by_cases hpe:t[i].path = x.path
  all_goals try (exfalso;rw [hpe,vD] at hless;exact absurd hless (by decide))
  all_goals simp only [hless,hpe,vD,if_true,if_false,and_true,and_false,and_self,Bool.false_or,Bool.true_or,Bool.not_true,Bool.not_false,List.append_nil,Bool.true_eq_false,Bool.false_eq_true,List.append_assoc] at hgs
  all_goals (
   repeat' (first|refine qn ?_|(first|(refine jL ?_)|(refine yi ?_))|((first|refine qf ?_ ?_|refine qe ?_ ?_|refine xsC ?_ ?_);all_goals (intro hc;have hp:=hc;try simp at hp;try (exfalso;omega)))|refine qX ?_ ?_))
  all_goals try (exfalso;first|omega|contradiction|(simp_all;done))
  ·refine ⟨t.length - (i + 1),_,by omega,qB (τ:=⟨[(0,qa t),(3,.op 0 0 0),(5,.os 1 0 (xq (t.take (i + 1)) x).1.length),(6,.v (.bool (xq (t.take (i + 1)) x).2)),(7,.v (.int .i64 ((i + 1:Nat):Int)))],[(0,.own false 4 [x.row]),(1,.own false 4 ((xq (t.take (i + 1)) x).1.map Ent.row))],2⟩) [(0,0),(2,1)] rfl ?gts ?ghs,i + 1,by omega,rfl,trivial,rfl⟩;(case gts=>(repeat (first|exact qg|refine qo ?_|refine yg ?_|refine x6 ?_|refine qY ?_ ?_));all_goals (rw [hgs];try first|(simp only [List.length_append,List.length_cons,List.length_nil,List.map_append,List.map_cons,List.map_nil,List.append_assoc,List.cons_append,List.nil_append];done)|(rw [List.take_of_length_le (by simp)];simp;done)|(simp;done)|exact yR o x.row _));(case ghs=>(repeat (first|exact qj|refine j4 ?_|refine q6 ?_ ?_));all_goals (rw [hgs];try first|(simp only [List.length_append,List.length_cons,List.length_nil,List.map_append,List.map_cons,List.map_nil,List.append_assoc,List.cons_append,List.nil_append];done)|(rw [List.take_of_length_le (by simp)];simp;done)|(simp;done)|exact yR o x.row _))
  ·refine ⟨t.length - (i + 1),_,by omega,qB (τ:=⟨[(0,qa t),(3,.op 0 0 0),(5,.os 1 0 (xq (t.take (i + 1)) x).1.length),(6,.v (.bool (xq (t.take (i + 1)) x).2)),(7,.v (.int .i64 ((i + 1:Nat):Int)))],[(0,.own false 4 [x.row]),(1,.own false 4 ((xq (t.take (i + 1)) x).1.map Ent.row))],2⟩) [(0,0),(3,1)] rfl ?gts ?ghs,i + 1,by omega,rfl,trivial,rfl⟩;(case gts=>(repeat (first|exact qg|refine qo ?_|refine yg ?_|refine x6 ?_|refine qY ?_ ?_));all_goals (rw [hgs];try first|(simp only [List.length_append,List.length_cons,List.length_nil,List.map_append,List.map_cons,List.map_nil,List.append_assoc,List.cons_append,List.nil_append];done)|(rw [List.take_of_length_le (by simp)];simp;done)|(simp;done)|exact yR o x.row _));(case ghs=>(repeat (first|exact qj|refine j4 ?_|refine q6 ?_ ?_));all_goals (rw [hgs];try first|(simp only [List.length_append,List.length_cons,List.length_nil,List.map_append,List.map_cons,List.map_nil,List.append_assoc,List.cons_append,List.nil_append];done)|(rw [List.take_of_length_le (by simp)];simp;done)|(simp;done)|exact yR o x.row _))
  ·refine ⟨t.length - (i + 1),_,by omega,qB (τ:=⟨[(0,qa t),(3,.op 0 0 0),(5,.os 1 0 (xq (t.take (i + 1)) x).1.length),(6,.v (.bool (xq (t.take (i + 1)) x).2)),(7,.v (.int .i64 ((i + 1:Nat):Int)))],[(0,.own false 4 [x.row]),(1,.own false 4 ((xq (t.take (i + 1)) x).1.map Ent.row))],2⟩) [(0,0),(2,1)] rfl ?gts ?ghs,i + 1,by omega,rfl,trivial,rfl⟩;(case gts=>(repeat (first|exact qg|refine qo ?_|refine yg ?_|refine x6 ?_|refine qY ?_ ?_));all_goals (rw [hgs];try first|(simp only [List.length_append,List.length_cons,List.length_nil,List.map_append,List.map_cons,List.map_nil,List.append_assoc,List.cons_append,List.nil_append];done)|(rw [List.take_of_length_le (by simp)];simp;done)|(simp;done)|exact yR o x.row _));(case ghs=>(repeat (first|exact qj|refine j4 ?_|refine q6 ?_ ?_));all_goals (rw [hgs];try first|(simp only [List.length_append,List.length_cons,List.length_nil,List.map_append,List.map_cons,List.map_nil,List.append_assoc,List.cons_append,List.nil_append];done)|(rw [List.take_of_length_le (by simp)];simp;done)|(simp;done)|exact yR o x.row _))
  ·refine ⟨t.length - (i + 1),_,by omega,qB (τ:=⟨[(0,qa t),(3,.op 0 0 0),(5,.os 1 0 (xq (t.take (i + 1)) x).1.length),(6,.v (.bool (xq (t.take (i + 1)) x).2)),(7,.v (.int .i64 ((i + 1:Nat):Int)))],[(0,.own false 4 [x.row]),(1,.own false 4 ((xq (t.take (i + 1)) x).1.map Ent.row))],2⟩) [(0,0),(1,1)] rfl ?gts ?ghs,i + 1,by omega,rfl,trivial,rfl⟩;(case gts=>(repeat (first|exact qg|refine qo ?_|refine yg ?_|refine x6 ?_|refine qY ?_ ?_));all_goals (rw [hgs];try first|(simp only [List.length_append,List.length_cons,List.length_nil,List.map_append,List.map_cons,List.map_nil,List.append_assoc,List.cons_append,List.nil_append];done)|(rw [List.take_of_length_le (by simp)];simp;done)|(simp;done)|exact yR o x.row _));(case ghs=>(repeat (first|exact qj|refine j4 ?_|refine q6 ?_ ?_));all_goals (rw [hgs];try first|(simp only [List.length_append,List.length_cons,List.length_nil,List.map_append,List.map_cons,List.map_nil,List.append_assoc,List.cons_append,List.nil_append];done)|(rw [List.take_of_length_le (by simp)];simp;done)|(simp;done)|exact yR o x.row _))
  ·refine ⟨t.length - (i + 1),_,by omega,qB (τ:=⟨[(0,qa t),(3,.op 0 0 0),(5,.os 1 0 (xq (t.take (i + 1)) x).1.length),(6,.v (.bool (xq (t.take (i + 1)) x).2)),(7,.v (.int .i64 ((i + 1:Nat):Int)))],[(0,.own false 4 [x.row]),(1,.own false 4 ((xq (t.take (i + 1)) x).1.map Ent.row))],2⟩) [(0,0),(2,1)] rfl ?gts ?ghs,i + 1,by omega,rfl,trivial,rfl⟩;(case gts=>(repeat (first|exact qg|refine qo ?_|refine yg ?_|refine x6 ?_|refine qY ?_ ?_));all_goals (rw [hgs];try first|(simp only [List.length_append,List.length_cons,List.length_nil,List.map_append,List.map_cons,List.map_nil,List.append_assoc,List.cons_append,List.nil_append];done)|(rw [List.take_of_length_le (by simp)];simp;done)|(simp;done)|exact yR o x.row _));(case ghs=>(repeat (first|exact qj|refine j4 ?_|refine q6 ?_ ?_));all_goals (rw [hgs];try first|(simp only [List.length_append,List.length_cons,List.length_nil,List.map_append,List.map_cons,List.map_nil,List.append_assoc,List.cons_append,List.nil_append];done)|(rw [List.take_of_length_le (by simp)];simp;done)|(simp;done)|exact yR o x.row _))
  ·refine ⟨t.length - (i + 1),_,by omega,qB (τ:=⟨[(0,qa t),(3,.op 0 0 0),(5,.os 1 0 (xq (t.take (i + 1)) x).1.length),(6,.v (.bool (xq (t.take (i + 1)) x).2)),(7,.v (.int .i64 ((i + 1:Nat):Int)))],[(0,.own false 4 [x.row]),(1,.own false 4 ((xq (t.take (i + 1)) x).1.map Ent.row))],2⟩) [(0,0),(2,1)] rfl ?gts ?ghs,i + 1,by omega,rfl,trivial,rfl⟩;(case gts=>(repeat (first|exact qg|refine qo ?_|refine yg ?_|refine x6 ?_|refine qY ?_ ?_));all_goals (rw [hgs];try first|(simp only [List.length_append,List.length_cons,List.length_nil,List.map_append,List.map_cons,List.map_nil,List.append_assoc,List.cons_append,List.nil_append];done)|(rw [List.take_of_length_le (by simp)];simp;done)|(simp;done)|exact yR o x.row _));(case ghs=>(repeat (first|exact qj|refine j4 ?_|refine q6 ?_ ?_));all_goals (rw [hgs];try first|(simp only [List.length_append,List.length_cons,List.length_nil,List.map_append,List.map_cons,List.map_nil,List.append_assoc,List.cons_append,List.nil_append];done)|(rw [List.take_of_length_le (by simp)];simp;done)|(simp;done)|exact yR o x.row _))
 obtain rfl:i = t.length:=by omega
 rw [List.take_length] at *
 have hR:Xx t x = if (xq t x).2 = true then (xq t x).1 else (xq t x).1 ++ [x]:=rfl
 generalize xq t x = G at *
 obtain ⟨o,b⟩:=G
 have hgl:o.length ≤ 2 * t.length:=hgl
 cases b
 ·have hR:Xx t x = o ++ [x]:=hR
  rw [hR]
  repeat' (first|refine qn ?_|(first|(refine jL ?_)|(refine yi ?_))|((first|refine qf ?_ ?_|refine qe ?_ ?_|refine xsC ?_ ?_);all_goals (intro hc;have hp:=hc;try simp at hp;try (exfalso;omega)))|refine qX ?_ ?_)
  all_goals try (exfalso;omega)
  (refine xa (rs:=[.tmp 4]) ?_;(repeat' (first|exact q5|apply qA|exact q4 rfl|exact yE|exact zz|apply jX|apply y5|apply jO|apply y3|apply yz|apply y4|refine zr ?_|apply x8));all_goals (show (o.map Ent.row).take o.length ++ [x.row] = _;rw [List.take_of_length_le (by simp)];simp))
 ·have hR:Xx t x = o:=hR
  rw [hR]
  repeat' (first|refine qn ?_|(first|(refine jL ?_)|(refine yi ?_))|((first|refine qf ?_ ?_|refine qe ?_ ?_|refine xsC ?_ ?_);all_goals (intro hc;have hp:=hc;try simp at hp;try (exfalso;omega)))|refine qX ?_ ?_)
  all_goals try (exfalso;omega)
  (exact zO (rs:=[.tmp 4]))
theorem qe7:qdQ C.P 55 = some [1,2,1,0]:=by kernel_rfl
theorem qc0 (a b:Ent):Jm [1,2,1,0] a.row b.row = some (decide (a = b)):=by
 obtain ⟨a1,a2,a3,a4⟩:=a
 obtain ⟨b1,b2,b3,b4⟩:=b
 simp only [Ent.row,Jm,QZ,str,Ent.mk.injEq,if_true,Option.some.injEq]
 by_cases h1:a1 = b1<;>by_cases h2:a2 = b2<;>by_cases h3:a3 = b3<;>by_cases h4:a4 = b4<;>simp [h1,h2,h3,h4]
theorem qc7 {α:Type} {a b:List α} {i:Nat} (h1:i < a.length) (h2:i < b.length) (h:a.take i = b.take i) (h3:a[i] = b[i]):a.take (i + 1) = b.take (i + 1):=by
 rw [List.take_succ_eq_append_getElem h1,List.take_succ_eq_append_getElem h2,h,h3]
theorem zA (a b:List Ent) (ha:a.length ≤ 1000000000) (hb:b.length ≤ 1000000000):xH C.P 19 [qa a,qa b] (.v (.bool (decide (a = b)))):=by
 have hma:(a.map Ent.row).length = a.length:=List.length_map ..
 have hmb:(b.map Ent.row).length = b.length:=List.length_map ..
 refine qc Tryz.func19 rfl _ Tryz.ntmps19 (Nat.le_of_ble_eq_true rfl) _ Tryz.results19 0 rfl rfl ?_
 repeat' (first|refine qn ?_|fail|((first|refine xsC ?_ ?_);all_goals (intro hc;have hp:=hc;try simp at hp;try (exfalso;omega)))|refine qX ?_ ?_)
 ·apply j6
  rfl
  have hne:¬ a = b:=fun e=>by subst e;simp at *
  simp [hne]
 have hab:a.length = b.length:=by simp at *;omega
 (refine Awp.red (qI (ts:=[(0,qa a),(1,qa b),(5,.v (.int .i64 ((0:Nat):Int)))]) ?_) ?_;((repeat (first|exact qg|refine qo ?_|refine qY ?_ ?_))))
 refine qV (fun n σ => ∃ i:Nat,i ≤ a.length ∧ n = a.length - i ∧ (a.take i = b.take i) ∧ σ = ⟨[(0,qa a),(1,qa b),(5,.v (.int .i64 (i:Int)))],[],C.nh⟩) a.length ⟨0,Nat.zero_le _,rfl,rfl,rfl⟩ ?_
 rintro n σ ⟨i,hi,rfl,hsofar,rfl⟩
 by_cases hlt:i < a.length
 ·have hlt2:i < b.length:=by omega
  have hr:=jB (f:=Ent.row) hlt
  have hr':=jB (f:=Ent.row) hlt2
  have hnx:=qc7 hlt hlt2 hsofar
  repeat' (first|refine qn ?_|(first|(apply qi;apply xY;rfl;rfl;exact qe7;exact qc0 _ _;(first|exact .inl ⟨rfl,rfl⟩|exact .inr ⟨rfl,rfl⟩);exact nle rfl))|((first|refine xsC ?_ ?_);all_goals (intro hc;have hp:=hc;try simp at hp;try (exfalso;omega)))|refine qX ?_ ?_)
  all_goals try (exfalso;omega)
  ·apply j6
   rfl
   have hne:¬ a = b:=fun e=>by subst e;simp at *
   simp [hne]
  ·refine ⟨a.length - (i + 1),_,by omega,qI (ts:=[(0,qa a),(1,qa b),(5,.v (.int .i64 ((i + 1:Nat):Int)))]) ?_,i + 1,by omega,rfl,(hnx (by simp_all)),rfl⟩;((repeat (first|exact qg|refine qo ?_|refine qY ?_ ?_)))
 obtain rfl:i = a.length:=by omega
 have he:a = b:=by rw [List.take_length] at hsofar;rw [hsofar,hab,List.take_length]
 repeat' (first|refine qn ?_|fail|((first|refine xsC ?_ ?_);all_goals (intro hc;have hp:=hc;try simp at hp;try (exfalso;omega)))|refine qX ?_ ?_)
 all_goals try (exfalso;omega)
 apply j6
 rfl
 simp [he]
def QS (t:List Ent) (e w:Int) (want:List Ent):Bool:=decide (e = w) && decide (t = (if w = 0 then want else []))
theorem Wc (t:List Ent) (e w:Int) (want:List Ent) (ht:t.length ≤ 1000000000) (hw:want.length ≤ 1000000000):xH C.P 33 [qa t,.v (.int .i64 e),.v (.int .i64 w),qa want] (.v (.bool (QS t e w want))):=by
 have hE:QS t e w want = (decide (e = w) && decide (t = (if w = 0 then want else []))):=rfl
 have h1:=zA t want ht hw
 have h2:=zA t [] ht (by simp)
 generalize QS t e w want = E at *
 by_cases hz:w = 0
 ·rw [if_pos hz] at hE
  generalize decide (t = want) = D at *
  refine qc Tryz.func33 rfl _ Tryz.ntmps33 (Nat.le_of_ble_eq_true rfl) _ Tryz.results33 0 rfl rfl ?_
  repeat' (first|refine qn ?_|(first|refine jv Tryz.func19 (h1 ..) ?_)|((first|refine qf ?_ ?_|refine qe ?_ ?_|refine xsC ?_ ?_);all_goals (intro hc;have hp:=hc;try simp at hp;try (exfalso;omega)))|refine qX ?_ ?_)
  all_goals try (exfalso;omega)
  all_goals (apply j6;rfl;simp_all)
 ·rw [if_neg hz] at hE
  generalize decide (t = []) = D at *
  refine qc Tryz.func33 rfl _ Tryz.ntmps33 (Nat.le_of_ble_eq_true rfl) _ Tryz.results33 0 rfl rfl ?_
  repeat' (first|refine qn ?_|(first|refine jv Tryz.func19 (h2 ..) ?_)|((first|refine qf ?_ ?_|refine qe ?_ ?_|refine xsC ?_ ?_);all_goals (intro hc;have hp:=hc;try simp at hp;try (exfalso;omega)))|refine qX ?_ ?_)
  all_goals try (exfalso;omega)
  all_goals (apply j6;rfl;simp_all)
end Go.Proofs.YtamejbkifpjhiaaGreatDoor
set_option linter.unusedSimpArgs false
set_option linter.unnecessarySimpa false
set_option linter.unusedVariables false
set_option maxHeartbeats 1000000
namespace Go.Proofs.YtamejbkifpjhiaaGreatDoor
open Go.Ab Go.RowKit
set_option maxRecDepth 10000
attribute [local irreducible] Awp yH jH jw Red ja Go.Ab.Fin qZ Rz vn jr jp ResOk j3 jC yC jA
def vL (t:List Ent) (c:Chg):Int :=
 if ¬ ym t (qJ (jS c)) = 0 then ym t (qJ (jS c))
 else if ¬ v8 t c = 0 then v8 t c else zR t c
theorem qfp (t:List Ent) (c:Chg):va t c = if vL t c = 0 then yb t c else vL t c:=by
 unfold va vL
 split<;>(try split)<;>(try split)<;>simp_all
theorem qgE (t:List Ent) (c:Chg) (v:Int) (h60:t.length ≤ 60) (hcs:c.small) (h0:¬ yc c = 0):xH C.P 32 [qa t,.agg c.row,.v (.int .i64 v)] (.tup [qa [],.v (.int .i64 (yc c))]):=by
 have hform:=vr c hcs
 generalize yc c = E at *
 refine qc Tryz.func32 rfl _ Tryz.ntmps32 (Nat.le_of_ble_eq_true rfl) _ Tryz.results32 0 rfl rfl ?_
 repeat' (first|refine qn ?_|(first|refine jv Tryz.func74 (hform ..) ?_)|((first|refine qf ?_ ?_|refine qe ?_ ?_|refine xsC ?_ ?_);all_goals (intro hc;have hp:=hc;try simp at hp;try (exfalso;omega)))|refine qX ?_ ?_)
 all_goals try (exfalso;omega)
 (exact zO (rs:=[.tmp 6,.tmp 7]))
theorem qgJ (t:List Ent) (c:Chg) (v:Int) (h60:t.length ≤ 60) (hs:qU jf t = true) (hcs:c.small) (h0:yc c = 0) (h1:¬ vL t c = 0):xH C.P 32 [qa t,.agg c.row,.v (.int .i64 v)] (.tup [qa [],.v (.int .i64 (vL t c))]):=by
 obtain ⟨l1,l2,l3⟩:=hcs
 have hform:=vr c ⟨l1,l2,l3⟩
 have hpo1:=yS c.path (by omega)
 have hpo2:=yS c.to (by omega)
 have hfo:=vT t (qJ (jS c)) (by omega)
 have hea:=yl t c.path (by omega)
 have heb:=yl t c.to (by omega)
 have hinn:=vB c.to c.path (by omega) (by omega)
 have hkk:=yU h0
 rw [h0] at hform
 have hE:vL t c = if ¬ ym t (qJ (jS c)) = 0 then ym t (qJ (jS c)) else if ¬ v8 t c = 0 then v8 t c else zR t c:=rfl
 have hI:v8 t c = if c.kind = 1 then (if j0 t c.path = true then 6 else 0) else if c.kind = 2 then (if vh t c.path = true then 4 else 0) else (if j0 t c.path = true then 0 else 5):=rfl
 have hM:zR t c = if c.kind = 3 then (if inB c.to c.path = true then 3 else if j0 t c.to = true then 6 else 0) else 0:=rfl
 have hg3:c.kind = 3 → jS c = c.to:=fun h=>by simp [jS,h]
 have hg0:¬ c.kind = 3 → jS c = c.path:=fun h=>by simp [jS,h]
 have hrow:j0 t c.path = true → ∃ hk:xg t c.path < t.length,vh t c.path = t[xg t c.path].fold ∧ xj (atP c.path) t = xg t c.path:=fun h=>by
  obtain ⟨hk,_,hfi,hix⟩:=zw hs h
  exact ⟨hk,by unfold vh;rw [hfi],hix⟩
 have hnorow:j0 t c.path = false → vh t c.path = false ∧ xj (atP c.path) t = -1:=fun h=>by
  unfold vh;rw [(xO h).1];exact ⟨rfl,(xO h).2⟩
 have hto:(j0 t c.to = true ∧ 0 ≤ xj (atP c.to) t) ∨ (j0 t c.to = false ∧ xj (atP c.to) t = -1):=by
  cases h:j0 t c.to with
  | true=>obtain ⟨hk,_,hfi,hix⟩:=zw hs h;exact .inl ⟨rfl,by rw [hix];omega⟩
  | false=>exact .inr ⟨rfl,(xO h).2⟩
 obtain ⟨kk1,kk2, -⟩:=hkk
 generalize vL t c = E at *
 generalize v8 t c = I at *
 generalize zR t c = Mv at *
 generalize inB c.to c.path = IB at *
 generalize j0 t c.to = HT at *
 generalize xj (atP c.to) t = IT at *
 generalize ym t (qJ (jS c)) = FE at *
 by_cases hFE:FE = 0
 ·rw [hFE] at hfo
  rw [if_neg (by simp [hFE])] at hE
  clear hFE
  cases hh:j0 t c.path with
  | true =>
    obtain ⟨hk,hfa,hix⟩:=hrow hh
    rw [hix] at hea
    rw [hh,hfa] at hI
    have hr:=jB (f:=Ent.row) hk
    clear hrow hnorow hix
    generalize xg t c.path = k at *
    by_cases k3:c.kind = 3
    ·rw [hg3 k3] at hfo
     clear hg3 hg0
     refine qc Tryz.func32 rfl _ Tryz.ntmps32 (Nat.le_of_ble_eq_true rfl) _ Tryz.results32 0 rfl rfl ?_
     repeat' (first|refine qn ?_|(first|refine jv Tryz.func74 (hform ..) ?_|refine jv Tryz.func73 (hpo1 ..) ?_|refine jv Tryz.func73 (hpo2 ..) ?_|refine j1 Tryz.func72 (hfo ..) ?_|refine j1 Tryz.func75 (hea ..) ?_|refine j1 Tryz.func75 (heb ..) ?_|refine jv Tryz.func76 (hinn ..) ?_)|((first|refine qf ?_ ?_|refine qe ?_ ?_|refine xsC ?_ ?_);all_goals (intro hc;have hp:=hc;try simp at hp;try (exfalso;omega)))|refine qX ?_ ?_)
     all_goals try (exfalso;omega)
     all_goals first
      | ((refine xa (rs:=[.tmp 6,.tmp 7]) ?_;(repeat' (first|exact q5|apply qA|exact q4 rfl|exact yE|exact zz|apply jX|apply y5|apply jO|apply y3|apply yz|apply y4|refine zr ?_|apply x8));all_goals (clear hea heb hfo hform hinn hpo1 hpo2;simp_all)))
      | (exfalso;clear hea heb hfo hform hinn hpo1 hpo2;simp_all;done)
    ·rw [hg0 k3] at hfo
     clear hg3 hg0
     refine qc Tryz.func32 rfl _ Tryz.ntmps32 (Nat.le_of_ble_eq_true rfl) _ Tryz.results32 0 rfl rfl ?_
     repeat' (first|refine qn ?_|(first|refine jv Tryz.func74 (hform ..) ?_|refine jv Tryz.func73 (hpo1 ..) ?_|refine jv Tryz.func73 (hpo2 ..) ?_|refine j1 Tryz.func72 (hfo ..) ?_|refine j1 Tryz.func75 (hea ..) ?_|refine j1 Tryz.func75 (heb ..) ?_|refine jv Tryz.func76 (hinn ..) ?_)|((first|refine qf ?_ ?_|refine qe ?_ ?_|refine xsC ?_ ?_);all_goals (intro hc;have hp:=hc;try simp at hp;try (exfalso;omega)))|refine qX ?_ ?_)
     all_goals try (exfalso;omega)
     all_goals first
      | ((refine xa (rs:=[.tmp 6,.tmp 7]) ?_;(repeat' (first|exact q5|apply qA|exact q4 rfl|exact yE|exact zz|apply jX|apply y5|apply jO|apply y3|apply yz|apply y4|refine zr ?_|apply x8));all_goals (clear hea heb hfo hform hinn hpo1 hpo2;simp_all)))
      | (exfalso;clear hea heb hfo hform hinn hpo1 hpo2;simp_all;done)
  | false =>
    obtain ⟨hfa,hix⟩:=hnorow hh
    rw [hix] at hea
    rw [hh,hfa] at hI
    clear hrow hnorow hix
    by_cases k3:c.kind = 3
    ·rw [hg3 k3] at hfo
     clear hg3 hg0
     refine qc Tryz.func32 rfl _ Tryz.ntmps32 (Nat.le_of_ble_eq_true rfl) _ Tryz.results32 0 rfl rfl ?_
     repeat' (first|refine qn ?_|(first|refine jv Tryz.func74 (hform ..) ?_|refine jv Tryz.func73 (hpo1 ..) ?_|refine jv Tryz.func73 (hpo2 ..) ?_|refine j1 Tryz.func72 (hfo ..) ?_|refine j1 Tryz.func75 (hea ..) ?_|refine j1 Tryz.func75 (heb ..) ?_|refine jv Tryz.func76 (hinn ..) ?_)|((first|refine qf ?_ ?_|refine qe ?_ ?_|refine xsC ?_ ?_);all_goals (intro hc;have hp:=hc;try simp at hp;try (exfalso;omega)))|refine qX ?_ ?_)
     all_goals try (exfalso;omega)
     all_goals first
      | ((refine xa (rs:=[.tmp 6,.tmp 7]) ?_;(repeat' (first|exact q5|apply qA|exact q4 rfl|exact yE|exact zz|apply jX|apply y5|apply jO|apply y3|apply yz|apply y4|refine zr ?_|apply x8));all_goals (clear hea heb hfo hform hinn hpo1 hpo2;simp_all)))
      | (exfalso;clear hea heb hfo hform hinn hpo1 hpo2;simp_all;done)
    ·rw [hg0 k3] at hfo
     clear hg3 hg0
     refine qc Tryz.func32 rfl _ Tryz.ntmps32 (Nat.le_of_ble_eq_true rfl) _ Tryz.results32 0 rfl rfl ?_
     repeat' (first|refine qn ?_|(first|refine jv Tryz.func74 (hform ..) ?_|refine jv Tryz.func73 (hpo1 ..) ?_|refine jv Tryz.func73 (hpo2 ..) ?_|refine j1 Tryz.func72 (hfo ..) ?_|refine j1 Tryz.func75 (hea ..) ?_|refine j1 Tryz.func75 (heb ..) ?_|refine jv Tryz.func76 (hinn ..) ?_)|((first|refine qf ?_ ?_|refine qe ?_ ?_|refine xsC ?_ ?_);all_goals (intro hc;have hp:=hc;try simp at hp;try (exfalso;omega)))|refine qX ?_ ?_)
     all_goals try (exfalso;omega)
     all_goals first
      | ((refine xa (rs:=[.tmp 6,.tmp 7]) ?_;(repeat' (first|exact q5|apply qA|exact q4 rfl|exact yE|exact zz|apply jX|apply y5|apply jO|apply y3|apply yz|apply y4|refine zr ?_|apply x8));all_goals (clear hea heb hfo hform hinn hpo1 hpo2;simp_all)))
      | (exfalso;clear hea heb hfo hform hinn hpo1 hpo2;simp_all;done)
 ·rw [if_pos hFE] at hE
  subst hE
  clear hI hM hrow hnorow hto
  by_cases k3:c.kind = 3
  ·rw [hg3 k3] at hfo
   clear hg3 hg0
   refine qc Tryz.func32 rfl _ Tryz.ntmps32 (Nat.le_of_ble_eq_true rfl) _ Tryz.results32 0 rfl rfl ?_
   repeat' (first|refine qn ?_|(first|refine jv Tryz.func74 (hform ..) ?_|refine jv Tryz.func73 (hpo1 ..) ?_|refine jv Tryz.func73 (hpo2 ..) ?_|refine j1 Tryz.func72 (hfo ..) ?_|refine j1 Tryz.func75 (hea ..) ?_|refine j1 Tryz.func75 (heb ..) ?_|refine jv Tryz.func76 (hinn ..) ?_)|((first|refine qf ?_ ?_|refine qe ?_ ?_|refine xsC ?_ ?_);all_goals (intro hc;have hp:=hc;try simp at hp;try (exfalso;omega)))|refine qX ?_ ?_)
   all_goals try (exfalso;omega)
   all_goals ((exact zO (rs:=[.tmp 6,.tmp 7])))
  ·rw [hg0 k3] at hfo
   clear hg3 hg0
   refine qc Tryz.func32 rfl _ Tryz.ntmps32 (Nat.le_of_ble_eq_true rfl) _ Tryz.results32 0 rfl rfl ?_
   repeat' (first|refine qn ?_|(first|refine jv Tryz.func74 (hform ..) ?_|refine jv Tryz.func73 (hpo1 ..) ?_|refine jv Tryz.func73 (hpo2 ..) ?_|refine j1 Tryz.func72 (hfo ..) ?_|refine j1 Tryz.func75 (hea ..) ?_|refine j1 Tryz.func75 (heb ..) ?_|refine jv Tryz.func76 (hinn ..) ?_)|((first|refine qf ?_ ?_|refine qe ?_ ?_|refine xsC ?_ ?_);all_goals (intro hc;have hp:=hc;try simp at hp;try (exfalso;omega)))|refine qX ?_ ?_)
   all_goals try (exfalso;omega)
   all_goals ((exact zO (rs:=[.tmp 6,.tmp 7])))
end Go.Proofs.YtamejbkifpjhiaaGreatDoor
set_option linter.unusedSimpArgs false
set_option linter.unnecessarySimpa false
set_option linter.unusedVariables false
set_option maxHeartbeats 1000000
namespace Go.Proofs.YtamejbkifpjhiaaGreatDoor
open Go.Ab Go.RowKit
set_option maxRecDepth 10000
attribute [local irreducible] Awp yH jH jw Red ja Go.Ab.Fin qZ Rz vn jr jp ResOk j3 jC yC jA
theorem w8 {t:List Ent} {c:Chg} (h:vL t c = 0):ym t (qJ (jS c)) = 0 ∧ v8 t c = 0 ∧ zR t c = 0:=by
 unfold vL at h
 split at h
 ·contradiction
 ·split at h
  ·contradiction
  ·exact ⟨by omega,by omega,h⟩
theorem wW {c:Chg} (h:yc c = 0) : -1 ≤ c.base:=by
 have:=(yU h).2.2.2.2
 unfold zG at this
 split at this
 ·exact absurd this (by decide)
 ·split at this
  ·exact absurd this (by decide)
  ·split at this
   ·exact absurd this (by decide)
   ·omega
theorem qgF (t:List Ent) (c:Chg) (v:Int) (h60:t.length ≤ 60) (hs:qU jf t = true) (hgt : ∀ x,x ∈ t → qH x.path = 0) (hcs:c.small) (hk:c.kind = 1) (h0:yc c = 0) (h1:vL t c = 0) (h2:yb t c = 0):xH C.P 32 [qa t,.agg c.row,.v (.int .i64 v)] (.tup [qa (if j5 t c v = 0 then jh t c v else []),.v (.int .i64 (j5 t c v))]):=by
 obtain ⟨l1,l2,l3⟩:=hcs
 have hform:=vr c ⟨l1,l2,l3⟩
 have hpo1:=yS c.path (by omega)
 have hpo2:=yS c.to (by omega)
 have hfo:=vT t (qJ (jS c)) (by omega)
 have hea:=yl t c.path (by omega)
 have heb:=yl t c.to (by omega)
 have hinn:=vB c.to c.path (by omega) (by omega)
 have hkk:=yU h0
 have hbase : -1 ≤ c.base:=wW h0
 obtain ⟨hz1,hz2,hz3⟩:=w8 h1
 have hst : ∀ x,x ∈ t → ¬ c.base = -1 → (decide (c.base < x.ver) && inB x.path c.path) = false:=fun x hx hb=>by
  unfold yb at h2
  by_cases h3:t.any (x1 c) = true
  ·rw [if_pos ⟨hb,h3⟩] at h2;exact absurd h2 (by decide)
  ·have h4:t.any (x1 c) = false:=by simpa using h3
   rw [List.any_eq_false] at h4
   have h5:=h4 x hx
   simpa [x1] using h5
 clear h2
 have hx:j0 t c.path = false:=by
  unfold v8 at hz2
  rw [if_pos hk] at hz2
  cases h:j0 t c.path with
  | true=>simp [h] at hz2
  | false=>rfl
 rw [(xO hx).2] at hea
 have hg0:jS c = c.path:=by simp [jS,hk]
 rw [hz1,hg0] at hfo
 rw [h0] at hform
 have hput:xH C.P 77 [qa t,.agg [.v (str c.path),.v (.bool true),.v (str []),.v (.int .i64 v)]] (qa (jh t c v)):=by
  have h:=wB t ⟨c.path,true,[],v⟩ (by omega)
  rw [w9 hs] at h
  have hD:jh t c v = jR t ⟨c.path,true,[],v⟩:=by simp [jh,hk]
  rw [hD];exact h
 have hE:j5 t c v = if 60 < (jh t c v).length then 2 else 0:=by simp [j5,yP,hk]
 rw [hE]
 have hlen:=Jt t c v
 generalize jh t c v = L at *
 by_cases hL:60 < L.length
 ·rw [if_pos hL]
  refine qc Tryz.func32 rfl _ Tryz.ntmps32 (Nat.le_of_ble_eq_true rfl) _ Tryz.results32 0 rfl rfl ?_
  repeat' (first|refine qn ?_|(first|refine jv Tryz.func74 (hform ..) ?_|refine jv Tryz.func73 (hpo1 ..) ?_|refine jv Tryz.func73 (hpo2 ..) ?_|refine j1 Tryz.func72 (hfo ..) ?_|refine j1 Tryz.func75 (hea ..) ?_|refine j1 Tryz.func75 (heb ..) ?_|refine jv Tryz.func76 (hinn ..) ?_)|((first|refine qf ?_ ?_|refine qe ?_ ?_|refine xsC ?_ ?_);all_goals (intro hc;have hp:=hc;try simp at hp;try (exfalso;omega)))|refine qX ?_ ?_)
  all_goals try (exfalso;omega)
  refine xsZ 4 0 ?_
  (refine Awp.red (qI (ts:=[(0,qa t),(2,.v (.int .i64 v)),(4,.fp [c.row] 0 0),(11,.v (.int .i64 ((0:Nat):Int)))]) ?_) ?_;((repeat (first|exact qg|refine qo ?_|refine qY ?_ ?_))))
  refine qV (fun n σ => ∃ i:Nat,i ≤ t.length ∧ n = t.length - i ∧ (True) ∧ σ = ⟨[(0,qa t),(2,.v (.int .i64 v)),(4,.fp [c.row] 0 0),(11,.v (.int .i64 (i:Int)))],[],C.nh⟩) t.length ⟨0,Nat.zero_le _,rfl,trivial,rfl⟩ ?_
  rintro n σ ⟨i,hi,rfl, -,rfl⟩
  by_cases hlt:i < t.length
  ·have hr:=jB (f:=Ent.row) hlt
   have hnw:=hst t[i] (List.getElem_mem _)
   have hpl:=qQ (hgt t[i] (List.getElem_mem _))
   have hii:=vB t[i].path c.path (by omega) (by omega)
   generalize inB t[i].path c.path = IB at *
   repeat' (first|refine qn ?_|(first|refine jv Tryz.func76 (hii ..) ?_)|((first|refine qf ?_ ?_|refine qe ?_ ?_|refine xsC ?_ ?_);all_goals (intro hc;have hp:=hc;try simp at hp;try (exfalso;omega)))|refine qX ?_ ?_)
   all_goals try (exfalso;omega)
   all_goals try (
    have h9:=hnw (by omega)
    rw [Bool.and_eq_false_iff] at h9
    rcases h9 with h9|h9
    ·exact absurd (h9.symm.trans (by assumption)) Bool.false_ne_true
    ·exact absurd (h9.symm.trans (by assumption)) Bool.false_ne_true)
   all_goals first
    | (refine ⟨t.length - (i + 1),_,by omega,qI (ts:=[(0,qa t),(2,.v (.int .i64 v)),(4,.fp [c.row] 0 0),(11,.v (.int .i64 ((i + 1:Nat):Int)))]) ?_,i + 1,by omega,rfl,trivial,rfl⟩;((repeat (first|exact qg|refine qo ?_|refine qY ?_ ?_))))
    | ((repeat' (first|refine qn ?_|(first|refine j1 Tryz.func77 (hput ..) ?_)|((first|refine qf ?_ ?_|refine qe ?_ ?_|refine xsC ?_ ?_);all_goals (intro hc;have hp:=hc;try simp at hp;try (exfalso;omega)))|refine qX ?_ ?_));(all_goals try (exfalso;omega));(all_goals ((exact zO (rs:=[.tmp 6,.tmp 7])))))
  ·obtain rfl:i = t.length:=by omega
   (repeat' (first|refine qn ?_|(first|refine j1 Tryz.func77 (hput ..) ?_)|((first|refine qf ?_ ?_|refine qe ?_ ?_|refine xsC ?_ ?_);all_goals (intro hc;have hp:=hc;try simp at hp;try (exfalso;omega)))|refine qX ?_ ?_));(all_goals try (exfalso;omega));(all_goals ((exact zO (rs:=[.tmp 6,.tmp 7]))))
 ·rw [if_neg hL]
  refine qc Tryz.func32 rfl _ Tryz.ntmps32 (Nat.le_of_ble_eq_true rfl) _ Tryz.results32 0 rfl rfl ?_
  repeat' (first|refine qn ?_|(first|refine jv Tryz.func74 (hform ..) ?_|refine jv Tryz.func73 (hpo1 ..) ?_|refine jv Tryz.func73 (hpo2 ..) ?_|refine j1 Tryz.func72 (hfo ..) ?_|refine j1 Tryz.func75 (hea ..) ?_|refine j1 Tryz.func75 (heb ..) ?_|refine jv Tryz.func76 (hinn ..) ?_)|((first|refine qf ?_ ?_|refine qe ?_ ?_|refine xsC ?_ ?_);all_goals (intro hc;have hp:=hc;try simp at hp;try (exfalso;omega)))|refine qX ?_ ?_)
  all_goals try (exfalso;omega)
  refine xsZ 4 0 ?_
  (refine Awp.red (qI (ts:=[(0,qa t),(2,.v (.int .i64 v)),(4,.fp [c.row] 0 0),(11,.v (.int .i64 ((0:Nat):Int)))]) ?_) ?_;((repeat (first|exact qg|refine qo ?_|refine qY ?_ ?_))))
  refine qV (fun n σ => ∃ i:Nat,i ≤ t.length ∧ n = t.length - i ∧ (True) ∧ σ = ⟨[(0,qa t),(2,.v (.int .i64 v)),(4,.fp [c.row] 0 0),(11,.v (.int .i64 (i:Int)))],[],C.nh⟩) t.length ⟨0,Nat.zero_le _,rfl,trivial,rfl⟩ ?_
  rintro n σ ⟨i,hi,rfl, -,rfl⟩
  by_cases hlt:i < t.length
  ·have hr:=jB (f:=Ent.row) hlt
   have hnw:=hst t[i] (List.getElem_mem _)
   have hpl:=qQ (hgt t[i] (List.getElem_mem _))
   have hii:=vB t[i].path c.path (by omega) (by omega)
   generalize inB t[i].path c.path = IB at *
   repeat' (first|refine qn ?_|(first|refine jv Tryz.func76 (hii ..) ?_)|((first|refine qf ?_ ?_|refine qe ?_ ?_|refine xsC ?_ ?_);all_goals (intro hc;have hp:=hc;try simp at hp;try (exfalso;omega)))|refine qX ?_ ?_)
   all_goals try (exfalso;omega)
   all_goals try (
    have h9:=hnw (by omega)
    rw [Bool.and_eq_false_iff] at h9
    rcases h9 with h9|h9
    ·exact absurd (h9.symm.trans (by assumption)) Bool.false_ne_true
    ·exact absurd (h9.symm.trans (by assumption)) Bool.false_ne_true)
   all_goals first
    | (refine ⟨t.length - (i + 1),_,by omega,qI (ts:=[(0,qa t),(2,.v (.int .i64 v)),(4,.fp [c.row] 0 0),(11,.v (.int .i64 ((i + 1:Nat):Int)))]) ?_,i + 1,by omega,rfl,trivial,rfl⟩;((repeat (first|exact qg|refine qo ?_|refine qY ?_ ?_))))
    | ((repeat' (first|refine qn ?_|(first|refine j1 Tryz.func77 (hput ..) ?_)|((first|refine qf ?_ ?_|refine qe ?_ ?_|refine xsC ?_ ?_);all_goals (intro hc;have hp:=hc;try simp at hp;try (exfalso;omega)))|refine qX ?_ ?_));(all_goals try (exfalso;omega));(all_goals ((exact zO (rs:=[.tmp 6,.tmp 7])))))
  ·obtain rfl:i = t.length:=by omega
   (repeat' (first|refine qn ?_|(first|refine j1 Tryz.func77 (hput ..) ?_)|((first|refine qf ?_ ?_|refine qe ?_ ?_|refine xsC ?_ ?_);all_goals (intro hc;have hp:=hc;try simp at hp;try (exfalso;omega)))|refine qX ?_ ?_));(all_goals try (exfalso;omega));(all_goals ((exact zO (rs:=[.tmp 6,.tmp 7]))))
theorem qf5 (t:List Ent) (c:Chg) (v:Int) (h60:t.length ≤ 60) (hs:qU jf t = true) (hgt : ∀ x,x ∈ t → qH x.path = 0) (hcs:c.small) (hk:c.kind = 2) (hh:j0 t c.path = true) (h0:yc c = 0) (h1:vL t c = 0) (h2:yb t c = 0):xH C.P 32 [qa t,.agg c.row,.v (.int .i64 v)] (.tup [qa (if j5 t c v = 0 then jh t c v else []),.v (.int .i64 (j5 t c v))]):=by
 obtain ⟨l1,l2,l3⟩:=hcs
 have hform:=vr c ⟨l1,l2,l3⟩
 have hpo1:=yS c.path (by omega)
 have hpo2:=yS c.to (by omega)
 have hfo:=vT t (qJ (jS c)) (by omega)
 have hea:=yl t c.path (by omega)
 have heb:=yl t c.to (by omega)
 have hinn:=vB c.to c.path (by omega) (by omega)
 have hkk:=yU h0
 have hbase : -1 ≤ c.base:=wW h0
 obtain ⟨hz1,hz2,hz3⟩:=w8 h1
 have hst : ∀ x,x ∈ t → ¬ c.base = -1 → (decide (c.base < x.ver) && inB x.path c.path) = false:=fun x hx hb=>by
  unfold yb at h2
  by_cases h3:t.any (x1 c) = true
  ·rw [if_pos ⟨hb,h3⟩] at h2;exact absurd h2 (by decide)
  ·have h4:t.any (x1 c) = false:=by simpa using h3
   rw [List.any_eq_false] at h4
   have h5:=h4 x hx
   simpa [x1] using h5
 clear h2
 have hk1:¬ c.kind = 1:=by omega
 have hfa:vh t c.path = false:=by
  unfold v8 at hz2
  rw [if_neg hk1,if_pos hk] at hz2
  cases h:vh t c.path with
  | true=>simp [h] at hz2
  | false=>rfl
 have hg0:jS c = c.path:=by simp [jS,hk]
 rw [hz1,hg0] at hfo
 rw [h0] at hform
 have hput:xH C.P 77 [qa t,.agg [.v (str c.path),.v (.bool false),.v (str c.text),.v (.int .i64 v)]] (qa (jh t c v)):=by
  have h:=wB t ⟨c.path,false,c.text,v⟩ (by omega)
  rw [w9 hs] at h
  have hD:jh t c v = jR t ⟨c.path,false,c.text,v⟩:=by simp [jh,hk]
  rw [hD];exact h
 have hE:j5 t c v = if 60 < (jh t c v).length then 2 else 0:=by simp [j5,yP,hk]
 rw [hE]
 have hlen:=Jt t c v
 generalize jh t c v = L at *
 obtain ⟨hkk2,_,hfi,hix⟩:=zw hs hh
 have hrk:=jB (f:=Ent.row) hkk2
 have hfold:t[xg t c.path].fold = false:=by unfold vh at hfa;rw [hfi] at hfa;exact hfa
 rw [hix] at hea
 generalize xg t c.path = k at *
 by_cases hL:60 < L.length
 ·rw [if_pos hL]
  refine qc Tryz.func32 rfl _ Tryz.ntmps32 (Nat.le_of_ble_eq_true rfl) _ Tryz.results32 0 rfl rfl ?_
  repeat' (first|refine qn ?_|(first|refine jv Tryz.func74 (hform ..) ?_|refine jv Tryz.func73 (hpo1 ..) ?_|refine jv Tryz.func73 (hpo2 ..) ?_|refine j1 Tryz.func72 (hfo ..) ?_|refine j1 Tryz.func75 (hea ..) ?_|refine j1 Tryz.func75 (heb ..) ?_|refine jv Tryz.func76 (hinn ..) ?_)|((first|refine qf ?_ ?_|refine qe ?_ ?_|refine xsC ?_ ?_);all_goals (intro hc;have hp:=hc;try simp at hp;try (exfalso;omega)))|refine qX ?_ ?_)
  all_goals try (exfalso;omega)
  refine xsZ 4 0 ?_
  (refine Awp.red (qI (ts:=[(0,qa t),(2,.v (.int .i64 v)),(4,.fp [c.row] 0 0),(11,.v (.int .i64 ((0:Nat):Int)))]) ?_) ?_;((repeat (first|exact qg|refine qo ?_|refine qY ?_ ?_))))
  refine qV (fun n σ => ∃ i:Nat,i ≤ t.length ∧ n = t.length - i ∧ (True) ∧ σ = ⟨[(0,qa t),(2,.v (.int .i64 v)),(4,.fp [c.row] 0 0),(11,.v (.int .i64 (i:Int)))],[],C.nh⟩) t.length ⟨0,Nat.zero_le _,rfl,trivial,rfl⟩ ?_
  rintro n σ ⟨i,hi,rfl, -,rfl⟩
  by_cases hlt:i < t.length
  ·have hr:=jB (f:=Ent.row) hlt
   have hnw:=hst t[i] (List.getElem_mem _)
   have hpl:=qQ (hgt t[i] (List.getElem_mem _))
   have hii:=vB t[i].path c.path (by omega) (by omega)
   generalize inB t[i].path c.path = IB at *
   repeat' (first|refine qn ?_|(first|refine jv Tryz.func76 (hii ..) ?_)|((first|refine qf ?_ ?_|refine qe ?_ ?_|refine xsC ?_ ?_);all_goals (intro hc;have hp:=hc;try simp at hp;try (exfalso;omega)))|refine qX ?_ ?_)
   all_goals try (exfalso;omega)
   all_goals try (
    have h9:=hnw (by omega)
    rw [Bool.and_eq_false_iff] at h9
    rcases h9 with h9|h9
    ·exact absurd (h9.symm.trans (by assumption)) Bool.false_ne_true
    ·exact absurd (h9.symm.trans (by assumption)) Bool.false_ne_true)
   all_goals first
    | (refine ⟨t.length - (i + 1),_,by omega,qI (ts:=[(0,qa t),(2,.v (.int .i64 v)),(4,.fp [c.row] 0 0),(11,.v (.int .i64 ((i + 1:Nat):Int)))]) ?_,i + 1,by omega,rfl,trivial,rfl⟩;((repeat (first|exact qg|refine qo ?_|refine qY ?_ ?_))))
    | ((repeat' (first|refine qn ?_|(first|refine j1 Tryz.func77 (hput ..) ?_)|((first|refine qf ?_ ?_|refine qe ?_ ?_|refine xsC ?_ ?_);all_goals (intro hc;have hp:=hc;try simp at hp;try (exfalso;omega)))|refine qX ?_ ?_));(all_goals try (exfalso;omega));(all_goals ((exact zO (rs:=[.tmp 6,.tmp 7])))))
  ·obtain rfl:i = t.length:=by omega
   (repeat' (first|refine qn ?_|(first|refine j1 Tryz.func77 (hput ..) ?_)|((first|refine qf ?_ ?_|refine qe ?_ ?_|refine xsC ?_ ?_);all_goals (intro hc;have hp:=hc;try simp at hp;try (exfalso;omega)))|refine qX ?_ ?_));(all_goals try (exfalso;omega));(all_goals ((exact zO (rs:=[.tmp 6,.tmp 7]))))
 ·rw [if_neg hL]
  refine qc Tryz.func32 rfl _ Tryz.ntmps32 (Nat.le_of_ble_eq_true rfl) _ Tryz.results32 0 rfl rfl ?_
  repeat' (first|refine qn ?_|(first|refine jv Tryz.func74 (hform ..) ?_|refine jv Tryz.func73 (hpo1 ..) ?_|refine jv Tryz.func73 (hpo2 ..) ?_|refine j1 Tryz.func72 (hfo ..) ?_|refine j1 Tryz.func75 (hea ..) ?_|refine j1 Tryz.func75 (heb ..) ?_|refine jv Tryz.func76 (hinn ..) ?_)|((first|refine qf ?_ ?_|refine qe ?_ ?_|refine xsC ?_ ?_);all_goals (intro hc;have hp:=hc;try simp at hp;try (exfalso;omega)))|refine qX ?_ ?_)
  all_goals try (exfalso;omega)
  refine xsZ 4 0 ?_
  (refine Awp.red (qI (ts:=[(0,qa t),(2,.v (.int .i64 v)),(4,.fp [c.row] 0 0),(11,.v (.int .i64 ((0:Nat):Int)))]) ?_) ?_;((repeat (first|exact qg|refine qo ?_|refine qY ?_ ?_))))
  refine qV (fun n σ => ∃ i:Nat,i ≤ t.length ∧ n = t.length - i ∧ (True) ∧ σ = ⟨[(0,qa t),(2,.v (.int .i64 v)),(4,.fp [c.row] 0 0),(11,.v (.int .i64 (i:Int)))],[],C.nh⟩) t.length ⟨0,Nat.zero_le _,rfl,trivial,rfl⟩ ?_
  rintro n σ ⟨i,hi,rfl, -,rfl⟩
  by_cases hlt:i < t.length
  ·have hr:=jB (f:=Ent.row) hlt
   have hnw:=hst t[i] (List.getElem_mem _)
   have hpl:=qQ (hgt t[i] (List.getElem_mem _))
   have hii:=vB t[i].path c.path (by omega) (by omega)
   generalize inB t[i].path c.path = IB at *
   repeat' (first|refine qn ?_|(first|refine jv Tryz.func76 (hii ..) ?_)|((first|refine qf ?_ ?_|refine qe ?_ ?_|refine xsC ?_ ?_);all_goals (intro hc;have hp:=hc;try simp at hp;try (exfalso;omega)))|refine qX ?_ ?_)
   all_goals try (exfalso;omega)
   all_goals try (
    have h9:=hnw (by omega)
    rw [Bool.and_eq_false_iff] at h9
    rcases h9 with h9|h9
    ·exact absurd (h9.symm.trans (by assumption)) Bool.false_ne_true
    ·exact absurd (h9.symm.trans (by assumption)) Bool.false_ne_true)
   all_goals first
    | (refine ⟨t.length - (i + 1),_,by omega,qI (ts:=[(0,qa t),(2,.v (.int .i64 v)),(4,.fp [c.row] 0 0),(11,.v (.int .i64 ((i + 1:Nat):Int)))]) ?_,i + 1,by omega,rfl,trivial,rfl⟩;((repeat (first|exact qg|refine qo ?_|refine qY ?_ ?_))))
    | ((repeat' (first|refine qn ?_|(first|refine j1 Tryz.func77 (hput ..) ?_)|((first|refine qf ?_ ?_|refine qe ?_ ?_|refine xsC ?_ ?_);all_goals (intro hc;have hp:=hc;try simp at hp;try (exfalso;omega)))|refine qX ?_ ?_));(all_goals try (exfalso;omega));(all_goals ((exact zO (rs:=[.tmp 6,.tmp 7])))))
  ·obtain rfl:i = t.length:=by omega
   (repeat' (first|refine qn ?_|(first|refine j1 Tryz.func77 (hput ..) ?_)|((first|refine qf ?_ ?_|refine qe ?_ ?_|refine xsC ?_ ?_);all_goals (intro hc;have hp:=hc;try simp at hp;try (exfalso;omega)))|refine qX ?_ ?_));(all_goals try (exfalso;omega));(all_goals ((exact zO (rs:=[.tmp 6,.tmp 7]))))
theorem qf4 (t:List Ent) (c:Chg) (v:Int) (h60:t.length ≤ 60) (hs:qU jf t = true) (hgt : ∀ x,x ∈ t → qH x.path = 0) (hcs:c.small) (hk:c.kind = 2) (hh:j0 t c.path = false) (h0:yc c = 0) (h1:vL t c = 0) (h2:yb t c = 0):xH C.P 32 [qa t,.agg c.row,.v (.int .i64 v)] (.tup [qa (if j5 t c v = 0 then jh t c v else []),.v (.int .i64 (j5 t c v))]):=by
 obtain ⟨l1,l2,l3⟩:=hcs
 have hform:=vr c ⟨l1,l2,l3⟩
 have hpo1:=yS c.path (by omega)
 have hpo2:=yS c.to (by omega)
 have hfo:=vT t (qJ (jS c)) (by omega)
 have hea:=yl t c.path (by omega)
 have heb:=yl t c.to (by omega)
 have hinn:=vB c.to c.path (by omega) (by omega)
 have hkk:=yU h0
 have hbase : -1 ≤ c.base:=wW h0
 obtain ⟨hz1,hz2,hz3⟩:=w8 h1
 have hst : ∀ x,x ∈ t → ¬ c.base = -1 → (decide (c.base < x.ver) && inB x.path c.path) = false:=fun x hx hb=>by
  unfold yb at h2
  by_cases h3:t.any (x1 c) = true
  ·rw [if_pos ⟨hb,h3⟩] at h2;exact absurd h2 (by decide)
  ·have h4:t.any (x1 c) = false:=by simpa using h3
   rw [List.any_eq_false] at h4
   have h5:=h4 x hx
   simpa [x1] using h5
 clear h2
 have hk1:¬ c.kind = 1:=by omega
 have hfa:vh t c.path = false:=by
  unfold v8 at hz2
  rw [if_neg hk1,if_pos hk] at hz2
  cases h:vh t c.path with
  | true=>simp [h] at hz2
  | false=>rfl
 have hg0:jS c = c.path:=by simp [jS,hk]
 rw [hz1,hg0] at hfo
 rw [h0] at hform
 have hput:xH C.P 77 [qa t,.agg [.v (str c.path),.v (.bool false),.v (str c.text),.v (.int .i64 v)]] (qa (jh t c v)):=by
  have h:=wB t ⟨c.path,false,c.text,v⟩ (by omega)
  rw [w9 hs] at h
  have hD:jh t c v = jR t ⟨c.path,false,c.text,v⟩:=by simp [jh,hk]
  rw [hD];exact h
 have hE:j5 t c v = if 60 < (jh t c v).length then 2 else 0:=by simp [j5,yP,hk]
 rw [hE]
 have hlen:=Jt t c v
 generalize jh t c v = L at *
 rw [(xO hh).2] at hea
 by_cases hL:60 < L.length
 ·rw [if_pos hL]
  refine qc Tryz.func32 rfl _ Tryz.ntmps32 (Nat.le_of_ble_eq_true rfl) _ Tryz.results32 0 rfl rfl ?_
  repeat' (first|refine qn ?_|(first|refine jv Tryz.func74 (hform ..) ?_|refine jv Tryz.func73 (hpo1 ..) ?_|refine jv Tryz.func73 (hpo2 ..) ?_|refine j1 Tryz.func72 (hfo ..) ?_|refine j1 Tryz.func75 (hea ..) ?_|refine j1 Tryz.func75 (heb ..) ?_|refine jv Tryz.func76 (hinn ..) ?_)|((first|refine qf ?_ ?_|refine qe ?_ ?_|refine xsC ?_ ?_);all_goals (intro hc;have hp:=hc;try simp at hp;try (exfalso;omega)))|refine qX ?_ ?_)
  all_goals try (exfalso;omega)
  refine xsZ 4 0 ?_
  (refine Awp.red (qI (ts:=[(0,qa t),(2,.v (.int .i64 v)),(4,.fp [c.row] 0 0),(11,.v (.int .i64 ((0:Nat):Int)))]) ?_) ?_;((repeat (first|exact qg|refine qo ?_|refine qY ?_ ?_))))
  refine qV (fun n σ => ∃ i:Nat,i ≤ t.length ∧ n = t.length - i ∧ (True) ∧ σ = ⟨[(0,qa t),(2,.v (.int .i64 v)),(4,.fp [c.row] 0 0),(11,.v (.int .i64 (i:Int)))],[],C.nh⟩) t.length ⟨0,Nat.zero_le _,rfl,trivial,rfl⟩ ?_
  rintro n σ ⟨i,hi,rfl, -,rfl⟩
  by_cases hlt:i < t.length
  ·have hr:=jB (f:=Ent.row) hlt
   have hnw:=hst t[i] (List.getElem_mem _)
   have hpl:=qQ (hgt t[i] (List.getElem_mem _))
   have hii:=vB t[i].path c.path (by omega) (by omega)
   generalize inB t[i].path c.path = IB at *
   repeat' (first|refine qn ?_|(first|refine jv Tryz.func76 (hii ..) ?_)|((first|refine qf ?_ ?_|refine qe ?_ ?_|refine xsC ?_ ?_);all_goals (intro hc;have hp:=hc;try simp at hp;try (exfalso;omega)))|refine qX ?_ ?_)
   all_goals try (exfalso;omega)
   all_goals try (
    have h9:=hnw (by omega)
    rw [Bool.and_eq_false_iff] at h9
    rcases h9 with h9|h9
    ·exact absurd (h9.symm.trans (by assumption)) Bool.false_ne_true
    ·exact absurd (h9.symm.trans (by assumption)) Bool.false_ne_true)
   all_goals first
    | (refine ⟨t.length - (i + 1),_,by omega,qI (ts:=[(0,qa t),(2,.v (.int .i64 v)),(4,.fp [c.row] 0 0),(11,.v (.int .i64 ((i + 1:Nat):Int)))]) ?_,i + 1,by omega,rfl,trivial,rfl⟩;((repeat (first|exact qg|refine qo ?_|refine qY ?_ ?_))))
    | ((repeat' (first|refine qn ?_|(first|refine j1 Tryz.func77 (hput ..) ?_)|((first|refine qf ?_ ?_|refine qe ?_ ?_|refine xsC ?_ ?_);all_goals (intro hc;have hp:=hc;try simp at hp;try (exfalso;omega)))|refine qX ?_ ?_));(all_goals try (exfalso;omega));(all_goals ((exact zO (rs:=[.tmp 6,.tmp 7])))))
  ·obtain rfl:i = t.length:=by omega
   (repeat' (first|refine qn ?_|(first|refine j1 Tryz.func77 (hput ..) ?_)|((first|refine qf ?_ ?_|refine qe ?_ ?_|refine xsC ?_ ?_);all_goals (intro hc;have hp:=hc;try simp at hp;try (exfalso;omega)))|refine qX ?_ ?_));(all_goals try (exfalso;omega));(all_goals ((exact zO (rs:=[.tmp 6,.tmp 7]))))
 ·rw [if_neg hL]
  refine qc Tryz.func32 rfl _ Tryz.ntmps32 (Nat.le_of_ble_eq_true rfl) _ Tryz.results32 0 rfl rfl ?_
  repeat' (first|refine qn ?_|(first|refine jv Tryz.func74 (hform ..) ?_|refine jv Tryz.func73 (hpo1 ..) ?_|refine jv Tryz.func73 (hpo2 ..) ?_|refine j1 Tryz.func72 (hfo ..) ?_|refine j1 Tryz.func75 (hea ..) ?_|refine j1 Tryz.func75 (heb ..) ?_|refine jv Tryz.func76 (hinn ..) ?_)|((first|refine qf ?_ ?_|refine qe ?_ ?_|refine xsC ?_ ?_);all_goals (intro hc;have hp:=hc;try simp at hp;try (exfalso;omega)))|refine qX ?_ ?_)
  all_goals try (exfalso;omega)
  refine xsZ 4 0 ?_
  (refine Awp.red (qI (ts:=[(0,qa t),(2,.v (.int .i64 v)),(4,.fp [c.row] 0 0),(11,.v (.int .i64 ((0:Nat):Int)))]) ?_) ?_;((repeat (first|exact qg|refine qo ?_|refine qY ?_ ?_))))
  refine qV (fun n σ => ∃ i:Nat,i ≤ t.length ∧ n = t.length - i ∧ (True) ∧ σ = ⟨[(0,qa t),(2,.v (.int .i64 v)),(4,.fp [c.row] 0 0),(11,.v (.int .i64 (i:Int)))],[],C.nh⟩) t.length ⟨0,Nat.zero_le _,rfl,trivial,rfl⟩ ?_
  rintro n σ ⟨i,hi,rfl, -,rfl⟩
  by_cases hlt:i < t.length
  ·have hr:=jB (f:=Ent.row) hlt
   have hnw:=hst t[i] (List.getElem_mem _)
   have hpl:=qQ (hgt t[i] (List.getElem_mem _))
   have hii:=vB t[i].path c.path (by omega) (by omega)
   generalize inB t[i].path c.path = IB at *
   repeat' (first|refine qn ?_|(first|refine jv Tryz.func76 (hii ..) ?_)|((first|refine qf ?_ ?_|refine qe ?_ ?_|refine xsC ?_ ?_);all_goals (intro hc;have hp:=hc;try simp at hp;try (exfalso;omega)))|refine qX ?_ ?_)
   all_goals try (exfalso;omega)
   all_goals try (
    have h9:=hnw (by omega)
    rw [Bool.and_eq_false_iff] at h9
    rcases h9 with h9|h9
    ·exact absurd (h9.symm.trans (by assumption)) Bool.false_ne_true
    ·exact absurd (h9.symm.trans (by assumption)) Bool.false_ne_true)
   all_goals first
    | (refine ⟨t.length - (i + 1),_,by omega,qI (ts:=[(0,qa t),(2,.v (.int .i64 v)),(4,.fp [c.row] 0 0),(11,.v (.int .i64 ((i + 1:Nat):Int)))]) ?_,i + 1,by omega,rfl,trivial,rfl⟩;((repeat (first|exact qg|refine qo ?_|refine qY ?_ ?_))))
    | ((repeat' (first|refine qn ?_|(first|refine j1 Tryz.func77 (hput ..) ?_)|((first|refine qf ?_ ?_|refine qe ?_ ?_|refine xsC ?_ ?_);all_goals (intro hc;have hp:=hc;try simp at hp;try (exfalso;omega)))|refine qX ?_ ?_));(all_goals try (exfalso;omega));(all_goals ((exact zO (rs:=[.tmp 6,.tmp 7])))))
  ·obtain rfl:i = t.length:=by omega
   (repeat' (first|refine qn ?_|(first|refine j1 Tryz.func77 (hput ..) ?_)|((first|refine qf ?_ ?_|refine qe ?_ ?_|refine xsC ?_ ?_);all_goals (intro hc;have hp:=hc;try simp at hp;try (exfalso;omega)))|refine qX ?_ ?_));(all_goals try (exfalso;omega));(all_goals ((exact zO (rs:=[.tmp 6,.tmp 7]))))
theorem qgG (t:List Ent) (c:Chg) (v:Int) (h60:t.length ≤ 60) (hs:qU jf t = true) (hgt : ∀ x,x ∈ t → qH x.path = 0) (hcs:c.small) (hk:c.kind = 2) (h0:yc c = 0) (h1:vL t c = 0) (h2:yb t c = 0):xH C.P 32 [qa t,.agg c.row,.v (.int .i64 v)] (.tup [qa (if j5 t c v = 0 then jh t c v else []),.v (.int .i64 (j5 t c v))]):=by
 cases hh:j0 t c.path with
 | true=>exact qf5 t c v h60 hs hgt hcs hk hh h0 h1 h2
 | false=>exact qf4 t c v h60 hs hgt hcs hk hh h0 h1 h2
end Go.Proofs.YtamejbkifpjhiaaGreatDoor
