import Derived.Test.YtiljlcgmcmjcoaaGreatDoorMz15
import Derived.Test.YtiljlcgmcmjcoaaGreatDoorMz21
import Derived.Test.YtiljlcgmcmjcoaaGreatDoorMz16
import Derived.Test.YtiljlcgmcmjcoaaGreatDoorMz14
set_option linter.unusedSimpArgs false
set_option linter.unnecessarySimpa false
set_option linter.unusedVariables false
set_option maxHeartbeats 1000000
namespace Go.Proofs.YtiljlcgmcmjcoaaGreatDoor
open Go.Ab Go.RowKit
set_option maxRecDepth 10000
attribute [local irreducible] Awp ye ji qQ Red qF Go.Ab.Fin qo Rz xx qG qO ResOk jK je jX qW
def Ya (j:Jou) (t:List Ent):List AV:=[qr j.base,.v (.int .i64 j.first),kg j.coms,qr t]
def Kj (j:Jou) (r:List Ent × Int):AV:=if r.2 = 0 then .tup [.fp [Ya j r.1] 0 0,.v (.int .i64 0)] else .tup [.v (.pointer none),.v (.int .i64 r.2)]
def Yr (j:Jou):List Ent × Int :=
 if ¬ jJ j.base = 0 then ([],jJ j.base) else if j.first < 1 ∨ 1000000 < j.first then ([],3) else if 30 < j.coms.length then ([],2)
 else if ¬ (yP j.first j.base j.coms).2 = 0 then ([],(yP j.first j.base j.coms).2) else if kP j.coms = true then (vc j,0) else ([],6)
theorem Wa (j:Jou):(Yr j).2 = vM j:=by
 unfold Yr vM
 (repeat' split)<;>simp_all
theorem KV {j:Jou} (h:vM j = 0):Yr j = (vc j,0):=by
 have hR:=xE.1 h
 unfold Yr
 rw [if_neg (by simp [zD.2 hR.base]),if_neg (by have:=hR.lo;have:=hR.hi;omega),if_neg (by have:=hR.len;omega),if_neg (by simp [hR.run]),if_pos (by simp [kP,hR.keys])]
theorem wL {j:Jou} {e:Int} (h:¬ e = 0):Kj j ([],e) = .tup [.v (.pointer none),.v (.int .i64 e)]:=if_neg h
theorem qdl (l:List Com):kP l = true ↔ ¬ (ko (l.map Com.key)).length < l.length:=by
 have:=qf0 (l.map Com.key)
 rw [List.length_map] at this
 rw [this]
 simp [kP]
theorem qea {l:List Com} {i:Nat} (h:i < l.length):ko ((l.take (i + 1)).map Com.key) = xz (ko ((l.take i).map Com.key)) l[i].key yes:=by
 rw [List.take_succ_eq_append_getElem h,List.map_append];exact Yg _ _
theorem XS (j:Jou) (hb:JBig j):jO C.P 74 [.agg j.row] (Kj j (Yr j)):=by
 have hc:=qfR j.base hb.base
 have hml:(j.coms.map Com.row).length = j.coms.length:=List.length_map ..
 have hE:Yr j = if ¬ jJ j.base = 0 then ([],jJ j.base) else if j.first < 1 ∨ 1000000 < j.first then ([],3) else if 30 < j.coms.length then ([],2) else if ¬ (yP j.first j.base j.coms).2 = 0 then ([],(yP j.first j.base j.coms).2) else if kP j.coms = true then ((yP j.first j.base j.coms).1,0) else ([],6):=rfl
 by_cases h1:jJ j.base = 0
 ·rw [if_neg (by simp [h1])] at hE
  rw [h1] at hc
  by_cases h2:j.first < 1 ∨ 1000000 < j.first
  ·rw [if_pos h2] at hE
   rw [hE,wL (by decide)]
   refine qa Tryz.func74 rfl _ Tryz.ntmps74 (Nat.le_of_ble_eq_true rfl) _ Tryz.results74 0 rfl rfl ?_
   repeat' (first|refine qe ?_|(first|refine xsQ Tryz.func117 (hc ..) ?_)|((first|refine qb ?_ ?_|refine qc ?_ ?_|refine xsC ?_ ?_);all_goals (intro hc;have hp:=hc;try simp at hp;try (exfalso;omega)))|refine qp ?_ ?_)
   all_goals try (exfalso;omega)
   all_goals ((exact j1 (rs:=[.tmp 2,.tmp 3])))
  ·rw [if_neg h2] at hE
   by_cases h3:30 < j.coms.length
   ·rw [if_pos h3] at hE
    rw [hE,wL (by decide)]
    refine qa Tryz.func74 rfl _ Tryz.ntmps74 (Nat.le_of_ble_eq_true rfl) _ Tryz.results74 0 rfl rfl ?_
    repeat' (first|refine qe ?_|(first|refine xsQ Tryz.func117 (hc ..) ?_)|((first|refine qb ?_ ?_|refine qc ?_ ?_|refine xsC ?_ ?_);all_goals (intro hc;have hp:=hc;try simp at hp;try (exfalso;omega)))|refine qp ?_ ?_)
    all_goals try (exfalso;omega)
    all_goals ((exact j1 (rs:=[.tmp 2,.tmp 3])))
   ·rw [if_neg h3] at hE
    have hk:=qdl j.coms
    have hR:=zD.1 h1
    generalize hRR:yP j.first j.base j.coms = R at *
    generalize Yr j = O at *
    generalize kP j.coms = K at *
    refine qa Tryz.func74 rfl _ Tryz.ntmps74 (Nat.le_of_ble_eq_true rfl) _ Tryz.results74 0 rfl rfl ?_
    repeat' (first|refine qe ?_|(first|refine xsQ Tryz.func117 (hc ..) ?_|(apply yW;apply zr;exact nle rfl))|((first|refine qb ?_ ?_|refine qc ?_ ?_|refine xsC ?_ ?_);all_goals (intro hc;have hp:=hc;try simp at hp;try (exfalso;omega)))|refine qp ?_ ?_)
    all_goals try (exfalso;omega)
    (refine Awp.red (qY (τ:=⟨[(1,.op 0 0 0),(5,.op 1 0 0),(6,.mp 2),(39,kg j.coms),(40,.v (.int .i64 j.coms.length)),(41,.v (.int .i64 ((0:Nat):Int)))],[(0,.own false 3 [j.row]),(1,.own false 4 [Ya j j.base]),(2,.mp (ko ((j.coms.take 0).map Com.key)))],3⟩) [(0,0),(1,1),(2,2)] rfl ?gts2 ?ghs2) ?gmain2;(case gts2=>(repeat (first|exact qd|refine qi ?_|refine xd ?_|refine ZX ?_|refine qja ?_|refine Zd ?_ ?_|refine qI ?_ ?_));all_goals (first|(rw [List.length_map];done)|rfl|exact nofun));(case ghs2=>(repeat (first|exact qf|refine Ji ?_|refine qiY ?_ ?_ ?_|refine qH ?_ ?_));all_goals (first|(rw [List.length_map];done)|rfl|exact nofun)))
    refine qq (fun n σ => ∃ (i:Nat) (u:List Ent),i ≤ j.coms.length ∧ n = j.coms.length - i ∧ (R = yP (j.first + i) u (j.coms.drop i) ∧ Right u) ∧ σ = ⟨[(1,.op 0 0 0),(5,.op 1 0 0),(6,.mp 2),(39,kg j.coms),(40,.v (.int .i64 j.coms.length)),(41,.v (.int .i64 (i:Int)))],[(0,.own false 3 [j.row]),(1,.own false 4 [Ya j u]),(2,.mp (ko ((j.coms.take i).map Com.key)))],3⟩) j.coms.length ⟨0,j.base,Nat.zero_le _,rfl,⟨by rw [← hRR];simp,hR⟩,rfl⟩ ?_
    rintro n σ ⟨i,u,hi,rfl,⟨hRi,hRu⟩,rfl⟩
    by_cases hlt:i < j.coms.length
    ·have hr:=qx (f:=Com.row) hlt
     have hcs:=hb.coms.each j.coms[i] (List.getElem_mem _)
     have hkey:=V8 j.coms[i].key
     have hall:=qaT u j.coms[i].chs j.coms[i].num hRu.big hcs.chs
     have hkm:=qea hlt
     have hkp:=Yc ((j.coms.take (i + 1)).map Com.key)
     have hcl:(j.coms[i].chs.map Chg.row).length = j.coms[i].chs.length:=List.length_map ..
     have hnil:j.coms[i].chs = [] ↔ j.coms[i].chs.length = 0:=List.length_eq_zero_iff.symm
     rw [ZL hlt] at hRi
     by_cases hce:zS (j.first + i) j.coms[i] = 0
     ·obtain ⟨e1,e2,e3,e4⟩:=z8 hce
      rw [if_neg (by simp [hce])] at hRi
      rw [e3] at hkey
      have hRn := @w5 j.coms[i].num u j.coms[i].chs hRu
      generalize vF j.coms[i].num u j.coms[i].chs = T at *
      obtain ⟨t2,n2,er⟩:=T
      by_cases hz:er = 0
      ·subst hz
       rw [if_neg (by simp)] at hRi
       have hRn:=hRn rfl
       have hRi2:R = yP (j.first + ((i + 1:Nat):Int)) t2 (j.coms.drop (i + 1)):=by rw [hRi];congr 1;omega
       clear hRi hRR hE hce e3
       repeat' (first|refine qe ?_|(first|refine xsF Tryz.func118 (hkey ..) ?_|refine xsQ Tryz.func119 (hall ..) ?_|(apply xS;apply vw;rfl;rfl;rfl;rfl;rfl;rfl;rfl;rfl))|((first|refine qb ?_ ?_|refine qc ?_ ?_|refine xsC ?_ ?_);all_goals (intro hc;have hp:=hc;try simp at hp;try (exfalso;omega)))|refine qp ?_ ?_)
       all_goals try (exfalso;first|omega|(simp_all;done))
       refine ⟨j.coms.length - (i + 1),_,by omega,qY (τ:=⟨[(1,.op 0 0 0),(5,.op 1 0 0),(6,.mp 2),(39,kg j.coms),(40,.v (.int .i64 j.coms.length)),(41,.v (.int .i64 ((i + 1:Nat):Int)))],[(0,.own false 3 [j.row]),(1,.own false 4 [Ya j t2]),(2,.mp (ko ((j.coms.take (i + 1)).map Com.key)))],3⟩) [(0,0),(1,1),(2,2)] rfl ?gts ?ghs,i + 1,t2,by omega,rfl,⟨hRi2,hRn⟩,rfl⟩;(case gts=>(repeat (first|exact qd|refine qi ?_|refine xd ?_|refine ZX ?_|refine qja ?_|refine Zd ?_ ?_|refine qI ?_ ?_));all_goals (first|(rw [hkm];rfl)|exact hkp|rfl));(case ghs=>(repeat (first|exact qf|refine Ji ?_|refine qiY ?_ ?_ ?_|refine qH ?_ ?_));all_goals (first|(rw [hkm];rfl)|exact hkp|rfl))
      ·rw [if_pos hz] at hRi
       rw [hRi,if_pos hz] at hE
       rw [hE,wL hz]
       clear hRi hRR hE hce e3
       repeat' (first|refine qe ?_|(first|refine xsF Tryz.func118 (hkey ..) ?_|refine xsQ Tryz.func119 (hall ..) ?_)|((first|refine qb ?_ ?_|refine qc ?_ ?_|refine xsC ?_ ?_);all_goals (intro hc;have hp:=hc;try simp at hp;try (exfalso;omega)))|refine qp ?_ ?_)
       all_goals try (exfalso;first|omega|(simp_all;done))
       (exact j1 (rs:=[.tmp 2,.tmp 3]))
     ·rw [if_pos hce] at hRi
      rw [hRi,if_pos hce] at hE
      rw [hE,wL hce]
      clear hRi hRR hE hk hkm hkp hall hRu
      have hcv:zS (j.first + i) j.coms[i] = if ¬ j.coms[i].num = j.first + i then 4 else if 1000000 < j.coms[i].num then 3 else if zo j.coms[i].key = false ∨ j.coms[i].chs = [] then 1 else 0:=rfl
      generalize zo j.coms[i].key = KK at *
      generalize hCE:zS (j.first + i) j.coms[i] = CE at *
      clear hCE
      by_cases n1:j.coms[i].num = j.first + i
      ·rw [if_neg (by simp [n1])] at hcv
       by_cases n2:1000000 < j.coms[i].num
       ·rw [if_pos n2] at hcv
        subst hcv
        (repeat' (first|refine qe ?_|(first|refine xsF Tryz.func118 (hkey ..) ?_)|((first|refine qb ?_ ?_|refine qc ?_ ?_|refine xsC ?_ ?_);all_goals (intro hc;have hp:=hc;try simp at hp;try (exfalso;omega)))|refine qp ?_ ?_))
        (all_goals try (exfalso;first|omega|contradiction))
        (all_goals ((exact j1 (rs:=[.tmp 2,.tmp 3]))))
       ·rw [if_neg n2] at hcv
        have hz:KK = false ∨ j.coms[i].chs.length = 0:=by
         by_cases hq:KK = false ∨ j.coms[i].chs = []
         ·exact hq.imp id hnil.1
         ·rw [if_neg hq] at hcv;exact absurd hcv hce
        obtain rfl:CE = 1:=by rw [hcv,if_pos (hz.imp id hnil.2)]
        clear hcv hce
        cases KK with
        | false =>
          (repeat' (first|refine qe ?_|(first|refine xsF Tryz.func118 (hkey ..) ?_)|((first|refine qb ?_ ?_|refine qc ?_ ?_|refine xsC ?_ ?_);all_goals (intro hc;have hp:=hc;try simp at hp;try (exfalso;omega)))|refine qp ?_ ?_))
          (all_goals try (exfalso;first|omega|contradiction))
          (all_goals ((exact j1 (rs:=[.tmp 2,.tmp 3]))))
        | true =>
          have hz:j.coms[i].chs.length = 0:=hz.resolve_left (by decide)
          have hz2:=hnil.2 hz
          (repeat' (first|refine qe ?_|(first|refine xsF Tryz.func118 (hkey ..) ?_)|((first|refine qb ?_ ?_|refine qc ?_ ?_|refine xsC ?_ ?_);all_goals (intro hc;have hp:=hc;try simp at hp;try (exfalso;omega)))|refine qp ?_ ?_))
          (all_goals try (exfalso;first|omega|contradiction))
          (all_goals ((exact j1 (rs:=[.tmp 2,.tmp 3]))))
      ·rw [if_pos n1] at hcv
       subst hcv
       (repeat' (first|refine qe ?_|(first|refine xsF Tryz.func118 (hkey ..) ?_)|((first|refine qb ?_ ?_|refine qc ?_ ?_|refine xsC ?_ ?_);all_goals (intro hc;have hp:=hc;try simp at hp;try (exfalso;omega)))|refine qp ?_ ?_))
       (all_goals try (exfalso;first|omega|contradiction))
       (all_goals ((exact j1 (rs:=[.tmp 2,.tmp 3]))))
    ·obtain rfl:i = j.coms.length:=by omega
     rw [List.drop_length] at hRi
     rw [hRi,if_neg (by simp [yP])] at hE
     rw [List.take_length]
     have hE:O = if K = true then (u,0) else ([],6):=hE
     refine xV 5 1 ?_
     cases K with
     | true =>
       rw [if_pos rfl] at hE
       have hk:=hk.1 rfl
       rw [hE]
       clear hRi hRR hE
       repeat' (first|refine qe ?_|(first|(apply qj;apply zE;rfl;rfl;rfl;rfl;exact nle rfl))|((first|refine qb ?_ ?_|refine qc ?_ ?_|refine xsC ?_ ?_);all_goals (intro hc;have hp:=hc;try simp at hp;try (exfalso;omega)))|refine qp ?_ ?_)
       all_goals try (exfalso;first|omega|(simp_all;done))
       (exact j1 (rs:=[.tmp 2,.tmp 3]))
     | false =>
       rw [if_neg (by decide)] at hE
       rw [hE,wL (by decide)]
       have hk:(ko (j.coms.map Com.key)).length < j.coms.length:=by
        by_cases h:(ko (j.coms.map Com.key)).length < j.coms.length
        ·exact h
        ·exact absurd (hk.2 h) (by decide)
       clear hRi hRR hE
       repeat' (first|refine qe ?_|(first|(apply qj;apply zE;rfl;rfl;rfl;rfl;exact nle rfl))|((first|refine qb ?_ ?_|refine qc ?_ ?_|refine xsC ?_ ?_);all_goals (intro hc;have hp:=hc;try simp at hp;try (exfalso;omega)))|refine qp ?_ ?_)
       all_goals try (exfalso;first|omega|(simp_all;done))
       (exact j1 (rs:=[.tmp 2,.tmp 3]))
 ·rw [if_pos h1] at hE
  rw [hE,wL h1]
  generalize jJ j.base = E at *
  refine qa Tryz.func74 rfl _ Tryz.ntmps74 (Nat.le_of_ble_eq_true rfl) _ Tryz.results74 0 rfl rfl ?_
  repeat' (first|refine qe ?_|(first|refine xsQ Tryz.func117 (hc ..) ?_)|((first|refine qb ?_ ?_|refine qc ?_ ?_|refine xsC ?_ ?_);all_goals (intro hc;have hp:=hc;try simp at hp;try (exfalso;omega)))|refine qp ?_ ?_)
  all_goals try (exfalso;omega)
  all_goals ((exact j1 (rs:=[.tmp 2,.tmp 3])))
end Go.Proofs.YtiljlcgmcmjcoaaGreatDoor
set_option linter.unusedSimpArgs false
set_option linter.unnecessarySimpa false
set_option linter.unusedVariables false
set_option maxHeartbeats 1000000
namespace Go.Proofs.YtiljlcgmcmjcoaaGreatDoor
open Go.Ab Go.RowKit
set_option maxRecDepth 10000
attribute [local irreducible] Awp ye ji qQ Red qF Go.Ab.Fin qo Rz xx qG qO ResOk jK je jX qW
def Ql (l:List (List Ent)):AV := .sl false (l.map zn)
def Xn (j:Jou):List (List Ent) × Int:=if vM j = 0 then (j.base :: kI j.base j.coms,0) else ([],vM j)
def qcO (r:List (List Ent) × Int):AV := .tup [Ql r.1,.v (.int .i64 r.2)]
theorem qh3 (j:Jou):vM j = if ¬ jJ j.base = 0 then jJ j.base else if j.first < 1 ∨ 1000000 < j.first then 3 else if 30 < j.coms.length then 2
 else if ¬ (yP j.first j.base j.coms).2 = 0 then (yP j.first j.base j.coms).2 else if kP j.coms = true then 0 else 6:=rfl
theorem Vo {n:Int}:v8 n = true ↔ ¬ (n < 1 ∨ 1000000 < n):=by simp [v8]
theorem qdD (j:Jou) (hb:JBig j):jO C.P 64 [.agg j.row] (qcO (Xn j)):=by
 have hc:=Wr j.base hb.base
 have hv:=Kf j.first
 have hml:(j.coms.map Com.row).length = j.coms.length:=List.length_map ..
 have hE:=qh3 j
 have hT:Xn j = if vM j = 0 then (j.base :: kI j.base j.coms,0) else ([],vM j):=rfl
 by_cases h1:jJ j.base = 0
 ·rw [if_neg (by simp [h1])] at hE
  rw [h1] at hc
  by_cases h2:j.first < 1 ∨ 1000000 < j.first
  ·rw [if_pos h2] at hE
   rw [hE,if_neg (by decide)] at hT
   rw [hT]
   have hv2:v8 j.first = false:=by
    cases h:v8 j.first with
    | false=>rfl
    | true=>exact absurd h2 (Vo.1 h)
   rw [hv2] at hv
   refine qa Tryz.func64 rfl _ Tryz.ntmps64 (Nat.le_of_ble_eq_true rfl) _ Tryz.results64 0 rfl rfl ?_
   repeat' (first|refine qe ?_|(first|refine xsQ Tryz.func109 (hc ..) ?_|refine xsF Tryz.func110 (hv ..) ?_)|((first|refine xsC ?_ ?_);all_goals (intro hc;have hp:=hc;try simp at hp;try (exfalso;omega)))|refine qp ?_ ?_)
   all_goals try (exfalso;omega)
   all_goals ((exact j1 (rs:=[.tmp 2,.tmp 3])))
  ·rw [if_neg h2] at hE
   rw [Vo.2 h2] at hv
   by_cases h3:30 < j.coms.length
   ·rw [if_pos h3] at hE
    rw [hE,if_neg (by decide)] at hT
    rw [hT]
    refine qa Tryz.func64 rfl _ Tryz.ntmps64 (Nat.le_of_ble_eq_true rfl) _ Tryz.results64 0 rfl rfl ?_
    repeat' (first|refine qe ?_|(first|refine xsQ Tryz.func109 (hc ..) ?_|refine xsF Tryz.func110 (hv ..) ?_)|((first|refine xsC ?_ ?_);all_goals (intro hc;have hp:=hc;try simp at hp;try (exfalso;omega)))|refine qp ?_ ?_)
    all_goals try (exfalso;omega)
    all_goals ((exact j1 (rs:=[.tmp 2,.tmp 3])))
   ·rw [if_neg h3] at hE
    have hR:=zD.1 h1
    generalize hRR:yP j.first j.base j.coms = R at *
    generalize hTT:kI j.base j.coms = TT at *
    generalize Xn j = O at *
    generalize vM j = JE at *
    refine qa Tryz.func64 rfl _ Tryz.ntmps64 (Nat.le_of_ble_eq_true rfl) _ Tryz.results64 0 rfl rfl ?_
    (repeat apply jg);apply qw;(repeat' (first|apply qT|refine xi ?_|refine xe ?_|refine xl ?_|refine xN ?_|refine xj ?_|refine xb ?_|refine vb ?_|refine vl ?_|refine zb ?_|refine xX ?_|refine xn ?_|refine yG ?_|(first|fail)|refine yg ?_));show Awp _ _ _ _ _
    refine xV 1 0 ?_
    repeat' (first|refine qe ?_|(first|refine xsQ Tryz.func109 (hc ..) ?_|refine xsF Tryz.func110 (hv ..) ?_|(refine qjc ?_))|((first|refine xsC ?_ ?_);all_goals (intro hc;have hp:=hc;try simp at hp;try (exfalso;omega)))|refine qp ?_ ?_)
    all_goals try (exfalso;omega)
    (refine Awp.red (qY (τ:=⟨[(1,.fp [j.row] 0 0),(5,.os 0 0 1),(6,qr j.base),(7,.v (.int .i64 ((0:Nat):Int)))],[(0,.own false 1 [zn j.base])],1⟩) [(1,0)] rfl ?gts ?ghs) ?gmain;(case gts=>(repeat (first|exact qd|refine qi ?_|refine xd ?_|refine xL ?_|refine qI ?_ ?_)));(case ghs=>(repeat (first|exact qf|refine jV ?_|refine qH ?_ ?_))))
    refine qq (fun n σ => ∃ (i:Nat) (u:List Ent) (S:List (List Ent)),i ≤ j.coms.length ∧ n = j.coms.length - i ∧ (R = yP (j.first + i) u (j.coms.drop i) ∧ Right u ∧ j.base :: TT = S ++ kI u (j.coms.drop i) ∧ S.length = i + 1) ∧ σ = ⟨[(1,.fp [j.row] 0 0),(5,.os 0 0 S.length),(6,qr u),(7,.v (.int .i64 (i:Int)))],[(0,.own false 1 (S.map zn))],1⟩) j.coms.length ⟨0,j.base,[j.base],Nat.zero_le _,rfl,⟨by rw [← hRR];simp,hR,by rw [← hTT];rfl,rfl⟩,rfl⟩ ?_
    rintro n σ ⟨i,u,S,hi,rfl,⟨hRi,hRu,hTi,hSl⟩,rfl⟩
    by_cases hlt:i < j.coms.length
    ·have hr:=qx (f:=Com.row) hlt
     have hcs:=hb.coms.each j.coms[i] (List.getElem_mem _)
     have hkl:=hcs.key
     have hkey:=qbO j.coms[i].key (by omega)
     have hall:=WD u j.coms[i].chs j.coms[i].num hRu.len (RightE.of (zD.2 hRu)) hcs.chs
     rw [← Jo hRu] at hall
     have hcl:(j.coms[i].chs.map Chg.row).length = j.coms[i].chs.length:=List.length_map ..
     have hsl:(S.map zn).length = S.length:=List.length_map ..
     have hnil:j.coms[i].chs = [] ↔ j.coms[i].chs.length = 0:=List.length_eq_zero_iff.symm
     rw [ZL hlt] at hRi
     rw [qda hlt] at hTi
     by_cases hce:zS (j.first + i) j.coms[i] = 0
     ·obtain ⟨e1,e2,e3,e4⟩:=z8 hce
      rw [if_neg (by simp [hce])] at hRi
      rw [e3] at hkey
      have hRn := @w5 j.coms[i].num u j.coms[i].chs hRu
      generalize vF j.coms[i].num u j.coms[i].chs = T at *
      obtain ⟨t2,n2,er⟩:=T
      by_cases hz:er = 0
      ·subst hz
       rw [if_neg (by simp)] at hRi
       have hRn:=hRn rfl
       have hRi2:R = yP (j.first + ((i + 1:Nat):Int)) t2 (j.coms.drop (i + 1)):=by rw [hRi];congr 1;omega
       have hTi2:j.base :: TT = (S ++ [t2]) ++ kI t2 (j.coms.drop (i + 1)):=by rw [hTi];simp
       clear hRi hRR hE hce e3 hTi hTT hT
       repeat' (first|refine qe ?_|(first|refine xsF Tryz.func96 (hkey ..) ?_|refine xsQ Tryz.func97 (hall ..) ?_|(refine jN ?_)|(refine yX ?_))|((first|refine xsC ?_ ?_);all_goals (intro hc;have hp:=hc;try simp at hp;try (exfalso;omega)))|refine qp ?_ ?_)
       all_goals try (exfalso;first|omega|contradiction)
       refine ⟨j.coms.length - (i + 1),_,by omega,qY (τ:=⟨[(1,.fp [j.row] 0 0),(5,.os 0 0 (S ++ [t2]).length),(6,qr t2),(7,.v (.int .i64 ((i + 1:Nat):Int)))],[(0,.own false 1 ((S ++ [t2]).map zn))],1⟩) [(2,0)] rfl ?gts ?ghs,i + 1,t2,S ++ [t2],by omega,rfl,⟨hRi2,hRn,hTi2,by simp [hSl]⟩,rfl⟩
       (case gts=>(repeat (first|exact qd|refine qi ?_|refine xd ?_|refine xL ?_|refine qI ?_ ?_)))
       (case ghs=>(repeat (first|exact qf|refine jV ?_|refine qH ?_ ?_));all_goals (rw [List.take_of_length_le (by simp),List.map_append];rfl))
      ·rw [if_pos hz] at hRi
       rw [hRi,if_pos hz] at hE
       rw [if_neg (by rw [hE];exact hz),hE] at hT
       rw [hT]
       clear hRi hRR hE hce e3 hTi hTT hT
       repeat' (first|refine qe ?_|(first|refine xsF Tryz.func96 (hkey ..) ?_|refine xsQ Tryz.func97 (hall ..) ?_)|((first|refine xsC ?_ ?_);all_goals (intro hc;have hp:=hc;try simp at hp;try (exfalso;omega)))|refine qp ?_ ?_)
       all_goals try (exfalso;first|omega|contradiction)
       (exact j1 (rs:=[.tmp 2,.tmp 3]))
     ·rw [if_pos hce] at hRi
      rw [hRi,if_pos hce] at hE
      rw [if_neg (by rw [hE];exact hce),hE] at hT
      rw [hT]
      clear hRi hRR hE hall hRu hTi hTT hT
      have hcv:zS (j.first + i) j.coms[i] = if ¬ j.coms[i].num = j.first + i then 4 else if 1000000 < j.coms[i].num then 3 else if zo j.coms[i].key = false ∨ j.coms[i].chs = [] then 1 else 0:=rfl
      generalize zo j.coms[i].key = KK at *
      generalize hCE:zS (j.first + i) j.coms[i] = CE at *
      clear hCE
      by_cases n1:j.coms[i].num = j.first + i
      ·rw [if_neg (by simp [n1])] at hcv
       by_cases n2:1000000 < j.coms[i].num
       ·rw [if_pos n2] at hcv
        subst hcv
        (repeat' (first|refine qe ?_|(first|refine xsF Tryz.func96 (hkey ..) ?_)|((first|refine xsC ?_ ?_);all_goals (intro hc;have hp:=hc;try simp at hp;try (exfalso;omega)))|refine qp ?_ ?_))
        (all_goals try (exfalso;first|omega|contradiction))
        (all_goals ((exact j1 (rs:=[.tmp 2,.tmp 3]))))
       ·rw [if_neg n2] at hcv
        have hz:KK = false ∨ j.coms[i].chs.length = 0:=by
         by_cases hq:KK = false ∨ j.coms[i].chs = []
         ·exact hq.imp id hnil.1
         ·rw [if_neg hq] at hcv;exact absurd hcv hce
        obtain rfl:CE = 1:=by rw [hcv,if_pos (hz.imp id hnil.2)]
        clear hcv hce
        cases KK with
        | false =>
          (repeat' (first|refine qe ?_|(first|refine xsF Tryz.func96 (hkey ..) ?_)|((first|refine xsC ?_ ?_);all_goals (intro hc;have hp:=hc;try simp at hp;try (exfalso;omega)))|refine qp ?_ ?_))
          (all_goals try (exfalso;first|omega|contradiction))
          (all_goals ((exact j1 (rs:=[.tmp 2,.tmp 3]))))
        | true =>
          have hz:j.coms[i].chs.length = 0:=hz.resolve_left (by decide)
          have hz2:=hnil.2 hz
          (repeat' (first|refine qe ?_|(first|refine xsF Tryz.func96 (hkey ..) ?_)|((first|refine xsC ?_ ?_);all_goals (intro hc;have hp:=hc;try simp at hp;try (exfalso;omega)))|refine qp ?_ ?_))
          (all_goals try (exfalso;first|omega|contradiction))
          (all_goals ((exact j1 (rs:=[.tmp 2,.tmp 3]))))
      ·rw [if_pos n1] at hcv
       subst hcv
       (repeat' (first|refine qe ?_|(first|refine xsF Tryz.func96 (hkey ..) ?_)|((first|refine xsC ?_ ?_);all_goals (intro hc;have hp:=hc;try simp at hp;try (exfalso;omega)))|refine qp ?_ ?_))
       (all_goals try (exfalso;first|omega|contradiction))
       (all_goals ((exact j1 (rs:=[.tmp 2,.tmp 3]))))
    ·obtain rfl:i = j.coms.length:=by omega
     rw [List.drop_length] at hRi hTi
     have hTi:j.base :: TT = S:=by rw [hTi];simp [kI]
     subst hTi
     rw [hRi,if_neg (by simp [yP])] at hE
     refine Awp.red (wR 0 rfl (by intro row hrow;obtain ⟨x,_,rfl⟩:=List.mem_map.1 hrow;rfl)) ?_
     refine Awp.red (WV 5 0 rfl rfl (by simp)) ?_
     (repeat' (first|refine qe ?_|(first|fail)|((first|refine xsC ?_ ?_);all_goals (intro hc;have hp:=hc;try simp at hp;try (exfalso;omega)))|refine qp ?_ ?_))
     (all_goals try (exfalso;omega))
     have hE:JE = if kP j.coms = true then 0 else 6:=hE
     clear hRi hRR hTT
     (refine Awp.red (qg (ts:=[(1,.fp [j.row] 0 0),(5,Ql (j.base :: TT)),(9,.v (.int .i64 ((0:Nat):Int)))]) ?_) ?_;((repeat (first|exact qd|refine qi ?_|refine qI ?_ ?_))))
     all_goals try (rw [List.drop_zero,List.take_of_length_le (by simp)];rfl)
     refine qq (fun n σ => ∃ i:Nat,i ≤ j.coms.length ∧ n = j.coms.length - i ∧ (((j.coms.take i).map Com.key).Nodup) ∧ σ = ⟨[(1,.fp [j.row] 0 0),(5,Ql (j.base :: TT)),(9,.v (.int .i64 (i:Int)))],[],C.nh⟩) j.coms.length ⟨0,Nat.zero_le _,rfl,(by simp),rfl⟩ ?_
     rintro n σ ⟨i,hi2,rfl,hnd,rfl⟩
     by_cases hlt2:i < j.coms.length
     ·repeat' (first|refine qe ?_|fail|((first|refine xsC ?_ ?_);all_goals (intro hc;have hp:=hc;try simp at hp;try (exfalso;omega)))|refine qp ?_ ?_)
      all_goals try (exfalso;omega)
      (refine Awp.red (qg (ts:=[(1,.fp [j.row] 0 0),(5,Ql (j.base :: TT)),(9,.v (.int .i64 (i:Int))),(10,.v (.int .i64 ((0:Nat):Int)))]) ?_) ?_;((repeat (first|exact qd|refine qi ?_|refine qI ?_ ?_))))
      refine qq (fun n σ => ∃ k:Nat,k ≤ i ∧ n = i - k ∧ (∀ c,c ∈ j.coms.take k → ¬ c.key = j.coms[i].key) ∧ σ = ⟨[(1,.fp [j.row] 0 0),(5,Ql (j.base :: TT)),(9,.v (.int .i64 (i:Int))),(10,.v (.int .i64 (k:Int)))],[],C.nh⟩) i ⟨0,Nat.zero_le _,rfl,(by simp),rfl⟩ ?_
      rintro n σ ⟨k,hk,rfl,hne,rfl⟩
      have hr2:=qx (f:=Com.row) hlt2
      by_cases hki:k < i
      ·have hr1:=qx (f:=Com.row) (l:=j.coms) (i:=k) (by omega)
       have hnx:=qJ (l:=j.coms) (p:=fun c => ¬ c.key = j.coms[i].key) (by omega) hne
       by_cases heq:(j.coms[k]'(by omega)).key = j.coms[i].key
       ·have hbad:kP j.coms = false:=by
         unfold kP
         rw [decide_eq_false_iff_not]
         intro h
         have:=(List.pairwise_iff_getElem.1 h) k i (by simp;omega) (by simpa using hlt2) hki
         exact this (by simpa using heq)
        rw [hbad,if_neg (by decide)] at hE
        rw [hE,if_neg (by decide)] at hT
        rw [hT]
        repeat' (first|refine qe ?_|fail|((first|refine xsC ?_ ?_);all_goals (intro hc;have hp:=hc;try simp at hp;try (exfalso;omega)))|refine qp ?_ ?_)
        all_goals try (exfalso;first|omega|contradiction)
        all_goals ((exact j1 (rs:=[.tmp 2,.tmp 3])))
       ·repeat' (first|refine qe ?_|fail|((first|refine xsC ?_ ?_);all_goals (intro hc;have hp:=hc;try simp at hp;try (exfalso;omega)))|refine qp ?_ ?_)
        all_goals try (exfalso;first|omega|contradiction)
        refine ⟨i - (k + 1),_,by omega,qg (ts:=[(1,.fp [j.row] 0 0),(5,Ql (j.base :: TT)),(9,.v (.int .i64 (i:Int))),(10,.v (.int .i64 ((k + 1:Nat):Int)))]) ?_,k + 1,by omega,rfl,hnx heq,rfl⟩;((repeat (first|exact qd|refine qi ?_|refine qI ?_ ?_)))
      ·obtain rfl:k = i:=by omega
       have hnd2:((j.coms.take (k + 1)).map Com.key).Nodup:=by
        rw [List.take_succ_eq_append_getElem hlt2,List.map_append,List.nodup_append]
        refine ⟨hnd,by simp,fun a ha b hb=>?_⟩
        obtain ⟨c,hc1,rfl⟩:=List.mem_map.1 ha
        have hb:b = j.coms[k].key:=by simpa using hb
        rw [hb];exact hne c hc1
       repeat' (first|refine qe ?_|fail|((first|refine xsC ?_ ?_);all_goals (intro hc;have hp:=hc;try simp at hp;try (exfalso;omega)))|refine qp ?_ ?_)
       all_goals try (exfalso;omega)
       refine ⟨j.coms.length - (k + 1),_,by omega,qg (ts:=[(1,.fp [j.row] 0 0),(5,Ql (j.base :: TT)),(9,.v (.int .i64 ((k + 1:Nat):Int)))]) ?_,k + 1,by omega,rfl,hnd2,rfl⟩;((repeat (first|exact qd|refine qi ?_|refine qI ?_ ?_)))
     ·obtain rfl:i = j.coms.length:=by omega
      rw [List.take_length] at hnd
      rw [show kP j.coms = true from decide_eq_true hnd,if_pos rfl] at hE
      rw [if_pos hE] at hT
      rw [hT]
      repeat' (first|refine qe ?_|fail|((first|refine xsC ?_ ?_);all_goals (intro hc;have hp:=hc;try simp at hp;try (exfalso;omega)))|refine qp ?_ ?_)
      all_goals try (exfalso;omega)
      all_goals ((exact j1 (rs:=[.tmp 2,.tmp 3])))
 ·rw [if_pos h1] at hE
  rw [hE,if_neg h1] at hT
  rw [hT]
  generalize jJ j.base = E at *
  refine qa Tryz.func64 rfl _ Tryz.ntmps64 (Nat.le_of_ble_eq_true rfl) _ Tryz.results64 0 rfl rfl ?_
  repeat' (first|refine qe ?_|(first|refine xsQ Tryz.func109 (hc ..) ?_)|((first|refine xsC ?_ ?_);all_goals (intro hc;have hp:=hc;try simp at hp;try (exfalso;omega)))|refine qp ?_ ?_)
  all_goals try (exfalso;omega)
  all_goals ((exact j1 (rs:=[.tmp 2,.tmp 3])))
end Go.Proofs.YtiljlcgmcmjcoaaGreatDoor
set_option linter.unusedSimpArgs false
set_option linter.unnecessarySimpa false
set_option linter.unusedVariables false
set_option maxHeartbeats 1000000
namespace Go.Proofs.YtiljlcgmcmjcoaaGreatDoor
open Go.Ab Go.RowKit
set_option maxRecDepth 10000
attribute [local irreducible] Awp ye ji qQ Red qF Go.Ab.Fin qo Rz xx qG qO ResOk jK je jX qW
theorem qgV (j:Jou) (hb:JBig j):jO C.P 41 [.agg j.row] (.v (.int .i64 (vM j))):=by
 have h1:=qdD j hb
 have h2:qcO (Xn j) = .tup [Ql (Xn j).1,.v (.int .i64 (vM j))]:=by
  unfold qcO Xn
  split<;>simp_all
 rw [h2] at h1
 generalize (Xn j).1 = T at *
 generalize vM j = E at *
 refine qa Tryz.func41 rfl _ Tryz.ntmps41 (Nat.le_of_ble_eq_true rfl) _ Tryz.results41 0 rfl rfl ?_
 repeat' (first|refine qe ?_|(first|refine xsQ Tryz.func64 (h1 ..) ?_)|((first|refine xsC ?_ ?_);all_goals (intro hc;have hp:=hc;try simp at hp;try (exfalso;omega)))|refine qp ?_ ?_)
 apply qE
 rfl
 rfl
theorem qbp (j:Jou) (hb:JBig j) (hJ:JRight j):jO C.P 28 [.agg j.row] (qr (vc j)):=by
 have h1:=qdD j hb
 have h2:Xn j = (j.base :: kI j.base j.coms,0):=by unfold Xn;rw [if_pos (xE.2 hJ)]
 have h3:=ZB hJ.run
 rw [h2] at h1
 have hl:=Wh j.coms j.base
 have hlen:=hJ.len
 have hlt:j.coms.length < (j.base :: kI j.base j.coms).length:=by simp [hl]
 have hr:=qx (f:=zn) hlt
 have hx:(j.base :: kI j.base j.coms)[j.coms.length] = vc j:=by
  rw [show vc j = (yP j.first j.base j.coms).1 from rfl, ← h3,List.getLast_eq_getElem]
  congr 1
  simp [hl]
 rw [hx] at hr
 have hll:((j.base :: kI j.base j.coms).map zn).length = j.coms.length + 1:=by simp [hl]
 have h1:jO C.P 64 [.agg j.row] (.tup [.sl false ((j.base :: kI j.base j.coms).map zn),.v (.int .i64 0)]):=h1
 generalize (j.base :: kI j.base j.coms).map zn = R at *
 generalize vc j = U at *
 clear h3 hx h2
 refine qa Tryz.func28 rfl _ Tryz.ntmps28 (Nat.le_of_ble_eq_true rfl) _ Tryz.results28 0 rfl rfl ?_
 repeat' (first|refine qe ?_|(first|(apply qj;apply zQ (i:=j.coms.length);(case hx=>rfl);(case hy=>exact wQ (by omega));(case hT=>rfl);(case he=>rfl);(case hE=>rfl);(case hr=>exact hr);(case hk=>rfl);(case hN=>exact nle rfl))|refine xsQ Tryz.func64 (h1 ..) ?_)|((first|refine xsC ?_ ?_);all_goals (intro hc;have hp:=hc;try simp at hp;try (exfalso;omega)))|refine qp ?_ ?_)
 all_goals try (exfalso;omega)
 (exact j1 (rs:=[.tmp 2]))
theorem Zm (a b:List Com) (ha:MBig a) (hb:MBig b):jO C.P 71 [kg a,kg b] (.v (.bool (decide (a = b)))):=by
 have hla:=ha.len
 have hlb:=hb.len
 have hma:(a.map Com.row).length = a.length:=List.length_map ..
 have hmb:(b.map Com.row).length = b.length:=List.length_map ..
 refine qa Tryz.func71 rfl _ Tryz.ntmps71 (Nat.le_of_ble_eq_true rfl) _ Tryz.results71 0 rfl rfl ?_
 repeat' (first|refine qe ?_|fail|((first|refine qb ?_ ?_|refine qc ?_ ?_|refine xsC ?_ ?_);all_goals (intro hc;have hp:=hc;try simp at hp;try (exfalso;omega)))|refine qp ?_ ?_)
 ·apply jd
  rfl
  have hne:¬ a = b:=fun e=>by subst e;simp at *
  simp [hne]
 have hab:a.length = b.length:=by simp at *;omega
 (refine Awp.red (qg (ts:=[(0,kg a),(1,kg b),(5,.v (.int .i64 ((0:Nat):Int)))]) ?_) ?_;((repeat (first|exact qd|refine qi ?_|refine qI ?_ ?_))))
 refine qq (fun n σ => ∃ i:Nat,i ≤ a.length ∧ n = a.length - i ∧ (a.take i = b.take i) ∧ σ = ⟨[(0,kg a),(1,kg b),(5,.v (.int .i64 (i:Int)))],[],C.nh⟩) a.length ⟨0,Nat.zero_le _,rfl,rfl,rfl⟩ ?_
 rintro n σ ⟨i,hi,rfl,hsofar,rfl⟩
 by_cases hlt:i < a.length
 ·have hlt2:i < b.length:=by omega
  have hr:=qx (f:=Com.row) hlt
  have hr':=qx (f:=Com.row) hlt2
  have hnx:=Vd hlt hlt2 hsofar
  have hsc:=KE a[i].chs b[i].chs (ha.each _ (List.getElem_mem _)).chs.len (hb.each _ (List.getElem_mem _)).chs.len
  have hin:a[i] = b[i] ↔ a[i].num = b[i].num ∧ a[i].key = b[i].key ∧ a[i].chs = b[i].chs:=by
   obtain ⟨x1,x2,x3⟩:=a[i]
   obtain ⟨y1,y2,y3⟩:=b[i]
   simp
  have hne:¬ a[i] = b[i] → ¬ a = b:=fun h e=>h (by subst e;rfl)
  generalize hD:decide (a[i].chs = b[i].chs) = D at *
  repeat' (first|refine qe ?_|(first|refine xsF Tryz.func115 (hsc ..) ?_)|((first|refine qb ?_ ?_|refine qc ?_ ?_|refine xsC ?_ ?_);all_goals (intro hc;have hp:=hc;try simp at hp;try (exfalso;omega)))|refine qp ?_ ?_)
  all_goals try (exfalso;omega)
  all_goals first
   | (refine ⟨a.length - (i + 1),_,by omega,qg (ts:=[(0,kg a),(1,kg b),(5,.v (.int .i64 ((i + 1:Nat):Int)))]) ?_,i + 1,by omega,rfl,(hnx (by rw [hin];simp_all)),rfl⟩;((repeat (first|exact qd|refine qi ?_|refine qI ?_ ?_))))
   | (apply jd;rfl;have hx:=hne (by rw [hin];simp_all);simp [hx])
 obtain rfl:i = a.length:=by omega
 have he:a = b:=by rw [List.take_length] at hsofar;rw [hsofar,hab,List.take_length]
 repeat' (first|refine qe ?_|fail|((first|refine qb ?_ ?_|refine qc ?_ ?_|refine xsC ?_ ?_);all_goals (intro hc;have hp:=hc;try simp at hp;try (exfalso;omega)))|refine qp ?_ ?_)
 all_goals try (exfalso;omega)
 apply jd
 rfl
 simp [he]
theorem qeo (a b:Jou) (ha:JBig a) (hb:JBig b):jO C.P 36 [.agg a.row,.agg b.row] (.v (.bool (decide (a = b)))):=by
 have h1:=Yq a.base b.base ha.base.len hb.base.len
 have h2:=Zm a.coms b.coms ha.coms hb.coms
 have hin:decide (a = b) = (decide (a.base = b.base) && decide (a.first = b.first) && decide (a.coms = b.coms)):=by
  obtain ⟨x1,x2,x3⟩:=a
  obtain ⟨y1,y2,y3⟩:=b
  rw [Bool.eq_iff_iff];simp [and_assoc]
 rw [hin]
 generalize decide (a.base = b.base) = D1 at *
 generalize decide (a.coms = b.coms) = D2 at *
 clear hin
 refine qa Tryz.func36 rfl _ Tryz.ntmps36 (Nat.le_of_ble_eq_true rfl) _ Tryz.results36 0 rfl rfl ?_
 repeat' (first|refine qe ?_|(first|refine xsF Tryz.func22 (h1 ..) ?_|refine xsF Tryz.func71 (h2 ..) ?_)|((first|refine qb ?_ ?_|refine qc ?_ ?_|refine xsC ?_ ?_);all_goals (intro hc;have hp:=hc;try simp at hp;try (exfalso;omega)))|refine qp ?_ ?_)
 all_goals (apply jd;rfl;simp_all)
theorem qet (a b:Pag) (ha:PBig a) (hb:PBig b):jO C.P 57 [.agg a.row,.agg b.row] (.v (.bool (decide (a = b)))):=by
 have h1:=Yq a.tree b.tree ha.tree.len hb.tree.len
 have h2:=Zm a.coms b.coms ha.coms hb.coms
 have hin:decide (a = b) = (decide (a.reset = b.reset) && decide (a.tree = b.tree) && decide (a.coms = b.coms) && decide (a.cur = b.cur) && decide (a.more = b.more)):=by
  obtain ⟨x1,x2,x3,x4,x5⟩:=a
  obtain ⟨y1,y2,y3,y4,y5⟩:=b
  rw [Bool.eq_iff_iff];simp [and_assoc]
 rw [hin]
 generalize decide (a.tree = b.tree) = D1 at *
 generalize decide (a.coms = b.coms) = D2 at *
 clear hin
 refine qa Tryz.func57 rfl _ Tryz.ntmps57 (Nat.le_of_ble_eq_true rfl) _ Tryz.results57 0 rfl rfl ?_
 repeat' (first|refine qe ?_|(first|refine xsF Tryz.func22 (h1 ..) ?_|refine xsF Tryz.func71 (h2 ..) ?_|(refine qi4 ?_))|((first|refine qb ?_ ?_|refine qc ?_ ?_|refine xsC ?_ ?_);all_goals (intro hc;have hp:=hc;try simp at hp;try (exfalso;omega)))|refine qp ?_ ?_)
 all_goals (apply jd;rfl;first|(simp_all;done)|(simp_all;cases a.more<;>cases b.more<;>rfl))
end Go.Proofs.YtiljlcgmcmjcoaaGreatDoor
set_option linter.unusedSimpArgs false
set_option linter.unnecessarySimpa false
set_option linter.unusedVariables false
namespace Go.Ab
theorem qig {h:Nat → HB} {n off len:Nat} {ex:Bool} {k:Nat} {rows rows' : List (List AV)} (he:(rows.drop off).take len = rows') (hp : ∀ row,row ∈ rows' → AV.pure.pureL row = true) (hl:off + len ≤ rows.length) (hn:h n = .own ex k rows:=by rfl):Rz h (.os n off len) (.sl false rows') :=
 by subst he;exact Yo hn hl (x6 hp)
theorem Zj {α β:Type} {f:α → β} {l:List α} {i:Nat} (h:i < l.length):(l.map f).set i (f l[i]) = l.map f:=by
 rw [← List.map_set,List.set_getElem_self]
end Go.Ab
set_option maxHeartbeats 1000000
namespace Go.Proofs.YtiljlcgmcmjcoaaGreatDoor
open Go.Ab Go.RowKit
set_option maxRecDepth 10000
attribute [local irreducible] Awp ye ji qQ Red qF Go.Ab.Fin qo Rz xx qG qO ResOk jK je jX qW
theorem qaY (l:List Com) (hl:l.length ≤ 1000000) :
  qo C.P 121 [kg l] [] (.os 0 0 l.length) [.own false 3 (l.map Com.row)]:=by
 by_cases h0:l = []
 ·subst h0
  refine qa Tryz.func121 rfl _ Tryz.ntmps121 (Nat.le_of_ble_eq_true rfl) _ Tryz.results121 0 rfl rfl ?_
  repeat' (first|refine qe ?_|(first|(refine jN ?_)|(refine vL ?_)|(refine J9 ?_))|((first|refine xsC ?_ ?_);all_goals (intro hc;have hp:=hc;try simp at hp;try (exfalso;omega)))|refine qp ?_ ?_)
  · (refine Qv (C:=C) (zd (C:=C) 2 3 rfl (Nat.zero_le _)) ?_)
    (refine Jf (rs:=[.tmp 2]) [(0,0)] 1 ?_;(repeat (first|exact qf|refine jV ?_|refine qH ?_ ?_));all_goals skip)
  · (refine Jf (rs:=[.tmp 2]) [(0,0)] 1 ?_;(repeat (first|exact qf|refine jV ?_|refine qH ?_ ?_));all_goals skip)
 ·refine qa Tryz.func121 rfl _ Tryz.ntmps121 (Nat.le_of_ble_eq_true rfl) _ Tryz.results121 0 rfl rfl ?_
  repeat' (first|refine qe ?_|(first|(refine jN ?_)|(refine vL ?_)|(apply qj;apply wK;rfl;exact (fun h=>h0 (List.map_eq_nil_iff.1 h));rfl;rfl;(first|exact .inl rfl|exact .inr rfl);exact nle rfl))|((first|refine xsC ?_ ?_);all_goals (intro hc;have hp:=hc;try simp at hp;try (exfalso;omega)))|refine qp ?_ ?_)
  (refine Jf (rs:=[.tmp 2]) [(0,0)] 1 ?_;(repeat (first|exact qf|refine jV ?_|refine qH ?_ ?_));all_goals skip)
theorem Xk (l:List Com) (hl:l.length ≤ 1000000) (hc : ∀ c,c ∈ l → c.chs.length ≤ 1000000) :
  qo C.P 153 [kg l] [] (.os 0 0 l.length) [.own false 3 (l.map Com.row)]:=by
 have h1:=qaY l hl
 refine qa Tryz.func153 rfl _ Tryz.ntmps153 (Nat.le_of_ble_eq_true rfl) _ Tryz.results153 0 rfl rfl ?_
 repeat' (first|refine qe ?_|(first|(apply qN Tryz.func121 rfl rfl;intro hIsFn;refine yr ([]) hIsFn (h1 ..) ?_))|((first|refine xsC ?_ ?_);all_goals (intro hc;have hp:=hc;try simp at hp;try (exfalso;omega)))|refine qp ?_ ?_)
 all_goals try (exfalso;omega)
 (refine Awp.red (qY (τ:=⟨[(0,.os 0 0 l.length),(7,.os 0 0 l.length),(8,.v (.int .i64 l.length)),(9,.v (.int .i64 ((0:Nat):Int)))],[(0,.own false 3 (l.map Com.row))],1⟩) [(0,0)] rfl ?gts ?ghs) ?gmain;(case gts=>(repeat (first|exact qd|refine qi ?_|refine xd ?_|refine xL ?_|refine qI ?_ ?_)));(case ghs=>(repeat (first|exact qf|refine jV ?_|refine qH ?_ ?_))))
 refine qq (fun n σ => ∃ i:Nat,i ≤ l.length ∧ n = l.length - i ∧ (True) ∧ σ = ⟨[(0,.os 0 0 l.length),(7,.os 0 0 l.length),(8,.v (.int .i64 l.length)),(9,.v (.int .i64 (i:Int)))],[(0,.own false 3 (l.map Com.row))],1⟩) l.length ⟨0,Nat.zero_le _,rfl,trivial,rfl⟩ ?_
 rintro n σ ⟨i,hi,rfl, -,rfl⟩
 by_cases hlt:i < l.length
 ·have hr:=qx (f:=Com.row) hlt
  have hcc:=J6 l[i].chs (hc _ (List.getElem_mem _))
  have hss:=Zj (f:=Com.row) hlt
  repeat' (first|refine qe ?_|(first|(refine vV ?_)|refine xsQ Tryz.func122 (hcc ..) ?_)|((first|refine xsC ?_ ?_);all_goals (intro hc;have hp:=hc;try simp at hp;try (exfalso;omega)))|refine qp ?_ ?_)
  all_goals try (exfalso;omega)
  refine ⟨l.length - (i + 1),_,by omega,qY (τ:=⟨[(0,.os 0 0 l.length),(7,.os 0 0 l.length),(8,.v (.int .i64 l.length)),(9,.v (.int .i64 ((i + 1:Nat):Int)))],[(0,.own false 3 (l.map Com.row))],1⟩) [(0,0)] rfl ?gts ?ghs,i + 1,by omega,rfl,trivial,rfl⟩;(case gts=>(repeat (first|exact qd|refine qi ?_|refine xd ?_|refine xL ?_|refine qI ?_ ?_));all_goals exact hss);(case ghs=>(repeat (first|exact qf|refine jV ?_|refine qH ?_ ?_));all_goals exact hss)
 obtain rfl:i = l.length:=by omega
 repeat' (first|refine qe ?_|fail|((first|refine xsC ?_ ?_);all_goals (intro hc;have hp:=hc;try simp at hp;try (exfalso;omega)))|refine qp ?_ ?_)
 all_goals try (exfalso;omega)
 (refine Jf (rs:=[.tmp 2]) [(0,0)] 1 ?_;(repeat (first|exact qf|refine jV ?_|refine qH ?_ ?_));all_goals trace_state)
theorem V5 (j:Jou) (t:List Ent) (h:JRight j):jO C.P 152 [.fp [Ya j t] 0 0] (.v (.int .i64 (vy j))):=by
 have h1:=h.lo
 have h2:=h.hi
 have h3:=h.len
 have hml:(j.coms.map Com.row).length = j.coms.length:=List.length_map ..
 refine qa Tryz.func152 rfl _ Tryz.ntmps152 (Nat.le_of_ble_eq_true rfl) _ Tryz.results152 0 rfl rfl ?_
 repeat' (first|refine qe ?_|fail|((first|refine xsC ?_ ?_);all_goals (intro hc;have hp:=hc;try simp at hp;try (exfalso;omega)))|refine qp ?_ ?_)
 all_goals try (exfalso;omega)
 apply qE
 rfl
 unfold vy
 rw [hml]
theorem qfw (j:Jou) (hb:JBig j):jO C.P 38 [.agg j.row] (.v (.int .i64 (vM j))):=by
 have h1:=XS j hb
 have h2:=Wa j
 by_cases hz:vM j = 0
 ·rw [KV hz] at h1
  rw [hz]
  refine qa Tryz.func38 rfl _ Tryz.ntmps38 (Nat.le_of_ble_eq_true rfl) _ Tryz.results38 0 rfl rfl ?_
  repeat' (first|refine qe ?_|(first|refine xsQ Tryz.func74 (h1 ..) ?_)|((first|refine xsC ?_ ?_);all_goals (intro hc;have hp:=hc;try simp at hp;try (exfalso;omega)))|refine qp ?_ ?_)
  apply qE
  rfl
  rfl
 ·have h3:Kj j (Yr j) = .tup [.v (.pointer none),.v (.int .i64 (vM j))]:=by unfold Kj;rw [h2,if_neg hz]
  rw [h3] at h1
  refine qa Tryz.func38 rfl _ Tryz.ntmps38 (Nat.le_of_ble_eq_true rfl) _ Tryz.results38 0 rfl rfl ?_
  repeat' (first|refine qe ?_|(first|refine xsQ Tryz.func74 (h1 ..) ?_)|((first|refine xsC ?_ ?_);all_goals (intro hc;have hp:=hc;try simp at hp;try (exfalso;omega)))|refine qp ?_ ?_)
  apply qE
  rfl
  rfl
def Wd (j:Jou):List Ent × Int:=if vM j = 0 then (vc j,0) else ([],vM j)
theorem Kk {j:Jou} (h:¬ vM j = 0):Kj j (Yr j) = .tup [.v (.pointer none),.v (.int .i64 (vM j))]:=by unfold Kj;rw [Wa,if_neg h]
theorem XA {j:Jou} (h:vM j = 0):Kj j (Yr j) = .tup [.fp [Ya j (vc j)] 0 0,.v (.int .i64 0)]:=by rw [KV h];rfl
theorem qhd (j:Jou) (hb:JBig j):jO C.P 59 [.agg j.row] (.tup [qr (Wd j).1,.v (.int .i64 (Wd j).2)]):=by
 have h1:=XS j hb
 by_cases hz:vM j = 0
 ·rw [XA hz] at h1
  have hR:=(xE.1 hz).now
  have h2:=wN (vc j) (by have:=hR.len;omega)
  unfold Wd
  rw [if_pos hz]
  generalize vc j = U at *
  refine qa Tryz.func59 rfl _ Tryz.ntmps59 (Nat.le_of_ble_eq_true rfl) _ Tryz.results59 0 rfl rfl ?_
  repeat' (first|refine qe ?_|(first|refine xsQ Tryz.func74 (h1 ..) ?_|refine xsQ Tryz.func101 (h2 ..) ?_)|((first|refine xsC ?_ ?_);all_goals (intro hc;have hp:=hc;try simp at hp;try (exfalso;omega)))|refine qp ?_ ?_)
  all_goals try (exfalso;omega)
  (exact j1 (rs:=[.tmp 2,.tmp 3]))
 ·rw [Kk hz] at h1
  unfold Wd
  rw [if_neg hz]
  generalize vM j = E at *
  refine qa Tryz.func59 rfl _ Tryz.ntmps59 (Nat.le_of_ble_eq_true rfl) _ Tryz.results59 0 rfl rfl ?_
  repeat' (first|refine qe ?_|(first|refine xsQ Tryz.func74 (h1 ..) ?_)|((first|refine xsC ?_ ?_);all_goals (intro hc;have hp:=hc;try simp at hp;try (exfalso;omega)))|refine qp ?_ ?_)
  all_goals try (exfalso;omega)
  (exact j1 (rs:=[.tmp 2,.tmp 3]))
end Go.Proofs.YtiljlcgmcmjcoaaGreatDoor
set_option linter.unusedSimpArgs false
set_option linter.unnecessarySimpa false
set_option linter.unusedVariables false
set_option maxHeartbeats 1000000
namespace Go.Proofs.YtiljlcgmcmjcoaaGreatDoor
open Go.Ab Go.RowKit
set_option maxRecDepth 10000
attribute [local irreducible] Awp ye ji qQ Red qF Go.Ab.Fin qo Rz xx qG qO ResOk jK je jX qW
end Go.Proofs.YtiljlcgmcmjcoaaGreatDoor
set_option linter.unusedSimpArgs false
set_option linter.unnecessarySimpa false
set_option linter.unusedVariables false
set_option maxHeartbeats 1000000
namespace Go.Proofs.YtiljlcgmcmjcoaaGreatDoor
open Go.Ab Go.RowKit
set_option maxRecDepth 10000
attribute [local irreducible] Awp ye ji qQ Red qF Go.Ab.Fin qo Rz xx qG qO ResOk jK je jX qW
end Go.Proofs.YtiljlcgmcmjcoaaGreatDoor
