import Derived.Test.YtgcncinnlmjgdaaGreatDoorMz14
import Derived.Test.YtgcncinnlmjgdaaGreatDoorMz21
import Derived.Test.YtgcncinnlmjgdaaGreatDoorMz15
import Derived.Test.YtgcncinnlmjgdaaGreatDoorMz13
import Derived.Test.YtgcncinnlmjgdaaGreatDoorMz19
import Derived.Test.YtgcncinnlmjgdaaGreatDoorMz9
set_option linter.unusedSimpArgs false
set_option linter.unnecessarySimpa false
set_option linter.unusedVariables false
set_option maxHeartbeats 4000000
set_option maxRecDepth 10000
namespace Go.Proofs.YtgcncinnlmjgdaaGreatDoor
open Go.Ab Go.RowKit
attribute [local irreducible] Awp j9 jr ye Red qz Go.Ab.Fin qf Rz wz jF jU ResOk yA j1 xR qX
def Xe (j:Jou) (t:List Ent):List AV:=[qU j.base,.v (.int .i64 j.first),yv j.coms,qU t]
def W7 (j:Jou) (r:List Ent × Int):AV:=if r.2 = 0 then .tup [.fp [Xe j r.1] 0 0,.v (.int .i64 0)] else .tup [.v (.pointer none),.v (.int .i64 r.2)]
def XC (j:Jou):List Ent × Int :=
 if ¬ jv j.base = 0 then ([],jv j.base) else if j.first < 1 ∨ 1000000 < j.first then ([],3) else if 30 < j.coms.length then ([],2)
 else if ¬ (yB j.first j.base j.coms).2 = 0 then ([],(yB j.first j.base j.coms).2) else if YD j.coms = true then (vg j,0) else ([],6)
theorem qby (j:Jou):(XC j).2 = ki j:=by
 unfold XC ki
 (repeat' split)<;>simp_all
theorem qbz {j:Jou} (h:ki j = 0):XC j = (vg j,0):=by
 have hR:=y0.1 h;unfold XC;rw [if_neg (by simp [JA.2 hR.base]),if_neg (by have:=hR.lo;have:=hR.hi;omega),if_neg (by have:=hR.len;omega),if_neg (by simp [hR.run]),if_pos (by simp [YD,hR.keys])]
theorem Ql {j:Jou} {e:Int} (h:¬ e = 0):W7 j ([],e) = .tup [.v (.pointer none),.v (.int .i64 e)]:=if_neg h
theorem qfT (l:List Com):YD l = true ↔ ¬ (zU (l.map Com.key)).length < l.length:=by
 have:=qk8 (l.map Com.key);rw [List.length_map] at this;rw [this];simp [YD]
theorem qiR {l:List Com} {i:Nat} (h:i < l.length):zU ((l.take (i + 1)).map Com.key) = yF (zU ((l.take i).map Com.key)) l[i].key yes:=by
 rw [List.take_succ_eq_append_getElem h,List.map_append];exact Xh _ _
theorem Zt (j:Jou) (hb:JBig j):jN C.P 115 [.agg j.row] (W7 j (XC j)):=by
 have hc:=qj0 j.base hb.base;have hml:(j.coms.map Com.row).length = j.coms.length:=List.length_map ..
 have hE:XC j = if ¬ jv j.base = 0 then ([],jv j.base) else if j.first < 1 ∨ 1000000 < j.first then ([],3) else if 30 < j.coms.length then ([],2) else if ¬ (yB j.first j.base j.coms).2 = 0 then ([],(yB j.first j.base j.coms).2) else if YD j.coms = true then ((yB j.first j.base j.coms).1,0) else ([],6):=rfl
 by_cases h1:jv j.base = 0
 ·rw [if_neg (by simp [h1])] at hE;rw [h1] at hc;by_cases h2:j.first < 1 ∨ 1000000 < j.first
  ·rw [if_pos h2] at hE;rw [hE,Ql (by decide)];refine qJ 0 ?_;exact Yp
  ·rw [if_neg h2] at hE;by_cases h3:30 < j.coms.length
   ·rw [if_pos h3] at hE;rw [hE,Ql (by decide)];refine qJ 0 ?_;exact Yp
   ·rw [if_neg h3] at hE;have hk:=qfT j.coms;have hR:=JA.1 h1;generalize hRR:yB j.first j.base j.coms = R at *;generalize XC j = O at *;generalize YD j.coms = K at *;refine qJ 0 ?_
    repeat' (first|refine qg ?_|(first|refine yS (hc ..) ?_|(apply j5;apply vu;exact nle rfl))|(refine xsS ?_ ?_;all_goals first|exact False.elim|intro hp hc)|refine xsA ?_ ?_)
    all_goals try (exfalso;omega)
    (refine xsK (τ:=⟨[(1,.op 0 0 0),(5,.op 1 0 0),(6,.mp 2),(39,yv j.coms),(40,.v (.int .i64 j.coms.length)),(41,.v (.int .i64 ((0:Nat):Int)))],[(0,.own false 3 [j.row]),(1,.own false 4 [Xe j j.base]),(2,.mp (zU ((j.coms.take 0).map Com.key)))],3⟩) [(0,0),(1,1),(2,2)] (by (repeat (first|exact qx|refine jz ?_|refine wm ?_|refine QL ?_|refine X2 ?_|refine QM ?_ ?_|refine xy ?_ ?_));all_goals (first|(rw [List.length_map];done)|rfl|exact nofun)) (by (repeat (first|exact qn|refine q_r ?_|refine qpC ?_ ?_ ?_|refine vH ?_ ?_));all_goals (first|(rw [List.length_map];done)|rfl|exact nofun)) ?_)
    refine qB (fun n σ => ∃ (i:Nat) (u:List Ent),i ≤ j.coms.length ∧ n = j.coms.length - i ∧ (R = yB (j.first + i) u (j.coms.drop i) ∧ Right u) ∧ σ = ⟨[(1,.op 0 0 0),(5,.op 1 0 0),(6,.mp 2),(39,yv j.coms),(40,.v (.int .i64 j.coms.length)),(41,.v (.int .i64 (i:Int)))],[(0,.own false 3 [j.row]),(1,.own false 4 [Xe j u]),(2,.mp (zU ((j.coms.take i).map Com.key)))],3⟩) j.coms.length ⟨0,j.base,Nat.zero_le _,rfl,⟨by rw [← hRR];simp,hR⟩,rfl⟩ ?_;rintro n σ ⟨i,u,hi,rfl,⟨hRi,hRu⟩,rfl⟩;by_cases hlt:i < j.coms.length
    ·have hr:=qK (f:=Com.row) hlt;have hcs:=hb.coms.each j.coms[i] (List.getElem_mem _);have hkey:=KJ j.coms[i].key;have hall:=qc7 u j.coms[i].chs j.coms[i].num hRu.big hcs.chs;have hkm:=qiR hlt;have hkp:=Xg ((j.coms.take (i + 1)).map Com.key);have hcl:(j.coms[i].chs.map Chg.row).length = j.coms[i].chs.length:=List.length_map ..;have hnil:j.coms[i].chs = [] ↔ j.coms[i].chs.length = 0:=List.length_eq_zero_iff.symm;rw [qfr hlt] at hRi;by_cases hce:zY (j.first + i) j.coms[i] = 0
     ·obtain ⟨e1,e2,e3,e4⟩:=Yx hce;rw [if_neg (by simp [hce])] at hRi;rw [e3] at hkey;have hRn := @JL j.coms[i].num u j.coms[i].chs hRu;generalize ve j.coms[i].num u j.coms[i].chs = T at *;obtain ⟨t2,n2,er⟩:=T;by_cases hz:er = 0
      ·subst hz;rw [if_neg (by simp)] at hRi;have hRn:=hRn rfl;have hRi2:R = yB (j.first + ((i + 1:Nat):Int)) t2 (j.coms.drop (i + 1)):=by rw [hRi];congr 1;omega
       clear hRi hRR hE hce e3
       repeat' (first|refine qg ?_|(first|refine jT (hkey ..) ?_|refine yS (hall ..) ?_|(apply qP;apply xI;rfl;rfl;rfl;rfl;rfl;rfl;rfl;rfl))|(refine xsS ?_ ?_;all_goals first|exact False.elim|intro hp hc)|refine xsA ?_ ?_)
       all_goals try (exfalso;first|omega|(simp_all;done))
       refine ⟨j.coms.length - (i + 1),_,by omega,xsL (τ:=⟨[(1,.op 0 0 0),(5,.op 1 0 0),(6,.mp 2),(39,yv j.coms),(40,.v (.int .i64 j.coms.length)),(41,.v (.int .i64 ((i + 1:Nat):Int)))],[(0,.own false 3 [j.row]),(1,.own false 4 [Xe j t2]),(2,.mp (zU ((j.coms.take (i + 1)).map Com.key)))],3⟩) [(0,0),(1,1),(2,2)] (by (repeat (first|exact qx|refine jz ?_|refine wm ?_|refine QL ?_|refine X2 ?_|refine QM ?_ ?_|refine xy ?_ ?_));all_goals (first|(rw [hkm];rfl)|exact hkp|rfl)) (by (repeat (first|exact qn|refine q_r ?_|refine qpC ?_ ?_ ?_|refine vH ?_ ?_));all_goals (first|(rw [hkm];rfl)|exact hkp|rfl)),i + 1,t2,by omega,rfl,⟨hRi2,hRn⟩,rfl⟩
      ·rw [if_pos hz] at hRi;rw [hRi,if_pos hz] at hE;rw [hE,Ql hz];clear hRi hRR hE hce e3;exact Yp
     ·rw [if_pos hce] at hRi;rw [hRi,if_pos hce] at hE;rw [hE,Ql hce];clear hRi hRR hE hk hkm hkp hall hRu
      have hcv:zY (j.first + i) j.coms[i] = if ¬ j.coms[i].num = j.first + i then 4 else if 1000000 < j.coms[i].num then 3 else if kh j.coms[i].key = false ∨ j.coms[i].chs = [] then 1 else 0:=rfl
      generalize kh j.coms[i].key = KK at *;generalize hCE:zY (j.first + i) j.coms[i] = CE at *;clear hCE;by_cases n1:j.coms[i].num = j.first + i
      ·rw [if_neg (by simp [n1])] at hcv;by_cases n2:1000000 < j.coms[i].num
       ·rw [if_pos n2] at hcv;subst hcv
        (repeat' (first|refine qg ?_|(first|refine jT (hkey ..) ?_)|(refine xsS ?_ ?_;all_goals first|exact False.elim|intro hp hc)|refine xsA ?_ ?_))
        (all_goals try (exfalso;first|omega|contradiction))
        (all_goals ((exact kw (rs:=[.tmp 2,.tmp 3]))))
       ·rw [if_neg n2] at hcv
        have hz:KK = false ∨ j.coms[i].chs.length = 0:=by
         by_cases hq:KK = false ∨ j.coms[i].chs = []
         ·exact hq.imp id hnil.1
         ·rw [if_neg hq] at hcv;exact absurd hcv hce
        obtain rfl:CE = 1:=by rw [hcv,if_pos (hz.imp id hnil.2)]
        clear hcv hce
        cases KK with
        | false =>
          (repeat' (first|refine qg ?_|(first|refine jT (hkey ..) ?_)|(refine xsS ?_ ?_;all_goals first|exact False.elim|intro hp hc)|refine xsA ?_ ?_))
          (all_goals try (exfalso;first|omega|contradiction))
          (all_goals ((exact kw (rs:=[.tmp 2,.tmp 3]))))
        | true =>
          have hz:j.coms[i].chs.length = 0:=hz.resolve_left (by decide);have hz2:=hnil.2 hz
          (repeat' (first|refine qg ?_|(first|refine jT (hkey ..) ?_)|(refine xsS ?_ ?_;all_goals first|exact False.elim|intro hp hc)|refine xsA ?_ ?_))
          (all_goals try (exfalso;first|omega|contradiction))
          (all_goals ((exact kw (rs:=[.tmp 2,.tmp 3]))))
      ·rw [if_pos n1] at hcv;subst hcv
       (repeat' (first|refine qg ?_|(first|refine jT (hkey ..) ?_)|(refine xsS ?_ ?_;all_goals first|exact False.elim|intro hp hc)|refine xsA ?_ ?_))
       (all_goals try (exfalso;first|omega|contradiction))
       (all_goals ((exact kw (rs:=[.tmp 2,.tmp 3]))))
    ·obtain rfl:i = j.coms.length:=by omega
     rw [List.drop_length] at hRi;rw [hRi,if_neg (by simp [yB])] at hE;rw [List.take_length]
     have hE:O = if K = true then (u,0) else ([],6):=hE
     refine Ym 5 1 ?_
     cases K with
     | true =>
       rw [if_pos rfl] at hE;have hk:=hk.1 rfl;rw [hE];clear hRi hRR hE
       repeat' (first|refine qg ?_|(first|(apply qa;apply vM;rfl;rfl;rfl;rfl;exact nle rfl))|(refine xsS ?_ ?_;all_goals first|exact False.elim|intro hp hc)|refine xsA ?_ ?_)
       all_goals try (exfalso;first|omega|(simp_all;done))
       (exact kw (rs:=[.tmp 2,.tmp 3]))
     | false =>
       rw [if_neg (by decide)] at hE;rw [hE,Ql (by decide)]
       have hk:(zU (j.coms.map Com.key)).length < j.coms.length:=by
        by_cases h:(zU (j.coms.map Com.key)).length < j.coms.length
        ·exact h
        ·exact absurd (hk.2 h) (by decide)
       clear hRi hRR hE
       repeat' (first|refine qg ?_|(first|(apply qa;apply vM;rfl;rfl;rfl;rfl;exact nle rfl))|(refine xsS ?_ ?_;all_goals first|exact False.elim|intro hp hc)|refine xsA ?_ ?_)
       all_goals try (exfalso;first|omega|(simp_all;done))
       (exact kw (rs:=[.tmp 2,.tmp 3]))
 ·rw [if_pos h1] at hE;rw [hE,Ql h1];generalize jv j.base = E at *;refine qJ 0 ?_;exact Yp
theorem Wh (a b:List Com) (ha:MBig a) (hb:MBig b):jN C.P 91 [yv a,yv b] (.v (.bool (decide (a = b)))):=by
 have hla:=ha.len;have hlb:=hb.len;have hma:(a.map Com.row).length = a.length:=List.length_map ..;have hmb:(b.map Com.row).length = b.length:=List.length_map ..;refine qJ 0 ?_
 repeat' (first|refine qg ?_|fail|(refine xsS ?_ ?_;all_goals first|exact False.elim|intro hp hc)|refine xsA ?_ ?_)
 ·apply qR;rfl;have hne:¬ a = b:=fun e=>by subst e;simp at *
  simp [hne]
 have hab:a.length = b.length:=by simp at *;omega
 refine Zq (ts:=[(0,yv a),(1,yv b),(5,.v (.int .i64 ((0:Nat):Int)))]) ?_;refine qB (fun n σ => ∃ i:Nat,i ≤ a.length ∧ n = a.length - i ∧ (a.take i = b.take i) ∧ σ = ⟨[(0,yv a),(1,yv b),(5,.v (.int .i64 (i:Int)))],[],C.nh⟩) a.length ⟨0,Nat.zero_le _,rfl,rfl,rfl⟩ ?_;rintro n σ ⟨i,hi,rfl,hsofar,rfl⟩;by_cases hlt:i < a.length
 ·have hlt2:i < b.length:=by omega
  have hr:=qK (f:=Com.row) hlt;have hr':=qK (f:=Com.row) hlt2;have hnx:=Z8 hlt hlt2 hsofar;have hsc:=qaG a[i].chs b[i].chs (ha.each _ (List.getElem_mem _)).chs.len (hb.each _ (List.getElem_mem _)).chs.len
  have hin:a[i] = b[i] ↔ a[i].num = b[i].num ∧ a[i].key = b[i].key ∧ a[i].chs = b[i].chs:=by
   obtain ⟨x1,x2,x3⟩:=a[i];obtain ⟨y1,y2,y3⟩:=b[i];simp
  have hne:¬ a[i] = b[i] → ¬ a = b:=fun h e=>h (by subst e;rfl)
  generalize hD:decide (a[i].chs = b[i].chs) = D at *
  repeat' (first|refine qg ?_|(first|refine jT (hsc ..) ?_)|(refine xsS ?_ ?_;all_goals first|exact False.elim|intro hp hc)|refine xsA ?_ ?_)
  all_goals try (exfalso;omega)
  all_goals first
   | (refine ⟨a.length - (i + 1),_,by omega,xsM (ts:=[(0,yv a),(1,yv b),(5,.v (.int .i64 ((i + 1:Nat):Int)))]),i + 1,by omega,rfl,(hnx (by rw [hin];simp_all)),rfl⟩)
   | (apply qR;rfl;have hx:=hne (by rw [hin];simp_all);simp [hx])
 obtain rfl:i = a.length:=by omega
 have he:a = b:=by rw [List.take_length] at hsofar;rw [hsofar,hab,List.take_length]
 repeat' (first|refine qg ?_|fail|(refine xsS ?_ ?_;all_goals first|exact False.elim|intro hp hc)|refine xsA ?_ ?_)
 all_goals try (exfalso;omega)
 apply qR;rfl;simp [he]
theorem qig (a b:Jou) (ha:JBig a) (hb:JBig b):jN C.P 32 [.agg a.row,.agg b.row] (.v (.bool (decide (a = b)))):=by
 have h1:=Xz a.base b.base ha.base.len hb.base.len;have h2:=Wh a.coms b.coms ha.coms hb.coms
 have hin:decide (a = b) = (decide (a.base = b.base) && decide (a.first = b.first) && decide (a.coms = b.coms)):=by
  obtain ⟨x1,x2,x3⟩:=a;obtain ⟨y1,y2,y3⟩:=b;rw [Bool.eq_iff_iff];simp [and_assoc]
 rw [hin];generalize decide (a.base = b.base) = D1 at *;generalize decide (a.coms = b.coms) = D2 at *;clear hin;refine qJ 0 ?_
 repeat' (first|refine qg ?_|(first|refine jT (h1 ..) ?_|refine jT (h2 ..) ?_)|(refine xsS ?_ ?_;all_goals first|exact False.elim|intro hp hc)|refine xsA ?_ ?_)
 all_goals (apply qR;rfl;simp_all)
theorem qih (a b:Pag) (ha:PBig a) (hb:PBig b):jN C.P 48 [.agg a.row,.agg b.row] (.v (.bool (decide (a = b)))):=by
 have h1:=Xz a.tree b.tree ha.tree.len hb.tree.len;have h2:=Wh a.coms b.coms ha.coms hb.coms
 have hin:decide (a = b) = (decide (a.reset = b.reset) && decide (a.tree = b.tree) && decide (a.coms = b.coms) && decide (a.cur = b.cur) && decide (a.more = b.more)):=by
  obtain ⟨x1,x2,x3,x4,x5⟩:=a;obtain ⟨y1,y2,y3,y4,y5⟩:=b;rw [Bool.eq_iff_iff];simp [and_assoc]
 rw [hin];generalize decide (a.tree = b.tree) = D1 at *;generalize decide (a.coms = b.coms) = D2 at *;clear hin;refine qJ 0 ?_
 repeat' (first|refine qg ?_|(first|refine jT (h1 ..) ?_|refine jT (h2 ..) ?_|(refine qpv ?_))|(refine xsS ?_ ?_;all_goals first|exact False.elim|intro hp hc)|refine xsA ?_ ?_)
 all_goals (apply qR;rfl;first|(simp_all;done)|(simp_all;cases a.more<;>cases b.more<;>rfl))
end Go.Proofs.YtgcncinnlmjgdaaGreatDoor
namespace Go.Ab
theorem qqm {h:Nat → HB} {n off len:Nat} {ex:Bool} {k:Nat} {rows rows' : List (List AV)} (he:(rows.drop off).take len = rows') (hp : ∀ row,row ∈ rows' → AV.pure.pureL row = true) (hl:off + len ≤ rows.length) (hn:h n = .own ex k rows:=by rfl):Rz h (.os n off len) (.sl false rows') :=
 by subst he;exact qbJ hn hl (ww hp)
theorem qaq {α β:Type} {f:α → β} {l:List α} {i:Nat} (h:i < l.length):(l.map f).set i (f l[i]) = l.map f:=by
 rw [← List.map_set,List.set_getElem_self]
end Go.Ab
namespace Go.Proofs.YtgcncinnlmjgdaaGreatDoor
open Go.Ab Go.RowKit
attribute [local irreducible] Awp j9 jr ye Red qz Go.Ab.Fin qf Rz wz jF jU ResOk yA j1 xR qX
theorem qdb (l:List Com) (hl:l.length ≤ 1000000) :
  qf C.P 123 [yv l] [] (.os 0 0 l.length) [.own false 3 (l.map Com.row)]:=by
 by_cases h0:l = []
 ·subst h0;refine qJ 0 ?_
  repeat' (first|refine qg ?_|(first|(refine jd ?_)|(refine vm ?_)|(refine Xj ?_))|(refine xsS ?_ ?_;all_goals first|exact False.elim|intro hp hc)|refine xsA ?_ ?_)
  · (refine Q4 (C:=C) (Q9 (C:=C) 2 3 rfl (Nat.zero_le _)) ?_)
    (exact yp (rs:=[.tmp 2]) [(0,0)] 1 Yh)
  · (exact yp (rs:=[.tmp 2]) [(0,0)] 1 Yh)
 ·refine qJ 0 ?_
  repeat' (first|refine qg ?_|(first|(refine jd ?_)|(refine vm ?_)|(apply qa;apply Qh;rfl;exact (fun h=>h0 (List.map_eq_nil_iff.1 h));rfl;rfl;(first|exact .inl rfl|exact .inr rfl);exact nle rfl))|(refine xsS ?_ ?_;all_goals first|exact False.elim|intro hp hc)|refine xsA ?_ ?_)
  (exact yp (rs:=[.tmp 2]) [(0,0)] 1 Yh)
theorem Vd (l:List Com) (hl:l.length ≤ 1000000) (hc : ∀ c,c ∈ l → c.chs.length ≤ 1000000) :
  qf C.P 176 [yv l] [] (.os 0 0 l.length) [.own false 3 (l.map Com.row)]:=by
 have h1:=qdb l hl;refine qJ 0 ?_
 repeat' (first|refine qg ?_|(first|(refine jP ([]) qi (h1 ..) ?_))|(refine xsS ?_ ?_;all_goals first|exact False.elim|intro hp hc)|refine xsA ?_ ?_)
 all_goals try (exfalso;omega)
 (refine xsK (τ:=⟨[(0,.os 0 0 l.length),(7,.os 0 0 l.length),(8,.v (.int .i64 l.length)),(9,.v (.int .i64 ((0:Nat):Int)))],[(0,.own false 3 (l.map Com.row))],1⟩) [(0,0)] tz9 qgO ?_)
 refine qB (fun n σ => ∃ i:Nat,i ≤ l.length ∧ n = l.length - i ∧ (True) ∧ σ = ⟨[(0,.os 0 0 l.length),(7,.os 0 0 l.length),(8,.v (.int .i64 l.length)),(9,.v (.int .i64 (i:Int)))],[(0,.own false 3 (l.map Com.row))],1⟩) l.length ⟨0,Nat.zero_le _,rfl,trivial,rfl⟩ ?_;rintro n σ ⟨i,hi,rfl, -,rfl⟩;by_cases hlt:i < l.length
 ·have hr:=qK (f:=Com.row) hlt;have hcc:=Y5 l[i].chs (hc _ (List.getElem_mem _));have hss:=qaq (f:=Com.row) hlt
  repeat' (first|refine qg ?_|(first|(refine vq ?_)|refine yS (hcc ..) ?_)|(refine xsS ?_ ?_;all_goals first|exact False.elim|intro hp hc)|refine xsA ?_ ?_)
  all_goals try (exfalso;omega)
  refine ⟨l.length - (i + 1),_,by omega,xsL (τ:=⟨[(0,.os 0 0 l.length),(7,.os 0 0 l.length),(8,.v (.int .i64 l.length)),(9,.v (.int .i64 ((i + 1:Nat):Int)))],[(0,.own false 3 (l.map Com.row))],1⟩) [(0,0)] (by (repeat (first|exact qx|refine jz ?_|refine wm ?_|refine qcB ?_|refine xy ?_ ?_));all_goals exact hss) (by (repeat (first|exact qn|refine J8 ?_|refine vH ?_ ?_));all_goals exact hss),i + 1,by omega,rfl,trivial,rfl⟩
 obtain rfl:i = l.length:=by omega
 repeat' (first|refine qg ?_|fail|(refine xsS ?_ ?_;all_goals first|exact False.elim|intro hp hc)|refine xsA ?_ ?_)
 all_goals try (exfalso;omega)
 (exact yp (rs:=[.tmp 2]) [(0,0)] 1 qav)
theorem KL (j:Jou) (t:List Ent) (h:JRight j):jN C.P 175 [.fp [Xe j t] 0 0] (.v (.int .i64 (xp j))):=by
 have h1:=h.lo;have h2:=h.hi;have h3:=h.len;have hml:(j.coms.map Com.row).length = j.coms.length:=List.length_map ..;refine qJ 0 ?_
 repeat' (first|refine qg ?_|fail|(refine xsS ?_ ?_;all_goals first|exact False.elim|intro hp hc)|refine xsA ?_ ?_)
 all_goals try (exfalso;omega)
 apply qI;rfl;unfold xp;rw [hml]
theorem qjP (j:Jou) (hb:JBig j):jN C.P 50 [.agg j.row] (.v (.int .i64 (ki j))):=by
 have h1:=Zt j hb;have h2:=qby j;by_cases hz:ki j = 0
 ·rw [qbz hz] at h1;rw [hz];refine qJ 0 ?_
  repeat' (first|refine qg ?_|(first|refine yS (h1 ..) ?_)|(refine xsS ?_ ?_;all_goals first|exact False.elim|intro hp hc)|refine xsA ?_ ?_)
  apply qI;rfl;rfl
 ·have h3:W7 j (XC j) = .tup [.v (.pointer none),.v (.int .i64 (ki j))]:=by unfold W7;rw [h2,if_neg hz]
  rw [h3] at h1;refine qJ 0 ?_
  repeat' (first|refine qg ?_|(first|refine yS (h1 ..) ?_)|(refine xsS ?_ ?_;all_goals first|exact False.elim|intro hp hc)|refine xsA ?_ ?_)
  apply qI;rfl;rfl
def qbO (j:Jou):List Ent × Int:=if ki j = 0 then (vg j,0) else ([],ki j)
theorem W8 {j:Jou} (h:¬ ki j = 0):W7 j (XC j) = .tup [.v (.pointer none),.v (.int .i64 (ki j))]:=by unfold W7;rw [qby,if_neg h]
theorem V0 {j:Jou} (h:ki j = 0):W7 j (XC j) = .tup [.fp [Xe j (vg j)] 0 0,.v (.int .i64 0)]:=by rw [qbz h];rfl
theorem qmn (j:Jou) (hb:JBig j):jN C.P 89 [.agg j.row] (.tup [qU (qbO j).1,.v (.int .i64 (qbO j).2)]):=by
 have h1:=Zt j hb;by_cases hz:ki j = 0
 ·rw [V0 hz] at h1;have hR:=(y0.1 hz).now;have h2:=Qd (vg j) (by have:=hR.len;omega);unfold qbO;rw [if_pos hz];generalize vg j = U at *;refine qJ 0 ?_;exact Yp
 ·rw [W8 hz] at h1;unfold qbO;rw [if_neg hz];generalize ki j = E at *;refine qJ 0 ?_;exact Yp
theorem qm1 (a b:Fol):(Op.bytesLess b.name a.name || decide (b.name = a.name)) = !yW a b:=by
 unfold yW
 rcases JQ a.name b.name with ⟨h1,h2,h3⟩|⟨h1,h2,h3⟩|⟨h1,h2,h3⟩
 ·have h4:¬ b.name = a.name:=fun e=>h3 e.symm
  simp [h1,h2,h4]
 ·simp [h1,zp]
 ·simp [h1,h2]
theorem qfM {h:Hub} (hn:qq h.now 0 1099511627776 = false):yE h = 3:=by unfold yE;rw [if_pos hn]
theorem qdY {h:Hub} (hn:qq h.now 0 1099511627776 = true) (h8:8 < h.fols.length):yE h = 2:=by unfold yE;rw [if_neg (by rw [hn];decide),if_pos h8]
theorem qdX {h:Hub} (hn:qq h.now 0 1099511627776 = true) (h8:¬ 8 < h.fols.length):yE h = if ¬ jp vw h.fols = 0 then jp vw h.fols else if ql yW h.fols = false then 4 else if ¬ jx h.gras = 0 then jx h.gras else if kI h = false then 5 else yu h.ups:=by unfold yE;rw [if_neg (by rw [hn];decide),if_neg h8]
theorem qfL {h:Hub} (hn:qq h.now 0 1099511627776 = true) (h8:¬ 8 < h.fols.length) {k:Nat} (hk:k < h.fols.length) (hs : ∀ g,g ∈ h.fols.take k → vw g = 0) (h0:vw h.fols[k] ≠ 0):yE h = vw h.fols[k]:=by
 have h1:=kY hk hs h0;rw [qdX hn h8,h1,if_pos h0]
theorem Je (h:Hub) (hb:HBig h):jN C.P 15 [vT h] (.v (.int .i64 (yE h))):=by
 have e1 := @qfM h;have e2 := @qdY h;have e3 := @qdX h;have e4 := @qfL h;have hma:=fun h1 h2 h3=>qib h h1 h2 h3
 have hgc:=Yt h.gras hb.gras;have huc:=K7 h.ups hb.ups;have hfb:=hb.fols;have hml:=hb.gras.len;obtain ⟨F,G,U,now⟩:=h;dsimp only at *;have hll:=hfb.len;generalize hE:yE ⟨F,G,U,now⟩ = E at *;clear hE hb;by_cases hn:qq now 0 1099511627776 = true
 case neg =>
  have hn:qq now 0 1099511627776 = false:=by simpa using hn
  rw [e1 hn]
  have hw:now < 0 ∨ 1099511627776 < now:=by
   by_cases h1:now < 0
   ·exact .inl h1
   ·refine .inr ?_;unfold qq at hn;simp at hn;omega
  clear e1 e2 e3 e4 hma hgc huc hfb;refine qJ 0 ?_
  (repeat apply jW);refine qO ?_;(repeat' (first|apply qF|refine wk ?_|refine we ?_|refine wJ ?_|refine J4 ?_|refine wi ?_|refine YO ?_|refine wj ?_|refine X1 ?_|refine J6 ?_|refine Jt ?_|refine wI ?_|refine zK ?_|(first|fail)|refine xY ?_|refine vA ?_|refine vz ?_|refine xL ?_|refine xK ?_|refine kZ ?_|refine k9 ?_|refine vy ?_|refine vx ?_|((first|refine vl ?_ ?_|refine vk ?_ ?_);all_goals (intro hc;have hp:=hc;first|(simp at hp;done)|((try simp at hp);first|(exfalso;omega)|skip)))));show Awp _ _ _ _ _
  refine Ym 1 0 ?_;exact Yp
 obtain ⟨n0,n1⟩:=zy.1 hn;by_cases h8:8 < F.length
 ·rw [e2 hn h8];clear e1 e2 e3 e4 hma hgc huc hfb;refine qJ 0 ?_
  (repeat apply jW);refine qO ?_;(repeat' (first|apply qF|refine wk ?_|refine we ?_|refine wJ ?_|refine J4 ?_|refine wi ?_|refine YO ?_|refine wj ?_|refine X1 ?_|refine J6 ?_|refine Jt ?_|refine wI ?_|refine zK ?_|(first|fail)|refine xY ?_|refine vA ?_|refine vz ?_|refine xL ?_|refine xK ?_|refine kZ ?_|refine k9 ?_|refine vy ?_|refine vx ?_|((first|refine vl ?_ ?_|refine vk ?_ ?_);all_goals (intro hc;have hp:=hc;first|(simp at hp;done)|((try simp at hp);first|(exfalso;omega)|skip)))));show Awp _ _ _ _ _
  refine Ym 1 0 ?_;exact Yp
 have e3:=e3 hn h8;have e4:=fun {k} => @e4 hn h8 k
 clear e1 e2;refine qJ 0 ?_
 (repeat apply jW);refine qO ?_;(repeat' (first|apply qF|refine wk ?_|refine we ?_|refine wJ ?_|refine J4 ?_|refine wi ?_|refine YO ?_|refine wj ?_|refine X1 ?_|refine J6 ?_|refine Jt ?_|refine wI ?_|refine zK ?_|(first|fail)|refine xY ?_|refine vA ?_|refine vz ?_|refine xL ?_|refine xK ?_|refine kZ ?_|refine k9 ?_|refine vy ?_|refine vx ?_|((first|refine vl ?_ ?_|refine vk ?_ ?_);all_goals (intro hc;have hp:=hc;first|(simp at hp;done)|((try simp at hp);first|(exfalso;omega)|skip)))));show Awp _ _ _ _ _
 refine Ym 1 0 ?_
 repeat' (first|refine qg ?_|(first|fail)|(refine xsS ?_ ?_;all_goals first|exact False.elim|intro hp hc)|refine xsA ?_ ?_)
 all_goals try (exfalso;first|omega|contradiction)
 refine Zq (ts:=[(1,.fp [Hub.row ⟨F,G,U,now⟩] 0 0),(23,Jo F),(24,.v (.int .i64 F.length)),(25,.v (.int .i64 ((0:Nat):Int)))]) ?_
 all_goals try (rw [List.length_map];done)
 refine qB (fun n σ => ∃ i:Nat,i ≤ F.length ∧ n = F.length - i ∧ (∀ g,g ∈ F.take i → vw g = 0) ∧ σ = ⟨[(1,.fp [Hub.row ⟨F,G,U,now⟩] 0 0),(23,Jo F),(24,.v (.int .i64 F.length)),(25,.v (.int .i64 (i:Int)))],[],C.nh⟩) F.length ⟨0,Nat.zero_le _,rfl,(by simp),rfl⟩ ?_;rintro n σ ⟨i,hi,rfl,hsofar,rfl⟩;by_cases hlt:i < F.length
 ·have hr:=qK (f:=Fol.row) hlt;have hsm:=hfb.each F[i] (List.getElem_mem _);have hname:=xJ F[i].name (jq hsm.name);have hjc:=qjP F[i].jou hsm.jou
  have hfe:vw F[i] = if qj F[i].name = true then ki F[i].jou else 1:=rfl
  cases hin:qj F[i].name with
  | false =>
    rw [hin] at hname hfe;have hfe:vw F[i] = 1:=by rw [hfe];simp
    rw [e4 hlt hsofar (by rw [hfe];decide),hfe];clear e3 e4 hma hgc huc hfb;exact Yp
  | true =>
    rw [hin] at hname hfe;have hfe:vw F[i] = ki F[i].jou:=by rw [hfe];simp
    by_cases hz:ki F[i].jou = 0
    ·rw [hz] at hjc hfe;have hnx:=jJ (p:=fun g=>vw g = 0) hlt hsofar hfe;clear e3 e4 hma hgc huc hfb
     repeat' (first|refine qg ?_|(first|refine jT (hname ..) ?_|refine jT (hjc ..) ?_)|(refine xsS ?_ ?_;all_goals first|exact False.elim|intro hp hc)|refine xsA ?_ ?_)
     all_goals try (exfalso;first|omega|contradiction)
     refine ⟨F.length - (i + 1),_,by omega,xsM (ts:=[(1,.fp [Hub.row ⟨F,G,U,now⟩] 0 0),(23,Jo F),(24,.v (.int .i64 F.length)),(25,.v (.int .i64 ((i + 1:Nat):Int)))]),i + 1,by omega,rfl,hnx,rfl⟩
    ·rw [e4 hlt hsofar (by rw [hfe];exact hz),hfe];clear e3 e4 hma hgc huc hfb hfe;generalize ki F[i].jou = JE at *;exact Yp
 obtain rfl:i = F.length:=by omega
 have hz:jp vw F = 0:=jA.2 (fun s hs=>hsofar s qaw);rw [if_neg (fun q=>q hz)] at e3;clear hsofar e4 hfb
 repeat' (first|refine qg ?_|fail|(refine xsS ?_ ?_;all_goals first|exact False.elim|intro hp hc)|refine xsA ?_ ?_)
 all_goals try (exfalso;omega)
 refine Zq (ts:=[(1,.fp [Hub.row ⟨F,G,U,now⟩] 0 0),(6,.v (.int .i64 ((0 + 1:Nat):Int)))]) ?_;refine qB (fun n σ => ∃ i:Nat,i ≤ (F.drop 1).length ∧ n = (F.drop 1).length - i ∧ (∀ (k:Nat) (h:k + 1 < F.length),k < i → yW (F[k]'(by omega)) F[k + 1] = true) ∧ σ = ⟨[(1,.fp [Hub.row ⟨F,G,U,now⟩] 0 0),(6,.v (.int .i64 ((i + 1:Nat):Int)))],[],C.nh⟩) (F.drop 1).length ⟨0,Nat.zero_le _,rfl,(fun k h hk=>absurd hk (Nat.not_lt_zero _)),rfl⟩ ?_;have hdl:(F.drop 1).length = F.length - 1:=by simp
 rintro n σ ⟨i,hi,rfl,hsofar,rfl⟩;by_cases hlt:i + 1 < F.length
 ·have hr:=qK (f:=Fol.row) hlt;have hr':=qK (f:=Fol.row) (l:=F) (i:=i) (by omega);have hle:=qm1 F[i] F[i + 1]
  have hnr:yW F[i] F[i + 1] = false → ql yW F = false:=fun h=>by
   cases hq:ql yW F
   ·rfl
   ·have:=yt.1 hq i hlt;rw [h] at this;cases this
  cases hfl:yW F[i] F[i + 1] with
  | false =>
    rw [if_pos (hnr hfl)] at e3;rw [e3];rw [hfl] at hle;clear e3 hma hgc huc hnr;exact Yp
  | true =>
    rw [hfl] at hle;have hok:=hfl;clear e3 hma hgc huc hnr
    repeat' (first|refine qg ?_|fail|(refine xsS ?_ ?_;all_goals first|exact False.elim|intro hp hc)|refine xsA ?_ ?_)
    all_goals try (exfalso;first|omega|simp_all;done)
    refine ⟨(F.drop 1).length - (i + 1),_,by omega,yC (ts:=[(1,.fp [Hub.row ⟨F,G,U,now⟩] 0 0),(6,.v (.int .i64 ((i + 1 + 1:Nat):Int)))]) ?_,i + 1,by omega,rfl,(fun k h hk=>by
     by_cases e:k = i
     ·subst e;exact hok
     ·exact hsofar k h (by omega)),rfl⟩;((repeat (first|exact qx|refine jz ?_|refine xy ?_ ?_)))
 have hrise:ql yW F = true:=yt.2 fun k h=>hsofar k h (by simp at hi;omega)
 rw [if_neg (by rw [hrise];decide)] at e3;clear hsofar;rw [e3];clear e3;by_cases hg0:jx G = 0
 case neg =>
  rw [if_pos hg0];generalize jx G = GE at *;clear hma huc;exact Yp
 rw [if_neg (fun q=>q hg0)];rw [hg0] at hgc;have hma:=hma (by omega) (by have:=zr hg0;omega) hrise
 cases hmm:kI ⟨F,G,U,now⟩ with
 | false =>
   rw [hmm] at hma;rw [if_pos rfl];clear huc;exact Yp
 | true =>
   rw [hmm] at hma;rw [if_neg (by decide)];generalize yu U = UE at *;exact Yp
def qpG (r:Pag × Int):AV := .tup [.agg r.1.row,.v (.int .i64 r.2)]
theorem qbH {α:Type} {f:α → List AV} {l:List α} {k m:Nat}:(((((l.map f).take (l.map f).length).drop k).take m).drop 0) = ((l.drop k).take m).map f:=by
 rw [List.take_length];simp
theorem qn6 (j:Jou) (cursor most:Int) (hb:JBig j):jN C.P 145 [.agg j.row,.v (.int .i64 cursor),.v (.int .i64 most)] (qpG (V9 j cursor most)):=by
 have ho:=Zt j hb;have hmj:(j.coms.map Com.row).length = j.coms.length:=List.length_map ..;by_cases hz:ki j = 0
 ·rw [V0 hz] at ho;have hJ:=y0.1 hz;have hlen:=hJ.len;have hlo:=hJ.lo;have hhi:=hJ.hi;have hN:=hJ.now;have hlast:=KL j (vg j) hJ;have hce:=Qd (vg j) (by have:=hN.len;omega);have hE:V9 j cursor most = Jw j cursor most:=by unfold V9;rw [if_neg (by simp [hz])]
  have hL:xp j = j.first + j.coms.length - 1:=rfl;have hfew:=Qe hJ.base hJ.run;have hrk : ∀ row,row ∈ j.coms.map Com.row → row.length = 3:=fun row hr=>by obtain ⟨x,_,rfl⟩:=List.mem_map.1 hr;rfl
  rw [hE];unfold Jw;clear hE hz;generalize vg j = U at *;generalize xp j = LN at *;by_cases h1:most < 1 ∨ 10 < most ∨ cursor < 0
  ·rw [if_pos h1];refine qJ 0 ?_
   (repeat apply jW);refine qO ?_;(repeat' (first|apply qF|refine wk ?_|refine we ?_|refine wJ ?_|refine J4 ?_|refine wi ?_|refine YO ?_|refine wj ?_|refine VY ?_|refine ZV ?_|refine ZU ?_|refine Jt ?_|refine wI ?_|refine zK ?_|(first|fail)|refine xY ?_|refine vA ?_|refine vz ?_|refine xL ?_|refine xK ?_|refine kZ ?_|refine k9 ?_|refine vy ?_|refine vx ?_|((first|refine vl ?_ ?_|refine vk ?_ ?_);all_goals (intro hc;have hp:=hc;first|(simp at hp;done)|((try simp at hp);first|(exfalso;omega)|skip)))));show Awp _ _ _ _ _
   refine Ym 3 0 ?_;exact Yp
  ·rw [if_neg h1];by_cases h2:LN < cursor
   ·rw [if_pos h2];refine qJ 0 ?_
    (repeat apply jW);refine qO ?_;(repeat' (first|apply qF|refine wk ?_|refine we ?_|refine wJ ?_|refine J4 ?_|refine wi ?_|refine YO ?_|refine wj ?_|refine VY ?_|refine ZV ?_|refine ZU ?_|refine Jt ?_|refine wI ?_|refine zK ?_|(first|fail)|refine xY ?_|refine vA ?_|refine vz ?_|refine xL ?_|refine xK ?_|refine kZ ?_|refine k9 ?_|refine vy ?_|refine vx ?_|((first|refine vl ?_ ?_|refine vk ?_ ?_);all_goals (intro hc;have hp:=hc;first|(simp at hp;done)|((try simp at hp);first|(exfalso;omega)|skip)))));show Awp _ _ _ _ _
    refine Ym 3 0 ?_;exact Yp
   ·rw [if_neg h2];by_cases h3:cursor < j.first - 1
    ·rw [if_pos h3];refine qJ 0 ?_
     (repeat apply jW);refine qO ?_;(repeat' (first|apply qF|refine wk ?_|refine we ?_|refine wJ ?_|refine J4 ?_|refine wi ?_|refine YO ?_|refine wj ?_|refine VY ?_|refine ZV ?_|refine ZU ?_|refine Jt ?_|refine wI ?_|refine zK ?_|(first|fail)|refine xY ?_|refine vA ?_|refine vz ?_|refine xL ?_|refine xK ?_|refine kZ ?_|refine k9 ?_|refine vy ?_|refine vx ?_|((first|refine vl ?_ ?_|refine vk ?_ ?_);all_goals (intro hc;have hp:=hc;first|(simp at hp;done)|((try simp at hp);first|(exfalso;omega)|skip)))));show Awp _ _ _ _ _
     refine Ym 3 0 ?_;exact Yp
    ·rw [if_neg h3];have hP:V5 j cursor most = (j.coms.drop (cursor - j.first + 1).toNat).take most.toNat:=rfl;generalize V5 j cursor most = X at *
     obtain ⟨k,hk⟩ : ∃ k:Nat,k = (cursor - j.first + 1).toNat:=⟨_,rfl⟩
     obtain ⟨m,hm⟩ : ∃ m:Nat,m = min (j.coms.length - k) most.toNat:=⟨_,rfl⟩
     have hX:X = (j.coms.drop k).take m:=by rw [hP, ← hk,hm,List.take_eq_take_min];simp [Nat.min_comm]
     clear hP;have hxl:X.length = m:=by rw [hX];simp;omega
     have hcl:qf C.P 176 [.sl false (((((j.coms.map Com.row).take (j.coms.map Com.row).length).drop k).take m).drop 0)] [] (.os 0 0 X.length) [.own false 3 (X.map Com.row)]:=by
      rw [qbH, ← hX];exact Vd X (by omega) (fun c hc=>by have:=hfew c (by rw [hX] at hc;exact List.mem_of_mem_drop (List.mem_of_mem_take hc));omega)
     have hdl:(((j.coms.map Com.row).take (j.coms.map Com.row).length).drop k).length = j.coms.length - k:=by simp
     refine qJ 0 ?_
     (repeat apply jW);refine qO ?_;(repeat' (first|apply qF|refine wk ?_|refine we ?_|refine wJ ?_|refine J4 ?_|refine wi ?_|refine YO ?_|refine wj ?_|refine VY ?_|refine ZV ?_|refine ZU ?_|refine Jt ?_|refine wI ?_|refine zK ?_|(first|fail)|refine xY ?_|refine vA ?_|refine vz ?_|refine xL ?_|refine xK ?_|refine kZ ?_|refine k9 ?_|refine vy ?_|refine vx ?_|((first|refine vl ?_ ?_|refine vk ?_ ?_);all_goals (intro hc;have hp:=hc;first|(simp at hp;done)|((try simp at hp);first|(exfalso;omega)|skip)))));show Awp _ _ _ _ _
     refine Ym 3 0 ?_
     repeat' (first|refine qg ?_|(first|refine yS (ho ..) ?_|refine jT (hlast ..) ?_|refine yS (hce ..) ?_|(apply qa;apply qod;(case hx=>rfl);(case hy=>rfl);(case hN=>exact nle rfl))|(apply qa;apply Kl (ex':=false) (a:=k) (b:=(j.coms.map Com.row).length) (m:=0);(case hx=>rfl);(case hT=>rfl);(case he=>rfl);(case hE=>rfl);(case ha=>exact qqd);(case hb=>rfl);(case hm=>trivial);(case hab=>(rw [hmj];omega));(case hbl=>exact Nat.le_refl _);(case hrk=>exact hrk);(case hex=>exact nofun);(case hN=>exact nle rfl))|(apply qa;apply Kl (ex':=false) (a:=0) (b:=m) (m:=0);(case hx=>rfl);(case hT=>rfl);(case he=>rfl);(case hE=>rfl);(case ha=>rfl);(case hb=>exact ⟨_,qb2 (by rw [hdl];omega)⟩);(case hm=>trivial);(case hab=>exact Nat.zero_le _);(case hbl=>(rw [hdl];omega));(case hrk=>(intro row hr;exact hrk row (List.mem_of_mem_take (List.mem_of_mem_drop hr))));(case hex=>exact nofun);(case hN=>exact nle rfl))|(refine jP ([]) qi (hcl ..) ?_))|(refine xsS ?_ ?_;all_goals first|exact False.elim|intro hp hc)|refine xsA ?_ ?_)
     (all_goals try (exfalso;first|omega|contradiction))
     all_goals ((exact kw (rs:=[.cell 6 46,.tmp 7])))
 ·rw [W8 hz] at ho;unfold V9;rw [if_pos hz];generalize ki j = E at *;refine qJ 0 ?_;exact Yp
end Go.Proofs.YtgcncinnlmjgdaaGreatDoor
