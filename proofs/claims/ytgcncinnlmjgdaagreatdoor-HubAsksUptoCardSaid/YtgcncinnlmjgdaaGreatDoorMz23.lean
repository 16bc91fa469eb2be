import Derived.Test.YtgcncinnlmjgdaaGreatDoorMz22
import Derived.Test.YtgcncinnlmjgdaaGreatDoorMz14
set_option linter.unusedSimpArgs false
set_option linter.unnecessarySimpa false
set_option linter.unusedVariables false
set_option maxHeartbeats 1000000
set_option maxRecDepth 10000
namespace Go.Proofs.YtgcncinnlmjgdaaGreatDoor
open Go.Ab Go.RowKit
attribute [local irreducible] Awp j9 jr ye Red qz Go.Ab.Fin qf Rz wz jF jU ResOk yA j1 xR qX
theorem qh5 (c:Com) (key:qb):jN C.P 182 [.agg c.row,.fp [[.v (str key)]] 0 0] (.v (.bool (isK key c))):=by
 refine qJ 0 ?_;exact Yp
theorem qjM (p:Com → Bool) (g:FuncId) (hg:IsFn C.P g) (cap:List AV) (hcap:AV.pure.pureL cap = true) (l:List (Com)) (hl:l.length ≤ 1000000) (hc : ∀ s,s ∈ l → jN C.P g ((AV.agg (Com.row s)) :: cap) (.v (.bool (p s)))) :
  jN C.P 181 [.sl false (l.map Com.row),.clo (.func g) [] cap] (.v (.int .i64 (yN p l))):=by
 refine qJ 0 ?_
 repeat' (first|refine qg ?_|fail|(refine xsS ?_ ?_;all_goals first|exact False.elim|intro hp hc)|refine xsA ?_ ?_)
 refine Zq (ts:=[(0,.sl false (l.map Com.row)),(1,.clo (.func g) [] cap),(7,.v (.int .i64 l.length)),(8,.v (.int .i64 ((0:Nat):Int)))]) ?_
 all_goals try (rw [List.length_map];done)
 refine qB (fun n σ => ∃ i:Nat,i ≤ l.length ∧ n = l.length - i ∧ (∀ s,s ∈ l.take i → p s = false) ∧ σ = ⟨[(0,.sl false (l.map Com.row)),(1,.clo (.func g) [] cap),(7,.v (.int .i64 l.length)),(8,.v (.int .i64 (i:Int)))],[],C.nh⟩) l.length ⟨0,Nat.zero_le _,rfl,(by simp),rfl⟩ ?_;rintro n σ ⟨i,hi,rfl,hsofar,rfl⟩;by_cases hlt:i < l.length
 ·have hr:=qK (f:=Com.row) hlt;have hci:=hc l[i] (List.getElem_mem _)
  repeat' (first|refine qg ?_|(first|(apply qa;apply zZ [];rfl;exact hg;exact hci;(case hz=>exact qeZ);(case hfl=>rfl);(case hN=>exact nle rfl)))|(refine xsS ?_ ?_;all_goals first|exact False.elim|intro hp hc)|refine xsA ?_ ?_)
  all_goals try (exfalso;omega)
  ·apply qI;rfl;exact (wb hlt hsofar hp).symm
  ·refine ⟨l.length - (i + 1),_,by omega,xsM (ts:=[(0,.sl false (l.map Com.row)),(1,.clo (.func g) [] cap),(7,.v (.int .i64 l.length)),(8,.v (.int .i64 ((i + 1:Nat):Int)))]),i + 1,by omega,rfl,jJ hlt hsofar hp,rfl⟩
 obtain rfl:i = l.length:=by omega
 repeat' (first|refine qg ?_|fail|(refine xsS ?_ ?_;all_goals first|exact False.elim|intro hp hc)|refine xsA ?_ ?_)
 all_goals try (exfalso;omega)
 apply qI;rfl;exact (zt fun s hs=>hsofar s qaw).symm
theorem We (l:List Com) (key:qb) (hl:l.length ≤ 1000000):jN C.P 181 [yv l,.clo (.func 182) [] [.fp [[.v (str key)]] 0 0]] (.v (.int .i64 (yN (isK key) l))) :=
 qjM (isK key) 182 (qr Tryz.func182 rfl rfl) [.fp [[.v (str key)]] 0 0] rfl l hl (fun c _=>qh5 c key)
def qnm (r:Jou × Int × Int):AV := .tup [.agg r.1.row,.v (.int .i64 r.2.1),.v (.int .i64 r.2.2)]
theorem qi7 {d c:Com} {r:List Com} {x:List AV} {n n0:Nat} (hx:x = c.row) (hn0:n0 = r.length + 1) (hn:n = r.length + 1):((((d :: r).map Com.row).take n0 ++ [x]).drop 1).take n = (((d :: r) ++ [c]).drop 1).map Com.row:=by
 subst hx;subst hn;subst hn0;rw [List.take_of_length_le (l:=(d :: r).map Com.row) (by simp)];simp [List.take_of_length_le]
theorem Wc (j:Jou) (key:qb) (l:List Chg) (hb:JBig j) (hcb:CBig l) (hJ:JRight j) (hkk:kh key = true) (hf:j.coms.find? (isK key) = none) (hl0:¬ l = []) (hbig:¬ 1000000 < jV j) (hz:(ve (jV j) (vg j) l).2.2 = 0) (h31:¬ 30 < j.coms.length + 1) :
  jN C.P 150 [.agg j.row,.v (str key),ya l] (qnm (wQ j ⟨jV j,key,l⟩,jV j,0)):=by
 have hll:=hcb.len;have hml:(l.map Chg.row).length = l.length:=List.length_map ..;have hmj:(j.coms.map Com.row).length = j.coms.length:=List.length_map ..;have ho:=Zt j hb;rw [V0 (y0.2 hJ)] at ho;have hk:=KJ key;rw [hkk] at hk;have hlen:=hJ.len;have hN:=hJ.now;have hlast:=KL j (vg j) hJ;have hcl:=Vd j.coms (by omega) (fun c hc=>by have:=Qe hJ.base hJ.run c hc;omega);have hce:=Qd j.base (by have:=hJ.base.len;omega);have hidx:=We j.coms key (by omega)
 have hi:yN (isK key) j.coms = -1:=by
  rcases XT (isK key) j.coms with ⟨hi,_⟩|⟨k,hkl,hi,hf2⟩
  ·exact hi
  ·rw [hf] at hf2;cases hf2
 rw [hi] at hidx;have hLb:0 ≤ xp j ∧ xp j ≤ 1000030:=by have:=hJ.lo;have:=hJ.hi;unfold xp;omega
 have hall:=qc7 (vg j) l (jV j) hN.big hcb;have hl1:¬ l.length = 0:=fun e=>hl0 (List.eq_nil_of_length_eq_zero e)
 have hcc:=Y5 l (by have:=Wl hN hz;omega)
 have hp31:wQ j ⟨jV j,key,l⟩ = if 30 < j.coms.length + 1 then ⟨match j.coms with | []=>j.base|d :: _=>(ve j.first j.base d.chs).1,j.first + 1,(j.coms ++ [(⟨jV j,key,l⟩ : Com)]).drop 1⟩ else ⟨j.base,j.first,j.coms ++ [(⟨jV j,key,l⟩ : Com)]⟩:=rfl
 generalize wQ j ⟨jV j,key,l⟩ = PJ at *;generalize ve (jV j) (vg j) l = A at *;obtain ⟨t1,n1,e1⟩:=A;have hz:e1 = 0:=hz;subst hz;generalize hnx:jV j = NX at *;have hnx2:NX = xp j + 1:=hnx.symm;clear hnx;generalize xp j = LN at *;subst hnx2;generalize vg j = U at *;rw [if_neg h31] at hp31;subst hp31;refine qJ 0 ?_
 (repeat apply jW);refine qO ?_;(repeat' (first|apply qF|refine wk ?_|refine we ?_|refine wJ ?_|refine J4 ?_|refine wi ?_|refine wj ?_|refine X1 ?_|refine J6 ?_|refine VY ?_|refine YN ?_|refine ZV ?_|refine ZU ?_|refine Jt ?_|refine wI ?_|refine zK ?_|(first|fail)|refine xY ?_));show Awp _ _ _ _ _
 refine Ym 3 0 ?_;refine Ym 4 1 ?_
 repeat' (first|refine qg ?_|(first|refine yS (ho ..) ?_|refine jT (hk ..) ?_|refine yS (hce ..) ?_|(refine jP ([]) qi (hcl ..) ?_)|refine jT (hidx ..) ?_|refine jT (hlast ..) ?_|refine yS (hall ..) ?_|refine yS (hcc ..) ?_|(refine jd ?_)|(refine vF ?_))|(refine xsS ?_ ?_;all_goals first|exact False.elim|intro hp hc)|refine xsA ?_ ?_)
 (all_goals try (exfalso;first|omega|contradiction))
 all_goals ((exact Jd (rs:=[.cell 6 61,.tmp 7,.tmp 8]) (hz:=qqB)))
theorem Wd (j:Jou) (key:qb) (l:List Chg) (hb:JBig j) (hcb:CBig l) (hJ:JRight j) (hkk:kh key = true) (hf:j.coms.find? (isK key) = none) (hl0:¬ l = []) (hbig:¬ 1000000 < jV j) (hz:(ve (jV j) (vg j) l).2.2 = 0) (h31:30 < j.coms.length + 1) :
  jN C.P 150 [.agg j.row,.v (str key),ya l] (qnm (wQ j ⟨jV j,key,l⟩,jV j,0)):=by
 have hll:=hcb.len;have hml:(l.map Chg.row).length = l.length:=List.length_map ..;have hmj:(j.coms.map Com.row).length = j.coms.length:=List.length_map ..;have ho:=Zt j hb;rw [V0 (y0.2 hJ)] at ho;have hk:=KJ key;rw [hkk] at hk;have hlen:=hJ.len;have hN:=hJ.now;have hlast:=KL j (vg j) hJ;have hcl:=Vd j.coms (by omega) (fun c hc=>by have:=Qe hJ.base hJ.run c hc;omega);have hce:=Qd j.base (by have:=hJ.base.len;omega);have hidx:=We j.coms key (by omega)
 have hi:yN (isK key) j.coms = -1:=by
  rcases XT (isK key) j.coms with ⟨hi,_⟩|⟨k,hkl,hi,hf2⟩
  ·exact hi
  ·rw [hf] at hf2;cases hf2
 rw [hi] at hidx;have hLb:0 ≤ xp j ∧ xp j ≤ 1000030:=by have:=hJ.lo;have:=hJ.hi;unfold xp;omega
 have hall:=qc7 (vg j) l (jV j) hN.big hcb;have hl1:¬ l.length = 0:=fun e=>hl0 (List.eq_nil_of_length_eq_zero e)
 have hcc:=Y5 l (by have:=Wl hN hz;omega)
 have hp31:wQ j ⟨jV j,key,l⟩ = if 30 < j.coms.length + 1 then ⟨match j.coms with | []=>j.base|d :: _=>(ve j.first j.base d.chs).1,j.first + 1,(j.coms ++ [(⟨jV j,key,l⟩ : Com)]).drop 1⟩ else ⟨j.base,j.first,j.coms ++ [(⟨jV j,key,l⟩ : Com)]⟩:=rfl
 generalize wQ j ⟨jV j,key,l⟩ = PJ at *;generalize ve (jV j) (vg j) l = A at *;obtain ⟨t1,n1,e1⟩:=A;have hz:e1 = 0:=hz;subst hz;generalize hnx:jV j = NX at *;have hnx2:NX = xp j + 1:=hnx.symm;clear hnx;generalize xp j = LN at *;subst hnx2;generalize vg j = U at *;rw [if_pos h31] at hp31;subst hp31;obtain ⟨jb,jf,jc⟩:=j
 cases jc with
 | nil=>exact absurd h31 (by simp)
 | cons d r =>
   obtain ⟨q1,q2, -⟩:=JU hJ.run;have q4:=(Yx q1).1;have hall2:=qc7 jb d.chs jf hJ.base.big (hb.coms.each d (List.mem_cons_self ..)).chs;have hjl:=hJ.lo;have hjh:=hJ.hi;dsimp only at *;have hlen2:r.length + 1 ≤ 30:=by simpa using hlen
   have h31b:30 < r.length + 1 + 1:=by simpa using h31
   have hjl3:1 ≤ (Jou.mk jb jf (d :: r)).first:=hjl;have hjh3:(Jou.mk jb jf (d :: r)).first ≤ 1000000:=hjh;rw [q4] at q2;generalize ve jf jb d.chs = T2 at *;obtain ⟨t2,n2,e2⟩:=T2;have q2:e2 = 0:=q2;subst q2;clear hJ hb hi hf q1 q4;refine qJ 0 ?_
   (repeat apply jW);refine qO ?_;(repeat' (first|apply qF|refine wk ?_|refine we ?_|refine wJ ?_|refine J4 ?_|refine wi ?_|refine wj ?_|refine X1 ?_|refine J6 ?_|refine VY ?_|refine YN ?_|refine ZV ?_|refine ZU ?_|refine Jt ?_|refine wI ?_|refine zK ?_|(first|fail)|refine xY ?_));show Awp _ _ _ _ _
   refine Ym 3 0 ?_;refine Ym 4 1 ?_
   repeat' (first|refine qg ?_|(first|refine yS (ho ..) ?_|refine jT (hk ..) ?_|refine yS (hce ..) ?_|(refine jP ([]) qi (hcl ..) ?_)|refine jT (hidx ..) ?_|refine jT (hlast ..) ?_|refine yS (hall ..) ?_|refine yS (hcc ..) ?_|(refine jd ?_)|(refine vF ?_)|(refine vq ?_)|(refine YQ ?_)|refine yS (hall2 ..) ?_)|(refine xsS ?_ ?_;all_goals first|exact False.elim|intro hp hc)|refine xsA ?_ ?_)
   (all_goals try (exfalso;first|omega|contradiction))
   all_goals ((exact Jd (rs:=[.cell 6 61,.tmp 7,.tmp 8]) (hz:=by (repeat' (first|(exact qqm (qi7 (n0:=(d :: r).length) rfl (by simp) (by simp)) (js fun _=>rfl) (by simp;try omega))|exact jX|apply qH|exact ju rfl|exact zP|exact Kc|apply vn|apply kP|apply vo|apply kN|apply vR|apply kO|refine Kb ?_|apply JD));all_goals trace_state)))
theorem qaE (j:Jou) (key:qb) (l:List Chg) (hb:JBig j) (hcb:CBig l) (hJ:JRight j) (hkk:kh key = true) (hf:j.coms.find? (isK key) = none) (hl0:¬ l = []) (hbig:¬ 1000000 < jV j) (hz:(ve (jV j) (vg j) l).2.2 = 0) :
  jN C.P 150 [.agg j.row,.v (str key),ya l] (qnm (wQ j ⟨jV j,key,l⟩,jV j,0)):=by
 by_cases h31:30 < j.coms.length + 1
 ·exact Wd j key l hb hcb hJ hkk hf hl0 hbig hz h31
 ·exact Wc j key l hb hcb hJ hkk hf hl0 hbig hz h31
theorem qjK (j:Jou) (key:qb) (l:List Chg) (hb:JBig j) (hcb:CBig l):jN C.P 150 [.agg j.row,.v (str key),ya l] (qnm (yx j key l)):=by
 have ho:=Zt j hb;have hk:=KJ key;have hll:=hcb.len;have hml:(l.map Chg.row).length = l.length:=List.length_map ..;have hmj:(j.coms.map Com.row).length = j.coms.length:=List.length_map ..;by_cases hz:ki j = 0
 ·rw [V0 hz] at ho;have hJ:=y0.1 hz;have hlen:=hJ.len;have hE:yx j key l = xF j key l:=by unfold yx;rw [if_neg (by simp [hz])]
  have hN:=hJ.now;have hlast:=KL j (vg j) hJ;have hcl:=Vd j.coms (by omega) (fun c hc=>by have:=Qe hJ.base hJ.run c hc;omega);have hce:=Qd j.base (by have:=hJ.base.len;omega);rw [hE];unfold xF
  cases hkk:kh key with
  | false =>
    rw [hkk] at hk;rw [if_pos rfl];clear hE hlast hcl hce;generalize vg j = U at *;refine qJ 0 ?_;exact Yp
  | true =>
    rw [hkk] at hk;rw [if_neg (by decide)];have hidx:=We j.coms key (by omega)
    rcases XT (isK key) j.coms with ⟨hi,hf⟩|⟨k,hkl,hi,hf⟩
    ·rw [hf];rw [hi] at hidx;simp only;have hidx2:=trivial;have hLb:0 ≤ xp j ∧ xp j ≤ 1000030:=by have:=hJ.lo;have:=hJ.hi;unfold xp;omega
     have hall:=qc7 (vg j) l (jV j) hN.big hcb;have hnx:jV j = xp j + 1:=rfl;have hpush:=qaE j key l hb hcb hJ hkk hf;generalize wQ j ⟨jV j,key,l⟩ = PJ at *;generalize hAA:ve (jV j) (vg j) l = A at *;rw [hnx] at *;clear hE
     by_cases hl0:l = []
     ·subst hl0;rw [if_pos rfl];generalize vg j = U at *;generalize xp j = LN at *;refine qJ 0 ?_
      (repeat apply jW);refine qO ?_;(repeat' (first|apply qF|refine wk ?_|refine we ?_|refine wJ ?_|refine J4 ?_|refine wi ?_|refine wj ?_|refine X1 ?_|refine J6 ?_|refine VY ?_|refine YN ?_|refine ZV ?_|refine ZU ?_|refine Jt ?_|refine wI ?_|refine zK ?_|(first|fail)|refine xY ?_));show Awp _ _ _ _ _
      refine Ym 3 0 ?_;refine Ym 4 1 ?_
      repeat' (first|refine qg ?_|(first|refine yS (ho ..) ?_|refine jT (hk ..) ?_|refine yS (hce ..) ?_|(refine jP ([]) qi (hcl ..) ?_)|refine jT (hidx ..) ?_|refine jT (hlast ..) ?_|refine yS (hall ..) ?_|fail)|(refine xsS ?_ ?_;all_goals first|exact False.elim|intro hp hc)|refine xsA ?_ ?_)
      (all_goals try (exfalso;first|omega|contradiction))
      all_goals ((exact kw (rs:=[.cell 6 61,.tmp 7,.tmp 8])))
     ·rw [if_neg hl0];have hl1:¬ l.length = 0:=fun e=>hl0 (List.eq_nil_of_length_eq_zero e)
      by_cases hbig:1000000 < xp j + 1
      ·rw [if_pos hbig];generalize vg j = U at *;generalize xp j = LN at *;refine qJ 0 ?_
       (repeat apply jW);refine qO ?_;(repeat' (first|apply qF|refine wk ?_|refine we ?_|refine wJ ?_|refine J4 ?_|refine wi ?_|refine wj ?_|refine X1 ?_|refine J6 ?_|refine VY ?_|refine YN ?_|refine ZV ?_|refine ZU ?_|refine Jt ?_|refine wI ?_|refine zK ?_|(first|fail)|refine xY ?_));show Awp _ _ _ _ _
       refine Ym 3 0 ?_;refine Ym 4 1 ?_
       repeat' (first|refine qg ?_|(first|refine yS (ho ..) ?_|refine jT (hk ..) ?_|refine yS (hce ..) ?_|(refine jP ([]) qi (hcl ..) ?_)|refine jT (hidx ..) ?_|refine jT (hlast ..) ?_|refine yS (hall ..) ?_|fail)|(refine xsS ?_ ?_;all_goals first|exact False.elim|intro hp hc)|refine xsA ?_ ?_)
       (all_goals try (exfalso;first|omega|contradiction))
       all_goals ((exact kw (rs:=[.cell 6 61,.tmp 7,.tmp 8])))
      ·rw [if_neg hbig];obtain ⟨t1,n1,e1⟩:=A;by_cases he1:e1 = 0
       ·subst he1;rw [if_neg (by simp)];exact hpush hl0 hbig rfl
       ·rw [if_pos he1];generalize vg j = U at *;generalize xp j = LN at *;refine qJ 0 ?_
        (repeat apply jW);refine qO ?_;(repeat' (first|apply qF|refine wk ?_|refine we ?_|refine wJ ?_|refine J4 ?_|refine wi ?_|refine wj ?_|refine X1 ?_|refine J6 ?_|refine VY ?_|refine YN ?_|refine ZV ?_|refine ZU ?_|refine Jt ?_|refine wI ?_|refine zK ?_|(first|fail)|refine xY ?_));show Awp _ _ _ _ _
        refine Ym 3 0 ?_;refine Ym 4 1 ?_
        repeat' (first|refine qg ?_|(first|refine yS (ho ..) ?_|refine jT (hk ..) ?_|refine yS (hce ..) ?_|(refine jP ([]) qi (hcl ..) ?_)|refine jT (hidx ..) ?_|refine jT (hlast ..) ?_|refine yS (hall ..) ?_|fail)|(refine xsS ?_ ?_;all_goals first|exact False.elim|intro hp hc)|refine xsA ?_ ?_)
        (all_goals try (exfalso;first|omega|contradiction))
        all_goals ((exact kw (rs:=[.cell 6 61,.tmp 7,.tmp 8])))
    ·rw [hf];rw [hi] at hidx;have hr:=qK (f:=Com.row) hkl;simp only;clear hE;generalize vg j = U at *;refine qJ 0 ?_
     (repeat apply jW);refine qO ?_;(repeat' (first|apply qF|refine wk ?_|refine we ?_|refine wJ ?_|refine J4 ?_|refine wi ?_|refine wj ?_|refine X1 ?_|refine J6 ?_|refine VY ?_|refine YN ?_|refine ZV ?_|refine ZU ?_|refine Jt ?_|refine wI ?_|refine zK ?_|(first|fail)|refine xY ?_));show Awp _ _ _ _ _
     refine Ym 3 0 ?_;refine Ym 4 1 ?_
     repeat' (first|refine qg ?_|(first|refine yS (ho ..) ?_|refine jT (hk ..) ?_|refine yS (hce ..) ?_|(refine jP ([]) qi (hcl ..) ?_)|refine jT (hidx ..) ?_)|(refine xsS ?_ ?_;all_goals first|exact False.elim|intro hp hc)|refine xsA ?_ ?_)
     all_goals try (exfalso;omega)
     all_goals ((exact kw (rs:=[.cell 6 61,.tmp 7,.tmp 8])))
 ·rw [W8 hz] at ho;unfold yx;rw [if_pos hz];generalize ki j = E at *;refine qJ 0 ?_;exact Yp
end Go.Proofs.YtgcncinnlmjgdaaGreatDoor
