import Derived.Test.YtamejbkifpjhiaaGreatDoorMz25
import Derived.Test.YtamejbkifpjhiaaGreatDoorMz26
import Derived.Test.YtamejbkifpjhiaaGreatDoorMz21
import Derived.Test.YtamejbkifpjhiaaGreatDoorMz14
import Derived.Test.YtamejbkifpjhiaaGreatDoorMz17
import Derived.Test.YtamejbkifpjhiaaGreatDoorMz12
set_option linter.unusedSimpArgs false
set_option linter.unnecessarySimpa false
set_option linter.unusedVariables false
set_option maxHeartbeats 1000000
namespace Go.Proofs.YtamejbkifpjhiaaGreatDoor
open Go.Ab Go.RowKit
set_option maxRecDepth 10000
attribute [local irreducible] Awp yH jH jw Red ja Go.Ab.Fin qZ Rz vn jr jp ResOk j3 jC yC jA
theorem QI {L:List (Nat × Nat)} {σ:St} {n n' c c' k:Nat} {ex ex' : Bool} {l:List (Nat × HB)} (hl:vp L 6 σ l) (hm:Maps L 6 n n':=by (first|exact qN rfl|exact .inr (List.mem_cons_self ..)|exact .inr (List.mem_cons_of_mem _ (List.mem_cons_self ..))|exact .inr (List.mem_cons_of_mem _ (List.mem_cons_of_mem _ (List.mem_cons_self ..)))|exact .inr (List.mem_cons_of_mem _ (List.mem_cons_of_mem _ (List.mem_cons_of_mem _ (List.mem_cons_self ..)))))) (hc:Maps L 6 c c':=by (first|exact qN rfl|exact .inr (List.mem_cons_self ..)|exact .inr (List.mem_cons_of_mem _ (List.mem_cons_self ..))|exact .inr (List.mem_cons_of_mem _ (List.mem_cons_of_mem _ (List.mem_cons_self ..)))|exact .inr (List.mem_cons_of_mem _ (List.mem_cons_of_mem _ (List.mem_cons_of_mem _ (List.mem_cons_self ..)))))) (hx:jg σ.hs n = .own ex 5 [vm c k]:=by rfl) (he:ex' = true → ex = true:=by first|exact id|exact nofun):vp L 6 σ ((n',.own ex' 5 [vm c' k]) :: l) :=
 w3 hm hx he (vx (qd (qt (qN rfl)) (qd (qt (qN rfl)) (qd (qt (qN rfl)) (qd (qt (qN rfl)) (qd (qz hc) ql))))) zU) hl
def qe5 (m t o:List Ent) (p:qP):Ent:=vl m t (QW p (stT o p))
theorem VK {t:List Ent} {p:qP} (hs:qU jf t = true) (h:j0 t p = true) : ∃ hk:xg t p < t.length,qW t p = some t[xg t p]:=by
 obtain ⟨hk,_,h2,_⟩:=zw hs h
 exact ⟨hk,h2⟩
theorem qbu {t:List Ent} {p:qP} {x:Thg} {y:Ent} (hl:qW t p = some y) (hx:kP x) (h0:¬ x.kind = 0) (he:stT t p = x):zV t (QW p x) = some y.ver:=by
 unfold zV
 rw [show (QW p x).path = p from rfl,hl,KP hx h0]
 unfold stT at he
 rw [hl] at he
 have he:xS y = x:=he
 simp only [he,if_true]
theorem qeH {t:List Ent} {p:qP} {x:Thg} (hx:kP x) (h0:¬ x.kind = 0) (he:¬ stT t p = x):zV t (QW p x) = none:=by
 unfold zV
 rw [show (QW p x).path = p from rfl,KP hx h0]
 unfold stT at he
 cases hl:qW t p with
 | none=>rfl
 | some y =>
   rw [hl] at he
   have he:¬ xS y = x:=he
   simp only [he,if_false]
theorem KV {t:List Ent} {p:qP} {x:Thg} (h:j0 t p = false):zV t (QW p x) = none:=by
 unfold zV
 rw [Q7] at h
 rw [show (QW p x).path = p from rfl]
 cases hl:qW t p with
 | none=>rfl
 | some y=>rw [hl] at h;cases h
set_option maxHeartbeats 4000000 in
theorem qbT (B M T O:List Ent) (cs:List Cpy) (p:qP) (hM:qU jf M = true) (hT:qU jf T = true) (lM:M.length ≤ 60) (lT:T.length ≤ 60) (h0:¬ (stT O p).kind = 0) :
  qZ C6.P 67 [.op 0 0 0,.v (str p),qa M,qa T] (H6 B M T O cs) (.agg (qe5 M T O p).row) (H6 B M T O cs):=by
 have g1:=vM O p
 have g2:=vM T p
 have g3:=vM M p
 have at1:=KZ T p (by omega) hT
 have at2:=KZ M p (by omega) hM
 have hx:=ku O p
 have hE:(qe5 M T O p).row = [.v (str p),.v (.bool (decide ((stT O p).kind = 1))),.v (str (stT O p).text),.v (.int .i64 (kK M T (QW p (stT O p))))]:=rfl
 rw [hE]
 generalize hxx:stT O p = x at *
 clear hE
 have key : ∀ v:Int,kK M T (QW p x) = v → qZ C6.P 67 [.op 0 0 0,.v (str p),qa M,qa T] (H6 B M T O cs) (.agg [.v (str p),.v (.bool (decide (x.kind = 1))),.v (str x.text),.v (.int .i64 v)]) (H6 B M T O cs) → qZ C6.P 67 [.op 0 0 0,.v (str p),qa M,qa T] (H6 B M T O cs) (.agg [.v (str p),.v (.bool (decide (x.kind = 1))),.v (str x.text),.v (.int .i64 (kK M T (QW p x)))]) (H6 B M T O cs):=fun v e h=>by rw [e];exact h
 cases hT1:j0 T p with
 | true =>
   rw [hT1] at at1
   obtain ⟨kT,lkT⟩:=VK hT hT1
   have rowT:(T.map Ent.row)[xg T p]? = some T[xg T p].row:=jB kT
   generalize hPT:xg T p = PT at *
   by_cases eT:stT T p = x
   ·refine key T[PT].ver (by unfold kK;rw [qbu lkT hx h0 eT]) ?_
    clear key
    have dT:decide (stT T p = x) = true:=decide_eq_true eT
    generalize stT T p = tt at *
    generalize stT M p = mm at *
    generalize T[PT] = yT at *
    refine qc (C:=C6) Tryz.func67 rfl _ Tryz.ntmps67 (Nat.le_of_ble_eq_true rfl) _ Tryz.results67 6 rfl rfl ?_
    repeat (first|refine qn ?_|(apply qi;apply jP;(case hm=>rfl);(case hn=>rfl);(case hk=>rfl);(case hT=>rfl);(case he=>rfl);(case hK=>rfl);(case hks=>rfl);(case hz=>exact ji);(case hzv=>exact jQ);(case hx=>exact g1);(case hN=>exact nle rfl))|(apply qi;apply jP;(case hm=>rfl);(case hn=>rfl);(case hk=>rfl);(case hT=>rfl);(case he=>rfl);(case hK=>rfl);(case hks=>rfl);(case hz=>exact ji);(case hzv=>exact jQ);(case hx=>exact g2);(case hN=>exact nle rfl))|(apply qi;apply jP;(case hm=>rfl);(case hn=>rfl);(case hk=>rfl);(case hT=>rfl);(case he=>rfl);(case hK=>rfl);(case hks=>rfl);(case hz=>exact ji);(case hzv=>exact jQ);(case hx=>exact g3);(case hN=>exact nle rfl))|(apply qi;apply xY;rfl;rfl;exact vU;exact xR _ _;(first|exact .inl ⟨rfl,rfl⟩|exact .inr ⟨rfl,rfl⟩);exact nle rfl)|refine j1 Tryz.func120 (at1 ..) ?_|refine j1 Tryz.func120 (at2 ..) ?_)
    (apply jM (rs:=[.cell 8 55]) [] 6;(case hr=>(repeat (first|exact js|(apply jt;rfl)|(apply jl;rfl;rfl;rfl;rfl;rfl))));(case hL=>rfl);(case hh=>(repeat' (first|exact qj|refine QI ?_|refine x2 ?_ ?_ ?_|refine zy ?_));all_goals (first|with_reducible exact qh _|with_reducible exact List.Perm.refl _|rfl|trace_state));(case hi=>exact rfl);(case hz=>first|rfl|(simp [yh,AV.ren,AV.ren.renL,jF,qS,jD];done)|(simp [yh,AV.ren,AV.ren.renL,jF,qS,jD, *];done)))
   ·have dT:decide (stT T p = x) = false:=decide_eq_false eT
    have nT:=qeH hx h0 eT
    cases hM1:j0 M p with
    | true =>
      rw [hM1] at at2
      obtain ⟨kM,lkM⟩:=VK hM hM1
      have rowM:(M.map Ent.row)[xg M p]? = some M[xg M p].row:=jB kM
      generalize hPM:xg M p = PM at *
      by_cases eM:stT M p = x
      ·refine key M[PM].ver (by unfold kK;rw [nT,qbu lkM hx h0 eM]) ?_
       clear key
       have dM:decide (stT M p = x) = true:=decide_eq_true eM
       generalize stT T p = tt at *
       generalize stT M p = mm at *
       generalize M[PM] = yM at *
       refine qc (C:=C6) Tryz.func67 rfl _ Tryz.ntmps67 (Nat.le_of_ble_eq_true rfl) _ Tryz.results67 6 rfl rfl ?_
       repeat (first|refine qn ?_|(apply qi;apply jP;(case hm=>rfl);(case hn=>rfl);(case hk=>rfl);(case hT=>rfl);(case he=>rfl);(case hK=>rfl);(case hks=>rfl);(case hz=>exact ji);(case hzv=>exact jQ);(case hx=>exact g1);(case hN=>exact nle rfl))|(apply qi;apply jP;(case hm=>rfl);(case hn=>rfl);(case hk=>rfl);(case hT=>rfl);(case he=>rfl);(case hK=>rfl);(case hks=>rfl);(case hz=>exact ji);(case hzv=>exact jQ);(case hx=>exact g2);(case hN=>exact nle rfl))|(apply qi;apply jP;(case hm=>rfl);(case hn=>rfl);(case hk=>rfl);(case hT=>rfl);(case he=>rfl);(case hK=>rfl);(case hks=>rfl);(case hz=>exact ji);(case hzv=>exact jQ);(case hx=>exact g3);(case hN=>exact nle rfl))|(apply qi;apply xY;rfl;rfl;exact vU;exact xR _ _;(first|exact .inl ⟨rfl,rfl⟩|exact .inr ⟨rfl,rfl⟩);exact nle rfl)|refine j1 Tryz.func120 (at1 ..) ?_|refine j1 Tryz.func120 (at2 ..) ?_)
       (apply jM (rs:=[.cell 8 55]) [] 6;(case hr=>(repeat (first|exact js|(apply jt;rfl)|(apply jl;rfl;rfl;rfl;rfl;rfl))));(case hL=>rfl);(case hh=>(repeat' (first|exact qj|refine QI ?_|refine x2 ?_ ?_ ?_|refine zy ?_));all_goals (first|with_reducible exact qh _|with_reducible exact List.Perm.refl _|rfl|trace_state));(case hi=>exact rfl);(case hz=>first|rfl|(simp [yh,AV.ren,AV.ren.renL,jF,qS,jD];done)|(simp [yh,AV.ren,AV.ren.renL,jF,qS,jD, *];done)))
      ·refine key 1 (by unfold kK;rw [nT,qeH hx h0 eM]) ?_
       clear key
       have dM:decide (stT M p = x) = false:=decide_eq_false eM
       generalize stT T p = tt at *
       generalize stT M p = mm at *
       refine qc (C:=C6) Tryz.func67 rfl _ Tryz.ntmps67 (Nat.le_of_ble_eq_true rfl) _ Tryz.results67 6 rfl rfl ?_
       repeat (first|refine qn ?_|(apply qi;apply jP;(case hm=>rfl);(case hn=>rfl);(case hk=>rfl);(case hT=>rfl);(case he=>rfl);(case hK=>rfl);(case hks=>rfl);(case hz=>exact ji);(case hzv=>exact jQ);(case hx=>exact g1);(case hN=>exact nle rfl))|(apply qi;apply jP;(case hm=>rfl);(case hn=>rfl);(case hk=>rfl);(case hT=>rfl);(case he=>rfl);(case hK=>rfl);(case hks=>rfl);(case hz=>exact ji);(case hzv=>exact jQ);(case hx=>exact g2);(case hN=>exact nle rfl))|(apply qi;apply jP;(case hm=>rfl);(case hn=>rfl);(case hk=>rfl);(case hT=>rfl);(case he=>rfl);(case hK=>rfl);(case hks=>rfl);(case hz=>exact ji);(case hzv=>exact jQ);(case hx=>exact g3);(case hN=>exact nle rfl))|(apply qi;apply xY;rfl;rfl;exact vU;exact xR _ _;(first|exact .inl ⟨rfl,rfl⟩|exact .inr ⟨rfl,rfl⟩);exact nle rfl)|refine j1 Tryz.func120 (at1 ..) ?_|refine j1 Tryz.func120 (at2 ..) ?_)
       (apply jM (rs:=[.cell 8 55]) [] 6;(case hr=>(repeat (first|exact js|(apply jt;rfl)|(apply jl;rfl;rfl;rfl;rfl;rfl))));(case hL=>rfl);(case hh=>(repeat' (first|exact qj|refine QI ?_|refine x2 ?_ ?_ ?_|refine zy ?_));all_goals (first|with_reducible exact qh _|with_reducible exact List.Perm.refl _|rfl|trace_state));(case hi=>exact rfl);(case hz=>first|rfl|(simp [yh,AV.ren,AV.ren.renL,jF,qS,jD];done)|(simp [yh,AV.ren,AV.ren.renL,jF,qS,jD, *];done)))
    | false =>
      rw [hM1] at at2
      refine key 1 (by unfold kK;rw [nT,KV hM1]) ?_
      clear key
      generalize stT T p = tt at *
      generalize stT M p = mm at *
      refine qc (C:=C6) Tryz.func67 rfl _ Tryz.ntmps67 (Nat.le_of_ble_eq_true rfl) _ Tryz.results67 6 rfl rfl ?_
      repeat (first|refine qn ?_|(apply qi;apply jP;(case hm=>rfl);(case hn=>rfl);(case hk=>rfl);(case hT=>rfl);(case he=>rfl);(case hK=>rfl);(case hks=>rfl);(case hz=>exact ji);(case hzv=>exact jQ);(case hx=>exact g1);(case hN=>exact nle rfl))|(apply qi;apply jP;(case hm=>rfl);(case hn=>rfl);(case hk=>rfl);(case hT=>rfl);(case he=>rfl);(case hK=>rfl);(case hks=>rfl);(case hz=>exact ji);(case hzv=>exact jQ);(case hx=>exact g2);(case hN=>exact nle rfl))|(apply qi;apply jP;(case hm=>rfl);(case hn=>rfl);(case hk=>rfl);(case hT=>rfl);(case he=>rfl);(case hK=>rfl);(case hks=>rfl);(case hz=>exact ji);(case hzv=>exact jQ);(case hx=>exact g3);(case hN=>exact nle rfl))|(apply qi;apply xY;rfl;rfl;exact vU;exact xR _ _;(first|exact .inl ⟨rfl,rfl⟩|exact .inr ⟨rfl,rfl⟩);exact nle rfl)|refine j1 Tryz.func120 (at1 ..) ?_|refine j1 Tryz.func120 (at2 ..) ?_)
      (apply jM (rs:=[.cell 8 55]) [] 6;(case hr=>(repeat (first|exact js|(apply jt;rfl)|(apply jl;rfl;rfl;rfl;rfl;rfl))));(case hL=>rfl);(case hh=>(repeat' (first|exact qj|refine QI ?_|refine x2 ?_ ?_ ?_|refine zy ?_));all_goals (first|with_reducible exact qh _|with_reducible exact List.Perm.refl _|rfl|trace_state));(case hi=>exact rfl);(case hz=>first|rfl|(simp [yh,AV.ren,AV.ren.renL,jF,qS,jD];done)|(simp [yh,AV.ren,AV.ren.renL,jF,qS,jD, *];done)))
 | false =>
   rw [hT1] at at1
   have nT:=KV (x:=x) hT1
   cases hM1:j0 M p with
   | true =>
     rw [hM1] at at2
     obtain ⟨kM,lkM⟩:=VK hM hM1
     have rowM:(M.map Ent.row)[xg M p]? = some M[xg M p].row:=jB kM
     generalize hPM:xg M p = PM at *
     by_cases eM:stT M p = x
     ·refine key M[PM].ver (by unfold kK;rw [nT,qbu lkM hx h0 eM]) ?_
      clear key
      have dM:decide (stT M p = x) = true:=decide_eq_true eM
      generalize stT T p = tt at *
      generalize stT M p = mm at *
      generalize M[PM] = yM at *
      refine qc (C:=C6) Tryz.func67 rfl _ Tryz.ntmps67 (Nat.le_of_ble_eq_true rfl) _ Tryz.results67 6 rfl rfl ?_
      repeat (first|refine qn ?_|(apply qi;apply jP;(case hm=>rfl);(case hn=>rfl);(case hk=>rfl);(case hT=>rfl);(case he=>rfl);(case hK=>rfl);(case hks=>rfl);(case hz=>exact ji);(case hzv=>exact jQ);(case hx=>exact g1);(case hN=>exact nle rfl))|(apply qi;apply jP;(case hm=>rfl);(case hn=>rfl);(case hk=>rfl);(case hT=>rfl);(case he=>rfl);(case hK=>rfl);(case hks=>rfl);(case hz=>exact ji);(case hzv=>exact jQ);(case hx=>exact g2);(case hN=>exact nle rfl))|(apply qi;apply jP;(case hm=>rfl);(case hn=>rfl);(case hk=>rfl);(case hT=>rfl);(case he=>rfl);(case hK=>rfl);(case hks=>rfl);(case hz=>exact ji);(case hzv=>exact jQ);(case hx=>exact g3);(case hN=>exact nle rfl))|(apply qi;apply xY;rfl;rfl;exact vU;exact xR _ _;(first|exact .inl ⟨rfl,rfl⟩|exact .inr ⟨rfl,rfl⟩);exact nle rfl)|refine j1 Tryz.func120 (at1 ..) ?_|refine j1 Tryz.func120 (at2 ..) ?_)
      (apply jM (rs:=[.cell 8 55]) [] 6;(case hr=>(repeat (first|exact js|(apply jt;rfl)|(apply jl;rfl;rfl;rfl;rfl;rfl))));(case hL=>rfl);(case hh=>(repeat' (first|exact qj|refine QI ?_|refine x2 ?_ ?_ ?_|refine zy ?_));all_goals (first|with_reducible exact qh _|with_reducible exact List.Perm.refl _|rfl|trace_state));(case hi=>exact rfl);(case hz=>first|rfl|(simp [yh,AV.ren,AV.ren.renL,jF,qS,jD];done)|(simp [yh,AV.ren,AV.ren.renL,jF,qS,jD, *];done)))
     ·refine key 1 (by unfold kK;rw [nT,qeH hx h0 eM]) ?_
      clear key
      have dM:decide (stT M p = x) = false:=decide_eq_false eM
      generalize stT T p = tt at *
      generalize stT M p = mm at *
      refine qc (C:=C6) Tryz.func67 rfl _ Tryz.ntmps67 (Nat.le_of_ble_eq_true rfl) _ Tryz.results67 6 rfl rfl ?_
      repeat (first|refine qn ?_|(apply qi;apply jP;(case hm=>rfl);(case hn=>rfl);(case hk=>rfl);(case hT=>rfl);(case he=>rfl);(case hK=>rfl);(case hks=>rfl);(case hz=>exact ji);(case hzv=>exact jQ);(case hx=>exact g1);(case hN=>exact nle rfl))|(apply qi;apply jP;(case hm=>rfl);(case hn=>rfl);(case hk=>rfl);(case hT=>rfl);(case he=>rfl);(case hK=>rfl);(case hks=>rfl);(case hz=>exact ji);(case hzv=>exact jQ);(case hx=>exact g2);(case hN=>exact nle rfl))|(apply qi;apply jP;(case hm=>rfl);(case hn=>rfl);(case hk=>rfl);(case hT=>rfl);(case he=>rfl);(case hK=>rfl);(case hks=>rfl);(case hz=>exact ji);(case hzv=>exact jQ);(case hx=>exact g3);(case hN=>exact nle rfl))|(apply qi;apply xY;rfl;rfl;exact vU;exact xR _ _;(first|exact .inl ⟨rfl,rfl⟩|exact .inr ⟨rfl,rfl⟩);exact nle rfl)|refine j1 Tryz.func120 (at1 ..) ?_|refine j1 Tryz.func120 (at2 ..) ?_)
      (apply jM (rs:=[.cell 8 55]) [] 6;(case hr=>(repeat (first|exact js|(apply jt;rfl)|(apply jl;rfl;rfl;rfl;rfl;rfl))));(case hL=>rfl);(case hh=>(repeat' (first|exact qj|refine QI ?_|refine x2 ?_ ?_ ?_|refine zy ?_));all_goals (first|with_reducible exact qh _|with_reducible exact List.Perm.refl _|rfl|trace_state));(case hi=>exact rfl);(case hz=>first|rfl|(simp [yh,AV.ren,AV.ren.renL,jF,qS,jD];done)|(simp [yh,AV.ren,AV.ren.renL,jF,qS,jD, *];done)))
   | false =>
     rw [hM1] at at2
     refine key 1 (by unfold kK;rw [nT,KV hM1]) ?_
     clear key
     generalize stT T p = tt at *
     generalize stT M p = mm at *
     refine qc (C:=C6) Tryz.func67 rfl _ Tryz.ntmps67 (Nat.le_of_ble_eq_true rfl) _ Tryz.results67 6 rfl rfl ?_
     repeat (first|refine qn ?_|(apply qi;apply jP;(case hm=>rfl);(case hn=>rfl);(case hk=>rfl);(case hT=>rfl);(case he=>rfl);(case hK=>rfl);(case hks=>rfl);(case hz=>exact ji);(case hzv=>exact jQ);(case hx=>exact g1);(case hN=>exact nle rfl))|(apply qi;apply jP;(case hm=>rfl);(case hn=>rfl);(case hk=>rfl);(case hT=>rfl);(case he=>rfl);(case hK=>rfl);(case hks=>rfl);(case hz=>exact ji);(case hzv=>exact jQ);(case hx=>exact g2);(case hN=>exact nle rfl))|(apply qi;apply jP;(case hm=>rfl);(case hn=>rfl);(case hk=>rfl);(case hT=>rfl);(case he=>rfl);(case hK=>rfl);(case hks=>rfl);(case hz=>exact ji);(case hzv=>exact jQ);(case hx=>exact g3);(case hN=>exact nle rfl))|(apply qi;apply xY;rfl;rfl;exact vU;exact xR _ _;(first|exact .inl ⟨rfl,rfl⟩|exact .inr ⟨rfl,rfl⟩);exact nle rfl)|refine j1 Tryz.func120 (at1 ..) ?_|refine j1 Tryz.func120 (at2 ..) ?_)
     (apply jM (rs:=[.cell 8 55]) [] 6;(case hr=>(repeat (first|exact js|(apply jt;rfl)|(apply jl;rfl;rfl;rfl;rfl;rfl))));(case hL=>rfl);(case hh=>(repeat' (first|exact qj|refine QI ?_|refine x2 ?_ ?_ ?_|refine zy ?_));all_goals (first|with_reducible exact qh _|with_reducible exact List.Perm.refl _|rfl|trace_state));(case hi=>exact rfl);(case hz=>first|rfl|(simp [yh,AV.ren,AV.ren.renL,jF,qS,jD];done)|(simp [yh,AV.ren,AV.ren.renL,jF,qS,jD, *];done)))
end Go.Proofs.YtamejbkifpjhiaaGreatDoor
set_option linter.unusedSimpArgs false
set_option linter.unnecessarySimpa false
set_option linter.unusedVariables false
set_option maxHeartbeats 1000000
namespace Go.Proofs.YtamejbkifpjhiaaGreatDoor
open Go.Ab Go.RowKit
set_option maxRecDepth 10000
attribute [local irreducible] Awp yH jH jw Red ja Go.Ab.Fin qZ Rz vn jr jp ResOk j3 jC yC jA
def we (l:List Cpy):AV := .sl false (l.map Cpy.row)
def Qz (r:List Ent × List Cpy × Int):AV := .tup [qa r.1,we r.2.1,.v (.int .i64 r.2.2)]
theorem Xo {b m t:List Ent} (h:¬ qC b = 0):xP b m t = ([],[],qC b):=by
 unfold xP
 rw [show jK qC [b,m,t] = qC b from by simp [jK,h],if_neg h]
theorem Xp {b m t:List Ent} (hb:qC b = 0) (h:¬ qC m = 0):xP b m t = ([],[],qC m):=by
 unfold xP
 rw [show jK qC [b,m,t] = qC m from by simp [jK,h,hb],if_neg h]
theorem Xq {b m t:List Ent} (hb:qC b = 0) (hm:qC m = 0) (h:¬ qC t = 0):xP b m t = ([],[],qC t):=by
 unfold xP
 rw [show jK qC [b,m,t] = qC t from by simp [jK,h,hb,hm],if_neg h]
theorem w7 {b m t:List Ent} (hb:qC b = 0) (hm:qC m = 0) (ht:qC t = 0):xP b m t = zh b m t:=by
 unfold xP
 rw [show jK qC [b,m,t] = 0 from by simp [jK,ht,hb,hm],if_pos rfl]
theorem ZY (t:List Ent):(qr t).length = t.length:=by
 have:=congrArg List.length (v2 t)
 simpa using this
theorem qbJ {m t o:List Ent} (ho:MInv o) {e:Ent} (he:e ∈ o):qe5 m t o e.path = vl m t e:=by
 have hl:qW o e.path = some e:=vw ho.rise he
 have h1:stT o e.path = xS e:=by unfold stT;rw [hl]
 unfold qe5
 rw [h1,qeE (ho.ent e he)]
 unfold vl kK zV qhf
 rfl
theorem qeB {o:List Ent} (ho:MInv o) {e:Ent} (he:e ∈ o):¬ (stT o e.path).kind = 0:=by
 rw [KL,vw ho.rise he];exact nofun
set_option maxHeartbeats 4000000 in
theorem qeT (B M T:List Ent) (bB:EBig B) (bM:EBig M) (bT:EBig T):xH C.P 28 [qa B,qa M,qa T] (Qz (xP B M T)):=by
 have cB:=zW B bB
 have cM:=zW M bM
 have cT:=zW T bT
 refine qc Tryz.func28 rfl _ Tryz.ntmps28 (Nat.le_of_ble_eq_true rfl) _ Tryz.results28 0 rfl rfl ?_
 repeat' (first|refine qn ?_|(first|(refine jL ?_))|((first|refine qf ?_ ?_|refine qe ?_ ?_|refine xsC ?_ ?_);all_goals (intro hc;have hp:=hc;try simp at hp;try (exfalso;omega)))|refine qX ?_ ?_)
 all_goals try (exfalso;omega)
 (refine Awp.red (qI (ts:=[(0,qa B),(1,qa M),(2,qa T),(19,.sl true [[qa B],[qa M],[qa T]]),(20,.v (.int .i64 3)),(21,.v (.int .i64 ((0:Nat):Int)))]) ?_) ?_;((repeat (first|exact qg|refine qo ?_|refine qY ?_ ?_))))
 refine qV (fun n σ => ∃ i:Nat,i ≤ 3 ∧ n = 3 - i ∧ ((1 ≤ i → qC B = 0) ∧ (2 ≤ i → qC M = 0) ∧ (3 ≤ i → qC T = 0)) ∧ σ = ⟨[(0,qa B),(1,qa M),(2,qa T),(19,.sl true [[qa B],[qa M],[qa T]]),(20,.v (.int .i64 3)),(21,.v (.int .i64 (i:Int)))],[],C.nh⟩) 3 ⟨0,by omega,rfl,⟨by omega,by omega,by omega⟩,rfl⟩ ?_
 rintro n σ ⟨i,hi,rfl,⟨e1,e2,e3⟩,rfl⟩
 rcases show i = 0 ∨ i = 1 ∨ i = 2 ∨ i = 3 from by omega with rfl|rfl|rfl|rfl
 ·have hrow:([[qa B],[qa M],[qa T]]:List (List AV))[0]? = some [qa B]:=rfl
  by_cases h0:qC B = 0
  ·rw [h0] at cB
   repeat' (first|refine qn ?_|(first|refine jv Tryz.func63 (cB ..) ?_)|((first|refine qf ?_ ?_|refine qe ?_ ?_|refine xsC ?_ ?_);all_goals (intro hc;have hp:=hc;try simp at hp;try (exfalso;omega)))|refine qX ?_ ?_)
   all_goals try (exfalso;first|omega|contradiction)
   refine ⟨3 - 1,_,by omega,qI (ts:=[(0,qa B),(1,qa M),(2,qa T),(19,.sl true [[qa B],[qa M],[qa T]]),(20,.v (.int .i64 3)),(21,.v (.int .i64 ((1:Nat):Int)))]) ?_,1,by omega,rfl,⟨fun _=>h0,by omega,by omega⟩,rfl⟩;((repeat (first|exact qg|refine qo ?_|refine qY ?_ ?_)))
  ·rw [Xo h0]
   generalize qC B = E at *
   repeat' (first|refine qn ?_|(first|refine jv Tryz.func63 (cB ..) ?_)|((first|refine qf ?_ ?_|refine qe ?_ ?_|refine xsC ?_ ?_);all_goals (intro hc;have hp:=hc;try simp at hp;try (exfalso;omega)))|refine qX ?_ ?_)
   all_goals try (exfalso;first|omega|contradiction)
   unfold Qz we
   (exact zO (rs:=[.tmp 6,.tmp 7,.tmp 8]))
 ·have hrow:([[qa B],[qa M],[qa T]]:List (List AV))[1]? = some [qa M]:=rfl
  by_cases h0:qC M = 0
  ·rw [h0] at cM
   repeat' (first|refine qn ?_|(first|refine jv Tryz.func63 (cM ..) ?_)|((first|refine qf ?_ ?_|refine qe ?_ ?_|refine xsC ?_ ?_);all_goals (intro hc;have hp:=hc;try simp at hp;try (exfalso;omega)))|refine qX ?_ ?_)
   all_goals try (exfalso;first|omega|contradiction)
   refine ⟨3 - 2,_,by omega,qI (ts:=[(0,qa B),(1,qa M),(2,qa T),(19,.sl true [[qa B],[qa M],[qa T]]),(20,.v (.int .i64 3)),(21,.v (.int .i64 ((2:Nat):Int)))]) ?_,2,by omega,rfl,⟨fun _=>e1 (by omega),fun _=>h0,by omega⟩,rfl⟩;((repeat (first|exact qg|refine qo ?_|refine qY ?_ ?_)))
  ·rw [Xp (e1 (by omega)) h0]
   generalize qC M = E at *
   repeat' (first|refine qn ?_|(first|refine jv Tryz.func63 (cM ..) ?_)|((first|refine qf ?_ ?_|refine qe ?_ ?_|refine xsC ?_ ?_);all_goals (intro hc;have hp:=hc;try simp at hp;try (exfalso;omega)))|refine qX ?_ ?_)
   all_goals try (exfalso;first|omega|contradiction)
   unfold Qz we
   (exact zO (rs:=[.tmp 6,.tmp 7,.tmp 8]))
 ·have hrow:([[qa B],[qa M],[qa T]]:List (List AV))[2]? = some [qa T]:=rfl
  by_cases h0:qC T = 0
  ·rw [h0] at cT
   repeat' (first|refine qn ?_|(first|refine jv Tryz.func63 (cT ..) ?_)|((first|refine qf ?_ ?_|refine qe ?_ ?_|refine xsC ?_ ?_);all_goals (intro hc;have hp:=hc;try simp at hp;try (exfalso;omega)))|refine qX ?_ ?_)
   all_goals try (exfalso;first|omega|contradiction)
   refine ⟨3 - 3,_,by omega,qI (ts:=[(0,qa B),(1,qa M),(2,qa T),(19,.sl true [[qa B],[qa M],[qa T]]),(20,.v (.int .i64 3)),(21,.v (.int .i64 ((3:Nat):Int)))]) ?_,3,by omega,rfl,⟨fun _=>e1 (by omega),fun _=>e2 (by omega),fun _=>h0⟩,rfl⟩;((repeat (first|exact qg|refine qo ?_|refine qY ?_ ?_)))
  ·rw [Xq (e1 (by omega)) (e2 (by omega)) h0]
   generalize qC T = E at *
   repeat' (first|refine qn ?_|(first|refine jv Tryz.func63 (cT ..) ?_)|((first|refine qf ?_ ?_|refine qe ?_ ?_|refine xsC ?_ ?_);all_goals (intro hc;have hp:=hc;try simp at hp;try (exfalso;omega)))|refine qX ?_ ?_)
   all_goals try (exfalso;first|omega|contradiction)
   unfold Qz we
   (exact zO (rs:=[.tmp 6,.tmp 7,.tmp 8]))
 have h1:=e1 (by omega)
 have h2:=e2 (by omega)
 have h3:=e3 (by omega)
 rw [w7 h1 h2 h3]
 clear e1 e2 e3 cB cM cT
 have rB:=jT.1 h1
 have rM:=jT.1 h2
 have rT:=jT.1 h3
 have lB:=rB.len
 have lM:=rM.len
 have lT:=rT.len
 have s1:=wU B rB.rise (by omega)
 have s2:=wU M rM.rise (by omega)
 have s3:=wU T rT.rise (by omega)
 have hm:=qbU B M T rB rM rT
 repeat' (first|refine qn ?_|(first|fail)|((first|refine qf ?_ ?_|refine qe ?_ ?_|refine xsC ?_ ?_);all_goals (intro hc;have hp:=hc;try simp at hp;try (exfalso;omega)))|refine qX ?_ ?_)
 all_goals try (exfalso;first|omega|contradiction)
 apply jo Tryz.func64 rfl rfl
 intro hIsFn
 refine yD [] [0] [(0,.mp (qr B))] 1 (.mp 0) hIsFn (s1) (by ((repeat' (first|exact q9|apply qR|exact q8 rfl|exact jy|(apply qm;apply qD;exact .inr (of_decide_eq_true rfl))|(apply qm;apply qt;exact .inr (of_decide_eq_true rfl))|(apply qm;apply qz;exact .inr (of_decide_eq_true rfl))|apply jd|apply je)))<;>fail) (by ((repeat' (first|exact qG|exact qF|refine qx _ ?_ ?_|refine qw ?_ ?_|exact qq|exact qb (qh _)|exact qb (qL _)|exact qb (qp _)|exact qv (fun _=>rfl)|refine qy ?_|exact ql|apply qd|exact qk rfl|(apply qt;exact .inr (of_decide_eq_true rfl))|(apply qz;exact .inr (of_decide_eq_true rfl))|(apply qD;exact .inr (of_decide_eq_true rfl))|fail)))<;>fail) (by ((repeat' (first|exact qG|exact qF|refine qx _ ?_ ?_|refine qw ?_ ?_|exact qq|exact qb (qh _)|exact qb (qL _)|exact qb (qp _)|exact qv (fun _=>rfl)|refine qy ?_|exact ql|apply qd|exact qk rfl|(apply qt;exact .inr (of_decide_eq_true rfl))|(apply qz;exact .inr (of_decide_eq_true rfl))|(apply qD;exact .inr (of_decide_eq_true rfl))|fail)))<;>fail) ?_
 repeat' (first|refine qn ?_|(first|fail)|((first|refine qf ?_ ?_|refine qe ?_ ?_|refine xsC ?_ ?_);all_goals (intro hc;have hp:=hc;try simp at hp;try (exfalso;omega)))|refine qX ?_ ?_)
 apply jo Tryz.func64 rfl rfl
 intro hIsFn
 refine yD [] [1] [(1,.mp (qr M))] 2 (.mp 1) hIsFn (s2) (by ((repeat' (first|exact q9|apply qR|exact q8 rfl|exact jy|(apply qm;apply qD;exact .inr (of_decide_eq_true rfl))|(apply qm;apply qt;exact .inr (of_decide_eq_true rfl))|(apply qm;apply qz;exact .inr (of_decide_eq_true rfl))|apply jd|apply je)))<;>fail) (by ((repeat' (first|exact qG|exact qF|refine qx _ ?_ ?_|refine qw ?_ ?_|exact qq|exact qb (qh _)|exact qb (qL _)|exact qb (qp _)|exact qv (fun _=>rfl)|refine qy ?_|exact ql|apply qd|exact qk rfl|(apply qt;exact .inr (of_decide_eq_true rfl))|(apply qz;exact .inr (of_decide_eq_true rfl))|(apply qD;exact .inr (of_decide_eq_true rfl))|fail)))<;>fail) (by ((repeat' (first|exact qG|exact qF|refine qx _ ?_ ?_|refine qw ?_ ?_|exact qq|exact qb (qh _)|exact qb (qL _)|exact qb (qp _)|exact qv (fun _=>rfl)|refine qy ?_|exact ql|apply qd|exact qk rfl|(apply qt;exact .inr (of_decide_eq_true rfl))|(apply qz;exact .inr (of_decide_eq_true rfl))|(apply qD;exact .inr (of_decide_eq_true rfl))|fail)))<;>fail) ?_
 repeat' (first|refine qn ?_|(first|fail)|((first|refine qf ?_ ?_|refine qe ?_ ?_|refine xsC ?_ ?_);all_goals (intro hc;have hp:=hc;try simp at hp;try (exfalso;omega)))|refine qX ?_ ?_)
 apply jo Tryz.func64 rfl rfl
 intro hIsFn
 refine yD [] [2] [(2,.mp (qr T))] 3 (.mp 2) hIsFn (s3) (by ((repeat' (first|exact q9|apply qR|exact q8 rfl|exact jy|(apply qm;apply qD;exact .inr (of_decide_eq_true rfl))|(apply qm;apply qt;exact .inr (of_decide_eq_true rfl))|(apply qm;apply qz;exact .inr (of_decide_eq_true rfl))|apply jd|apply je)))<;>fail) (by ((repeat' (first|exact qG|exact qF|refine qx _ ?_ ?_|refine qw ?_ ?_|exact qq|exact qb (qh _)|exact qb (qL _)|exact qb (qp _)|exact qv (fun _=>rfl)|refine qy ?_|exact ql|apply qd|exact qk rfl|(apply qt;exact .inr (of_decide_eq_true rfl))|(apply qz;exact .inr (of_decide_eq_true rfl))|(apply qD;exact .inr (of_decide_eq_true rfl))|fail)))<;>fail) (by ((repeat' (first|exact qG|exact qF|refine qx _ ?_ ?_|refine qw ?_ ?_|exact qq|exact qb (qh _)|exact qb (qL _)|exact qb (qp _)|exact qv (fun _=>rfl)|refine qy ?_|exact ql|apply qd|exact qk rfl|(apply qt;exact .inr (of_decide_eq_true rfl))|(apply qz;exact .inr (of_decide_eq_true rfl))|(apply qD;exact .inr (of_decide_eq_true rfl))|fail)))<;>fail) ?_
 repeat' (first|refine qn ?_|(first|(apply xe;apply kq;exact nle rfl))|((first|refine qf ?_ ?_|refine qe ?_ ?_|refine xsC ?_ ?_);all_goals (intro hc;have hp:=hc;try simp at hp;try (exfalso;omega)))|refine qX ?_ ?_)
 apply jo Tryz.func65 rfl rfl
 intro hIsFn
 unfold zh
 cases hS:vG B M T with
 | none =>
   rw [hS] at hm
   refine yD [4,0,1,2,3] [] [(4,.dead),(0,.dead),(1,.dead),(2,.dead),(3,.dead)] 5 (.v (.bool false)) hIsFn (hm) (by ((repeat' (first|exact q9|apply qR|exact q8 rfl|exact jy|(apply qm;apply qD;exact .inr (of_decide_eq_true rfl))|(apply qm;apply qt;exact .inr (of_decide_eq_true rfl))|(apply qm;apply qz;exact .inr (of_decide_eq_true rfl))|apply jd|apply je)))<;>fail) (by ((repeat' (first|exact qG|exact qF|refine qx _ ?_ ?_|refine qw ?_ ?_|exact qq|exact qb (qh _)|exact qb (qL _)|exact qb (qp _)|exact qv (fun _=>rfl)|refine qy ?_|exact ql|apply qd|exact qk rfl|(apply qt;exact .inr (of_decide_eq_true rfl))|(apply qz;exact .inr (of_decide_eq_true rfl))|(apply qD;exact .inr (of_decide_eq_true rfl))|exact qb (qh []))))<;>fail) (by ((repeat' (first|exact qG|exact qF|refine qx _ ?_ ?_|refine qw ?_ ?_|exact qq|exact qb (qh _)|exact qb (qL _)|exact qb (qp _)|exact qv (fun _=>rfl)|refine qy ?_|exact ql|apply qd|exact qk rfl|(apply qt;exact .inr (of_decide_eq_true rfl))|(apply qz;exact .inr (of_decide_eq_true rfl))|(apply qD;exact .inr (of_decide_eq_true rfl))|fail)))<;>fail) ?_
   repeat' (first|refine qn ?_|(first|fail)|((first|refine qf ?_ ?_|refine qe ?_ ?_|refine xsC ?_ ?_);all_goals (intro hc;have hp:=hc;try simp at hp;try (exfalso;omega)))|refine qX ?_ ?_)
   all_goals try (exfalso;first|omega|contradiction)
   unfold Qz we
   (exact zO (rs:=[.tmp 6,.tmp 7,.tmp 8]))
 | some s =>
   rw [hS] at hm
   have iS:=(Qy rB rM rT hS).1
   refine yD [4,0,1,2,3] [5] [(4,.own false 5 [[.mp 0,.mp 1,.mp 2,.mp 3,.os 5 0 s.cps.length]]),(0,.mp (qr B)),(1,.mp (qr M)),(2,.mp (qr T)),(3,.mp (qr s.out)),(5,.own false 2 (s.cps.map Cpy.row))] 6 (.v (.bool true)) hIsFn (hm) (by ((repeat' (first|exact q9|apply qR|exact q8 rfl|exact jy|(apply qm;apply qD;exact .inr (of_decide_eq_true rfl))|(apply qm;apply qt;exact .inr (of_decide_eq_true rfl))|(apply qm;apply qz;exact .inr (of_decide_eq_true rfl))|apply jd|apply je)))<;>fail) (by ((repeat' (first|exact qG|exact qF|refine qx _ ?_ ?_|refine qw ?_ ?_|exact qq|exact qb (qh _)|exact qb (qL _)|exact qb (qp _)|exact qv (fun _=>rfl)|refine qy ?_|exact ql|apply qd|exact qk rfl|(apply qt;exact .inr (of_decide_eq_true rfl))|(apply qz;exact .inr (of_decide_eq_true rfl))|(apply qD;exact .inr (of_decide_eq_true rfl))|exact qb (qh []))))<;>fail) (by ((repeat' (first|exact qG|exact qF|refine qx _ ?_ ?_|refine qw ?_ ?_|exact qq|exact qb (qh _)|exact qb (qL _)|exact qb (qp _)|exact qv (fun _=>rfl)|refine qy ?_|exact ql|apply qd|exact qk rfl|(apply qt;exact .inr (of_decide_eq_true rfl))|(apply qz;exact .inr (of_decide_eq_true rfl))|(apply qD;exact .inr (of_decide_eq_true rfl))|fail)))<;>fail) ?_
   have lo:=ZY s.out
   by_cases h60:60 < s.out.length
   ·dsimp only
    rw [if_pos h60]
    repeat' (first|refine qn ?_|(first|(apply qi;apply Jv;rfl;rfl;rfl;rfl;exact nle rfl))|((first|refine qf ?_ ?_|refine qe ?_ ?_|refine xsC ?_ ?_);all_goals (intro hc;have hp:=hc;try simp at hp;try (exfalso;omega)))|refine qX ?_ ?_)
    all_goals try (exfalso;first|omega|contradiction)
    all_goals unfold Qz we
    all_goals ((exact zO (rs:=[.tmp 6,.tmp 7,.tmp 8])))
   dsimp only
   rw [if_neg h60]
   have lK:(s.out.map Ent.path).length = s.out.length:=List.length_map ..
   have ap:=Yi (qr s.out) (s.out.map Ent.path) (Xy iS.rise) (by rw [v2]) (by rw [lK];omega) (fun x hx=>by
    obtain ⟨e,he,rfl⟩:=List.mem_map.1 hx
    exact Nat.le_trans (qQ (jz (iS.ent e he)).1) (by decide))
   have hent : ∀ e,e ∈ s.out → qZ C6.P 67 [.op 0 0 0,.v (str e.path),qa M,qa T] (H6 B M T s.out s.cps) (.agg (vl M T e).row) (H6 B M T s.out s.cps):=fun e he=>by
    have:=qbT B M T s.out s.cps e.path rM.rise rT.rise lM lT (qeB iS he)
    rwa [qbJ iS he] at this
   generalize hO:s.out = O at *
   generalize s.cps = cs at *
   repeat' (first|refine qn ?_|(first|(apply qi;apply Jv;rfl;rfl;rfl;rfl;exact nle rfl))|((first|refine qf ?_ ?_|refine qe ?_ ?_|refine xsC ?_ ?_);all_goals (intro hc;have hp:=hc;try simp at hp;try (exfalso;omega)))|refine qX ?_ ?_)
   all_goals try (exfalso;first|omega|contradiction)
   apply jo Tryz.func66 rfl rfl
   intro hIsFn2
   refine yD [3] [6] [(3,.mp (qr O)),(6,.own false 1 ((O.map Ent.path).map jn))] 7 (.os 6 0 (O.map Ent.path).length) hIsFn2 (ap) (by ((repeat' (first|exact q9|apply qR|exact q8 rfl|exact jy|(apply qm;apply qD;exact .inr (of_decide_eq_true rfl))|(apply qm;apply qt;exact .inr (of_decide_eq_true rfl))|(apply qm;apply qz;exact .inr (of_decide_eq_true rfl))|apply jd|apply je)))<;>fail) (by ((repeat' (first|exact qG|exact qF|refine qx _ ?_ ?_|refine qw ?_ ?_|exact qq|exact qb (qh _)|exact qb (qL _)|exact qb (qp _)|exact qv (fun _=>rfl)|refine qy ?_|exact ql|apply qd|exact qk rfl|(apply qt;exact .inr (of_decide_eq_true rfl))|(apply qz;exact .inr (of_decide_eq_true rfl))|(apply qD;exact .inr (of_decide_eq_true rfl))|fail)))<;>fail) (by ((repeat' (first|exact qG|exact qF|refine qx _ ?_ ?_|refine qw ?_ ?_|exact qq|exact qb (qh _)|exact qb (qL _)|exact qb (qp _)|exact qv (fun _=>rfl)|refine qy ?_|exact ql|apply qd|exact qk rfl|(apply qt;exact .inr (of_decide_eq_true rfl))|(apply qz;exact .inr (of_decide_eq_true rfl))|(apply qD;exact .inr (of_decide_eq_true rfl))|fail)))<;>fail) ?_
   repeat' (first|refine qn ?_|(first|fail)|((first|refine qf ?_ ?_|refine qe ?_ ?_|refine xsC ?_ ?_);all_goals (intro hc;have hp:=hc;try simp at hp;try (exfalso;omega)))|refine qX ?_ ?_)
   all_goals try (exfalso;first|omega|contradiction)
   clear ap
   refine Awp.red (ye 13 4 rfl (Nat.zero_le _)) ?_
   (refine Awp.red (qB (τ:=⟨[(1,qa M),(2,qa T),(12,.op 4 0 0),(13,.os 7 0 ((O.take 0).map (vl M T)).length),(55,.os 6 0 (O.map Ent.path).length),(56,.v (.int .i64 O.length)),(57,.v (.int .i64 ((0:Nat):Int)))],[(0,.mp (qr B)),(1,.mp (qr M)),(2,.mp (qr T)),(3,.mp (qr O)),(4,.own false 5 [[.mp 0,.mp 1,.mp 2,.mp 3,.os 5 0 cs.length]]),(5,.own false 2 (cs.map Cpy.row)),(6,.own false 1 ((O.map Ent.path).map jn)),(7,.own false 4 (((O.take 0).map (vl M T)).map Ent.row))],8⟩) [(4,4),(7,7),(6,6),(5,5),(0,0),(1,1),(2,2),(3,3)] rfl ?_ ?_) ?_;rotate_left 2;rotate_left 1;(focus ((repeat (first|exact qg|refine qo ?_|refine xl ?_|refine yu ?_|refine yw ?_ ?_|refine ws ?_|refine qY ?_ ?_));all_goals (first|rfl|(rw [lK];done)|trace_state)));(focus ((repeat' (first|exact qj|refine ww ?_ ?_ ?_|refine vJ ?_|refine yy ?_ ?_|refine yx ?_ ?_|exact ql|apply qd|exact qk rfl|(apply qt;(refine .inr ?_;(repeat (first|exact List.mem_cons_self ..|apply List.mem_cons_of_mem))))|(apply qz;(refine .inr ?_;(repeat (first|exact List.mem_cons_self ..|apply List.mem_cons_of_mem))))));all_goals (first|with_reducible exact qh _|with_reducible exact List.Perm.refl _|rfl|trace_state))))
   refine qV (fun n σ => ∃ i:Nat,i ≤ O.length ∧ n = O.length - i ∧ True ∧ σ = ⟨[(1,qa M),(2,qa T),(12,.op 4 0 0),(13,.os 7 0 ((O.take i).map (vl M T)).length),(55,.os 6 0 (O.map Ent.path).length),(56,.v (.int .i64 O.length)),(57,.v (.int .i64 (i:Int)))],[(0,.mp (qr B)),(1,.mp (qr M)),(2,.mp (qr T)),(3,.mp (qr O)),(4,.own false 5 [[.mp 0,.mp 1,.mp 2,.mp 3,.os 5 0 cs.length]]),(5,.own false 2 (cs.map Cpy.row)),(6,.own false 1 ((O.map Ent.path).map jn)),(7,.own false 4 (((O.take i).map (vl M T)).map Ent.row))],8⟩) O.length ⟨0,by omega,rfl,trivial,rfl⟩ ?_
   rintro n σ ⟨i,hi,rfl, -,rfl⟩
   by_cases hlt:i < O.length
   ·have hrow:((O.map Ent.path).map jn)[i]? = some (jn O[i].path):=by rw [List.getElem?_map,List.getElem?_map,List.getElem?_eq_getElem hlt];rfl
    have hen:=hent O[i] (List.getElem_mem hlt)
    have hlt2:i < (O.map Ent.path).length:=by rw [lK];exact hlt
    have hlen:((O.take i).map (vl M T)).length = i:=by rw [List.length_map,List.length_take];omega
    have hlen2:((O.take (i + 1)).map (vl M T)).length = i + 1:=by rw [List.length_map,List.length_take];omega
    have hstep:(((O.take i).map (vl M T)).map Ent.row).take ((O.take i).map (vl M T)).length ++ [(vl M T O[i]).row] = ((O.take (i + 1)).map (vl M T)).map Ent.row:=by
     rw [List.take_of_length_le (by simp),List.take_succ_eq_append_getElem hlt,List.map_append,List.map_append];rfl
    clear hent
    repeat' (first|refine qn ?_|(first|(refine xC ?_))|((first|refine qf ?_ ?_|refine qe ?_ ?_|refine xsC ?_ ?_);all_goals (intro hc;have hp:=hc;try simp at hp;try (exfalso;omega)))|refine qX ?_ ?_)
    all_goals try (exfalso;first|omega|contradiction)
    apply jo Tryz.func67 rfl rfl
    intro hIsFn3
    refine yD [4,0,1,2,3,5] [] [(4,.own false 5 [[.mp 0,.mp 1,.mp 2,.mp 3,.os 5 0 cs.length]]),(0,.mp (qr B)),(1,.mp (qr M)),(2,.mp (qr T)),(3,.mp (qr O)),(5,.own false 2 (cs.map Cpy.row))] 8 (.agg (vl M T O[i]).row) hIsFn3 (hen) (by ((repeat' (first|exact q9|apply qR|exact q8 rfl|exact jy|(apply qm;apply qD;exact .inr (of_decide_eq_true rfl))|(apply qm;apply qt;exact .inr (of_decide_eq_true rfl))|(apply qm;apply qz;exact .inr (of_decide_eq_true rfl))|apply jd|apply je)))<;>fail) (by ((repeat' (first|exact qG|exact qF|refine qx _ ?_ ?_|refine qw ?_ ?_|exact qq|exact qb (qh _)|exact qb (qL _)|exact qb (qp _)|exact qv (fun _=>rfl)|refine qy ?_|exact ql|apply qd|exact qk rfl|(apply qt;exact .inr (of_decide_eq_true rfl))|(apply qz;exact .inr (of_decide_eq_true rfl))|(apply qD;exact .inr (of_decide_eq_true rfl))|fail)))<;>fail) (by ((repeat' (first|exact qG|exact qF|refine qx _ ?_ ?_|refine qw ?_ ?_|exact qq|exact qb (qh _)|exact qb (qL _)|exact qb (qp _)|exact qv (fun _=>rfl)|refine qy ?_|exact ql|apply qd|exact qk rfl|(apply qt;exact .inr (of_decide_eq_true rfl))|(apply qz;exact .inr (of_decide_eq_true rfl))|(apply qD;exact .inr (of_decide_eq_true rfl))|fail)))<;>fail) ?_
    generalize vl M T O[i] = e at *
    repeat' (first|refine qn ?_|(first|(refine jL ?_)|(refine yi ?_))|((first|refine qf ?_ ?_|refine qe ?_ ?_|refine xsC ?_ ?_);all_goals (intro hc;have hp:=hc;try simp at hp;try (exfalso;omega)))|refine qX ?_ ?_)
    all_goals try (exfalso;first|omega|contradiction)
    refine ⟨O.length - (i + 1),⟨[(1,qa M),(2,qa T),(12,.op 4 0 0),(13,.os 7 0 ((O.take (i + 1)).map (vl M T)).length),(55,.os 6 0 (O.map Ent.path).length),(56,.v (.int .i64 O.length)),(57,.v (.int .i64 ((i + 1:Nat):Int)))],[(0,.mp (qr B)),(1,.mp (qr M)),(2,.mp (qr T)),(3,.mp (qr O)),(4,.own false 5 [[.mp 0,.mp 1,.mp 2,.mp 3,.os 5 0 cs.length]]),(5,.own false 2 (cs.map Cpy.row)),(6,.own false 1 ((O.map Ent.path).map jn)),(7,.own false 4 (((O.take (i + 1)).map (vl M T)).map Ent.row))],8⟩,by omega,?_,i + 1,by omega,rfl,trivial,rfl⟩;(skip);refine qB [(4,4),(8,7),(6,6),(5,5),(0,0),(1,1),(2,2),(3,3)] rfl ?_ ?_;(focus ((repeat (first|exact qg|refine qo ?_|refine xl ?_|refine yu ?_|refine yw ?_ ?_|refine ws ?_|refine qY ?_ ?_));all_goals (first|rfl|(rw [hlen,hlen2];rfl)|omega|trace_state)));(focus ((repeat' (first|exact qj|refine ww ?_ ?_ ?_|refine vJ ?_|refine yy ?_ ?_|refine yx ?_ ?_|exact ql|apply qd|exact qk rfl|(apply qt;(refine .inr ?_;(repeat (first|exact List.mem_cons_self ..|apply List.mem_cons_of_mem))))|(apply qz;(refine .inr ?_;(repeat (first|exact List.mem_cons_self ..|apply List.mem_cons_of_mem))))));all_goals (first|with_reducible exact qh _|with_reducible exact List.Perm.refl _|exact hstep|rfl|trace_state)))
   obtain rfl:i = O.length:=by omega
   rw [List.take_length]
   clear hent
   repeat' (first|refine qn ?_|(first|fail)|((first|refine qf ?_ ?_|refine qe ?_ ?_|refine xsC ?_ ?_);all_goals (intro hc;have hp:=hc;try simp at hp;try (exfalso;omega)))|refine qX ?_ ?_)
   all_goals try (exfalso;first|omega|contradiction)
   unfold Qz we
   (exact zO (rs:=[.tmp 6,.tmp 7,.tmp 8]))
end Go.Proofs.YtamejbkifpjhiaaGreatDoor
set_option linter.unusedSimpArgs false
set_option linter.unnecessarySimpa false
set_option linter.unusedVariables false
set_option maxHeartbeats 1000000
namespace Go.Proofs.YtamejbkifpjhiaaGreatDoor
open Go.Ab Go.RowKit
set_option maxRecDepth 10000
attribute [local irreducible] Awp yH jH jw Red ja Go.Ab.Fin qZ Rz vn jr jp ResOk j3 jC yC jA
def mgW (r:List Ent × List Cpy × Int):AV := .tup [.os 0 0 r.1.length,.os 1 0 r.2.1.length,.v (.int .i64 r.2.2)]
set_option maxHeartbeats 4000000 in
theorem qdp (B M T:List Ent) (bB:EBig B) (bM:EBig M) (bT:EBig T):qZ C.P 28 [qa B,qa M,qa T] [] (mgW (xP B M T)) [.own false 4 ((xP B M T).1.map Ent.row),.own false 2 ((xP B M T).2.1.map Cpy.row)]:=by
 have cB:=zW B bB
 have cM:=zW M bM
 have cT:=zW T bT
 refine qc Tryz.func28 rfl _ Tryz.ntmps28 (Nat.le_of_ble_eq_true rfl) _ Tryz.results28 0 rfl rfl ?_
 repeat' (first|refine qn ?_|(first|(refine jL ?_))|((first|refine qf ?_ ?_|refine qe ?_ ?_|refine xsC ?_ ?_);all_goals (intro hc;have hp:=hc;try simp at hp;try (exfalso;omega)))|refine qX ?_ ?_)
 all_goals try (exfalso;omega)
 (refine Awp.red (qI (ts:=[(0,qa B),(1,qa M),(2,qa T),(19,.sl true [[qa B],[qa M],[qa T]]),(20,.v (.int .i64 3)),(21,.v (.int .i64 ((0:Nat):Int)))]) ?_) ?_;((repeat (first|exact qg|refine qo ?_|refine qY ?_ ?_))))
 refine qV (fun n σ => ∃ i:Nat,i ≤ 3 ∧ n = 3 - i ∧ ((1 ≤ i → qC B = 0) ∧ (2 ≤ i → qC M = 0) ∧ (3 ≤ i → qC T = 0)) ∧ σ = ⟨[(0,qa B),(1,qa M),(2,qa T),(19,.sl true [[qa B],[qa M],[qa T]]),(20,.v (.int .i64 3)),(21,.v (.int .i64 (i:Int)))],[],C.nh⟩) 3 ⟨0,by omega,rfl,⟨by omega,by omega,by omega⟩,rfl⟩ ?_
 rintro n σ ⟨i,hi,rfl,⟨e1,e2,e3⟩,rfl⟩
 rcases show i = 0 ∨ i = 1 ∨ i = 2 ∨ i = 3 from by omega with rfl|rfl|rfl|rfl
 ·have hrow:([[qa B],[qa M],[qa T]]:List (List AV))[0]? = some [qa B]:=rfl
  by_cases h0:qC B = 0
  ·rw [h0] at cB
   repeat' (first|refine qn ?_|(first|refine jv Tryz.func63 (cB ..) ?_)|((first|refine qf ?_ ?_|refine qe ?_ ?_|refine xsC ?_ ?_);all_goals (intro hc;have hp:=hc;try simp at hp;try (exfalso;omega)))|refine qX ?_ ?_)
   all_goals try (exfalso;first|omega|contradiction)
   refine ⟨3 - 1,_,by omega,qI (ts:=[(0,qa B),(1,qa M),(2,qa T),(19,.sl true [[qa B],[qa M],[qa T]]),(20,.v (.int .i64 3)),(21,.v (.int .i64 ((1:Nat):Int)))]) ?_,1,by omega,rfl,⟨fun _=>h0,by omega,by omega⟩,rfl⟩;((repeat (first|exact qg|refine qo ?_|refine qY ?_ ?_)))
  ·rw [Xo h0]
   generalize qC B = E at *
   repeat' (first|refine qn ?_|(first|refine jv Tryz.func63 (cB ..) ?_)|((first|refine qf ?_ ?_|refine qe ?_ ?_|refine xsC ?_ ?_);all_goals (intro hc;have hp:=hc;try simp at hp;try (exfalso;omega)))|refine qX ?_ ?_)
   all_goals try (exfalso;first|omega|contradiction)
   unfold mgW
   (refine xy (C:=C) (ye (C:=C) 6 4 rfl (Nat.zero_le _)) ?_)
   (refine xy (C:=C) (ye (C:=C) 7 2 rfl (Nat.zero_le _)) ?_)
   (refine QV (rs:=[.tmp 6,.tmp 7,.tmp 8]) [(0,0),(1,1)] 2 ?_;(repeat (first|exact qj|refine j4 ?_|refine q6 ?_ ?_));all_goals trace_state)
 ·have hrow:([[qa B],[qa M],[qa T]]:List (List AV))[1]? = some [qa M]:=rfl
  by_cases h0:qC M = 0
  ·rw [h0] at cM
   repeat' (first|refine qn ?_|(first|refine jv Tryz.func63 (cM ..) ?_)|((first|refine qf ?_ ?_|refine qe ?_ ?_|refine xsC ?_ ?_);all_goals (intro hc;have hp:=hc;try simp at hp;try (exfalso;omega)))|refine qX ?_ ?_)
   all_goals try (exfalso;first|omega|contradiction)
   refine ⟨3 - 2,_,by omega,qI (ts:=[(0,qa B),(1,qa M),(2,qa T),(19,.sl true [[qa B],[qa M],[qa T]]),(20,.v (.int .i64 3)),(21,.v (.int .i64 ((2:Nat):Int)))]) ?_,2,by omega,rfl,⟨fun _=>e1 (by omega),fun _=>h0,by omega⟩,rfl⟩;((repeat (first|exact qg|refine qo ?_|refine qY ?_ ?_)))
  ·rw [Xp (e1 (by omega)) h0]
   generalize qC M = E at *
   repeat' (first|refine qn ?_|(first|refine jv Tryz.func63 (cM ..) ?_)|((first|refine qf ?_ ?_|refine qe ?_ ?_|refine xsC ?_ ?_);all_goals (intro hc;have hp:=hc;try simp at hp;try (exfalso;omega)))|refine qX ?_ ?_)
   all_goals try (exfalso;first|omega|contradiction)
   unfold mgW
   (refine xy (C:=C) (ye (C:=C) 6 4 rfl (Nat.zero_le _)) ?_)
   (refine xy (C:=C) (ye (C:=C) 7 2 rfl (Nat.zero_le _)) ?_)
   (refine QV (rs:=[.tmp 6,.tmp 7,.tmp 8]) [(0,0),(1,1)] 2 ?_;(repeat (first|exact qj|refine j4 ?_|refine q6 ?_ ?_));all_goals trace_state)
 ·have hrow:([[qa B],[qa M],[qa T]]:List (List AV))[2]? = some [qa T]:=rfl
  by_cases h0:qC T = 0
  ·rw [h0] at cT
   repeat' (first|refine qn ?_|(first|refine jv Tryz.func63 (cT ..) ?_)|((first|refine qf ?_ ?_|refine qe ?_ ?_|refine xsC ?_ ?_);all_goals (intro hc;have hp:=hc;try simp at hp;try (exfalso;omega)))|refine qX ?_ ?_)
   all_goals try (exfalso;first|omega|contradiction)
   refine ⟨3 - 3,_,by omega,qI (ts:=[(0,qa B),(1,qa M),(2,qa T),(19,.sl true [[qa B],[qa M],[qa T]]),(20,.v (.int .i64 3)),(21,.v (.int .i64 ((3:Nat):Int)))]) ?_,3,by omega,rfl,⟨fun _=>e1 (by omega),fun _=>e2 (by omega),fun _=>h0⟩,rfl⟩;((repeat (first|exact qg|refine qo ?_|refine qY ?_ ?_)))
  ·rw [Xq (e1 (by omega)) (e2 (by omega)) h0]
   generalize qC T = E at *
   repeat' (first|refine qn ?_|(first|refine jv Tryz.func63 (cT ..) ?_)|((first|refine qf ?_ ?_|refine qe ?_ ?_|refine xsC ?_ ?_);all_goals (intro hc;have hp:=hc;try simp at hp;try (exfalso;omega)))|refine qX ?_ ?_)
   all_goals try (exfalso;first|omega|contradiction)
   unfold mgW
   (refine xy (C:=C) (ye (C:=C) 6 4 rfl (Nat.zero_le _)) ?_)
   (refine xy (C:=C) (ye (C:=C) 7 2 rfl (Nat.zero_le _)) ?_)
   (refine QV (rs:=[.tmp 6,.tmp 7,.tmp 8]) [(0,0),(1,1)] 2 ?_;(repeat (first|exact qj|refine j4 ?_|refine q6 ?_ ?_));all_goals trace_state)
 have h1:=e1 (by omega)
 have h2:=e2 (by omega)
 have h3:=e3 (by omega)
 rw [w7 h1 h2 h3]
 clear e1 e2 e3 cB cM cT
 have rB:=jT.1 h1
 have rM:=jT.1 h2
 have rT:=jT.1 h3
 have lB:=rB.len
 have lM:=rM.len
 have lT:=rT.len
 have s1:=wU B rB.rise (by omega)
 have s2:=wU M rM.rise (by omega)
 have s3:=wU T rT.rise (by omega)
 have hm:=qbU B M T rB rM rT
 repeat' (first|refine qn ?_|(first|fail)|((first|refine qf ?_ ?_|refine qe ?_ ?_|refine xsC ?_ ?_);all_goals (intro hc;have hp:=hc;try simp at hp;try (exfalso;omega)))|refine qX ?_ ?_)
 all_goals try (exfalso;first|omega|contradiction)
 apply jo Tryz.func64 rfl rfl
 intro hIsFn
 refine yD [] [0] [(0,.mp (qr B))] 1 (.mp 0) hIsFn (s1) (by ((repeat' (first|exact q9|apply qR|exact q8 rfl|exact jy|(apply qm;apply qD;exact .inr (of_decide_eq_true rfl))|(apply qm;apply qt;exact .inr (of_decide_eq_true rfl))|(apply qm;apply qz;exact .inr (of_decide_eq_true rfl))|apply jd|apply je)))<;>fail) (by ((repeat' (first|exact qG|exact qF|refine qx _ ?_ ?_|refine qw ?_ ?_|exact qq|exact qb (qh _)|exact qb (qL _)|exact qb (qp _)|exact qv (fun _=>rfl)|refine qy ?_|exact ql|apply qd|exact qk rfl|(apply qt;exact .inr (of_decide_eq_true rfl))|(apply qz;exact .inr (of_decide_eq_true rfl))|(apply qD;exact .inr (of_decide_eq_true rfl))|fail)))<;>fail) (by ((repeat' (first|exact qG|exact qF|refine qx _ ?_ ?_|refine qw ?_ ?_|exact qq|exact qb (qh _)|exact qb (qL _)|exact qb (qp _)|exact qv (fun _=>rfl)|refine qy ?_|exact ql|apply qd|exact qk rfl|(apply qt;exact .inr (of_decide_eq_true rfl))|(apply qz;exact .inr (of_decide_eq_true rfl))|(apply qD;exact .inr (of_decide_eq_true rfl))|fail)))<;>fail) ?_
 repeat' (first|refine qn ?_|(first|fail)|((first|refine qf ?_ ?_|refine qe ?_ ?_|refine xsC ?_ ?_);all_goals (intro hc;have hp:=hc;try simp at hp;try (exfalso;omega)))|refine qX ?_ ?_)
 apply jo Tryz.func64 rfl rfl
 intro hIsFn
 refine yD [] [1] [(1,.mp (qr M))] 2 (.mp 1) hIsFn (s2) (by ((repeat' (first|exact q9|apply qR|exact q8 rfl|exact jy|(apply qm;apply qD;exact .inr (of_decide_eq_true rfl))|(apply qm;apply qt;exact .inr (of_decide_eq_true rfl))|(apply qm;apply qz;exact .inr (of_decide_eq_true rfl))|apply jd|apply je)))<;>fail) (by ((repeat' (first|exact qG|exact qF|refine qx _ ?_ ?_|refine qw ?_ ?_|exact qq|exact qb (qh _)|exact qb (qL _)|exact qb (qp _)|exact qv (fun _=>rfl)|refine qy ?_|exact ql|apply qd|exact qk rfl|(apply qt;exact .inr (of_decide_eq_true rfl))|(apply qz;exact .inr (of_decide_eq_true rfl))|(apply qD;exact .inr (of_decide_eq_true rfl))|fail)))<;>fail) (by ((repeat' (first|exact qG|exact qF|refine qx _ ?_ ?_|refine qw ?_ ?_|exact qq|exact qb (qh _)|exact qb (qL _)|exact qb (qp _)|exact qv (fun _=>rfl)|refine qy ?_|exact ql|apply qd|exact qk rfl|(apply qt;exact .inr (of_decide_eq_true rfl))|(apply qz;exact .inr (of_decide_eq_true rfl))|(apply qD;exact .inr (of_decide_eq_true rfl))|fail)))<;>fail) ?_
 repeat' (first|refine qn ?_|(first|fail)|((first|refine qf ?_ ?_|refine qe ?_ ?_|refine xsC ?_ ?_);all_goals (intro hc;have hp:=hc;try simp at hp;try (exfalso;omega)))|refine qX ?_ ?_)
 apply jo Tryz.func64 rfl rfl
 intro hIsFn
 refine yD [] [2] [(2,.mp (qr T))] 3 (.mp 2) hIsFn (s3) (by ((repeat' (first|exact q9|apply qR|exact q8 rfl|exact jy|(apply qm;apply qD;exact .inr (of_decide_eq_true rfl))|(apply qm;apply qt;exact .inr (of_decide_eq_true rfl))|(apply qm;apply qz;exact .inr (of_decide_eq_true rfl))|apply jd|apply je)))<;>fail) (by ((repeat' (first|exact qG|exact qF|refine qx _ ?_ ?_|refine qw ?_ ?_|exact qq|exact qb (qh _)|exact qb (qL _)|exact qb (qp _)|exact qv (fun _=>rfl)|refine qy ?_|exact ql|apply qd|exact qk rfl|(apply qt;exact .inr (of_decide_eq_true rfl))|(apply qz;exact .inr (of_decide_eq_true rfl))|(apply qD;exact .inr (of_decide_eq_true rfl))|fail)))<;>fail) (by ((repeat' (first|exact qG|exact qF|refine qx _ ?_ ?_|refine qw ?_ ?_|exact qq|exact qb (qh _)|exact qb (qL _)|exact qb (qp _)|exact qv (fun _=>rfl)|refine qy ?_|exact ql|apply qd|exact qk rfl|(apply qt;exact .inr (of_decide_eq_true rfl))|(apply qz;exact .inr (of_decide_eq_true rfl))|(apply qD;exact .inr (of_decide_eq_true rfl))|fail)))<;>fail) ?_
 repeat' (first|refine qn ?_|(first|(apply xe;apply kq;exact nle rfl))|((first|refine qf ?_ ?_|refine qe ?_ ?_|refine xsC ?_ ?_);all_goals (intro hc;have hp:=hc;try simp at hp;try (exfalso;omega)))|refine qX ?_ ?_)
 apply jo Tryz.func65 rfl rfl
 intro hIsFn
 unfold zh
 cases hS:vG B M T with
 | none =>
   rw [hS] at hm
   refine yD [4,0,1,2,3] [] [(4,.dead),(0,.dead),(1,.dead),(2,.dead),(3,.dead)] 5 (.v (.bool false)) hIsFn (hm) (by ((repeat' (first|exact q9|apply qR|exact q8 rfl|exact jy|(apply qm;apply qD;exact .inr (of_decide_eq_true rfl))|(apply qm;apply qt;exact .inr (of_decide_eq_true rfl))|(apply qm;apply qz;exact .inr (of_decide_eq_true rfl))|apply jd|apply je)))<;>fail) (by ((repeat' (first|exact qG|exact qF|refine qx _ ?_ ?_|refine qw ?_ ?_|exact qq|exact qb (qh _)|exact qb (qL _)|exact qb (qp _)|exact qv (fun _=>rfl)|refine qy ?_|exact ql|apply qd|exact qk rfl|(apply qt;exact .inr (of_decide_eq_true rfl))|(apply qz;exact .inr (of_decide_eq_true rfl))|(apply qD;exact .inr (of_decide_eq_true rfl))|exact qb (qh []))))<;>fail) (by ((repeat' (first|exact qG|exact qF|refine qx _ ?_ ?_|refine qw ?_ ?_|exact qq|exact qb (qh _)|exact qb (qL _)|exact qb (qp _)|exact qv (fun _=>rfl)|refine qy ?_|exact ql|apply qd|exact qk rfl|(apply qt;exact .inr (of_decide_eq_true rfl))|(apply qz;exact .inr (of_decide_eq_true rfl))|(apply qD;exact .inr (of_decide_eq_true rfl))|fail)))<;>fail) ?_
   repeat' (first|refine qn ?_|(first|fail)|((first|refine qf ?_ ?_|refine qe ?_ ?_|refine xsC ?_ ?_);all_goals (intro hc;have hp:=hc;try simp at hp;try (exfalso;omega)))|refine qX ?_ ?_)
   all_goals try (exfalso;first|omega|contradiction)
   unfold mgW
   (refine xy (C:=C) (ye (C:=C) 6 4 rfl (Nat.zero_le _)) ?_)
   (refine xy (C:=C) (ye (C:=C) 7 2 rfl (Nat.zero_le _)) ?_)
   (refine QV (rs:=[.tmp 6,.tmp 7,.tmp 8]) [(5,0),(6,1)] 2 ?_;(repeat (first|exact qj|refine j4 ?_|refine q6 ?_ ?_));all_goals trace_state)
 | some s =>
   rw [hS] at hm
   have iS:=(Qy rB rM rT hS).1
   refine yD [4,0,1,2,3] [5] [(4,.own false 5 [[.mp 0,.mp 1,.mp 2,.mp 3,.os 5 0 s.cps.length]]),(0,.mp (qr B)),(1,.mp (qr M)),(2,.mp (qr T)),(3,.mp (qr s.out)),(5,.own false 2 (s.cps.map Cpy.row))] 6 (.v (.bool true)) hIsFn (hm) (by ((repeat' (first|exact q9|apply qR|exact q8 rfl|exact jy|(apply qm;apply qD;exact .inr (of_decide_eq_true rfl))|(apply qm;apply qt;exact .inr (of_decide_eq_true rfl))|(apply qm;apply qz;exact .inr (of_decide_eq_true rfl))|apply jd|apply je)))<;>fail) (by ((repeat' (first|exact qG|exact qF|refine qx _ ?_ ?_|refine qw ?_ ?_|exact qq|exact qb (qh _)|exact qb (qL _)|exact qb (qp _)|exact qv (fun _=>rfl)|refine qy ?_|exact ql|apply qd|exact qk rfl|(apply qt;exact .inr (of_decide_eq_true rfl))|(apply qz;exact .inr (of_decide_eq_true rfl))|(apply qD;exact .inr (of_decide_eq_true rfl))|exact qb (qh []))))<;>fail) (by ((repeat' (first|exact qG|exact qF|refine qx _ ?_ ?_|refine qw ?_ ?_|exact qq|exact qb (qh _)|exact qb (qL _)|exact qb (qp _)|exact qv (fun _=>rfl)|refine qy ?_|exact ql|apply qd|exact qk rfl|(apply qt;exact .inr (of_decide_eq_true rfl))|(apply qz;exact .inr (of_decide_eq_true rfl))|(apply qD;exact .inr (of_decide_eq_true rfl))|fail)))<;>fail) ?_
   have lo:=ZY s.out
   by_cases h60:60 < s.out.length
   ·dsimp only
    rw [if_pos h60]
    repeat' (first|refine qn ?_|(first|(apply qi;apply Jv;rfl;rfl;rfl;rfl;exact nle rfl))|((first|refine qf ?_ ?_|refine qe ?_ ?_|refine xsC ?_ ?_);all_goals (intro hc;have hp:=hc;try simp at hp;try (exfalso;omega)))|refine qX ?_ ?_)
    all_goals try (exfalso;first|omega|contradiction)
    unfold mgW
    (refine xy (C:=C) (ye (C:=C) 6 4 rfl (Nat.zero_le _)) ?_)
    (refine xy (C:=C) (ye (C:=C) 7 2 rfl (Nat.zero_le _)) ?_)
    (refine QV (rs:=[.tmp 6,.tmp 7,.tmp 8]) [(6,0),(7,1)] 2 ?_;(repeat (first|exact qj|refine j4 ?_|refine q6 ?_ ?_));all_goals trace_state)
   dsimp only
   rw [if_neg h60]
   have lK:(s.out.map Ent.path).length = s.out.length:=List.length_map ..
   have ap:=Yi (qr s.out) (s.out.map Ent.path) (Xy iS.rise) (by rw [v2]) (by rw [lK];omega) (fun x hx=>by
    obtain ⟨e,he,rfl⟩:=List.mem_map.1 hx
    exact Nat.le_trans (qQ (jz (iS.ent e he)).1) (by decide))
   have hent : ∀ e,e ∈ s.out → qZ C6.P 67 [.op 0 0 0,.v (str e.path),qa M,qa T] (H6 B M T s.out s.cps) (.agg (vl M T e).row) (H6 B M T s.out s.cps):=fun e he=>by
    have:=qbT B M T s.out s.cps e.path rM.rise rT.rise lM lT (qeB iS he)
    rwa [qbJ iS he] at this
   generalize hO:s.out = O at *
   generalize s.cps = cs at *
   repeat' (first|refine qn ?_|(first|(apply qi;apply Jv;rfl;rfl;rfl;rfl;exact nle rfl))|((first|refine qf ?_ ?_|refine qe ?_ ?_|refine xsC ?_ ?_);all_goals (intro hc;have hp:=hc;try simp at hp;try (exfalso;omega)))|refine qX ?_ ?_)
   all_goals try (exfalso;first|omega|contradiction)
   apply jo Tryz.func66 rfl rfl
   intro hIsFn2
   refine yD [3] [6] [(3,.mp (qr O)),(6,.own false 1 ((O.map Ent.path).map jn))] 7 (.os 6 0 (O.map Ent.path).length) hIsFn2 (ap) (by ((repeat' (first|exact q9|apply qR|exact q8 rfl|exact jy|(apply qm;apply qD;exact .inr (of_decide_eq_true rfl))|(apply qm;apply qt;exact .inr (of_decide_eq_true rfl))|(apply qm;apply qz;exact .inr (of_decide_eq_true rfl))|apply jd|apply je)))<;>fail) (by ((repeat' (first|exact qG|exact qF|refine qx _ ?_ ?_|refine qw ?_ ?_|exact qq|exact qb (qh _)|exact qb (qL _)|exact qb (qp _)|exact qv (fun _=>rfl)|refine qy ?_|exact ql|apply qd|exact qk rfl|(apply qt;exact .inr (of_decide_eq_true rfl))|(apply qz;exact .inr (of_decide_eq_true rfl))|(apply qD;exact .inr (of_decide_eq_true rfl))|fail)))<;>fail) (by ((repeat' (first|exact qG|exact qF|refine qx _ ?_ ?_|refine qw ?_ ?_|exact qq|exact qb (qh _)|exact qb (qL _)|exact qb (qp _)|exact qv (fun _=>rfl)|refine qy ?_|exact ql|apply qd|exact qk rfl|(apply qt;exact .inr (of_decide_eq_true rfl))|(apply qz;exact .inr (of_decide_eq_true rfl))|(apply qD;exact .inr (of_decide_eq_true rfl))|fail)))<;>fail) ?_
   repeat' (first|refine qn ?_|(first|fail)|((first|refine qf ?_ ?_|refine qe ?_ ?_|refine xsC ?_ ?_);all_goals (intro hc;have hp:=hc;try simp at hp;try (exfalso;omega)))|refine qX ?_ ?_)
   all_goals try (exfalso;first|omega|contradiction)
   clear ap
   refine Awp.red (ye 13 4 rfl (Nat.zero_le _)) ?_
   (refine Awp.red (qB (τ:=⟨[(1,qa M),(2,qa T),(12,.op 4 0 0),(13,.os 7 0 ((O.take 0).map (vl M T)).length),(55,.os 6 0 (O.map Ent.path).length),(56,.v (.int .i64 O.length)),(57,.v (.int .i64 ((0:Nat):Int)))],[(0,.mp (qr B)),(1,.mp (qr M)),(2,.mp (qr T)),(3,.mp (qr O)),(4,.own false 5 [[.mp 0,.mp 1,.mp 2,.mp 3,.os 5 0 cs.length]]),(5,.own false 2 (cs.map Cpy.row)),(6,.own false 1 ((O.map Ent.path).map jn)),(7,.own false 4 (((O.take 0).map (vl M T)).map Ent.row))],8⟩) [(4,4),(7,7),(6,6),(5,5),(0,0),(1,1),(2,2),(3,3)] rfl ?_ ?_) ?_;rotate_left 2;rotate_left 1;(focus ((repeat (first|exact qg|refine qo ?_|refine xl ?_|refine yu ?_|refine yw ?_ ?_|refine ws ?_|refine qY ?_ ?_));all_goals (first|rfl|(rw [lK];done)|trace_state)));(focus ((repeat' (first|exact qj|refine ww ?_ ?_ ?_|refine vJ ?_|refine yy ?_ ?_|refine yx ?_ ?_|exact ql|apply qd|exact qk rfl|(apply qt;(refine .inr ?_;(repeat (first|exact List.mem_cons_self ..|apply List.mem_cons_of_mem))))|(apply qz;(refine .inr ?_;(repeat (first|exact List.mem_cons_self ..|apply List.mem_cons_of_mem))))));all_goals (first|with_reducible exact qh _|with_reducible exact List.Perm.refl _|rfl|trace_state))))
   refine qV (fun n σ => ∃ i:Nat,i ≤ O.length ∧ n = O.length - i ∧ True ∧ σ = ⟨[(1,qa M),(2,qa T),(12,.op 4 0 0),(13,.os 7 0 ((O.take i).map (vl M T)).length),(55,.os 6 0 (O.map Ent.path).length),(56,.v (.int .i64 O.length)),(57,.v (.int .i64 (i:Int)))],[(0,.mp (qr B)),(1,.mp (qr M)),(2,.mp (qr T)),(3,.mp (qr O)),(4,.own false 5 [[.mp 0,.mp 1,.mp 2,.mp 3,.os 5 0 cs.length]]),(5,.own false 2 (cs.map Cpy.row)),(6,.own false 1 ((O.map Ent.path).map jn)),(7,.own false 4 (((O.take i).map (vl M T)).map Ent.row))],8⟩) O.length ⟨0,by omega,rfl,trivial,rfl⟩ ?_
   rintro n σ ⟨i,hi,rfl, -,rfl⟩
   by_cases hlt:i < O.length
   ·have hrow:((O.map Ent.path).map jn)[i]? = some (jn O[i].path):=by rw [List.getElem?_map,List.getElem?_map,List.getElem?_eq_getElem hlt];rfl
    have hen:=hent O[i] (List.getElem_mem hlt)
    have hlt2:i < (O.map Ent.path).length:=by rw [lK];exact hlt
    have hlen:((O.take i).map (vl M T)).length = i:=by rw [List.length_map,List.length_take];omega
    have hlen2:((O.take (i + 1)).map (vl M T)).length = i + 1:=by rw [List.length_map,List.length_take];omega
    have hstep:(((O.take i).map (vl M T)).map Ent.row).take ((O.take i).map (vl M T)).length ++ [(vl M T O[i]).row] = ((O.take (i + 1)).map (vl M T)).map Ent.row:=by
     rw [List.take_of_length_le (by simp),List.take_succ_eq_append_getElem hlt,List.map_append,List.map_append];rfl
    clear hent
    repeat' (first|refine qn ?_|(first|(refine xC ?_))|((first|refine qf ?_ ?_|refine qe ?_ ?_|refine xsC ?_ ?_);all_goals (intro hc;have hp:=hc;try simp at hp;try (exfalso;omega)))|refine qX ?_ ?_)
    all_goals try (exfalso;first|omega|contradiction)
    apply jo Tryz.func67 rfl rfl
    intro hIsFn3
    refine yD [4,0,1,2,3,5] [] [(4,.own false 5 [[.mp 0,.mp 1,.mp 2,.mp 3,.os 5 0 cs.length]]),(0,.mp (qr B)),(1,.mp (qr M)),(2,.mp (qr T)),(3,.mp (qr O)),(5,.own false 2 (cs.map Cpy.row))] 8 (.agg (vl M T O[i]).row) hIsFn3 (hen) (by ((repeat' (first|exact q9|apply qR|exact q8 rfl|exact jy|(apply qm;apply qD;exact .inr (of_decide_eq_true rfl))|(apply qm;apply qt;exact .inr (of_decide_eq_true rfl))|(apply qm;apply qz;exact .inr (of_decide_eq_true rfl))|apply jd|apply je)))<;>fail) (by ((repeat' (first|exact qG|exact qF|refine qx _ ?_ ?_|refine qw ?_ ?_|exact qq|exact qb (qh _)|exact qb (qL _)|exact qb (qp _)|exact qv (fun _=>rfl)|refine qy ?_|exact ql|apply qd|exact qk rfl|(apply qt;exact .inr (of_decide_eq_true rfl))|(apply qz;exact .inr (of_decide_eq_true rfl))|(apply qD;exact .inr (of_decide_eq_true rfl))|fail)))<;>fail) (by ((repeat' (first|exact qG|exact qF|refine qx _ ?_ ?_|refine qw ?_ ?_|exact qq|exact qb (qh _)|exact qb (qL _)|exact qb (qp _)|exact qv (fun _=>rfl)|refine qy ?_|exact ql|apply qd|exact qk rfl|(apply qt;exact .inr (of_decide_eq_true rfl))|(apply qz;exact .inr (of_decide_eq_true rfl))|(apply qD;exact .inr (of_decide_eq_true rfl))|fail)))<;>fail) ?_
    generalize vl M T O[i] = e at *
    repeat' (first|refine qn ?_|(first|(refine jL ?_)|(refine yi ?_))|((first|refine qf ?_ ?_|refine qe ?_ ?_|refine xsC ?_ ?_);all_goals (intro hc;have hp:=hc;try simp at hp;try (exfalso;omega)))|refine qX ?_ ?_)
    all_goals try (exfalso;first|omega|contradiction)
    refine ⟨O.length - (i + 1),⟨[(1,qa M),(2,qa T),(12,.op 4 0 0),(13,.os 7 0 ((O.take (i + 1)).map (vl M T)).length),(55,.os 6 0 (O.map Ent.path).length),(56,.v (.int .i64 O.length)),(57,.v (.int .i64 ((i + 1:Nat):Int)))],[(0,.mp (qr B)),(1,.mp (qr M)),(2,.mp (qr T)),(3,.mp (qr O)),(4,.own false 5 [[.mp 0,.mp 1,.mp 2,.mp 3,.os 5 0 cs.length]]),(5,.own false 2 (cs.map Cpy.row)),(6,.own false 1 ((O.map Ent.path).map jn)),(7,.own false 4 (((O.take (i + 1)).map (vl M T)).map Ent.row))],8⟩,by omega,?_,i + 1,by omega,rfl,trivial,rfl⟩;(skip);refine qB [(4,4),(8,7),(6,6),(5,5),(0,0),(1,1),(2,2),(3,3)] rfl ?_ ?_;(focus ((repeat (first|exact qg|refine qo ?_|refine xl ?_|refine yu ?_|refine yw ?_ ?_|refine ws ?_|refine qY ?_ ?_));all_goals (first|rfl|(rw [hlen,hlen2];rfl)|omega|trace_state)));(focus ((repeat' (first|exact qj|refine ww ?_ ?_ ?_|refine vJ ?_|refine yy ?_ ?_|refine yx ?_ ?_|exact ql|apply qd|exact qk rfl|(apply qt;(refine .inr ?_;(repeat (first|exact List.mem_cons_self ..|apply List.mem_cons_of_mem))))|(apply qz;(refine .inr ?_;(repeat (first|exact List.mem_cons_self ..|apply List.mem_cons_of_mem))))));all_goals (first|with_reducible exact qh _|with_reducible exact List.Perm.refl _|exact hstep|rfl|trace_state)))
   obtain rfl:i = O.length:=by omega
   rw [List.take_length]
   clear hent
   repeat' (first|refine qn ?_|(first|fail)|((first|refine qf ?_ ?_|refine qe ?_ ?_|refine xsC ?_ ?_);all_goals (intro hc;have hp:=hc;try simp at hp;try (exfalso;omega)))|refine qX ?_ ?_)
   all_goals try (exfalso;first|omega|contradiction)
   unfold mgW
   (refine QV (rs:=[.tmp 6,.tmp 7,.tmp 8]) [(7,0),(5,1)] 2 ?_;(repeat (first|exact qj|refine j4 ?_|refine q6 ?_ ?_));all_goals trace_state)
end Go.Proofs.YtamejbkifpjhiaaGreatDoor
set_option linter.unusedSimpArgs false
set_option linter.unnecessarySimpa false
set_option linter.unusedVariables false
set_option maxHeartbeats 1000000
namespace Go.Proofs.YtamejbkifpjhiaaGreatDoor
open Go.Ab Go.RowKit
set_option maxRecDepth 10000
attribute [local irreducible] Awp yH jH jw Red ja Go.Ab.Fin qZ Rz vn jr jp ResOk j3 jC yC jA
theorem Z8:xH C.P 25 [] (.v (.bool true)):=by
 have h1:xH C.P 28 [.sl false [],.sl false [[.v (str [102]),.v (.bool false),.v (str [49]),.v (.int .i64 1)]],.sl false [[.v (str [102]),.v (.bool false),.v (str [50]),.v (.int .i64 3)]]] (Qz ([⟨[102],false,[50],3⟩,⟨[102,32,40,49,41],false,[49],1⟩],[⟨[102],[102,32,40,49,41]⟩],0)):=by
  have h:=qeT [] [⟨[102],false,[49],1⟩] [⟨[102],false,[50],3⟩] ⟨by simp,by simp⟩ ⟨by simp [Ent.small],by simp⟩ ⟨by simp [Ent.small],by simp⟩
  rw [show xP [] [⟨[102],false,[49],1⟩] [⟨[102],false,[50],3⟩] = ([⟨[102],false,[50],3⟩,⟨[102,32,40,49,41],false,[49],1⟩],[⟨[102],[102,32,40,49,41]⟩],0) from by decide +kernel] at h
  exact h
 refine qc Tryz.func25 rfl _ Tryz.ntmps25 (Nat.le_of_ble_eq_true rfl) _ Tryz.results25 0 rfl rfl ?_
 repeat' (first|refine qn ?_|(first|(refine jL ?_)|refine j1 Tryz.func28 (h1 ..) ?_)|((first|refine qf ?_ ?_|refine qe ?_ ?_|refine xsC ?_ ?_);all_goals (intro hc;have hp:=hc;try simp at hp;try (exfalso;omega)))|refine qX ?_ ?_)
 all_goals try (exfalso;simp_all;done)
 all_goals (apply j6;rfl;simp;done)
end Go.Proofs.YtamejbkifpjhiaaGreatDoor
set_option linter.unusedSimpArgs false
set_option linter.unnecessarySimpa false
set_option linter.unusedVariables false
set_option maxHeartbeats 1000000
namespace Go.Proofs.YtamejbkifpjhiaaGreatDoor
open Go.Ab Go.RowKit
set_option maxRecDepth 10000
attribute [local irreducible] Awp yH jH jw Red ja Go.Ab.Fin qZ Rz vn jr jp ResOk j3 jC yC jA
theorem Ks {b m t:List Ent} (h:(xP b m t).2.2 = 0):qC b = 0 ∧ qC m = 0 ∧ qC t = 0:=by
 by_cases hb:qC b = 0
 case neg=>rw [Xo hb] at h;exact absurd h hb
 by_cases hm:qC m = 0
 case neg=>rw [Xp hb hm] at h;exact absurd h hm
 by_cases ht:qC t = 0
 case neg=>rw [Xq hb hm ht] at h;exact absurd h ht
 exact ⟨hb,hm,ht⟩
end Go.Proofs.YtamejbkifpjhiaaGreatDoor
