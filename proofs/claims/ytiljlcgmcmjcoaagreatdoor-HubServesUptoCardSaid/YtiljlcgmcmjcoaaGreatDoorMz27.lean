import Derived.Test.YtiljlcgmcmjcoaaGreatDoorMz23
import Derived.Test.YtiljlcgmcmjcoaaGreatDoorMz14
import Derived.Test.YtiljlcgmcmjcoaaGreatDoorMz26
set_option linter.unusedSimpArgs false
set_option linter.unnecessarySimpa false
set_option linter.unusedVariables false
set_option maxHeartbeats 1000000
namespace Go.Proofs.YtiljlcgmcmjcoaaGreatDoor
open Go.Ab Go.RowKit
set_option maxRecDepth 10000
attribute [local irreducible] Awp ye ji qQ Red qF Go.Ab.Fin qo Rz xx qG qO ResOk jK je jX qW
theorem qe3 (l:List Gra) (hl:l.length ≤ 1000000):jO C.P 79 [q9 l] (q9 l) :=
 Qc (JF l hl) (yn rfl (by simp) (jq fun _=>rfl))
theorem qfn (l:List Sess) (hl:l.length ≤ 1000000):jO C.P 80 [XO l] (XO l) :=
 Qc (qbr l hl) (yn rfl (by simp) (jq fun _=>rfl))
theorem qdj (l:List Fol) (hl:l.length ≤ 1000000) :
  qo C.P 78 [w6 l] [] (.os 0 0 l.length) [.own false 4 (l.map Fol.row)]:=by
 by_cases h0:l = []
 ·subst h0
  refine qa Tryz.func78 rfl _ Tryz.ntmps78 (Nat.le_of_ble_eq_true rfl) _ Tryz.results78 0 rfl rfl ?_
  repeat' (first|refine qe ?_|(first|(refine jN ?_)|(refine vL ?_)|(refine J9 ?_))|((first|refine xsC ?_ ?_);all_goals (intro hc;have hp:=hc;try simp at hp;try (exfalso;omega)))|refine qp ?_ ?_)
  · (refine Qv (C:=C) (zd (C:=C) 2 4 rfl (Nat.zero_le _)) ?_)
    (refine Jf (rs:=[.tmp 2]) [(0,0)] 1 ?_;(repeat (first|exact qf|refine jV ?_|refine qH ?_ ?_));all_goals skip)
  · (refine Jf (rs:=[.tmp 2]) [(0,0)] 1 ?_;(repeat (first|exact qf|refine jV ?_|refine qH ?_ ?_));all_goals skip)
 ·refine qa Tryz.func78 rfl _ Tryz.ntmps78 (Nat.le_of_ble_eq_true rfl) _ Tryz.results78 0 rfl rfl ?_
  repeat' (first|refine qe ?_|(first|(refine jN ?_)|(refine vL ?_)|(apply qj;apply wK;rfl;exact (fun h=>h0 (List.map_eq_nil_iff.1 h));rfl;rfl;(first|exact .inl rfl|exact .inr rfl);exact nle rfl))|((first|refine xsC ?_ ?_);all_goals (intro hc;have hp:=hc;try simp at hp;try (exfalso;omega)))|refine qp ?_ ?_)
  (refine Jf (rs:=[.tmp 2]) [(0,0)] 1 ?_;(repeat (first|exact qf|refine jV ?_|refine qH ?_ ?_));all_goals skip)
theorem qis (j:Jou) (hl:j.coms.length ≤ 1000000) (hbl:j.base.length ≤ 1000000) (hc : ∀ c,c ∈ j.coms → c.chs.length ≤ 1000000):jO C.P 81 [.agg j.row] (.agg j.row):=by
 have h1:=wN j.base hbl
 have h2:=qaY j.coms hl
 obtain ⟨b,n,l⟩:=j
 dsimp only at *
 refine qa Tryz.func81 rfl _ Tryz.ntmps81 (Nat.le_of_ble_eq_true rfl) _ Tryz.results81 0 rfl rfl ?_
 repeat' (first|refine qe ?_|(first|refine xsQ Tryz.func101 (h1 ..) ?_|(apply qN Tryz.func121 rfl rfl;intro hIsFn;refine yr ([]) hIsFn (h2 ..) ?_))|((first|refine xsC ?_ ?_);all_goals (intro hc;have hp:=hc;try simp at hp;try (exfalso;omega)))|refine qp ?_ ?_)
 all_goals try (exfalso;omega)
 (refine Awp.red (qY (τ:=⟨[(1,.op 0 0 0),(2,.op 1 0 0),(14,.os 2 0 l.length),(15,.v (.int .i64 l.length)),(16,.v (.int .i64 ((0:Nat):Int)))],[(0,.own false 3 [[qr b,.v (.int .i64 n),.os 2 0 l.length]]),(1,.own false 3 [[.sl true [],.v (.int .i64 0),.sl true []]]),(2,.own false 3 (l.map Com.row))],3⟩) [(0,0),(1,1),(2,2)] rfl ?_ ?_) ?_;rotate_left 2;rotate_left 1;(focus ((repeat (first|exact qd|refine qi ?_|refine qdZ ?_|refine WC ?_|refine WL ?_ ?_|refine qdv ?_|refine qI ?_ ?_));all_goals trace_state));(focus ((repeat' (first|exact qf|refine qdU ?_ ?_ ?_|refine qhc ?_|refine W0 ?_ ?_|refine Ws ?_ ?_|exact qV|apply qt|exact qy rfl|(apply jh;(refine .inr ?_;(repeat (first|exact List.mem_cons_self ..|apply List.mem_cons_of_mem))))|(apply q8;(refine .inr ?_;(repeat (first|exact List.mem_cons_self ..|apply List.mem_cons_of_mem))))));all_goals trace_state)))
 refine qq (fun n' σ => ∃ i:Nat,i ≤ l.length ∧ n' = l.length - i ∧ True ∧ σ = ⟨[(1,.op 0 0 0),(2,.op 1 0 0),(14,.os 2 0 l.length),(15,.v (.int .i64 l.length)),(16,.v (.int .i64 (i:Int)))],[(0,.own false 3 [[qr b,.v (.int .i64 n),.os 2 0 l.length]]),(1,.own false 3 [[.sl true [],.v (.int .i64 0),.sl true []]]),(2,.own false 3 (l.map Com.row))],3⟩) l.length ⟨0,Nat.zero_le _,rfl,trivial,rfl⟩ ?_
 rintro n' σ ⟨i,hi,rfl, -,rfl⟩
 by_cases hlt:i < l.length
 ·have hr:=qx (f:=Com.row) hlt
  have hcc:=J6 l[i].chs (hc _ (List.getElem_mem _))
  have hss:=Zj (f:=Com.row) hlt
  repeat' (first|refine qe ?_|(first|(refine vV ?_)|refine xsQ Tryz.func122 (hcc ..) ?_)|((first|refine xsC ?_ ?_);all_goals (intro hc;have hp:=hc;try simp at hp;try (exfalso;omega)))|refine qp ?_ ?_)
  all_goals try (exfalso;omega)
  refine ⟨l.length - (i + 1),⟨[(1,.op 0 0 0),(2,.op 1 0 0),(14,.os 2 0 l.length),(15,.v (.int .i64 l.length)),(16,.v (.int .i64 ((i + 1:Nat):Int)))],[(0,.own false 3 [[qr b,.v (.int .i64 n),.os 2 0 l.length]]),(1,.own false 3 [[.sl true [],.v (.int .i64 0),.sl true []]]),(2,.own false 3 (l.map Com.row))],3⟩,by omega,?_,i + 1,by omega,rfl,trivial,rfl⟩;(skip);refine qY [(0,0),(1,1),(2,2)] rfl ?_ ?_;(focus ((repeat (first|exact qd|refine qi ?_|refine qdZ ?_|refine WC ?_|refine WL ?_ ?_|refine qdv ?_|refine qI ?_ ?_));all_goals trace_state));(focus ((repeat' (first|exact qf|refine qdU ?_ ?_ ?_|refine qhc ?_|refine W0 ?_ ?_|refine Ws ?_ ?_|exact qV|apply qt|exact qy rfl|(apply jh;(refine .inr ?_;(repeat (first|exact List.mem_cons_self ..|apply List.mem_cons_of_mem))))|(apply q8;(refine .inr ?_;(repeat (first|exact List.mem_cons_self ..|apply List.mem_cons_of_mem))))));all_goals (first|exact hss|trace_state)))
 obtain rfl:i = l.length:=by omega
 repeat' (first|refine qe ?_|fail|((first|refine xsC ?_ ?_);all_goals (intro hc;have hp:=hc;try simp at hp;try (exfalso;omega)))|refine qp ?_ ?_)
 all_goals try (exfalso;omega)
 (exact j1 (rs:=[.cell 2 60]))
def qic (h:Hub) (n:Nat):AV := .agg [.os n 0 h.fols.length,q9 h.gras,.sl false (h.ups.sess.map Sess.row),.v (.int .i64 h.ups.next),.v (.int .i64 h.ups.lasts),.v (.int .i64 h.ups.room),.v (.int .i64 h.now)]
theorem HRight.small {h:Hub} (hr:HRight h):h.gras.length ≤ 60 ∧ h.ups.sess.length ≤ 20 ∧ ∀ s,s ∈ h.fols → s.jou.coms.length ≤ 30 ∧ s.jou.base.length ≤ 60 ∧ ∀ c,c ∈ s.jou.coms → c.chs.length ≤ 20 :=
 ⟨(yZ hr.gra).1,(ke hr.ups).2.1,fun s hs=>by
   have hJ:=(hr.each s hs).2
   exact ⟨hJ.len,hJ.base.len,fun c hc=>wP hJ.base hJ.run c hc⟩⟩
theorem Jg (h:Hub) (hr:HRight h):qo C.P 44 [xy h] [] (qic h 0) [.own false 4 (h.fols.map Fol.row)]:=by
 have hl:=hr.len
 obtain ⟨s1,s2,s3⟩:=hr.small
 have h1:=qdj h.fols (by omega)
 have h2:=qe3 h.gras (by omega)
 have h3:=qfn h.ups.sess (by omega)
 have ho : ∀ s,s ∈ h.fols → jO C.P 81 [.agg s.jou.row] (.agg s.jou.row):=fun s hs=>by
  obtain ⟨a,b,c⟩:=s3 s hs
  exact qis s.jou (by omega) (by omega) (fun x hx=>by have:=c x hx;omega)
 clear s3 hr
 obtain ⟨F,G,⟨S,nx,la,ro⟩,now⟩:=h
 dsimp only at *
 refine qa Tryz.func44 rfl _ Tryz.ntmps44 (Nat.le_of_ble_eq_true rfl) _ Tryz.results44 0 rfl rfl ?_
 repeat' (first|refine qe ?_|(first|(apply qN Tryz.func78 rfl rfl;intro hIsFn;refine yr ([]) hIsFn (h1 ..) ?_)|refine xsQ Tryz.func79 (h2 ..) ?_|refine xsQ Tryz.func80 (h3 ..) ?_)|((first|refine xsC ?_ ?_);all_goals (intro hc;have hp:=hc;try simp at hp;try (exfalso;omega)))|refine qp ?_ ?_)
 all_goals try (exfalso;omega)
 (refine Awp.red (qY (τ:=⟨[(1,.op 0 0 0),(2,.op 1 0 0),(20,.os 2 0 F.length),(21,.v (.int .i64 F.length)),(22,.v (.int .i64 ((0:Nat):Int)))],[(0,.own false 7 [[.os 2 0 F.length,q9 G,XO S,.v (.int .i64 nx),.v (.int .i64 la),.v (.int .i64 ro),.v (.int .i64 now)]]),(1,.own false 7 [[.sl true [],.sl true [],.sl true [],.v (.int .i64 0),.v (.int .i64 0),.v (.int .i64 0),.v (.int .i64 0)]]),(2,.own false 4 (F.map Fol.row))],3⟩) [(0,0),(1,1),(2,2)] rfl ?_ ?_) ?_;rotate_left 2;rotate_left 1;(focus ((repeat (first|exact qd|refine qi ?_|refine qdZ ?_|refine WC ?_|refine WL ?_ ?_|refine qdv ?_|refine qI ?_ ?_));all_goals trace_state));(focus ((repeat' (first|exact qf|refine qdU ?_ ?_ ?_|refine qhc ?_|refine W0 ?_ ?_|refine Ws ?_ ?_|exact qV|apply qt|exact qy rfl|(apply jh;(refine .inr ?_;(repeat (first|exact List.mem_cons_self ..|apply List.mem_cons_of_mem))))|(apply q8;(refine .inr ?_;(repeat (first|exact List.mem_cons_self ..|apply List.mem_cons_of_mem))))));all_goals trace_state)))
 refine qq (fun n' σ => ∃ i:Nat,i ≤ F.length ∧ n' = F.length - i ∧ True ∧ σ = ⟨[(1,.op 0 0 0),(2,.op 1 0 0),(20,.os 2 0 F.length),(21,.v (.int .i64 F.length)),(22,.v (.int .i64 (i:Int)))],[(0,.own false 7 [[.os 2 0 F.length,q9 G,XO S,.v (.int .i64 nx),.v (.int .i64 la),.v (.int .i64 ro),.v (.int .i64 now)]]),(1,.own false 7 [[.sl true [],.sl true [],.sl true [],.v (.int .i64 0),.v (.int .i64 0),.v (.int .i64 0),.v (.int .i64 0)]]),(2,.own false 4 (F.map Fol.row))],3⟩) F.length ⟨0,Nat.zero_le _,rfl,trivial,rfl⟩ ?_
 rintro n' σ ⟨i,hi,rfl, -,rfl⟩
 by_cases hlt:i < F.length
 ·have hr:=qx (f:=Fol.row) hlt
  have hoi:=ho F[i] (List.getElem_mem _)
  have hss:=Zj (f:=Fol.row) hlt
  clear ho h1 h2 h3
  repeat' (first|refine qe ?_|(first|(refine vV ?_)|refine xsQ Tryz.func81 (hoi ..) ?_)|((first|refine xsC ?_ ?_);all_goals (intro hc;have hp:=hc;try simp at hp;try (exfalso;omega)))|refine qp ?_ ?_)
  all_goals try (exfalso;omega)
  refine ⟨F.length - (i + 1),⟨[(1,.op 0 0 0),(2,.op 1 0 0),(20,.os 2 0 F.length),(21,.v (.int .i64 F.length)),(22,.v (.int .i64 ((i + 1:Nat):Int)))],[(0,.own false 7 [[.os 2 0 F.length,q9 G,XO S,.v (.int .i64 nx),.v (.int .i64 la),.v (.int .i64 ro),.v (.int .i64 now)]]),(1,.own false 7 [[.sl true [],.sl true [],.sl true [],.v (.int .i64 0),.v (.int .i64 0),.v (.int .i64 0),.v (.int .i64 0)]]),(2,.own false 4 (F.map Fol.row))],3⟩,by omega,?_,i + 1,by omega,rfl,trivial,rfl⟩;(skip);refine qY [(0,0),(1,1),(2,2)] rfl ?_ ?_;(focus ((repeat (first|exact qd|refine qi ?_|refine qdZ ?_|refine WC ?_|refine WL ?_ ?_|refine qdv ?_|refine qI ?_ ?_));all_goals trace_state));(focus ((repeat' (first|exact qf|refine qdU ?_ ?_ ?_|refine qhc ?_|refine W0 ?_ ?_|refine Ws ?_ ?_|exact qV|apply qt|exact qy rfl|(apply jh;(refine .inr ?_;(repeat (first|exact List.mem_cons_self ..|apply List.mem_cons_of_mem))))|(apply q8;(refine .inr ?_;(repeat (first|exact List.mem_cons_self ..|apply List.mem_cons_of_mem))))));all_goals (first|exact hss|trace_state)))
 obtain rfl:i = F.length:=by omega
 clear ho h1 h2 h3
 repeat' (first|refine qe ?_|fail|((first|refine xsC ?_ ?_);all_goals (intro hc;have hp:=hc;try simp at hp;try (exfalso;omega)))|refine qp ?_ ?_)
 all_goals try (exfalso;omega)
 (refine Jf (rs:=[.cell 2 28]) [(2,0)] 1 ?_;(repeat (first|exact qf|refine jV ?_|refine qH ?_ ?_));all_goals trace_state)
theorem Kp {h:Hub} {f:Nat → HB} {n:Nat} (hn:f n = .own false 4 (h.fols.map Fol.row)):Rz f (qic h n) (xy h) :=
 jT (qk (yn hn (by simp) (jq fun _=>rfl)) (qk (qB rfl) (qk (qB rfl) (qk (qB rfl) (qk (qB rfl) (qk (qB rfl) (qk (qB rfl) qL)))))))
theorem Vj (h:Hub) (hr:HRight h):jO C.P 44 [xy h] (xy h):=Qc (Jg h hr) (Kp rfl)
end Go.Proofs.YtiljlcgmcmjcoaaGreatDoor
