import Derived.Test.YtiljlcgmcmjcoaaGreatDoorMz30
import Derived.Test.YtiljlcgmcmjcoaaGreatDoorMz22
import Derived.Test.YtiljlcgmcmjcoaaGreatDoorMz19
import Derived.Test.YtiljlcgmcmjcoaaGreatDoorMz12
set_option linter.unusedSimpArgs false
set_option linter.unnecessarySimpa false
set_option linter.unusedVariables false
set_option maxHeartbeats 1000000
namespace Go.Proofs.YtiljlcgmcmjcoaaGreatDoor
open Go.Ab Go.RowKit
set_option maxRecDepth 10000
attribute [local irreducible] Awp ye ji qQ Red qF Go.Ab.Fin qo Rz xx qG qO ResOk jK je jX qW
theorem qgs {u:Upl} (h:yM u = 0):SBig u.sess:=by
 obtain ⟨a,b,c,d,e⟩:=ke h
 refine ⟨fun s hs=>?_,by omega⟩
 have hc:=c s hs
 have h2:=zh hc
 unfold yj at hc
 split at hc
 ·split at hc
  ·rename_i hn
   split at hc
   ·omega
   ·have:=(qcx hn).2
    exact ⟨by omega,by omega⟩
  ·omega
 ·omega
theorem qfJ:JBig YX:=⟨⟨by simp [YX],by simp [YX]⟩,⟨by simp [YX],by simp [YX]⟩⟩
theorem Vf {h:Hub} (hb:HBig h) (hr:HRight h) {r:Rqt} (rb:RBig r):HBig (vG h r).1:=by
 have hR:=(Js hr r).right
 obtain ⟨a1,a2,a3,a4⟩:=yZ hr.gra
 have hkeep:FBig h.fols ∧ GBig h.gras:=⟨hb.fols,hb.gras⟩
 suffices hs:FBig (vG h r).1.fols ∧ GBig (vG h r).1.gras from ⟨hs.1,hs.2,qgs hR.ups⟩
 have hcom : ∀ (u:Upl) (l:List Chg),CBig l → FBig (XB h r u l).1.fols ∧ GBig (XB h r u l).1.gras:=fun u l lb=>by
  unfold XB
  cases hj:kY h.fols r.folder with
  | none=>exact hkeep
  | some j =>
    obtain ⟨hm,hh⟩:=YQ hj
    have hJ:JRight j:=(hr.each _ hm).2
    dsimp only
    by_cases h0:(xU j r.key l).2.2 = 0
    ·rw [if_pos h0]
     refine ⟨⟨fun s hs=>?_,by show (QQ _ _ _).length ≤ _;unfold QQ;rw [List.length_map];exact hb.fols.len⟩,hb.gras⟩
     rcases Z8 hs with ⟨rfl,_⟩|⟨hs,_⟩
     ·refine ⟨rb.folder,?_⟩
      show JBig (xU j r.key l).1
      rw [Jc hJ]
      exact qcn (hb.fols.each _ hm).jou lb rb.key
     ·exact hb.fols.each s hs
    ·rw [if_neg h0];exact hkeep
 unfold vG
 split
 ·exact hkeep
 split
 ·exact hkeep
 split
 ·unfold wD
  split
  ·split
   ·exact hkeep
   ·refine ⟨⟨fun s hs=>?_,by show (Jz _ _).length ≤ _;rw [Y5];have:=hr.len;omega⟩,qaz hb.gras a3 (by omega) (jC rb.folder) (jC rb.who)⟩
    rcases QH.1 hs with rfl|hs
    ·exact ⟨rb.folder,qfJ⟩
    ·exact hb.fols.each s hs
  ·exact hkeep
 split
 ·unfold Xq
  split
  ·exact hkeep
  ·by_cases h0:(zv h.gras r.folder r.who r.name r.number).2 = 0
   ·rw [if_pos h0]
    refine ⟨hb.fols,?_⟩
    show GBig (zv _ _ _ _ _).1
    rw [(KO h0).2.2]
    exact qaz hb.gras a3 (by omega) (jC rb.folder) (jC rb.name)
   ·rw [if_neg h0];exact hkeep
 split
 ·unfold YZ
  split
  ·exact hkeep
  ·split
   ·exact hkeep
   ·split<;>exact hkeep
 split
 ·unfold Yi
  split<;>exact hkeep
 split
 ·unfold Yi
  split<;>exact hkeep
 split
 ·unfold qbA
  split<;>exact hkeep
 ·unfold Z3
  split
  ·exact hkeep
  split
  ·unfold qbD
   split
   ·refine hcom _ _ ⟨fun c hc=>?_,by simp⟩
    rw [List.mem_singleton.1 hc]
    refine ⟨rb.name,by simp,?_⟩
    show (zq h.ups r.who r.number h.now).2.1.length ≤ _
    unfold zq
    by_cases q1:jA h.ups r.who r.number h.now = 0
    ·rw [if_pos q1]
     have:=kj q1
     split
     ·simp
     ·show (mineS h.ups r.who r.number h.now).text.length ≤ _;omega
    ·rw [if_neg q1];simp
   ·exact hkeep
  ·exact hcom _ _ rb.chs
theorem yN:PBig wu:=⟨⟨by simp [wu],by simp [wu]⟩,⟨by simp [wu],by simp [wu]⟩⟩
theorem qhV {h:Hub} (hb:HBig h) (hr:HRight h) (r:Rqt):PBig (vG h r).2.page:=by
 have hcom : ∀ (u:Upl) (l:List Chg),PBig (XB h r u l).2.page:=fun u l=>by
  unfold XB
  split
  ·exact yN
  ·split<;>exact yN
 unfold vG
 split
 ·exact yN
 split
 ·exact yN
 split
 ·unfold wD
  split
  ·split<;>exact yN
  ·exact yN
 split
 ·unfold Xq
  split
  ·exact yN
  ·split<;>exact yN
 split
 ·unfold YZ
  split
  ·exact yN
  ·cases hj:kY h.fols r.folder with
   | none=>exact yN
   | some j =>
     obtain ⟨hm,hh⟩:=YQ hj
     have hJ:JRight j:=(hr.each _ hm).2
     have hB:JBig j:=(hb.fols.each _ hm).jou
     dsimp only
     split
     ·show PBig (QA j r.number 10).1
      unfold QA
      split
      ·exact yN
      split
      ·exact yN
      split
      ·exact ⟨hJ.now.big,⟨by simp,by simp⟩⟩
      ·refine ⟨⟨by simp,by simp⟩,⟨fun c hc=>hB.coms.each c (List.mem_of_mem_drop (List.mem_of_mem_take hc)),?_⟩⟩
       have:=hJ.len
       show (Xe j r.number 10).length ≤ _
       unfold Xe
       simp
       omega
     ·exact yN
 split
 ·unfold Yi
  split<;>exact yN
 split
 ·unfold Yi
  split<;>exact yN
 split
 ·unfold qbA
  split<;>exact yN
 ·unfold Z3
  split
  ·exact yN
  split
  ·unfold qbD
   split
   ·exact hcom _ _
   ·exact yN
  ·exact hcom _ _
def bH1:Hub:=⟨[⟨[102],YX⟩],[⟨[102],[97],3⟩],⟨[],1,10,1000⟩,0⟩
def bH2:Hub:=⟨[⟨[102],⟨[],1,[⟨1,[107],[⟨2,[120],[],[49],0⟩]⟩]⟩⟩],[⟨[102],[97],3⟩],⟨[],1,10,1000⟩,0⟩
def bR1:Rqt:=⟨8,[97],[102],[],[],[],0,0,0,[]⟩
def bR2:Rqt:=⟨1,[97],[102],[],[107],[],0,0,0,[⟨2,[120],[],[49],0⟩]⟩
theorem qdO:HBig (qej 10 1000):=⟨⟨nofun,by decide⟩,⟨nofun,by decide⟩,⟨nofun,by decide⟩⟩
theorem qd0:RBig bR1:=⟨by decide,by decide,by decide,by decide,by decide,⟨nofun,by decide⟩⟩
theorem qd6:RBig bR2:=⟨by decide,by decide,by decide,by decide,by decide,⟨fun c hc=>by rw [List.mem_singleton.1 hc];exact ⟨by decide,by decide,by decide⟩,by decide⟩⟩
theorem qci:jO C.P 14 [] (.v (.bool true)):=by
 have h1:=qio 10 1000
 rw [show qhn 10 1000 = (qej 10 1000,0) from by kernel_rfl] at h1
 have r0:HRight (qej 10 1000):=zV.1 (by kernel_rfl)
 have h2:=ZA (qej 10 1000) qdO r0 bR1 qd0
 have b1:=Vf qdO r0 qd0
 have r1:=(Js r0 bR1).right
 rw [show vG (qej 10 1000) bR1 = (bH1,Xh) from by kernel_rfl] at h2 b1 r1
 have h3:=ZA bH1 b1 r1 bR2 qd6
 have b2:=Vf b1 r1 qd6
 rw [show vG bH1 bR2 = (bH2,⟨0,1,wu⟩) from by kernel_rfl] at h3 b2
 have h4:=qhq bH2 b2 [102]
 rw [show qdR bH2 [102] = ([⟨[120],false,[49],1⟩],0) from by kernel_rfl] at h4
 clear b1 b2 r0 r1
 unfold VT at h2 h3
 refine qa Tryz.func14 rfl _ Tryz.ntmps14 (Nat.le_of_ble_eq_true rfl) _ Tryz.results14 0 rfl rfl ?_
 repeat' (first|refine qe ?_|(first|(refine jN ?_)|refine xsQ Tryz.func12 (h1 ..) ?_|refine xsQ Tryz.func18 (h2 ..) ?_|refine xsQ Tryz.func18 (h3 ..) ?_|refine xsQ Tryz.func21 (h4 ..) ?_)|((first|refine qb ?_ ?_|refine qc ?_ ?_|refine xsC ?_ ?_);all_goals (intro hc;have hp:=hc;try simp at hp;try (exfalso;omega)))|refine qp ?_ ?_)
 all_goals try (exfalso;simp_all;done)
 all_goals (apply jd;rfl;first|rfl|simp;done)
end Go.Proofs.YtiljlcgmcmjcoaaGreatDoor
set_option linter.unusedSimpArgs false
set_option linter.unnecessarySimpa false
set_option linter.unusedVariables false
set_option maxHeartbeats 1000000
namespace Go.Proofs.YtiljlcgmcmjcoaaGreatDoor
open Go.Ab Go.RowKit
set_option maxRecDepth 10000
attribute [local irreducible] Awp ye ji qQ Red qF Go.Ab.Fin qo Rz xx qG qO ResOk jK je jX qW
theorem vC (h:Hub) (hl:h.fols.length ≤ 1000000000) (p:qC):jO C.P 27 [xy h,.v (str p)] (.v (.int .i64 (j0 (atF p) h.fols))):=by
 obtain ⟨F,G,U,now⟩:=h
 dsimp only at *
 refine qa Tryz.func27 rfl _ Tryz.ntmps27 (Nat.le_of_ble_eq_true rfl) _ Tryz.results27 0 rfl rfl ?_
 (repeat apply jg);apply qw;(repeat' (first|apply qT|refine xi ?_|refine xe ?_|refine xl ?_|refine xN ?_|refine xj ?_|refine xb ?_|refine vb ?_|refine xn ?_|(first|fail)|refine yg ?_));show Awp _ _ _ _ _
 refine xV 2 0 ?_
 repeat' (first|refine qe ?_|(first|fail)|((first|refine xsC ?_ ?_);all_goals (intro hc;have hp:=hc;try simp at hp;try (exfalso;omega)))|refine qp ?_ ?_)
 (refine Awp.red (qg (ts:=[(2,.fp [Hub.row ⟨F,G,U,now⟩] 0 0),(1,.v (str p)),(5,.v (.int .i64 ((0:Nat):Int)))]) ?_) ?_;((repeat (first|exact qd|refine qi ?_|refine qI ?_ ?_))))
 refine qq (fun n σ => ∃ i:Nat,i ≤ F.length ∧ n = F.length - i ∧ (∀ s,s ∈ F.take i → atF p s = false) ∧ σ = ⟨[(2,.fp [Hub.row ⟨F,G,U,now⟩] 0 0),(1,.v (str p)),(5,.v (.int .i64 (i:Int)))],[],C.nh⟩) F.length ⟨0,Nat.zero_le _,rfl,(by simp),rfl⟩ ?_
 rintro n σ ⟨i,hi,rfl,hsofar,rfl⟩
 by_cases hlt:i < F.length
 ·have hr:=qx (f:=Fol.row) hlt
  repeat' (first|refine qe ?_|fail|((first|refine xsC ?_ ?_);all_goals (intro hc;have hp:=hc;try simp at hp;try (exfalso;omega)))|refine qp ?_ ?_)
  all_goals try (exfalso;omega)
  all_goals first
   | (apply qE;rfl;exact (zu hlt hsofar (by simp_all [atF])).symm)
   | (have he:atF p F[i] = false:=(by simp_all [atF])
      refine ⟨F.length - (i + 1),_,by omega,qg (ts:=[(2,.fp [Hub.row ⟨F,G,U,now⟩] 0 0),(1,.v (str p)),(5,.v (.int .i64 ((i + 1:Nat):Int)))]) ?_,i + 1,by omega,rfl,qJ hlt hsofar he,rfl⟩;((repeat (first|exact qd|refine qi ?_|refine qI ?_ ?_))))
 obtain rfl:i = F.length:=by omega
 repeat' (first|refine qe ?_|fail|((first|refine xsC ?_ ?_);all_goals (intro hc;have hp:=hc;try simp at hp;try (exfalso;omega)))|refine qp ?_ ?_)
 all_goals try (exfalso;omega)
 apply qE
 rfl
 exact (vH fun s hs=>hsofar s (by rw [List.take_length];exact hs)).symm
theorem qg0 {t:List Fol} {p:qC}:decide (j0 (atF p) t < 0) = !vo t p:=by
 rcases xZ (atF p) t with ⟨h1,h2⟩|⟨k,hk,h1,_,h3⟩
 ·have:vo t p = false:=List.any_eq_false.2 (fun x hx=>by have:=h2 x hx;simpa [atF] using this)
  rw [h1,this];rfl
 ·have:vo t p = true:=List.any_eq_true.2 ⟨t[k],List.getElem_mem _,h3⟩
  rw [h1,this]
  simp
theorem qeY {l:List Gra} {f:qC}:decide ((zK l f).length = 0) = !kG l f:=by
 have:zK l f = [] ↔ kG l f = false:=by
  rw [kG,List.any_eq_false]
  unfold zK
  simp [List.filter_eq_nil_iff,vg]
 by_cases h:kG l f = false
 ·rw [h,this.2 h];rfl
 ·have h2:zK l f ≠ []:=fun q=>h (this.1 q)
  have h3:kG l f = true:=by simpa using h
  have h4:(zK l f).length ≠ 0:=fun q=>h2 (List.length_eq_zero_iff.1 q)
  simp [h3,h2]
theorem qeM {h:Hub} {k:Nat} (hk:k < h.fols.length) (hn:kG h.gras h.fols[k].name = false):zw h = false:=by
 unfold zw
 rw [Bool.and_eq_false_iff]
 right
 rw [List.all_eq_false]
 exact ⟨h.fols[k],List.getElem_mem _,by rw [hn];decide⟩
theorem qeW {h:Hub} (h1 : ∀ g,g ∈ h.gras → vo h.fols g.folder = true) (h2 : ∀ s,s ∈ h.fols → kG h.gras s.name = true):zw h = true:=by
 unfold zw
 rw [Bool.and_eq_true,List.all_eq_true,List.all_eq_true]
 exact ⟨h1,h2⟩
set_option maxHeartbeats 4000000 in
theorem qa3 (h:Hub) (hb:HBig h):jO C.P 17 [xy h] (.v (.int .i64 (xR h))):=by
 have e1 := @ZT h
 have e2 := @VB h
 have e3 := @ZN h
 have e4 := @Zs h
 have hmn := @qaR h
 have hmo := @qeM h
 have hmy := @qeW h
 have hfa:=fun p=>vC h hb.fols.len p
 have hgc:=qeF h.gras hb.gras
 have huc:=qa8 h.ups hb.ups
 have hfb:=hb.fols
 have hml:=hb.gras.len
 obtain ⟨F,G,U,now⟩:=h
 dsimp only at *
 have hll:=hfb.len
 generalize hE:xR ⟨F,G,U,now⟩ = E at *
 clear hE hb
 by_cases hn:qA now 0 1099511627776 = true
 case neg =>
  have hn:qA now 0 1099511627776 = false:=by simpa using hn
  rw [e1 hn]
  have hw:now < 0 ∨ 1099511627776 < now:=by
   by_cases h1:now < 0
   ·exact .inl h1
   ·refine .inr ?_
    unfold qA at hn
    simp at hn
    omega
  clear e1 e2 e3 e4 hmn hmo hmy hfa hgc huc hfb
  refine qa Tryz.func17 rfl _ Tryz.ntmps17 (Nat.le_of_ble_eq_true rfl) _ Tryz.results17 0 rfl rfl ?_
  (repeat apply jg);apply qw;(repeat' (first|apply qT|refine xi ?_|refine xe ?_|refine xl ?_|refine xN ?_|refine xj ?_|refine vm ?_|refine xb ?_|refine vb ?_|refine vl ?_|refine xn ?_|(first|fail)|refine yg ?_|refine j6 ?_|refine j4 ?_|refine jF ?_|refine jG ?_|refine yL ?_|refine yK ?_|refine j7 ?_|refine j8 ?_|((first|refine qb ?_ ?_|refine qc ?_ ?_);all_goals (intro hc;have hp:=hc;try simp at hp;try (exfalso;omega)))));show Awp _ _ _ _ _
  refine xV 1 0 ?_
  repeat' (first|refine qe ?_|(first|fail)|((first|refine qb ?_ ?_|refine qc ?_ ?_|refine xsC ?_ ?_);all_goals (intro hc;have hp:=hc;try simp at hp;try (exfalso;omega)))|refine qp ?_ ?_)
  all_goals try (exfalso;first|omega|contradiction)
  all_goals ((exact j1 (rs:=[.tmp 2])))
 obtain ⟨n0,n1⟩:=kM.1 hn
 by_cases h8:8 < F.length
 ·rw [e2 hn h8]
  clear e1 e2 e3 e4 hmn hmo hmy hfa hgc huc hfb
  refine qa Tryz.func17 rfl _ Tryz.ntmps17 (Nat.le_of_ble_eq_true rfl) _ Tryz.results17 0 rfl rfl ?_
  (repeat apply jg);apply qw;(repeat' (first|apply qT|refine xi ?_|refine xe ?_|refine xl ?_|refine xN ?_|refine xj ?_|refine vm ?_|refine xb ?_|refine vb ?_|refine vl ?_|refine xn ?_|(first|fail)|refine yg ?_|refine j6 ?_|refine j4 ?_|refine jF ?_|refine jG ?_|refine yL ?_|refine yK ?_|refine j7 ?_|refine j8 ?_|((first|refine qb ?_ ?_|refine qc ?_ ?_);all_goals (intro hc;have hp:=hc;try simp at hp;try (exfalso;omega)))));show Awp _ _ _ _ _
  refine xV 1 0 ?_
  repeat' (first|refine qe ?_|(first|fail)|((first|refine qb ?_ ?_|refine qc ?_ ?_|refine xsC ?_ ?_);all_goals (intro hc;have hp:=hc;try simp at hp;try (exfalso;omega)))|refine qp ?_ ?_)
  all_goals try (exfalso;first|omega|contradiction)
  all_goals ((exact j1 (rs:=[.tmp 2])))
 have e3:=e3 hn h8
 have e4:=fun {k} => @e4 hn h8 k
 clear e1 e2
 refine qa Tryz.func17 rfl _ Tryz.ntmps17 (Nat.le_of_ble_eq_true rfl) _ Tryz.results17 0 rfl rfl ?_
 (repeat apply jg);apply qw;(repeat' (first|apply qT|refine xi ?_|refine xe ?_|refine xl ?_|refine xN ?_|refine xj ?_|refine vm ?_|refine xb ?_|refine vb ?_|refine vl ?_|refine xn ?_|(first|fail)|refine yg ?_|refine j6 ?_|refine j4 ?_|refine jF ?_|refine jG ?_|refine yL ?_|refine yK ?_|refine j7 ?_|refine j8 ?_|((first|refine qb ?_ ?_|refine qc ?_ ?_);all_goals (intro hc;have hp:=hc;try simp at hp;try (exfalso;omega)))));show Awp _ _ _ _ _
 refine xV 1 0 ?_
 repeat' (first|refine qe ?_|(first|fail)|((first|refine qb ?_ ?_|refine qc ?_ ?_|refine xsC ?_ ?_);all_goals (intro hc;have hp:=hc;try simp at hp;try (exfalso;omega)))|refine qp ?_ ?_)
 all_goals try (exfalso;first|omega|contradiction)
 (refine Awp.red (qg (ts:=[(1,.fp [Hub.row ⟨F,G,U,now⟩] 0 0),(3,.v (.int .i64 ((0:Nat):Int)))]) ?_) ?_;((repeat (first|exact qd|refine qi ?_|refine qI ?_ ?_))))
 all_goals try (rw [List.length_map];done)
 refine qq (fun n σ => ∃ i:Nat,i ≤ F.length ∧ n = F.length - i ∧ (∀ g,g ∈ F.take i → ve g = 0) ∧ σ = ⟨[(1,.fp [Hub.row ⟨F,G,U,now⟩] 0 0),(3,.v (.int .i64 (i:Int)))],[],C.nh⟩) F.length ⟨0,Nat.zero_le _,rfl,(by simp),rfl⟩ ?_
 rintro n σ ⟨i,hi,rfl,hsofar,rfl⟩
 by_cases hlt:i < F.length
 ·have hr:=qx (f:=Fol.row) hlt
  have hsm:=hfb.each F[i] (List.getElem_mem _)
  have hname:=xA F[i].name (by have:=hsm.name;omega)
  have hjc:=qgV F[i].jou hsm.jou
  have hfe:ve F[i] = if ql F[i].name = true then vM F[i].jou else 1:=rfl
  cases hin:ql F[i].name with
  | false =>
    rw [hin] at hname hfe
    have hfe:ve F[i] = 1:=by rw [hfe];simp
    rw [e4 hlt hsofar (by rw [hfe];decide),hfe]
    clear e3 e4 hmn hmo hmy hfa hgc huc hfb
    repeat' (first|refine qe ?_|(first|refine xsF Tryz.func25 (hname ..) ?_|refine xsF Tryz.func41 (hjc ..) ?_)|((first|refine qb ?_ ?_|refine qc ?_ ?_|refine xsC ?_ ?_);all_goals (intro hc;have hp:=hc;try simp at hp;try (exfalso;omega)))|refine qp ?_ ?_)
    all_goals try (exfalso;first|omega|contradiction)
    all_goals ((exact j1 (rs:=[.tmp 2])))
  | true =>
    rw [hin] at hname hfe
    have hfe:ve F[i] = vM F[i].jou:=by rw [hfe];simp
    by_cases hz:vM F[i].jou = 0
    ·rw [hz] at hjc hfe
     have hnx:=qJ (p:=fun g=>ve g = 0) hlt hsofar hfe
     clear e3 e4 hmn hmo hmy hfa hgc huc hfb
     repeat' (first|refine qe ?_|(first|refine xsF Tryz.func25 (hname ..) ?_|refine xsF Tryz.func41 (hjc ..) ?_)|((first|refine qb ?_ ?_|refine qc ?_ ?_|refine xsC ?_ ?_);all_goals (intro hc;have hp:=hc;try simp at hp;try (exfalso;omega)))|refine qp ?_ ?_)
     all_goals try (exfalso;first|omega|contradiction)
     refine ⟨F.length - (i + 1),_,by omega,qg (ts:=[(1,.fp [Hub.row ⟨F,G,U,now⟩] 0 0),(3,.v (.int .i64 ((i + 1:Nat):Int)))]) ?_,i + 1,by omega,rfl,hnx,rfl⟩;((repeat (first|exact qd|refine qi ?_|refine qI ?_ ?_)))
    ·rw [e4 hlt hsofar (by rw [hfe];exact hz),hfe]
     clear e3 e4 hmn hmo hmy hfa hgc huc hfb hfe
     generalize vM F[i].jou = JE at *
     repeat' (first|refine qe ?_|(first|refine xsF Tryz.func25 (hname ..) ?_|refine xsF Tryz.func41 (hjc ..) ?_)|((first|refine qb ?_ ?_|refine qc ?_ ?_|refine xsC ?_ ?_);all_goals (intro hc;have hp:=hc;try simp at hp;try (exfalso;omega)))|refine qp ?_ ?_)
     all_goals try (exfalso;first|omega|contradiction)
     all_goals ((exact j1 (rs:=[.tmp 2])))
 obtain rfl:i = F.length:=by omega
 have hz:jU ve F = 0:=jL.2 (fun s hs=>hsofar s (by rw [List.take_length];exact hs))
 rw [if_neg (fun q=>q hz)] at e3
 clear hsofar e4
 repeat' (first|refine qe ?_|fail|((first|refine qb ?_ ?_|refine qc ?_ ?_|refine xsC ?_ ?_);all_goals (intro hc;have hp:=hc;try simp at hp;try (exfalso;omega)))|refine qp ?_ ?_)
 all_goals try (exfalso;omega)
 (refine Awp.red (qg (ts:=[(1,.fp [Hub.row ⟨F,G,U,now⟩] 0 0),(5,.v (.int .i64 ((0 + 1:Nat):Int)))]) ?_) ?_;((repeat (first|exact qd|refine qi ?_|refine qI ?_ ?_))))
 refine qq (fun n σ => ∃ i:Nat,i ≤ (F.drop 1).length ∧ n = (F.drop 1).length - i ∧ (∀ (k:Nat) (h:k + 1 < F.length),k < i → y9 (F[k]'(by omega)) F[k + 1] = true) ∧ σ = ⟨[(1,.fp [Hub.row ⟨F,G,U,now⟩] 0 0),(5,.v (.int .i64 ((i + 1:Nat):Int)))],[],C.nh⟩) (F.drop 1).length ⟨0,Nat.zero_le _,rfl,(fun k h hk=>absurd hk (Nat.not_lt_zero _)),rfl⟩ ?_
 have hdl:(F.drop 1).length = F.length - 1:=by simp
 rintro n σ ⟨i,hi,rfl,hsofar,rfl⟩
 by_cases hlt:i + 1 < F.length
 ·have hr:=qx (f:=Fol.row) hlt
  have hr':=qx (f:=Fol.row) (l:=F) (i:=i) (by omega)
  have hle:=qdE F[i] F[i + 1]
  have hnr:y9 F[i] F[i + 1] = false → qv y9 F = false:=fun h=>by
   cases hq:qv y9 F
   ·rfl
   ·have:=yf.1 hq i hlt
    rw [h] at this;cases this
  cases hfl:y9 F[i] F[i + 1] with
  | false =>
    rw [if_pos (hnr hfl)] at e3
    rw [e3]
    rw [hfl] at hle
    clear e3 hmn hmo hmy hfa hgc huc hnr
    repeat' (first|refine qe ?_|fail|((first|refine qb ?_ ?_|refine qc ?_ ?_|refine xsC ?_ ?_);all_goals (intro hc;have hp:=hc;try simp at hp;try (exfalso;omega)))|refine qp ?_ ?_)
    all_goals try (exfalso;first|omega|simp_all;done)
    all_goals ((exact j1 (rs:=[.tmp 2])))
  | true =>
    rw [hfl] at hle
    have hok:=hfl
    clear e3 hmn hmo hmy hfa hgc huc hnr
    repeat' (first|refine qe ?_|fail|((first|refine qb ?_ ?_|refine qc ?_ ?_|refine xsC ?_ ?_);all_goals (intro hc;have hp:=hc;try simp at hp;try (exfalso;omega)))|refine qp ?_ ?_)
    all_goals try (exfalso;first|omega|simp_all;done)
    refine ⟨(F.drop 1).length - (i + 1),_,by omega,qg (ts:=[(1,.fp [Hub.row ⟨F,G,U,now⟩] 0 0),(5,.v (.int .i64 ((i + 1 + 1:Nat):Int)))]) ?_,i + 1,by omega,rfl,(fun k h hk=>by
     by_cases e:k = i
     ·subst e;exact hok
     ·exact hsofar k h (by omega)),rfl⟩;((repeat (first|exact qd|refine qi ?_|refine qI ?_ ?_)))
 have hrise:qv y9 F = true:=yf.2 fun k h=>hsofar k h (by simp at hi;omega)
 rw [if_neg (by rw [hrise];decide)] at e3
 clear hsofar
 by_cases hg0:jH G = 0
 case neg =>
  rw [if_pos hg0] at e3
  rw [e3]
  generalize jH G = GE at *
  clear hmn hmo hmy hfa huc e3
  repeat' (first|refine qe ?_|(first|refine xsF Tryz.func42 (hgc ..) ?_)|((first|refine qb ?_ ?_|refine qc ?_ ?_|refine xsC ?_ ?_);all_goals (intro hc;have hp:=hc;try simp at hp;try (exfalso;omega)))|refine qp ?_ ?_)
  all_goals try (exfalso;first|omega|contradiction)
  all_goals ((exact j1 (rs:=[.tmp 2])))
 rw [if_neg (fun q=>q hg0)] at e3
 rw [hg0] at hgc
 have hgl:=vJ hg0
 repeat' (first|refine qe ?_|(first|refine xsF Tryz.func42 (hgc ..) ?_)|((first|refine qb ?_ ?_|refine qc ?_ ?_|refine xsC ?_ ?_);all_goals (intro hc;have hp:=hc;try simp at hp;try (exfalso;omega)))|refine qp ?_ ?_)
 all_goals try (exfalso;first|omega|contradiction)
 (refine Awp.red (qg (ts:=[(1,.fp [Hub.row ⟨F,G,U,now⟩] 0 0),(7,.v (.int .i64 ((0:Nat):Int)))]) ?_) ?_;((repeat (first|exact qd|refine qi ?_|refine qI ?_ ?_))))
 refine qq (fun n σ => ∃ i:Nat,i ≤ G.length ∧ n = G.length - i ∧ (∀ g,g ∈ G.take i → vo F g.folder = true) ∧ σ = ⟨[(1,.fp [Hub.row ⟨F,G,U,now⟩] 0 0),(7,.v (.int .i64 (i:Int)))],[],C.nh⟩) G.length ⟨0,Nat.zero_le _,rfl,(by simp),rfl⟩ ?_
 rintro n σ ⟨i,hi,rfl,hsofar,rfl⟩
 by_cases hlt:i < G.length
 ·have hr:=qx (f:=Gra.row) hlt
  have hf:=hfa G[i].folder
  have hx:=qg0 (t:=F) (p:=G[i].folder)
  generalize j0 (atF G[i].folder) F = K at *
  cases hh:vo F G[i].folder with
  | false =>
    rw [hmn hlt hh,if_pos rfl] at e3
    rw [e3]
    rw [hh] at hx
    have hx:K < 0:=by simpa using hx
    clear e3 hmn hmo hmy hfa huc
    repeat' (first|refine qe ?_|(first|refine xsF Tryz.func27 (hf ..) ?_)|((first|refine qb ?_ ?_|refine qc ?_ ?_|refine xsC ?_ ?_);all_goals (intro hc;have hp:=hc;try simp at hp;try (exfalso;omega)))|refine qp ?_ ?_)
    all_goals try (exfalso;first|omega|contradiction)
    all_goals ((exact j1 (rs:=[.tmp 2])))
  | true =>
    rw [hh] at hx
    have hx:¬ K < 0:=by simpa using hx
    clear e3 hmn hmo hmy hfa huc
    repeat' (first|refine qe ?_|(first|refine xsF Tryz.func27 (hf ..) ?_)|((first|refine qb ?_ ?_|refine qc ?_ ?_|refine xsC ?_ ?_);all_goals (intro hc;have hp:=hc;try simp at hp;try (exfalso;omega)))|refine qp ?_ ?_)
    all_goals try (exfalso;first|omega|contradiction)
    refine ⟨G.length - (i + 1),_,by omega,qg (ts:=[(1,.fp [Hub.row ⟨F,G,U,now⟩] 0 0),(7,.v (.int .i64 ((i + 1:Nat):Int)))]) ?_,i + 1,by omega,rfl,qJ hlt hsofar hh,rfl⟩;((repeat (first|exact qd|refine qi ?_|refine qI ?_ ?_)))
 obtain rfl:i = G.length:=by omega
 rw [List.take_length] at hsofar
 have hmy:=hmy hsofar
 clear hsofar hmn hfa
 repeat' (first|refine qe ?_|fail|((first|refine qb ?_ ?_|refine qc ?_ ?_|refine xsC ?_ ?_);all_goals (intro hc;have hp:=hc;try simp at hp;try (exfalso;omega)))|refine qp ?_ ?_)
 all_goals try (exfalso;omega)
 (refine Awp.red (qg (ts:=[(1,.fp [Hub.row ⟨F,G,U,now⟩] 0 0),(8,.v (.int .i64 ((0:Nat):Int)))]) ?_) ?_;((repeat (first|exact qd|refine qi ?_|refine qI ?_ ?_))))
 refine qq (fun n σ => ∃ i:Nat,i ≤ F.length ∧ n = F.length - i ∧ (∀ s,s ∈ F.take i → kG G s.name = true) ∧ σ = ⟨[(1,.fp [Hub.row ⟨F,G,U,now⟩] 0 0),(8,.v (.int .i64 (i:Int)))],[],C.nh⟩) F.length ⟨0,Nat.zero_le _,rfl,(by simp),rfl⟩ ?_
 rintro n σ ⟨i,hi,rfl,hsofar,rfl⟩
 by_cases hlt:i < F.length
 ·have hr:=qx (f:=Fol.row) hlt
  have hf:=qdP G F[i].name (by omega)
  have hx:=qeY (l:=G) (f:=F[i].name)
  generalize zK G F[i].name = K at *
  cases hh:kG G F[i].name with
  | false =>
    rw [hmo hlt hh,if_pos rfl] at e3
    rw [e3]
    rw [hh] at hx
    have hx:K = []:=by simpa using hx
    clear e3 hmo hmy huc
    repeat' (first|refine qe ?_|(first|refine xsQ Tryz.func43 (hf ..) ?_)|((first|refine qb ?_ ?_|refine qc ?_ ?_|refine xsC ?_ ?_);all_goals (intro hc;have hp:=hc;try simp at hp;try (exfalso;omega)))|refine qp ?_ ?_)
    all_goals try (exfalso;first|omega|contradiction)
    all_goals ((exact j1 (rs:=[.tmp 2])))
  | true =>
    rw [hh] at hx
    have hx:¬ K = []:=by simpa using hx
    clear e3 hmo hmy huc
    repeat' (first|refine qe ?_|(first|refine xsQ Tryz.func43 (hf ..) ?_)|((first|refine qb ?_ ?_|refine qc ?_ ?_|refine xsC ?_ ?_);all_goals (intro hc;have hp:=hc;try simp at hp;try (exfalso;omega)))|refine qp ?_ ?_)
    all_goals try (exfalso;first|omega|contradiction)
    refine ⟨F.length - (i + 1),_,by omega,qg (ts:=[(1,.fp [Hub.row ⟨F,G,U,now⟩] 0 0),(8,.v (.int .i64 ((i + 1:Nat):Int)))]) ?_,i + 1,by omega,rfl,qJ hlt hsofar hh,rfl⟩;((repeat (first|exact qd|refine qi ?_|refine qI ?_ ?_)))
 obtain rfl:i = F.length:=by omega
 rw [List.take_length] at hsofar
 rw [hmy hsofar,if_neg (by decide)] at e3
 rw [e3]
 clear e3 hmo hmy
 generalize yM U = UE at *
 repeat' (first|refine qe ?_|(first|refine xsF Tryz.func13 (huc ..) ?_)|((first|refine qb ?_ ?_|refine qc ?_ ?_|refine xsC ?_ ?_);all_goals (intro hc;have hp:=hc;try simp at hp;try (exfalso;omega)))|refine qp ?_ ?_)
 all_goals try (exfalso;first|omega|contradiction)
 all_goals ((exact j1 (rs:=[.tmp 2])))
end Go.Proofs.YtiljlcgmcmjcoaaGreatDoor
set_option linter.unusedSimpArgs false
set_option linter.unnecessarySimpa false
set_option linter.unusedVariables false
set_option maxHeartbeats 1000000
namespace Go.Proofs.YtiljlcgmcmjcoaaGreatDoor
open Go.Ab Go.RowKit
set_option maxRecDepth 10000
attribute [local irreducible] Awp ye ji qQ Red qF Go.Ab.Fin qo Rz xx qG qO ResOk jK je jX qW
theorem qfm:HBig qa1:=⟨⟨nofun,by decide⟩,⟨nofun,by decide⟩,⟨nofun,by decide⟩⟩
theorem HRight.lens {h:Hub} (hr:HRight h):h.fols.length ≤ 1000000 ∧ h.gras.length ≤ 1000000:=by
 have:=hr.len
 have:=(yZ hr.gra).1
 omega
end Go.Proofs.YtiljlcgmcmjcoaaGreatDoor
set_option linter.unusedSimpArgs false
set_option linter.unnecessarySimpa false
set_option linter.unusedVariables false
set_option maxHeartbeats 1000000
namespace Go.Proofs.YtiljlcgmcmjcoaaGreatDoor
open Go.Ab Go.RowKit
set_option maxRecDepth 10000
attribute [local irreducible] Awp ye ji qQ Red qF Go.Ab.Fin qo Rz xx qG qO ResOk jK je jX qW
end Go.Proofs.YtiljlcgmcmjcoaaGreatDoor
