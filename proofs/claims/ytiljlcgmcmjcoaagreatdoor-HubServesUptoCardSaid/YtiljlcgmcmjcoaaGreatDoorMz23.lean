import Derived.Test.YtiljlcgmcmjcoaaGreatDoorMz20
import Derived.Test.YtiljlcgmcmjcoaaGreatDoorMz22
import Derived.Test.YtiljlcgmcmjcoaaGreatDoorMz8
set_option linter.unusedSimpArgs false
set_option linter.unnecessarySimpa false
set_option linter.unusedVariables false
set_option maxHeartbeats 1000000
namespace Go.Proofs.YtiljlcgmcmjcoaaGreatDoor
open Go.Ab Go.RowKit
set_option maxRecDepth 10000
attribute [local irreducible] Awp ye ji qQ Red qF Go.Ab.Fin qo Rz xx qG qO ResOk jK je jX qW
theorem qdE (a b:Fol):(Op.bytesLess b.name a.name || decide (b.name = a.name)) = !y9 a b:=by
 unfold y9
 rcases w9 a.name b.name with ⟨h1,h2,h3⟩|⟨h1,h2,h3⟩|⟨h1,h2,h3⟩
 ·have h4:¬ b.name = a.name:=fun e=>h3 e.symm
  simp [h1,h2,h4]
 ·simp [h1,xp]
 ·simp [h1,h2]
theorem ZT {h:Hub} (hn:qA h.now 0 1099511627776 = false):xR h = 3:=by unfold xR;rw [if_pos hn]
theorem VB {h:Hub} (hn:qA h.now 0 1099511627776 = true) (h8:8 < h.fols.length):xR h = 2:=by unfold xR;rw [if_neg (by rw [hn];decide),if_pos h8]
theorem ZN {h:Hub} (hn:qA h.now 0 1099511627776 = true) (h8:¬ 8 < h.fols.length):xR h = if ¬ jU ve h.fols = 0 then jU ve h.fols else if qv y9 h.fols = false then 4 else if ¬ jH h.gras = 0 then jH h.gras else if zw h = false then 5 else yM h.ups:=by unfold xR;rw [if_neg (by rw [hn];decide),if_neg h8]
theorem Zs {h:Hub} (hn:qA h.now 0 1099511627776 = true) (h8:¬ 8 < h.fols.length) {k:Nat} (hk:k < h.fols.length) (hs : ∀ g,g ∈ h.fols.take k → ve g = 0) (h0:ve h.fols[k] ≠ 0):xR h = ve h.fols[k]:=by
 have h1:=kf hk hs h0
 rw [ZN hn h8,h1,if_pos h0]
set_option maxHeartbeats 4000000 in
theorem JM (h:Hub) (hb:HBig h):jO C.P 16 [xy h] (.v (.int .i64 (xR h))):=by
 have e1 := @ZT h
 have e2 := @VB h
 have e3 := @ZN h
 have e4 := @Zs h
 have hma:=fun h1 h2 h3=>qeg h h1 h2 h3
 have hgc:=Jn h.gras hb.gras
 have huc:=VZ h.ups hb.ups
 have hfb:=hb.fols
 have hml:=hb.gras.len
 obtain ⟨F,G,U,now⟩:=h
 dsimp only at *
 have hll:=hfb.len
 generalize hE:xR ⟨F,G,U,now⟩ = E at *
 clear hE hb
 by_cases hn:qA now 0 1099511627776 = true
 case neg =>
  have hn:qA now 0 1099511627776 = false:=by simpa using hn
  rw [e1 hn]
  have hw:now < 0 ∨ 1099511627776 < now:=by
   by_cases h1:now < 0
   ·exact .inl h1
   ·refine .inr ?_
    unfold qA at hn
    simp at hn
    omega
  clear e1 e2 e3 e4 hma hgc huc hfb
  refine qa Tryz.func16 rfl _ Tryz.ntmps16 (Nat.le_of_ble_eq_true rfl) _ Tryz.results16 0 rfl rfl ?_
  (repeat apply jg);apply qw;(repeat' (first|apply qT|refine xi ?_|refine xe ?_|refine xl ?_|refine xN ?_|refine xj ?_|refine vm ?_|refine xb ?_|refine vb ?_|refine vl ?_|refine xX ?_|refine xn ?_|refine yG ?_|(first|fail)|refine yg ?_|refine j6 ?_|refine j4 ?_|refine jF ?_|refine jG ?_|refine yL ?_|refine yK ?_|refine j7 ?_|refine j8 ?_|((first|refine qb ?_ ?_|refine qc ?_ ?_);all_goals (intro hc;have hp:=hc;try simp at hp;try (exfalso;omega)))));show Awp _ _ _ _ _
  refine xV 1 0 ?_
  repeat' (first|refine qe ?_|(first|fail)|((first|refine qb ?_ ?_|refine qc ?_ ?_|refine xsC ?_ ?_);all_goals (intro hc;have hp:=hc;try simp at hp;try (exfalso;omega)))|refine qp ?_ ?_)
  all_goals try (exfalso;first|omega|contradiction)
  all_goals ((exact j1 (rs:=[.tmp 2])))
 obtain ⟨n0,n1⟩:=kM.1 hn
 by_cases h8:8 < F.length
 ·rw [e2 hn h8]
  clear e1 e2 e3 e4 hma hgc huc hfb
  refine qa Tryz.func16 rfl _ Tryz.ntmps16 (Nat.le_of_ble_eq_true rfl) _ Tryz.results16 0 rfl rfl ?_
  (repeat apply jg);apply qw;(repeat' (first|apply qT|refine xi ?_|refine xe ?_|refine xl ?_|refine xN ?_|refine xj ?_|refine vm ?_|refine xb ?_|refine vb ?_|refine vl ?_|refine xX ?_|refine xn ?_|refine yG ?_|(first|fail)|refine yg ?_|refine j6 ?_|refine j4 ?_|refine jF ?_|refine jG ?_|refine yL ?_|refine yK ?_|refine j7 ?_|refine j8 ?_|((first|refine qb ?_ ?_|refine qc ?_ ?_);all_goals (intro hc;have hp:=hc;try simp at hp;try (exfalso;omega)))));show Awp _ _ _ _ _
  refine xV 1 0 ?_
  repeat' (first|refine qe ?_|(first|fail)|((first|refine qb ?_ ?_|refine qc ?_ ?_|refine xsC ?_ ?_);all_goals (intro hc;have hp:=hc;try simp at hp;try (exfalso;omega)))|refine qp ?_ ?_)
  all_goals try (exfalso;first|omega|contradiction)
  all_goals ((exact j1 (rs:=[.tmp 2])))
 have e3:=e3 hn h8
 have e4:=fun {k} => @e4 hn h8 k
 clear e1 e2
 refine qa Tryz.func16 rfl _ Tryz.ntmps16 (Nat.le_of_ble_eq_true rfl) _ Tryz.results16 0 rfl rfl ?_
 (repeat apply jg);apply qw;(repeat' (first|apply qT|refine xi ?_|refine xe ?_|refine xl ?_|refine xN ?_|refine xj ?_|refine vm ?_|refine xb ?_|refine vb ?_|refine vl ?_|refine xX ?_|refine xn ?_|refine yG ?_|(first|fail)|refine yg ?_|refine j6 ?_|refine j4 ?_|refine jF ?_|refine jG ?_|refine yL ?_|refine yK ?_|refine j7 ?_|refine j8 ?_|((first|refine qb ?_ ?_|refine qc ?_ ?_);all_goals (intro hc;have hp:=hc;try simp at hp;try (exfalso;omega)))));show Awp _ _ _ _ _
 refine xV 1 0 ?_
 repeat' (first|refine qe ?_|(first|fail)|((first|refine qb ?_ ?_|refine qc ?_ ?_|refine xsC ?_ ?_);all_goals (intro hc;have hp:=hc;try simp at hp;try (exfalso;omega)))|refine qp ?_ ?_)
 all_goals try (exfalso;first|omega|contradiction)
 (refine Awp.red (qg (ts:=[(1,.fp [Hub.row ⟨F,G,U,now⟩] 0 0),(23,w6 F),(24,.v (.int .i64 F.length)),(25,.v (.int .i64 ((0:Nat):Int)))]) ?_) ?_;((repeat (first|exact qd|refine qi ?_|refine qI ?_ ?_))))
 all_goals try (rw [List.length_map];done)
 refine qq (fun n σ => ∃ i:Nat,i ≤ F.length ∧ n = F.length - i ∧ (∀ g,g ∈ F.take i → ve g = 0) ∧ σ = ⟨[(1,.fp [Hub.row ⟨F,G,U,now⟩] 0 0),(23,w6 F),(24,.v (.int .i64 F.length)),(25,.v (.int .i64 (i:Int)))],[],C.nh⟩) F.length ⟨0,Nat.zero_le _,rfl,(by simp),rfl⟩ ?_
 rintro n σ ⟨i,hi,rfl,hsofar,rfl⟩
 by_cases hlt:i < F.length
 ·have hr:=qx (f:=Fol.row) hlt
  have hsm:=hfb.each F[i] (List.getElem_mem _)
  have hname:=vA F[i].name (jC hsm.name)
  have hjc:=qfw F[i].jou hsm.jou
  have hfe:ve F[i] = if ql F[i].name = true then vM F[i].jou else 1:=rfl
  cases hin:ql F[i].name with
  | false =>
    rw [hin] at hname hfe
    have hfe:ve F[i] = 1:=by rw [hfe];simp
    rw [e4 hlt hsofar (by rw [hfe];decide),hfe]
    clear e3 e4 hma hgc huc hfb
    repeat' (first|refine qe ?_|(first|refine xsF Tryz.func37 (hname ..) ?_|refine xsF Tryz.func38 (hjc ..) ?_)|((first|refine qb ?_ ?_|refine qc ?_ ?_|refine xsC ?_ ?_);all_goals (intro hc;have hp:=hc;try simp at hp;try (exfalso;omega)))|refine qp ?_ ?_)
    all_goals try (exfalso;first|omega|contradiction)
    all_goals ((exact j1 (rs:=[.tmp 2])))
  | true =>
    rw [hin] at hname hfe
    have hfe:ve F[i] = vM F[i].jou:=by rw [hfe];simp
    by_cases hz:vM F[i].jou = 0
    ·rw [hz] at hjc hfe
     have hnx:=qJ (p:=fun g=>ve g = 0) hlt hsofar hfe
     clear e3 e4 hma hgc huc hfb
     repeat' (first|refine qe ?_|(first|refine xsF Tryz.func37 (hname ..) ?_|refine xsF Tryz.func38 (hjc ..) ?_)|((first|refine qb ?_ ?_|refine qc ?_ ?_|refine xsC ?_ ?_);all_goals (intro hc;have hp:=hc;try simp at hp;try (exfalso;omega)))|refine qp ?_ ?_)
     all_goals try (exfalso;first|omega|contradiction)
     refine ⟨F.length - (i + 1),_,by omega,qg (ts:=[(1,.fp [Hub.row ⟨F,G,U,now⟩] 0 0),(23,w6 F),(24,.v (.int .i64 F.length)),(25,.v (.int .i64 ((i + 1:Nat):Int)))]) ?_,i + 1,by omega,rfl,hnx,rfl⟩;((repeat (first|exact qd|refine qi ?_|refine qI ?_ ?_)))
    ·rw [e4 hlt hsofar (by rw [hfe];exact hz),hfe]
     clear e3 e4 hma hgc huc hfb hfe
     generalize vM F[i].jou = JE at *
     repeat' (first|refine qe ?_|(first|refine xsF Tryz.func37 (hname ..) ?_|refine xsF Tryz.func38 (hjc ..) ?_)|((first|refine qb ?_ ?_|refine qc ?_ ?_|refine xsC ?_ ?_);all_goals (intro hc;have hp:=hc;try simp at hp;try (exfalso;omega)))|refine qp ?_ ?_)
     all_goals try (exfalso;first|omega|contradiction)
     all_goals ((exact j1 (rs:=[.tmp 2])))
 obtain rfl:i = F.length:=by omega
 have hz:jU ve F = 0:=jL.2 (fun s hs=>hsofar s (by rw [List.take_length];exact hs))
 rw [if_neg (fun q=>q hz)] at e3
 clear hsofar e4 hfb
 repeat' (first|refine qe ?_|fail|((first|refine qb ?_ ?_|refine qc ?_ ?_|refine xsC ?_ ?_);all_goals (intro hc;have hp:=hc;try simp at hp;try (exfalso;omega)))|refine qp ?_ ?_)
 all_goals try (exfalso;omega)
 (refine Awp.red (qg (ts:=[(1,.fp [Hub.row ⟨F,G,U,now⟩] 0 0),(6,.v (.int .i64 ((0 + 1:Nat):Int)))]) ?_) ?_;((repeat (first|exact qd|refine qi ?_|refine qI ?_ ?_))))
 refine qq (fun n σ => ∃ i:Nat,i ≤ (F.drop 1).length ∧ n = (F.drop 1).length - i ∧ (∀ (k:Nat) (h:k + 1 < F.length),k < i → y9 (F[k]'(by omega)) F[k + 1] = true) ∧ σ = ⟨[(1,.fp [Hub.row ⟨F,G,U,now⟩] 0 0),(6,.v (.int .i64 ((i + 1:Nat):Int)))],[],C.nh⟩) (F.drop 1).length ⟨0,Nat.zero_le _,rfl,(fun k h hk=>absurd hk (Nat.not_lt_zero _)),rfl⟩ ?_
 have hdl:(F.drop 1).length = F.length - 1:=by simp
 rintro n σ ⟨i,hi,rfl,hsofar,rfl⟩
 by_cases hlt:i + 1 < F.length
 ·have hr:=qx (f:=Fol.row) hlt
  have hr':=qx (f:=Fol.row) (l:=F) (i:=i) (by omega)
  have hle:=qdE F[i] F[i + 1]
  have hnr:y9 F[i] F[i + 1] = false → qv y9 F = false:=fun h=>by
   cases hq:qv y9 F
   ·rfl
   ·have:=yf.1 hq i hlt
    rw [h] at this;cases this
  cases hfl:y9 F[i] F[i + 1] with
  | false =>
    rw [if_pos (hnr hfl)] at e3
    rw [e3]
    rw [hfl] at hle
    clear e3 hma hgc huc hnr
    repeat' (first|refine qe ?_|fail|((first|refine qb ?_ ?_|refine qc ?_ ?_|refine xsC ?_ ?_);all_goals (intro hc;have hp:=hc;try simp at hp;try (exfalso;omega)))|refine qp ?_ ?_)
    all_goals try (exfalso;first|omega|simp_all;done)
    all_goals ((exact j1 (rs:=[.tmp 2])))
  | true =>
    rw [hfl] at hle
    have hok:=hfl
    clear e3 hma hgc huc hnr
    repeat' (first|refine qe ?_|fail|((first|refine qb ?_ ?_|refine qc ?_ ?_|refine xsC ?_ ?_);all_goals (intro hc;have hp:=hc;try simp at hp;try (exfalso;omega)))|refine qp ?_ ?_)
    all_goals try (exfalso;first|omega|simp_all;done)
    refine ⟨(F.drop 1).length - (i + 1),_,by omega,qg (ts:=[(1,.fp [Hub.row ⟨F,G,U,now⟩] 0 0),(6,.v (.int .i64 ((i + 1 + 1:Nat):Int)))]) ?_,i + 1,by omega,rfl,(fun k h hk=>by
     by_cases e:k = i
     ·subst e;exact hok
     ·exact hsofar k h (by omega)),rfl⟩;((repeat (first|exact qd|refine qi ?_|refine qI ?_ ?_)))
 have hrise:qv y9 F = true:=yf.2 fun k h=>hsofar k h (by simp at hi;omega)
 rw [if_neg (by rw [hrise];decide)] at e3
 clear hsofar
 rw [e3]
 clear e3
 by_cases hg0:jH G = 0
 case neg =>
  rw [if_pos hg0]
  generalize jH G = GE at *
  clear hma huc
  repeat' (first|refine qe ?_|(first|refine xsF Tryz.func39 (hgc ..) ?_)|((first|refine qb ?_ ?_|refine qc ?_ ?_|refine xsC ?_ ?_);all_goals (intro hc;have hp:=hc;try simp at hp;try (exfalso;omega)))|refine qp ?_ ?_)
  all_goals try (exfalso;first|omega|contradiction)
  all_goals ((exact j1 (rs:=[.tmp 2])))
 rw [if_neg (fun q=>q hg0)]
 rw [hg0] at hgc
 have hma:=hma (by omega) (by have:=vJ hg0;omega) hrise
 cases hmm:zw ⟨F,G,U,now⟩ with
 | false =>
   rw [hmm] at hma
   rw [if_pos rfl]
   clear huc
   repeat' (first|refine qe ?_|(first|refine xsF Tryz.func39 (hgc ..) ?_|refine xsF Tryz.func40 (hma ..) ?_)|((first|refine qb ?_ ?_|refine qc ?_ ?_|refine xsC ?_ ?_);all_goals (intro hc;have hp:=hc;try simp at hp;try (exfalso;omega)))|refine qp ?_ ?_)
   all_goals try (exfalso;first|omega|contradiction)
   all_goals ((exact j1 (rs:=[.tmp 2])))
 | true =>
   rw [hmm] at hma
   rw [if_neg (by decide)]
   generalize yM U = UE at *
   repeat' (first|refine qe ?_|(first|refine xsF Tryz.func39 (hgc ..) ?_|refine xsF Tryz.func40 (hma ..) ?_|refine xsF Tryz.func31 (huc ..) ?_)|((first|refine qb ?_ ?_|refine qc ?_ ?_|refine xsC ?_ ?_);all_goals (intro hc;have hp:=hc;try simp at hp;try (exfalso;omega)))|refine qp ?_ ?_)
   all_goals try (exfalso;first|omega|contradiction)
   all_goals ((exact j1 (rs:=[.tmp 2])))
end Go.Proofs.YtiljlcgmcmjcoaaGreatDoor
set_option linter.unusedSimpArgs false
set_option linter.unnecessarySimpa false
set_option linter.unusedVariables false
set_option maxHeartbeats 1000000
namespace Go.Proofs.YtiljlcgmcmjcoaaGreatDoor
open Go.Ab Go.RowKit
set_option maxRecDepth 10000
attribute [local irreducible] Awp ye ji qQ Red qF Go.Ab.Fin qo Rz xx qG qO ResOk jK je jX qW
def qgw (r:Pag × Int):AV := .tup [.agg r.1.row,.v (.int .i64 r.2)]
theorem qev {α:Type} {f:α → List AV} {l:List α} {k m:Nat}:(((((l.map f).take (l.map f).length).drop k).take m).drop 0) = ((l.drop k).take m).map f:=by
 rw [List.take_length];simp
theorem qiN (j:Jou) (cursor most:Int) (hb:JBig j):jO C.P 124 [.agg j.row,.v (.int .i64 cursor),.v (.int .i64 most)] (qgw (Y3 j cursor most)):=by
 have ho:=XS j hb
 have hmj:(j.coms.map Com.row).length = j.coms.length:=List.length_map ..
 by_cases hz:vM j = 0
 ·rw [XA hz] at ho
  have hJ:=xE.1 hz
  have hlen:=hJ.len
  have hlo:=hJ.lo
  have hhi:=hJ.hi
  have hN:=hJ.now
  have hlast:=V5 j (vc j) hJ
  have hce:=wN (vc j) (by have:=hN.len;omega)
  have hE:Y3 j cursor most = QA j cursor most:=by unfold Y3;rw [if_neg (by simp [hz])]
  have hL:vy j = j.first + j.coms.length - 1:=rfl
  have hfew:=wP hJ.base hJ.run
  have hrk : ∀ row,row ∈ j.coms.map Com.row → row.length = 3:=fun row hr=>by obtain ⟨x,_,rfl⟩:=List.mem_map.1 hr;rfl
  rw [hE]
  unfold QA
  clear hE hz
  generalize vc j = U at *
  generalize vy j = LN at *
  by_cases h1:most < 1 ∨ 10 < most ∨ cursor < 0
  ·rw [if_pos h1]
   refine qa Tryz.func124 rfl _ Tryz.ntmps124 (Nat.le_of_ble_eq_true rfl) _ Tryz.results124 0 rfl rfl ?_
   (repeat apply jg);apply qw;(repeat' (first|apply qT|refine xi ?_|refine xe ?_|refine xl ?_|refine xN ?_|refine xj ?_|refine vm ?_|refine xb ?_|refine zb ?_|refine Vn ?_|refine vX ?_|refine xX ?_|refine xn ?_|refine yG ?_|(first|fail)|refine yg ?_|refine j6 ?_|refine j4 ?_|refine jF ?_|refine jG ?_|refine yL ?_|refine yK ?_|refine j7 ?_|refine j8 ?_|((first|refine qb ?_ ?_|refine qc ?_ ?_);all_goals (intro hc;have hp:=hc;try simp at hp;try (exfalso;omega)))));show Awp _ _ _ _ _
   refine xV 3 0 ?_
   repeat' (first|refine qe ?_|(first|refine xsQ Tryz.func74 (ho ..) ?_|refine xsF Tryz.func152 (hlast ..) ?_|refine xsQ Tryz.func101 (hce ..) ?_|fail)|((first|refine qb ?_ ?_|refine qc ?_ ?_|refine xsC ?_ ?_);all_goals (intro hc;have hp:=hc;try simp at hp;try (exfalso;omega)))|refine qp ?_ ?_)
   (all_goals try (exfalso;first|omega|contradiction))
   all_goals ((exact j1 (rs:=[.cell 6 44,.tmp 7])))
  ·rw [if_neg h1]
   by_cases h2:LN < cursor
   ·rw [if_pos h2]
    refine qa Tryz.func124 rfl _ Tryz.ntmps124 (Nat.le_of_ble_eq_true rfl) _ Tryz.results124 0 rfl rfl ?_
    (repeat apply jg);apply qw;(repeat' (first|apply qT|refine xi ?_|refine xe ?_|refine xl ?_|refine xN ?_|refine xj ?_|refine vm ?_|refine xb ?_|refine zb ?_|refine Vn ?_|refine vX ?_|refine xX ?_|refine xn ?_|refine yG ?_|(first|fail)|refine yg ?_|refine j6 ?_|refine j4 ?_|refine jF ?_|refine jG ?_|refine yL ?_|refine yK ?_|refine j7 ?_|refine j8 ?_|((first|refine qb ?_ ?_|refine qc ?_ ?_);all_goals (intro hc;have hp:=hc;try simp at hp;try (exfalso;omega)))));show Awp _ _ _ _ _
    refine xV 3 0 ?_
    repeat' (first|refine qe ?_|(first|refine xsQ Tryz.func74 (ho ..) ?_|refine xsF Tryz.func152 (hlast ..) ?_|refine xsQ Tryz.func101 (hce ..) ?_|fail)|((first|refine qb ?_ ?_|refine qc ?_ ?_|refine xsC ?_ ?_);all_goals (intro hc;have hp:=hc;try simp at hp;try (exfalso;omega)))|refine qp ?_ ?_)
    (all_goals try (exfalso;first|omega|contradiction))
    all_goals ((exact j1 (rs:=[.cell 6 44,.tmp 7])))
   ·rw [if_neg h2]
    by_cases h3:cursor < j.first - 1
    ·rw [if_pos h3]
     refine qa Tryz.func124 rfl _ Tryz.ntmps124 (Nat.le_of_ble_eq_true rfl) _ Tryz.results124 0 rfl rfl ?_
     (repeat apply jg);apply qw;(repeat' (first|apply qT|refine xi ?_|refine xe ?_|refine xl ?_|refine xN ?_|refine xj ?_|refine vm ?_|refine xb ?_|refine zb ?_|refine Vn ?_|refine vX ?_|refine xX ?_|refine xn ?_|refine yG ?_|(first|fail)|refine yg ?_|refine j6 ?_|refine j4 ?_|refine jF ?_|refine jG ?_|refine yL ?_|refine yK ?_|refine j7 ?_|refine j8 ?_|((first|refine qb ?_ ?_|refine qc ?_ ?_);all_goals (intro hc;have hp:=hc;try simp at hp;try (exfalso;omega)))));show Awp _ _ _ _ _
     refine xV 3 0 ?_
     repeat' (first|refine qe ?_|(first|refine xsQ Tryz.func74 (ho ..) ?_|refine xsF Tryz.func152 (hlast ..) ?_|refine xsQ Tryz.func101 (hce ..) ?_|fail)|((first|refine qb ?_ ?_|refine qc ?_ ?_|refine xsC ?_ ?_);all_goals (intro hc;have hp:=hc;try simp at hp;try (exfalso;omega)))|refine qp ?_ ?_)
     (all_goals try (exfalso;first|omega|contradiction))
     all_goals ((exact j1 (rs:=[.cell 6 44,.tmp 7])))
    ·rw [if_neg h3]
     have hP:Xe j cursor most = (j.coms.drop (cursor - j.first + 1).toNat).take most.toNat:=rfl
     generalize Xe j cursor most = X at *
     obtain ⟨k,hk⟩ : ∃ k:Nat,k = (cursor - j.first + 1).toNat:=⟨_,rfl⟩
     obtain ⟨m,hm⟩ : ∃ m:Nat,m = min (j.coms.length - k) most.toNat:=⟨_,rfl⟩
     have hX:X = (j.coms.drop k).take m:=by rw [hP, ← hk,hm,List.take_eq_take_min];simp [Nat.min_comm]
     clear hP
     have hxl:X.length = m:=by rw [hX];simp;omega
     have hcl:qo C.P 153 [.sl false (((((j.coms.map Com.row).take (j.coms.map Com.row).length).drop k).take m).drop 0)] [] (.os 0 0 X.length) [.own false 3 (X.map Com.row)]:=by
      rw [qev, ← hX]
      exact Xk X (by omega) (fun c hc=>by have:=hfew c (by rw [hX] at hc;exact List.mem_of_mem_drop (List.mem_of_mem_take hc));omega)
     have hdl:(((j.coms.map Com.row).take (j.coms.map Com.row).length).drop k).length = j.coms.length - k:=by simp
     refine qa Tryz.func124 rfl _ Tryz.ntmps124 (Nat.le_of_ble_eq_true rfl) _ Tryz.results124 0 rfl rfl ?_
     (repeat apply jg);apply qw;(repeat' (first|apply qT|refine xi ?_|refine xe ?_|refine xl ?_|refine xN ?_|refine xj ?_|refine vm ?_|refine xb ?_|refine zb ?_|refine Vn ?_|refine vX ?_|refine xX ?_|refine xn ?_|refine yG ?_|(first|fail)|refine yg ?_|refine j6 ?_|refine j4 ?_|refine jF ?_|refine jG ?_|refine yL ?_|refine yK ?_|refine j7 ?_|refine j8 ?_|((first|refine qb ?_ ?_|refine qc ?_ ?_);all_goals (intro hc;have hp:=hc;try simp at hp;try (exfalso;omega)))));show Awp _ _ _ _ _
     refine xV 3 0 ?_
     repeat' (first|refine qe ?_|(first|refine xsQ Tryz.func74 (ho ..) ?_|refine xsF Tryz.func152 (hlast ..) ?_|refine xsQ Tryz.func101 (hce ..) ?_|(apply qj;apply qix;(case hx=>rfl);(case hy=>rfl);(case hN=>exact nle rfl))|(apply qj;apply xo (ex':=false) (a:=k) (b:=(j.coms.map Com.row).length) (m:=0);(case hx=>rfl);(case hT=>rfl);(case he=>rfl);(case hE=>rfl);(case ha=>exact ⟨_,wQ (by omega)⟩);(case hb=>rfl);(case hm=>trivial);(case hab=>(rw [hmj];omega));(case hbl=>exact Nat.le_refl _);(case hrk=>exact hrk);(case hex=>exact nofun);(case hN=>exact nle rfl))|(apply qj;apply xo (ex':=false) (a:=0) (b:=m) (m:=0);(case hx=>rfl);(case hT=>rfl);(case he=>rfl);(case hE=>rfl);(case ha=>rfl);(case hb=>exact ⟨_,wQ (by rw [hdl];omega)⟩);(case hm=>trivial);(case hab=>exact Nat.zero_le _);(case hbl=>(rw [hdl];omega));(case hrk=>(intro row hr;exact hrk row (List.mem_of_mem_take (List.mem_of_mem_drop hr))));(case hex=>exact nofun);(case hN=>exact nle rfl))|(apply qN Tryz.func153 rfl rfl;intro hIsFn;refine yr ([]) hIsFn (hcl ..) ?_))|((first|refine qb ?_ ?_|refine qc ?_ ?_|refine xsC ?_ ?_);all_goals (intro hc;have hp:=hc;try simp at hp;try (exfalso;omega)))|refine qp ?_ ?_)
     (all_goals try (exfalso;first|omega|contradiction))
     all_goals ((exact j1 (rs:=[.cell 6 44,.tmp 7])))
 ·rw [Kk hz] at ho
  unfold Y3
  rw [if_pos hz]
  generalize vM j = E at *
  refine qa Tryz.func124 rfl _ Tryz.ntmps124 (Nat.le_of_ble_eq_true rfl) _ Tryz.results124 0 rfl rfl ?_
  repeat' (first|refine qe ?_|(first|refine xsQ Tryz.func74 (ho ..) ?_)|((first|refine qb ?_ ?_|refine qc ?_ ?_|refine xsC ?_ ?_);all_goals (intro hc;have hp:=hc;try simp at hp;try (exfalso;omega)))|refine qp ?_ ?_)
  all_goals try (exfalso;omega)
  all_goals ((exact j1 (rs:=[.cell 6 44,.tmp 7])))
end Go.Proofs.YtiljlcgmcmjcoaaGreatDoor
set_option linter.unusedSimpArgs false
set_option linter.unnecessarySimpa false
set_option linter.unusedVariables false
set_option maxHeartbeats 1000000
namespace Go.Proofs.YtiljlcgmcmjcoaaGreatDoor
open Go.Ab Go.RowKit
set_option maxRecDepth 10000
attribute [local irreducible] Awp ye ji qQ Red qF Go.Ab.Fin qo Rz xx qG qO ResOk jK je jX qW
theorem qe0 (c:Com) (key:qC):jO C.P 159 [.agg c.row,.fp [[.v (str key)]] 0 0] (.v (.bool (isK key c))):=by
 refine qa Tryz.func159 rfl _ Tryz.ntmps159 (Nat.le_of_ble_eq_true rfl) _ Tryz.results159 0 rfl rfl ?_
 repeat' (first|refine qe ?_|fail|((first|refine xsC ?_ ?_);all_goals (intro hc;have hp:=hc;try simp at hp;try (exfalso;omega)))|refine qp ?_ ?_)
 all_goals (apply jd;rfl;rfl)
theorem qgL (p:Com → Bool) (g:FuncId) (hg:IsFn C.P g) (cap:List AV) (hcap:AV.pure.pureL cap = true) (l:List (Com)) (hl:l.length ≤ 1000000) (hc : ∀ s,s ∈ l → jO C.P g ((AV.agg (Com.row s)) :: cap) (.v (.bool (p s)))) :
  jO C.P 158 [.sl false (l.map Com.row),.clo (.func g) [] cap] (.v (.int .i64 (j0 p l))):=by
 refine qa Tryz.func158 rfl _ Tryz.ntmps158 (Nat.le_of_ble_eq_true rfl) _ Tryz.results158 0 rfl rfl ?_
 repeat' (first|refine qe ?_|fail|((first|refine xsC ?_ ?_);all_goals (intro hc;have hp:=hc;try simp at hp;try (exfalso;omega)))|refine qp ?_ ?_)
 (refine Awp.red (qg (ts:=[(0,.sl false (l.map Com.row)),(1,.clo (.func g) [] cap),(7,.v (.int .i64 l.length)),(8,.v (.int .i64 ((0:Nat):Int)))]) ?_) ?_;((repeat (first|exact qd|refine qi ?_|refine qI ?_ ?_))))
 all_goals try (rw [List.length_map];done)
 refine qq (fun n σ => ∃ i:Nat,i ≤ l.length ∧ n = l.length - i ∧ (∀ s,s ∈ l.take i → p s = false) ∧ σ = ⟨[(0,.sl false (l.map Com.row)),(1,.clo (.func g) [] cap),(7,.v (.int .i64 l.length)),(8,.v (.int .i64 (i:Int)))],[],C.nh⟩) l.length ⟨0,Nat.zero_le _,rfl,(by simp),rfl⟩ ?_
 rintro n σ ⟨i,hi,rfl,hsofar,rfl⟩
 by_cases hlt:i < l.length
 ·have hr:=qx (f:=Com.row) hlt
  have hci:=hc l[i] (List.getElem_mem _)
  repeat' (first|refine qe ?_|(first|(apply qj;apply kt [];rfl;exact hg;exact hci;(case hz=>exact qk (qB rfl) (wk hcap));(case hfl=>rfl);(case hN=>exact nle rfl)))|((first|refine xsC ?_ ?_);all_goals (intro hc;have hp:=hc;try simp at hp;try (exfalso;omega)))|refine qp ?_ ?_)
  all_goals try (exfalso;omega)
  ·apply qE
   rfl
   exact (zu hlt hsofar hp).symm
  ·refine ⟨l.length - (i + 1),_,by omega,qg (ts:=[(0,.sl false (l.map Com.row)),(1,.clo (.func g) [] cap),(7,.v (.int .i64 l.length)),(8,.v (.int .i64 ((i + 1:Nat):Int)))]) ?_,i + 1,by omega,rfl,qJ hlt hsofar hp,rfl⟩;((repeat (first|exact qd|refine qi ?_|refine qI ?_ ?_)))
 obtain rfl:i = l.length:=by omega
 repeat' (first|refine qe ?_|fail|((first|refine xsC ?_ ?_);all_goals (intro hc;have hp:=hc;try simp at hp;try (exfalso;omega)))|refine qp ?_ ?_)
 all_goals try (exfalso;omega)
 apply qE
 rfl
 exact (vH fun s hs=>hsofar s (by rw [List.take_length];exact hs)).symm
theorem Zo (l:List Com) (key:qC) (hl:l.length ≤ 1000000):jO C.P 158 [kg l,.clo (.func 159) [] [.fp [[.v (str key)]] 0 0]] (.v (.int .i64 (j0 (isK key) l))) :=
 qgL (isK key) 159 (jP Tryz.func159 rfl rfl) [.fp [[.v (str key)]] 0 0] rfl l hl (fun c _=>qe0 c key)
def qcS (r:Jou × Int × Int):AV := .tup [.agg r.1.row,.v (.int .i64 r.2.1),.v (.int .i64 r.2.2)]
theorem KI {d c:Com} {r:List Com} {x:List AV} {n n0:Nat} (hx:x = c.row) (hn0:n0 = r.length + 1) (hn:n = r.length + 1):((((d :: r).map Com.row).take n0 ++ [x]).drop 1).take n = (((d :: r) ++ [c]).drop 1).map Com.row:=by
 subst hx;subst hn;subst hn0
 rw [List.take_of_length_le (l:=(d :: r).map Com.row) (by simp)]
 simp [List.take_of_length_le]
theorem Kh (j:Jou) (key:qC) (l:List Chg) (hb:JBig j) (hcb:CBig l) (hJ:JRight j) (hkk:zo key = true) (hf:j.coms.find? (isK key) = none) (hl0:¬ l = []) (hbig:¬ 1000000 < ya j) (hz:(vF (ya j) (vc j) l).2.2 = 0) (h31:¬ 30 < j.coms.length + 1) :
  jO C.P 129 [.agg j.row,.v (str key),xu l] (qcS (kv j ⟨ya j,key,l⟩,ya j,0)):=by
 have hll:=hcb.len
 have hml:(l.map Chg.row).length = l.length:=List.length_map ..
 have hmj:(j.coms.map Com.row).length = j.coms.length:=List.length_map ..
 have ho:=XS j hb
 rw [XA (xE.2 hJ)] at ho
 have hk:=V8 key
 rw [hkk] at hk
 have hlen:=hJ.len
 have hN:=hJ.now
 have hlast:=V5 j (vc j) hJ
 have hcl:=Xk j.coms (by omega) (fun c hc=>by have:=wP hJ.base hJ.run c hc;omega)
 have hce:=wN j.base (by have:=hJ.base.len;omega)
 have hidx:=Zo j.coms key (by omega)
 have hi:j0 (isK key) j.coms = -1:=by
  rcases Q0 (isK key) j.coms with ⟨hi,_⟩|⟨k,hkl,hi,hf2⟩
  ·exact hi
  ·rw [hf] at hf2;cases hf2
 rw [hi] at hidx
 have hLb:0 ≤ vy j ∧ vy j ≤ 1000030:=by have:=hJ.lo;have:=hJ.hi;unfold vy;omega
 have hall:=qaT (vc j) l (ya j) hN.big hcb
 have hl1:¬ l.length = 0:=fun e=>hl0 (List.eq_nil_of_length_eq_zero e)
 have hcc:=J6 l (by have:=Zb hN hz;omega)
 have hp31:kv j ⟨ya j,key,l⟩ = if 30 < j.coms.length + 1 then ⟨match j.coms with | []=>j.base|d :: _=>(vF j.first j.base d.chs).1,j.first + 1,(j.coms ++ [(⟨ya j,key,l⟩ : Com)]).drop 1⟩ else ⟨j.base,j.first,j.coms ++ [(⟨ya j,key,l⟩ : Com)]⟩:=rfl
 generalize kv j ⟨ya j,key,l⟩ = PJ at *
 generalize vF (ya j) (vc j) l = A at *
 obtain ⟨t1,n1,e1⟩:=A
 have hz:e1 = 0:=hz
 subst hz
 generalize hnx:ya j = NX at *
 have hnx2:NX = vy j + 1:=hnx.symm
 clear hnx
 generalize vy j = LN at *
 subst hnx2
 generalize vc j = U at *
 rw [if_neg h31] at hp31
 subst hp31
 refine qa Tryz.func129 rfl _ Tryz.ntmps129 (Nat.le_of_ble_eq_true rfl) _ Tryz.results129 0 rfl rfl ?_
 (repeat apply jg);apply qw;(repeat' (first|apply qT|refine xi ?_|refine xe ?_|refine xl ?_|refine xN ?_|refine xj ?_|refine xb ?_|refine vb ?_|refine vl ?_|refine zb ?_|refine vZ ?_|refine Vn ?_|refine vX ?_|refine xX ?_|refine xn ?_|refine yG ?_|(first|fail)|refine yg ?_));show Awp _ _ _ _ _
 refine xV 3 0 ?_
 refine xV 4 1 ?_
 repeat' (first|refine qe ?_|(first|refine xsQ Tryz.func74 (ho ..) ?_|refine xsF Tryz.func118 (hk ..) ?_|refine xsQ Tryz.func101 (hce ..) ?_|(apply qN Tryz.func153 rfl rfl;intro hIsFn;refine yr ([]) hIsFn (hcl ..) ?_)|refine xsF Tryz.func158 (hidx ..) ?_|refine xsF Tryz.func152 (hlast ..) ?_|refine xsQ Tryz.func119 (hall ..) ?_|refine xsQ Tryz.func122 (hcc ..) ?_|(refine jN ?_)|(refine yX ?_))|((first|refine xsC ?_ ?_);all_goals (intro hc;have hp:=hc;try simp at hp;try (exfalso;omega)))|refine qp ?_ ?_)
 (all_goals try (exfalso;first|omega|contradiction))
 all_goals ((refine yu (rs:=[.cell 6 60,.tmp 7,.tmp 8]) ?_;(repeat' (first|exact qL|apply qk|exact qB rfl|exact yi|exact vS|apply jT|apply yl|apply jQ|apply yo|apply jY|apply yq|refine vY ?_|apply y0));all_goals (rw [List.take_of_length_le (by simp),List.map_append];rfl)))
theorem Kc (j:Jou) (key:qC) (l:List Chg) (hb:JBig j) (hcb:CBig l) (hJ:JRight j) (hkk:zo key = true) (hf:j.coms.find? (isK key) = none) (hl0:¬ l = []) (hbig:¬ 1000000 < ya j) (hz:(vF (ya j) (vc j) l).2.2 = 0) (h31:30 < j.coms.length + 1) :
  jO C.P 129 [.agg j.row,.v (str key),xu l] (qcS (kv j ⟨ya j,key,l⟩,ya j,0)):=by
 have hll:=hcb.len
 have hml:(l.map Chg.row).length = l.length:=List.length_map ..
 have hmj:(j.coms.map Com.row).length = j.coms.length:=List.length_map ..
 have ho:=XS j hb
 rw [XA (xE.2 hJ)] at ho
 have hk:=V8 key
 rw [hkk] at hk
 have hlen:=hJ.len
 have hN:=hJ.now
 have hlast:=V5 j (vc j) hJ
 have hcl:=Xk j.coms (by omega) (fun c hc=>by have:=wP hJ.base hJ.run c hc;omega)
 have hce:=wN j.base (by have:=hJ.base.len;omega)
 have hidx:=Zo j.coms key (by omega)
 have hi:j0 (isK key) j.coms = -1:=by
  rcases Q0 (isK key) j.coms with ⟨hi,_⟩|⟨k,hkl,hi,hf2⟩
  ·exact hi
  ·rw [hf] at hf2;cases hf2
 rw [hi] at hidx
 have hLb:0 ≤ vy j ∧ vy j ≤ 1000030:=by have:=hJ.lo;have:=hJ.hi;unfold vy;omega
 have hall:=qaT (vc j) l (ya j) hN.big hcb
 have hl1:¬ l.length = 0:=fun e=>hl0 (List.eq_nil_of_length_eq_zero e)
 have hcc:=J6 l (by have:=Zb hN hz;omega)
 have hp31:kv j ⟨ya j,key,l⟩ = if 30 < j.coms.length + 1 then ⟨match j.coms with | []=>j.base|d :: _=>(vF j.first j.base d.chs).1,j.first + 1,(j.coms ++ [(⟨ya j,key,l⟩ : Com)]).drop 1⟩ else ⟨j.base,j.first,j.coms ++ [(⟨ya j,key,l⟩ : Com)]⟩:=rfl
 generalize kv j ⟨ya j,key,l⟩ = PJ at *
 generalize vF (ya j) (vc j) l = A at *
 obtain ⟨t1,n1,e1⟩:=A
 have hz:e1 = 0:=hz
 subst hz
 generalize hnx:ya j = NX at *
 have hnx2:NX = vy j + 1:=hnx.symm
 clear hnx
 generalize vy j = LN at *
 subst hnx2
 generalize vc j = U at *
 rw [if_pos h31] at hp31
 subst hp31
 obtain ⟨jb,jf,jc⟩:=j
 cases jc with
 | nil=>exact absurd h31 (by simp)
 | cons d r =>
   obtain ⟨q1,q2, -⟩:=zt hJ.run
   have q4:=(z8 q1).1
   have hall2:=qaT jb d.chs jf hJ.base.big (hb.coms.each d (List.mem_cons_self ..)).chs
   have hjl:=hJ.lo
   have hjh:=hJ.hi
   dsimp only at *
   have hlen2:r.length + 1 ≤ 30:=by simpa using hlen
   have h31b:30 < r.length + 1 + 1:=by simpa using h31
   have hjl3:1 ≤ (Jou.mk jb jf (d :: r)).first:=hjl
   have hjh3:(Jou.mk jb jf (d :: r)).first ≤ 1000000:=hjh
   rw [q4] at q2
   generalize vF jf jb d.chs = T2 at *
   obtain ⟨t2,n2,e2⟩:=T2
   have q2:e2 = 0:=q2
   subst q2
   clear hJ hb hi hf q1 q4
   refine qa Tryz.func129 rfl _ Tryz.ntmps129 (Nat.le_of_ble_eq_true rfl) _ Tryz.results129 0 rfl rfl ?_
   (repeat apply jg);apply qw;(repeat' (first|apply qT|refine xi ?_|refine xe ?_|refine xl ?_|refine xN ?_|refine xj ?_|refine xb ?_|refine vb ?_|refine vl ?_|refine zb ?_|refine vZ ?_|refine Vn ?_|refine vX ?_|refine xX ?_|refine xn ?_|refine yG ?_|(first|fail)|refine yg ?_));show Awp _ _ _ _ _
   refine xV 3 0 ?_
   refine xV 4 1 ?_
   repeat' (first|refine qe ?_|(first|refine xsQ Tryz.func74 (ho ..) ?_|refine xsF Tryz.func118 (hk ..) ?_|refine xsQ Tryz.func101 (hce ..) ?_|(apply qN Tryz.func153 rfl rfl;intro hIsFn;refine yr ([]) hIsFn (hcl ..) ?_)|refine xsF Tryz.func158 (hidx ..) ?_|refine xsF Tryz.func152 (hlast ..) ?_|refine xsQ Tryz.func119 (hall ..) ?_|refine xsQ Tryz.func122 (hcc ..) ?_|(refine jN ?_)|(refine yX ?_)|(refine vV ?_)|(refine Jm ?_)|refine xsQ Tryz.func119 (hall2 ..) ?_)|((first|refine xsC ?_ ?_);all_goals (intro hc;have hp:=hc;try simp at hp;try (exfalso;omega)))|refine qp ?_ ?_)
   (all_goals try (exfalso;first|omega|contradiction))
   all_goals ((refine yu (rs:=[.cell 6 60,.tmp 7,.tmp 8]) ?_;(repeat' (first|(exact qig (KI (n0:=(d :: r).length) rfl (by simp) (by simp)) (jq fun _=>rfl) (by simp;try omega))|exact qL|apply qk|exact qB rfl|exact yi|exact vS|apply jT|apply yl|apply jQ|apply yo|apply jY|apply yq|refine vY ?_|apply y0));all_goals trace_state))
theorem KB (j:Jou) (key:qC) (l:List Chg) (hb:JBig j) (hcb:CBig l) (hJ:JRight j) (hkk:zo key = true) (hf:j.coms.find? (isK key) = none) (hl0:¬ l = []) (hbig:¬ 1000000 < ya j) (hz:(vF (ya j) (vc j) l).2.2 = 0) :
  jO C.P 129 [.agg j.row,.v (str key),xu l] (qcS (kv j ⟨ya j,key,l⟩,ya j,0)):=by
 by_cases h31:30 < j.coms.length + 1
 ·exact Kc j key l hb hcb hJ hkk hf hl0 hbig hz h31
 ·exact Kh j key l hb hcb hJ hkk hf hl0 hbig hz h31
theorem qgM (j:Jou) (key:qC) (l:List Chg) (hb:JBig j) (hcb:CBig l):jO C.P 129 [.agg j.row,.v (str key),xu l] (qcS (xr j key l)):=by
 have ho:=XS j hb
 have hk:=V8 key
 have hll:=hcb.len
 have hml:(l.map Chg.row).length = l.length:=List.length_map ..
 have hmj:(j.coms.map Com.row).length = j.coms.length:=List.length_map ..
 by_cases hz:vM j = 0
 ·rw [XA hz] at ho
  have hJ:=xE.1 hz
  have hlen:=hJ.len
  have hE:xr j key l = xU j key l:=by unfold xr;rw [if_neg (by simp [hz])]
  have hN:=hJ.now
  have hlast:=V5 j (vc j) hJ
  have hcl:=Xk j.coms (by omega) (fun c hc=>by have:=wP hJ.base hJ.run c hc;omega)
  have hce:=wN j.base (by have:=hJ.base.len;omega)
  rw [hE]
  unfold xU
  cases hkk:zo key with
  | false =>
    rw [hkk] at hk
    rw [if_pos rfl]
    clear hE hlast hcl hce
    generalize vc j = U at *
    refine qa Tryz.func129 rfl _ Tryz.ntmps129 (Nat.le_of_ble_eq_true rfl) _ Tryz.results129 0 rfl rfl ?_
    repeat' (first|refine qe ?_|(first|refine xsQ Tryz.func74 (ho ..) ?_|refine xsF Tryz.func118 (hk ..) ?_)|((first|refine xsC ?_ ?_);all_goals (intro hc;have hp:=hc;try simp at hp;try (exfalso;omega)))|refine qp ?_ ?_)
    all_goals try (exfalso;omega)
    all_goals ((exact j1 (rs:=[.cell 6 60,.tmp 7,.tmp 8])))
  | true =>
    rw [hkk] at hk
    rw [if_neg (by decide)]
    have hidx:=Zo j.coms key (by omega)
    rcases Q0 (isK key) j.coms with ⟨hi,hf⟩|⟨k,hkl,hi,hf⟩
    ·rw [hf]
     rw [hi] at hidx
     simp only
     have hidx2:=trivial
     have hLb:0 ≤ vy j ∧ vy j ≤ 1000030:=by have:=hJ.lo;have:=hJ.hi;unfold vy;omega
     have hall:=qaT (vc j) l (ya j) hN.big hcb
     have hnx:ya j = vy j + 1:=rfl
     have hpush:=KB j key l hb hcb hJ hkk hf
     generalize kv j ⟨ya j,key,l⟩ = PJ at *
     generalize hAA:vF (ya j) (vc j) l = A at *
     rw [hnx] at *
     clear hE
     by_cases hl0:l = []
     ·subst hl0
      rw [if_pos rfl]
      generalize vc j = U at *
      generalize vy j = LN at *
      refine qa Tryz.func129 rfl _ Tryz.ntmps129 (Nat.le_of_ble_eq_true rfl) _ Tryz.results129 0 rfl rfl ?_
      (repeat apply jg);apply qw;(repeat' (first|apply qT|refine xi ?_|refine xe ?_|refine xl ?_|refine xN ?_|refine xj ?_|refine xb ?_|refine vb ?_|refine vl ?_|refine zb ?_|refine vZ ?_|refine Vn ?_|refine vX ?_|refine xX ?_|refine xn ?_|refine yG ?_|(first|fail)|refine yg ?_));show Awp _ _ _ _ _
      refine xV 3 0 ?_
      refine xV 4 1 ?_
      repeat' (first|refine qe ?_|(first|refine xsQ Tryz.func74 (ho ..) ?_|refine xsF Tryz.func118 (hk ..) ?_|refine xsQ Tryz.func101 (hce ..) ?_|(apply qN Tryz.func153 rfl rfl;intro hIsFn;refine yr ([]) hIsFn (hcl ..) ?_)|refine xsF Tryz.func158 (hidx ..) ?_|refine xsF Tryz.func152 (hlast ..) ?_|refine xsQ Tryz.func119 (hall ..) ?_|fail)|((first|refine xsC ?_ ?_);all_goals (intro hc;have hp:=hc;try simp at hp;try (exfalso;omega)))|refine qp ?_ ?_)
      (all_goals try (exfalso;first|omega|contradiction))
      all_goals ((exact j1 (rs:=[.cell 6 60,.tmp 7,.tmp 8])))
     ·rw [if_neg hl0]
      have hl1:¬ l.length = 0:=fun e=>hl0 (List.eq_nil_of_length_eq_zero e)
      by_cases hbig:1000000 < vy j + 1
      ·rw [if_pos hbig]
       generalize vc j = U at *
       generalize vy j = LN at *
       refine qa Tryz.func129 rfl _ Tryz.ntmps129 (Nat.le_of_ble_eq_true rfl) _ Tryz.results129 0 rfl rfl ?_
       (repeat apply jg);apply qw;(repeat' (first|apply qT|refine xi ?_|refine xe ?_|refine xl ?_|refine xN ?_|refine xj ?_|refine xb ?_|refine vb ?_|refine vl ?_|refine zb ?_|refine vZ ?_|refine Vn ?_|refine vX ?_|refine xX ?_|refine xn ?_|refine yG ?_|(first|fail)|refine yg ?_));show Awp _ _ _ _ _
       refine xV 3 0 ?_
       refine xV 4 1 ?_
       repeat' (first|refine qe ?_|(first|refine xsQ Tryz.func74 (ho ..) ?_|refine xsF Tryz.func118 (hk ..) ?_|refine xsQ Tryz.func101 (hce ..) ?_|(apply qN Tryz.func153 rfl rfl;intro hIsFn;refine yr ([]) hIsFn (hcl ..) ?_)|refine xsF Tryz.func158 (hidx ..) ?_|refine xsF Tryz.func152 (hlast ..) ?_|refine xsQ Tryz.func119 (hall ..) ?_|fail)|((first|refine xsC ?_ ?_);all_goals (intro hc;have hp:=hc;try simp at hp;try (exfalso;omega)))|refine qp ?_ ?_)
       (all_goals try (exfalso;first|omega|contradiction))
       all_goals ((exact j1 (rs:=[.cell 6 60,.tmp 7,.tmp 8])))
      ·rw [if_neg hbig]
       obtain ⟨t1,n1,e1⟩:=A
       by_cases he1:e1 = 0
       ·subst he1
        rw [if_neg (by simp)]
        exact hpush hl0 hbig rfl
       ·rw [if_pos he1]
        generalize vc j = U at *
        generalize vy j = LN at *
        refine qa Tryz.func129 rfl _ Tryz.ntmps129 (Nat.le_of_ble_eq_true rfl) _ Tryz.results129 0 rfl rfl ?_
        (repeat apply jg);apply qw;(repeat' (first|apply qT|refine xi ?_|refine xe ?_|refine xl ?_|refine xN ?_|refine xj ?_|refine xb ?_|refine vb ?_|refine vl ?_|refine zb ?_|refine vZ ?_|refine Vn ?_|refine vX ?_|refine xX ?_|refine xn ?_|refine yG ?_|(first|fail)|refine yg ?_));show Awp _ _ _ _ _
        refine xV 3 0 ?_
        refine xV 4 1 ?_
        repeat' (first|refine qe ?_|(first|refine xsQ Tryz.func74 (ho ..) ?_|refine xsF Tryz.func118 (hk ..) ?_|refine xsQ Tryz.func101 (hce ..) ?_|(apply qN Tryz.func153 rfl rfl;intro hIsFn;refine yr ([]) hIsFn (hcl ..) ?_)|refine xsF Tryz.func158 (hidx ..) ?_|refine xsF Tryz.func152 (hlast ..) ?_|refine xsQ Tryz.func119 (hall ..) ?_|fail)|((first|refine xsC ?_ ?_);all_goals (intro hc;have hp:=hc;try simp at hp;try (exfalso;omega)))|refine qp ?_ ?_)
        (all_goals try (exfalso;first|omega|contradiction))
        all_goals ((exact j1 (rs:=[.cell 6 60,.tmp 7,.tmp 8])))
    ·rw [hf]
     rw [hi] at hidx
     have hr:=qx (f:=Com.row) hkl
     simp only
     clear hE
     generalize vc j = U at *
     refine qa Tryz.func129 rfl _ Tryz.ntmps129 (Nat.le_of_ble_eq_true rfl) _ Tryz.results129 0 rfl rfl ?_
     (repeat apply jg);apply qw;(repeat' (first|apply qT|refine xi ?_|refine xe ?_|refine xl ?_|refine xN ?_|refine xj ?_|refine xb ?_|refine vb ?_|refine vl ?_|refine zb ?_|refine vZ ?_|refine Vn ?_|refine vX ?_|refine xX ?_|refine xn ?_|refine yG ?_|(first|fail)|refine yg ?_));show Awp _ _ _ _ _
     refine xV 3 0 ?_
     refine xV 4 1 ?_
     repeat' (first|refine qe ?_|(first|refine xsQ Tryz.func74 (ho ..) ?_|refine xsF Tryz.func118 (hk ..) ?_|refine xsQ Tryz.func101 (hce ..) ?_|(apply qN Tryz.func153 rfl rfl;intro hIsFn;refine yr ([]) hIsFn (hcl ..) ?_)|refine xsF Tryz.func158 (hidx ..) ?_)|((first|refine xsC ?_ ?_);all_goals (intro hc;have hp:=hc;try simp at hp;try (exfalso;omega)))|refine qp ?_ ?_)
     all_goals try (exfalso;omega)
     all_goals ((exact j1 (rs:=[.cell 6 60,.tmp 7,.tmp 8])))
 ·rw [Kk hz] at ho
  unfold xr
  rw [if_pos hz]
  generalize vM j = E at *
  refine qa Tryz.func129 rfl _ Tryz.ntmps129 (Nat.le_of_ble_eq_true rfl) _ Tryz.results129 0 rfl rfl ?_
  repeat' (first|refine qe ?_|(first|refine xsQ Tryz.func74 (ho ..) ?_)|((first|refine xsC ?_ ?_);all_goals (intro hc;have hp:=hc;try simp at hp;try (exfalso;omega)))|refine qp ?_ ?_)
  all_goals try (exfalso;omega)
  all_goals ((exact j1 (rs:=[.cell 6 60,.tmp 7,.tmp 8])))
end Go.Proofs.YtiljlcgmcmjcoaaGreatDoor
set_option linter.unusedSimpArgs false
set_option linter.unnecessarySimpa false
set_option linter.unusedVariables false
set_option maxHeartbeats 1000000
namespace Go.Proofs.YtiljlcgmcmjcoaaGreatDoor
open Go.Ab Go.RowKit
set_option maxRecDepth 10000
attribute [local irreducible] Awp ye ji qQ Red qF Go.Ab.Fin qo Rz xx qG qO ResOk jK je jX qW
theorem qhS {α:Type} {p:α → Bool} {l:List α} {i:Nat} (h:i < l.length) (hs : ∀ x,x ∈ l.take i → p x = false) (hp:p l[i] = true):l.find? p = some l[i]:=by
 rw [List.find?_eq_some_iff_getElem]
 refine ⟨hp,i,h,rfl,fun j hj=>?_⟩
 have:=hs l[j] (by rw [List.mem_take_iff_getElem];exact ⟨j,by omega,rfl⟩)
 simp [this]
set_option maxHeartbeats 4000000 in
theorem ZF (j:Jou) (key:qC) (l:List Chg) (hb:JBig j) (hcb:CBig l) (hJ:JRight j) (hkl:key.length ≤ 1000000000):jO C.P 55 [.agg j.row,.v (str key),xu l] (qcS (xU j key l)):=by
 have hll:=hcb.len
 have hml:(l.map Chg.row).length = l.length:=List.length_map ..
 have hmj:(j.coms.map Com.row).length = j.coms.length:=List.length_map ..
 have hk:=qbO key (by omega)
 have hlen:=hJ.len
 have hlo:=hJ.lo
 have hhi:=hJ.hi
 have hN:=hJ.now
 have htr:=qbp j hb hJ
 have hall:=WD (vc j) l (j.first + ((j.coms.map Com.row).length:Int)) hN.len (RightE.of (zD.2 hN)) hcb
 rw [← Jo hN] at hall
 have hE:xU j key l = if zo key = false then (kH,0,1) else match j.coms.find? (isK key) with
  | some c=>(j,c.num,0)
  | none=>if l = [] then (kH,0,1) else if 1000000 < ya j then (kH,0,3) else if ¬ (vF (ya j) (vc j) l).2.2 = 0 then (kH,0,(vF (ya j) (vc j) l).2.2) else (kv j ⟨ya j,key,l⟩,ya j,0):=rfl
 have hnx:ya j = j.first + ((j.coms.map Com.row).length:Int):=by rw [Zn,hmj]
 have hp31:kv j ⟨ya j,key,l⟩ = if 30 < j.coms.length + 1 then ⟨match j.coms with | []=>j.base|d :: _=>(vF j.first j.base d.chs).1,j.first + 1,(j.coms ++ [(⟨ya j,key,l⟩ : Com)]).drop 1⟩ else ⟨j.base,j.first,j.coms ++ [(⟨ya j,key,l⟩ : Com)]⟩:=rfl
 generalize kv j ⟨ya j,key,l⟩ = PJ at *
 generalize ya j = NX at *
 subst hnx
 generalize hAA:vF (j.first + ((j.coms.map Com.row).length:Int)) (vc j) l = A at *
 clear hAA
 generalize vc j = U at *
 generalize hO:xU j key l = O at *
 clear hO
 cases hkk:zo key with
 | false =>
   rw [hkk] at hk
   rw [hkk,if_pos rfl] at hE
   subst hE
   refine qa Tryz.func55 rfl _ Tryz.ntmps55 (Nat.le_of_ble_eq_true rfl) _ Tryz.results55 0 rfl rfl ?_
   repeat' (first|refine qe ?_|(first|refine xsF Tryz.func96 (hk ..) ?_)|((first|refine xsC ?_ ?_);all_goals (intro hc;have hp:=hc;try simp at hp;try (exfalso;omega)))|refine qp ?_ ?_)
   all_goals try (exfalso;first|omega|contradiction)
   all_goals ((exact j1 (rs:=[.cell 6 60,.tmp 7,.tmp 8])))
 | true =>
   rw [hkk] at hk
   rw [hkk,if_neg (by decide)] at hE
   refine qa Tryz.func55 rfl _ Tryz.ntmps55 (Nat.le_of_ble_eq_true rfl) _ Tryz.results55 0 rfl rfl ?_
   (repeat apply jg);apply qw;(repeat' (first|apply qT|refine xi ?_|refine xe ?_|refine xl ?_|refine xN ?_|refine xj ?_|refine xb ?_|refine vb ?_|refine vl ?_|refine zb ?_|refine vX ?_|refine xX ?_|refine xn ?_|refine yG ?_|(first|fail)|refine yg ?_));show Awp _ _ _ _ _
   refine xV 3 0 ?_
   repeat' (first|refine qe ?_|(first|refine xsF Tryz.func96 (hk ..) ?_)|((first|refine xsC ?_ ?_);all_goals (intro hc;have hp:=hc;try simp at hp;try (exfalso;omega)))|refine qp ?_ ?_)
   all_goals try (exfalso;first|omega|contradiction)
   (refine Awp.red (qY (τ:=⟨[(1,.v (str key)),(2,xu l),(3,.fp [j.row] 0 0),(6,.op 0 0 0),(9,.v (.int .i64 ((0:Nat):Int)))],[(0,.own false 3 [[.sl true [],.v (.int .i64 0),.sl true []]])],1⟩) [(1,0)] rfl ?gts ?ghs) ?gmain;(case gts=>(repeat (first|exact qd|refine qi ?_|refine xd ?_|refine xL ?_|refine qI ?_ ?_)));(case ghs=>(repeat (first|exact qf|refine jV ?_|refine qH ?_ ?_))))
   refine qq (fun n σ => ∃ i:Nat,i ≤ j.coms.length ∧ n = j.coms.length - i ∧ (∀ c,c ∈ j.coms.take i → isK key c = false) ∧ σ = ⟨[(1,.v (str key)),(2,xu l),(3,.fp [j.row] 0 0),(6,.op 0 0 0),(9,.v (.int .i64 (i:Int)))],[(0,.own false 3 [[.sl true [],.v (.int .i64 0),.sl true []]])],1⟩) j.coms.length ⟨0,Nat.zero_le _,rfl,(by simp),rfl⟩ ?_
   rintro n σ ⟨i,hi,rfl,hsofar,rfl⟩
   by_cases hlt:i < j.coms.length
   ·have hr:=qx (f:=Com.row) hlt
    have hnx:=qJ (p:=fun c=>isK key c = false) hlt hsofar
    by_cases heq:j.coms[i].key = key
    ·rw [qhS hlt hsofar (by simp [isK,heq])] at hE
     have hE:O = (j,j.coms[i].num,0):=hE
     subst hE
     clear hall htr hnx
     repeat' (first|refine qe ?_|fail|((first|refine xsC ?_ ?_);all_goals (intro hc;have hp:=hc;try simp at hp;try (exfalso;omega)))|refine qp ?_ ?_)
     all_goals try (exfalso;first|omega|contradiction)
     all_goals ((exact j1 (rs:=[.cell 6 60,.tmp 7,.tmp 8])))
    ·clear hE hall htr
     repeat' (first|refine qe ?_|fail|((first|refine xsC ?_ ?_);all_goals (intro hc;have hp:=hc;try simp at hp;try (exfalso;omega)))|refine qp ?_ ?_)
     all_goals try (exfalso;first|omega|contradiction)
     refine ⟨j.coms.length - (i + 1),_,by omega,qY (τ:=⟨[(1,.v (str key)),(2,xu l),(3,.fp [j.row] 0 0),(6,.op 0 0 0),(9,.v (.int .i64 ((i + 1:Nat):Int)))],[(0,.own false 3 [[.sl true [],.v (.int .i64 0),.sl true []]])],1⟩) [(0,0)] rfl ?gts ?ghs,i + 1,by omega,rfl,(hnx (by simp [isK,heq])),rfl⟩;(case gts=>(repeat (first|exact qd|refine qi ?_|refine xd ?_|refine xL ?_|refine qI ?_ ?_)));(case ghs=>(repeat (first|exact qf|refine jV ?_|refine qH ?_ ?_)))
   ·obtain rfl:i = j.coms.length:=by omega
    rw [List.take_length] at hsofar
    rw [List.find?_eq_none.2 (fun c hc=>by simp [hsofar c hc])] at hE
    have hE:O = if l = [] then (kH,0,1) else if 1000000 < j.first + ((j.coms.map Com.row).length:Int) then (kH,0,3) else if ¬ A.2.2 = 0 then (kH,0,A.2.2) else (PJ,j.first + ((j.coms.map Com.row).length:Int),0):=hE
    by_cases hl0:l = []
    ·subst hl0
     rw [if_pos rfl] at hE
     subst hE
     clear hall htr
     (repeat' (first|refine qe ?_|(first|fail)|((first|refine xsC ?_ ?_);all_goals (intro hc;have hp:=hc;try simp at hp;try (exfalso;omega)))|refine qp ?_ ?_))
     (all_goals try (exfalso;first|omega|contradiction))
     all_goals ((exact j1 (rs:=[.cell 6 60,.tmp 7,.tmp 8])))
    ·rw [if_neg hl0] at hE
     have hl1:¬ l.length = 0:=fun e=>hl0 (List.eq_nil_of_length_eq_zero e)
     by_cases hbig:1000000 < j.first + ((j.coms.map Com.row).length:Int)
     ·rw [if_pos hbig] at hE
      subst hE
      clear hall htr
      (repeat' (first|refine qe ?_|(first|fail)|((first|refine xsC ?_ ?_);all_goals (intro hc;have hp:=hc;try simp at hp;try (exfalso;omega)))|refine qp ?_ ?_))
      (all_goals try (exfalso;first|omega|contradiction))
      all_goals ((exact j1 (rs:=[.cell 6 60,.tmp 7,.tmp 8])))
     ·rw [if_neg hbig] at hE
      obtain ⟨t1,n1,e1⟩:=A
      by_cases he1:e1 = 0
      ·subst he1
       rw [if_neg (by simp)] at hE
       subst hE
       by_cases h31:30 < j.coms.length + 1
       ·rw [if_pos h31] at hp31
        subst hp31
        obtain ⟨jb,jf,jc⟩:=j
        cases jc with
        | nil=>exact absurd h31 (by simp)
        | cons d r =>
          obtain ⟨q1,q2, -⟩:=zt hJ.run
          have q4:=(z8 q1).1
          have hall2:=WD jb d.chs jf hJ.base.len (RightE.of (zD.2 hJ.base)) (hb.coms.each d (List.mem_cons_self ..)).chs
          rw [← Jo hJ.base] at hall2
          dsimp only at *
          have hlen2:r.length + 1 ≤ 30:=by simpa using hlen
          have h31b:30 < r.length + 1 + 1:=by simpa using h31
          have hjl3:1 ≤ (Jou.mk jb jf (d :: r)).first:=hlo
          have hjh3:(Jou.mk jb jf (d :: r)).first ≤ 1000000:=hhi
          have hmj3:((Jou.mk jb jf (d :: r)).coms.map Com.row).length = r.length + 1:=by simp
          rw [q4] at q2
          generalize vF jf jb d.chs = T2 at *
          obtain ⟨t2,n2,e2⟩:=T2
          have q2:e2 = 0:=q2
          subst q2
          clear hJ hb hsofar q1 q4
          (repeat' (first|refine qe ?_|(first|refine xsQ Tryz.func28 (htr ..) ?_|refine xsQ Tryz.func97 (hall ..) ?_|(refine jN ?_)|(refine vL ?_)|(refine yX ?_)|(refine vV ?_)|(refine Jm ?_)|refine xsQ Tryz.func97 (hall2 ..) ?_)|((first|refine xsC ?_ ?_);all_goals (intro hc;have hp:=hc;try simp at hp;try (exfalso;omega)))|refine qp ?_ ?_))
          (all_goals try (exfalso;first|omega|contradiction))
          all_goals ((refine yu (rs:=[.cell 6 60,.tmp 7,.tmp 8]) ?_;(repeat' (first|(exact qig (KI (n0:=((Jou.mk jb jf (d :: r)).coms.map Com.row).length) rfl (by simp) (by simp)) (jq fun _=>rfl) (by simp;try omega))|exact qL|apply qk|exact qB rfl|exact yi|exact vS|apply jT|apply yl|apply jQ|apply yo|apply jY|apply yq|refine vY ?_|apply y0));all_goals trace_state))
       ·rw [if_neg h31] at hp31
        subst hp31
        (repeat' (first|refine qe ?_|(first|refine xsQ Tryz.func28 (htr ..) ?_|refine xsQ Tryz.func97 (hall ..) ?_|(refine jN ?_)|(refine vL ?_)|(refine yX ?_))|((first|refine xsC ?_ ?_);all_goals (intro hc;have hp:=hc;try simp at hp;try (exfalso;omega)))|refine qp ?_ ?_))
        (all_goals try (exfalso;first|omega|contradiction))
        all_goals ((refine yu (rs:=[.cell 6 60,.tmp 7,.tmp 8]) ?_;(repeat' (first|exact qL|apply qk|exact qB rfl|exact yi|exact vS|apply jT|apply yl|apply jQ|apply yo|apply jY|apply yq|refine vY ?_|apply y0));all_goals (rw [List.take_of_length_le (by simp),List.map_append];rfl)))
      ·rw [if_pos he1] at hE
       subst hE
       (repeat' (first|refine qe ?_|(first|refine xsQ Tryz.func28 (htr ..) ?_|refine xsQ Tryz.func97 (hall ..) ?_)|((first|refine xsC ?_ ?_);all_goals (intro hc;have hp:=hc;try simp at hp;try (exfalso;omega)))|refine qp ?_ ?_))
       (all_goals try (exfalso;first|omega|contradiction))
       all_goals ((exact j1 (rs:=[.cell 6 60,.tmp 7,.tmp 8])))
end Go.Proofs.YtiljlcgmcmjcoaaGreatDoor
