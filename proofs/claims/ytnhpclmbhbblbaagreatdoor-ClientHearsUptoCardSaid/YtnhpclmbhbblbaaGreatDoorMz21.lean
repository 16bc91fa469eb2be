import Derived.Test.YtnhpclmbhbblbaaGreatDoorMz7
import Derived.Test.YtnhpclmbhbblbaaGreatDoorMz17
import Derived.Test.YtnhpclmbhbblbaaGreatDoorMz12
import Derived.Test.YtnhpclmbhbblbaaGreatDoorMz20
import Derived.Test.YtnhpclmbhbblbaaGreatDoorMz13
import Derived.Test.YtnhpclmbhbblbaaGreatDoorMz14
set_option linter.unusedSimpArgs false
set_option linter.unnecessarySimpa false
set_option linter.unusedVariables false
namespace Go.Proofs.YtnhpclmbhbblbaaGreatDoor
open Go.Ab Go.RowKit
structure Cli where
 who:qQ
 folder:qQ
 base:List Ent
 cursor:Int
 mine:List Ent
 key:qQ
 asked:List Chg
 keys:Int
 deriving DecidableEq
def Cli.row (c:Cli):List AV:=[.v (str c.who),.v (str c.folder),qb c.base,.v (.int .i64 c.cursor),qb c.mine,.v (str c.key),vM c.asked,.v (.int .i64 c.keys)]
structure CliBig (c:Cli):Prop where
 who:c.who.length ≤ 1000000000
 folder:c.folder.length ≤ 1000000000
 base:EBig c.base
 mine:EBig c.mine
 key:c.key.length ≤ 1000000000
 asked:CBig c.asked
def zl:Cli:=⟨[],[],[],0,[],[],[],0⟩
def JN (n:Int):Bool:=decide (0 ≤ n) && decide (n ≤ 1000000)
def zI (c:Cli):Prop:=jP c.who = false ∨ jP c.folder = false ∨ zR c.who = false ∨ 10 < c.who.length
instance (c:Cli):Decidable (zI c):=by unfold zI;infer_instance
def wP (c:Cli):Int :=
 if JN c.cursor = false ∨ JN c.keys = false then 3
 else if ¬ c.key = [] ∧ zR c.key = false then 1
 else if ¬ (c.key = [] ↔ c.asked = []) then 4
 else if 20 < c.asked.length then 2 else 0
def yX (c:Cli):Int :=
 if zI c then 1 else if ¬ qD c.base = 0 then qD c.base else if ¬ qD c.mine = 0 then qD c.mine else wP c
structure CRight (c:Cli):Prop where
 nwho:jP c.who = true
 nfolder:jP c.folder = true
 kwho:zR c.who = true
 lwho:c.who.length ≤ 10
 base:qD c.base = 0
 mine:qD c.mine = 0
 cur:0 ≤ c.cursor ∧ c.cursor ≤ 1000000
 keys:0 ≤ c.keys ∧ c.keys ≤ 1000000
 key:c.key = [] ∨ zR c.key = true
 ask:c.key = [] ↔ c.asked = []
 few:c.asked.length ≤ 20
theorem WO {n:Int}:JN n = true ↔ 0 ≤ n ∧ n ≤ 1000000:=by simp [JN]
theorem Qy {c:Cli}:yX c = 0 ↔ CRight c:=by
 unfold yX wP
 constructor
 ·intro h
  split at h
  ·cases h
  ·rename_i hh
   unfold zI at hh
   simp only [not_or,Bool.not_eq_false,Nat.not_lt] at hh
   split at h
   ·contradiction
   ·split at h
    ·contradiction
    ·rename_i h1 h2
     split at h
     ·cases h
     ·rename_i h3
      simp only [not_or,Bool.not_eq_false,WO] at h3
      split at h
      ·cases h
      ·rename_i h4
       split at h
       ·cases h
       ·rename_i h5
        split at h
        ·cases h
        ·rename_i h6
         refine ⟨hh.1,hh.2.1,hh.2.2.1,hh.2.2.2,Classical.not_not.1 h1,Classical.not_not.1 h2,h3.1,h3.2,?_,Classical.not_not.1 h5,by omega⟩
         by_cases hk:c.key = []
         ·exact .inl hk
         ·exact .inr (by cases hx:zR c.key with
           | true=>rfl
           | false=>exact absurd ⟨hk,hx⟩ h4)
 ·intro h
  have hh:¬ zI c:=by
   unfold zI
   simp only [not_or,Bool.not_eq_false,Nat.not_lt]
   exact ⟨h.nwho,h.nfolder,h.kwho,h.lwho⟩
  rw [if_neg hh,if_neg (by simp [h.base]),if_neg (by simp [h.mine]),if_neg,if_neg,if_neg (by simp [h.ask]),if_neg (by have:=h.few;omega)]
  ·rintro ⟨h1,h2⟩
   rcases h.key with hk|hk
   ·exact h1 hk
   ·rw [hk] at h2;cases h2
  ·simp only [not_or,Bool.not_eq_false,WO]
   exact ⟨h.cur,h.keys⟩
def Zz (who folder:qQ):Cli:=⟨who,folder,[],0,[],[],[],0⟩
def qhe (r:Cli × Int):AV := .tup [.agg r.1.row,.v (.int .i64 r.2)]
def qem (e:Int) (c:Cli):Cli × Int:=if e = 0 then (c,0) else (zl,e)
def qdR (c:Cli) (x:Chg):Int:=if ¬ x.base = -1 then 3 else Qt c.mine x 1
def qdS (c:Cli) (x:Chg):Cli × Int:=if ¬ yX c = 0 then (zl,yX c) else qem (qdR c x) { c with mine:=Xd c.mine x 1 }
def reb (b:Int) (x:Chg):Chg := { x with base:=b }
def Kj (c:Cli):List Chg:=((KR c.base c.mine).take 20).map (reb c.cursor)
def Ki (c:Cli):Cli := { c with keys:=c.keys + 1,key:=c.who ++ [45] ++ Lib.itoa (c.keys + 1),asked:=Kj c }
def qgv (c:Cli):Rqt:=⟨1,c.who,c.folder,[],c.key,[],0,0,0,c.asked⟩
def qey (c:Cli):Cli × Rqt × Bool × Int :=
 if c.key = [] then (if KR c.base c.mine = [] then (c,qej,false,0) else if c.keys = 1000000 then (zl,qej,false,3) else (Ki c,qgv (Ki c),true,0)) else (c,qgv c,true,0)
def qbW (c:Cli):Cli × Rqt × Bool × Int:=if ¬ yX c = 0 then (zl,qej,false,yX c) else qey c
def qhp (r:Cli × Rqt × Bool × Int):AV := .tup [.agg r.1.row,.agg r.2.1.row,.v (.bool r.2.2.1),.v (.int .i64 r.2.2.2)]
theorem qf0 {n:Nat} {xs:List AV} (h:kV C.tab 1000000000 n 38 xs) : ∃ c:Cli,xs = c.row ∧ CliBig c:=by
 cases n with
 | zero=>exact h.elim
 | succ n =>
   obtain ⟨_,_,rfl,h0,_,_,rfl,h1,_,_,rfl,h2,_,_,rfl,h3,_,_,rfl,h4,_,_,rfl,h5,_,_,rfl,h6,_,_,rfl,h7,rfl⟩:=(show Q0 C.tab 0 _ = some _ → Kp (kV C.tab 1000000000 n) [(0,9),(1,9),(2,22),(3,3),(4,22),(5,9),(6,36),(7,3)] xs from h) rfl
   obtain ⟨a0,rfl,l0⟩:=wd h0
   obtain ⟨a1,rfl,l1⟩:=wd h1
   obtain ⟨a2,rfl,l2⟩:=Zp h2
   obtain ⟨a3,rfl,_⟩:=wc h3
   obtain ⟨a4,rfl,l4⟩:=Zp h4
   obtain ⟨a5,rfl,l5⟩:=wd h5
   obtain ⟨a6,rfl,l6⟩:=qaz h6
   obtain ⟨a7,rfl,_⟩:=wc h7
   exact ⟨⟨a0,a1,a2,a3,a4,a5,a6,a7⟩,rfl,l0,l1,l2,l4,l5,l6⟩
theorem qfW {y:AV} (h:Wd C.tab 1000000000 38 y) : ∃ c:Cli,y = .agg c.row ∧ CliBig c:=by
 obtain ⟨n,xs,rfl,h2⟩:=(show ∃ n xs,y = .agg xs ∧ kV C.tab 1000000000 n 38 xs from h)
 obtain ⟨c,rfl,hc⟩:=qf0 h2
 exact ⟨c,rfl,hc⟩
end Go.Proofs.YtnhpclmbhbblbaaGreatDoor
set_option linter.unusedSimpArgs false
set_option linter.unnecessarySimpa false
set_option linter.unusedVariables false
set_option maxHeartbeats 1000000
namespace Go.Proofs.YtnhpclmbhbblbaaGreatDoor
open Go.Ab Go.RowKit
set_option maxRecDepth 10000
attribute [local irreducible] Awp yl jE jl Red qX Go.Ab.Fin qW Rz vl jj ji ResOk jV jz yb jv
theorem ZE (n:Int):yO C.P 55 [.v (.int .i64 n),.v (.int .i64 0),.v (.int .i64 1000000)] (.v (.bool (JN n))):=by
 refine qa Tryz.func55 rfl _ Tryz.ntmps55 (Nat.le_of_ble_eq_true rfl) _ Tryz.results55 0 rfl rfl ?_
 repeat' (first|refine qm ?_|fail|((first|refine qd ?_ ?_|refine qc ?_ ?_|refine xsC ?_ ?_);all_goals (intro hc;have hp:=hc;try simp at hp;try (exfalso;omega)))|refine qO ?_ ?_)
 all_goals (apply jB;rfl;(simp_all [JN];try omega))
set_option maxHeartbeats 4000000 in
theorem Ym (c:Cli) (hb:CliBig c):yO C.P 22 [.agg c.row] (.v (.int .i64 (yX c))):=by
 have h1:=WK c.who (by have:=hb.who;omega)
 have h2:=WK c.folder (by have:=hb.folder;omega)
 have h3:=qbA c.who
 have h4:=qbA c.key
 have h5:=ZE c.cursor
 have h6:=ZE c.keys
 have hl:=hb.asked.len
 have hE:yX c = if zI c then 1 else if ¬ qD c.base = 0 then qD c.base else if ¬ qD c.mine = 0 then qD c.mine else wP c:=rfl
 have hH:zI c ↔ (jP c.who = false ∨ jP c.folder = false ∨ zR c.who = false ∨ 10 < c.who.length):=Iff.rfl
 have hT:wP c = if JN c.cursor = false ∨ JN c.keys = false then 3 else if ¬ c.key = [] ∧ zR c.key = false then 1 else if ¬ (c.key = [] ↔ c.asked = []) then 4 else if 20 < c.asked.length then 2 else 0:=rfl
 have hn0:c.asked = [] ↔ c.asked.length = 0:=List.length_eq_zero_iff.symm
 have hml:(c.asked.map Chg.row).length = c.asked.length:=List.length_map ..
 generalize jP c.who = n1 at *
 generalize jP c.folder = n2 at *
 generalize zR c.who = n3 at *
 generalize zR c.key = n4 at *
 generalize JN c.cursor = n5 at *
 generalize JN c.keys = n6 at *
 generalize wP c = T at *
 generalize yX c = E at *
 by_cases hh:zI c
 ·rw [if_pos hh] at hE
  rw [hE]
  rw [hH] at hh
  refine qa Tryz.func22 rfl _ Tryz.ntmps22 (Nat.le_of_ble_eq_true rfl) _ Tryz.results22 0 rfl rfl ?_
  cases n1<;>cases n2<;>cases n3
  all_goals (repeat' (first|refine qm ?_|(first|refine jc Tryz.func53 (h1 ..) ?_|refine jc Tryz.func53 (h2 ..) ?_|refine jc Tryz.func54 (h3 ..) ?_)|((first|refine qd ?_ ?_|refine qc ?_ ?_|refine xsC ?_ ?_);all_goals (intro hc;have hp:=hc;try simp at hp;try (exfalso;omega)))|refine qO ?_ ?_))
  all_goals try (exfalso;first|omega|(simp_all;omega))
  all_goals (apply jL;rfl;rfl)
 ·rw [if_neg hh] at hE
  rw [hH] at hh
  simp only [not_or,Bool.not_eq_false,Nat.not_lt] at hh
  obtain ⟨rfl,rfl,rfl,hw10⟩:=hh
  have hEl : ∀ x,x ∈ ([c.base,c.mine]:List (List Ent)) → EBig x:=by
   intro x hx
   simp only [List.mem_cons,List.not_mem_nil,or_false] at hx
   rcases hx with rfl|rfl
   ·exact hb.base
   ·exact hb.mine
  have hE:E = if ¬ j3 qD [c.base,c.mine] = 0 then j3 qD [c.base,c.mine] else T:=by
   rw [hE]
   simp only [j3]
   by_cases hz1:qD c.base = 0<;>by_cases hz2:qD c.mine = 0<;>simp [hz1,hz2]
  clear hH
  refine qa Tryz.func22 rfl _ Tryz.ntmps22 (Nat.le_of_ble_eq_true rfl) _ Tryz.results22 0 rfl rfl ?_
  repeat' (first|refine qm ?_|(first|refine jc Tryz.func53 (h1 ..) ?_|refine jc Tryz.func53 (h2 ..) ?_|refine jc Tryz.func54 (h3 ..) ?_|(refine jM ?_))|((first|refine qd ?_ ?_|refine qc ?_ ?_|refine xsC ?_ ?_);all_goals (intro hc;have hp:=hc;try simp at hp;try (exfalso;omega)))|refine qO ?_ ?_)
  all_goals try (exfalso;first|omega|(simp_all;omega))
  (refine Awp.red (qC (τ:=⟨[(1,.op 0 0 0),(32,.sl true (([c.base,c.mine]:List (List Ent)).map wb)),(33,.v (.int .i64 ((([c.base,c.mine]:List (List Ent)).length:Nat):Int))),(34,.v (.int .i64 ((0:Nat):Int)))],[(0,.own false 8 [c.row])],1⟩) [(0,0)] rfl ?gts ?ghs) ?gmain;(case gts=>(repeat (first|exact qg|refine qn ?_|refine ye ?_|refine vj ?_|refine qS ?_ ?_)));(case ghs=>(repeat (first|exact qj|refine yA ?_|refine q9 ?_ ?_))))
  clear h1 h2 h3
  have hl2:([c.base,c.mine]:List (List Ent)).length = 2:=rfl
  generalize ([c.base,c.mine]:List (List Ent)) = l at *
  refine qP (fun n σ => ∃ i:Nat,i ≤ l.length ∧ n = l.length - i ∧ (∀ t,t ∈ l.take i → qD t = 0) ∧ σ = ⟨[(1,.op 0 0 0),(32,.sl true (l.map wb)),(33,.v (.int .i64 (l.length:Int))),(34,.v (.int .i64 (i:Int)))],[(0,.own false 8 [c.row])],1⟩) l.length ⟨0,Nat.zero_le _,rfl,(by simp),rfl⟩ ?_
  rintro n σ ⟨i,hi,rfl,hsofar,rfl⟩
  by_cases hlt:i < l.length
  ·have hr:=js (f:=wb) hlt
   have hct:=wn l[i] (hEl _ (List.getElem_mem _))
   repeat' (first|refine qm ?_|(first|refine xsQ Tryz.func15 (hct ..) ?_)|((first|refine qd ?_ ?_|refine qc ?_ ?_|refine xsC ?_ ?_);all_goals (intro hc;have hp:=hc;try simp at hp;try (exfalso;omega)))|refine qO ?_ ?_)
   all_goals try (exfalso;omega)
   ·apply jL
    rfl
    have hfe:=Jc hlt hsofar (by assumption)
    rw [hE,hfe,if_pos (by assumption)]
   ·refine ⟨l.length - (i + 1),_,by omega,qC (τ:=⟨[(1,.op 0 0 0),(32,.sl true (l.map wb)),(33,.v (.int .i64 (l.length:Int))),(34,.v (.int .i64 ((i + 1:Nat):Int)))],[(0,.own false 8 [c.row])],1⟩) [(0,0)] rfl ?gts ?ghs,i + 1,by omega,rfl,(jU hlt hsofar (by assumption)),rfl⟩;(case gts=>(repeat (first|exact qg|refine qn ?_|refine ye ?_|refine vj ?_|refine qS ?_ ?_));all_goals skip);(case ghs=>(repeat (first|exact qj|refine yA ?_|refine q9 ?_ ?_));all_goals skip)
  obtain rfl:i = l.length:=by omega
  have hz:j3 qD l = 0:=vA.2 (fun s hs=>hsofar s (by rw [List.take_length];exact hs))
  rw [hz,if_neg (by decide)] at hE
  clear hsofar hEl
  subst hE
  repeat' (first|refine qm ?_|(first|refine jc Tryz.func55 (h5 ..) ?_|refine jc Tryz.func55 (h6 ..) ?_|refine jc Tryz.func54 (h4 ..) ?_|(refine W0 ?_))|((first|refine qd ?_ ?_|refine qc ?_ ?_|refine xsC ?_ ?_);all_goals (intro hc;have hp:=hc;try simp at hp;try (exfalso;omega)))|refine qO ?_ ?_)
  all_goals try (exfalso;omega)
  all_goals (apply jL;rfl;rw [hT];clear hT h4 h5 h6 hb hE hl2 hn0 hml hz)
  all_goals ((repeat' split)<;>first|rfl|(exfalso;omega)|(exfalso;simp_all;done)|(exfalso;simp_all;omega))
end Go.Proofs.YtnhpclmbhbblbaaGreatDoor
set_option linter.unusedSimpArgs false
set_option linter.unnecessarySimpa false
set_option linter.unusedVariables false
set_option maxHeartbeats 1000000
namespace Go.Proofs.YtnhpclmbhbblbaaGreatDoor
open Go.Ab Go.RowKit
set_option maxRecDepth 10000
attribute [local irreducible] Awp yl jE jl Red qX Go.Ab.Fin qW Rz vl jj ji ResOk jV jz yb jv
theorem WY {who folder:qQ} (hw:who.length ≤ 1000000000) (hf:folder.length ≤ 1000000000):CliBig (Zz who folder) :=
 ⟨hw,hf,⟨fun _ h=>(by cases h),(by simp [Zz])⟩,⟨fun _ h=>(by cases h),(by simp [Zz])⟩,(by simp [Zz]),⟨fun _ h=>(by cases h),(by simp [Zz])⟩⟩
theorem qgo (who folder:qQ) (hw:who.length ≤ 1000000000) (hf:folder.length ≤ 1000000000):yO C.P 49 [.v (str who),.v (str folder)] (qhe (qem (yX (Zz who folder)) (Zz who folder))):=by
 have h1:=Ym _ (WY hw hf)
 unfold qem
 generalize yX (Zz who folder) = E at *
 by_cases hz:E = 0
 ·subst hz
  rw [if_pos rfl]
  refine qa Tryz.func49 rfl _ Tryz.ntmps49 (Nat.le_of_ble_eq_true rfl) _ Tryz.results49 0 rfl rfl ?_
  repeat' (first|refine qm ?_|(first|refine xsQ Tryz.func22 (h1 ..) ?_)|((first|refine xsC ?_ ?_);all_goals (intro hc;have hp:=hc;try simp at hp;try (exfalso;omega)))|refine qO ?_ ?_)
  all_goals try (exfalso;omega)
  all_goals ((exact xE (rs:=[.cell 4 38,.tmp 5])))
 ·rw [if_neg hz]
  refine qa Tryz.func49 rfl _ Tryz.ntmps49 (Nat.le_of_ble_eq_true rfl) _ Tryz.results49 0 rfl rfl ?_
  repeat' (first|refine qm ?_|(first|refine xsQ Tryz.func22 (h1 ..) ?_)|((first|refine xsC ?_ ?_);all_goals (intro hc;have hp:=hc;try simp at hp;try (exfalso;omega)))|refine qO ?_ ?_)
  all_goals try (exfalso;omega)
  all_goals ((exact xE (rs:=[.cell 4 38,.tmp 5])))
theorem Ju (c:Cli) (h1:c.base.length ≤ 1000000) (h2:c.mine.length ≤ 1000000) (h3:c.asked.length ≤ 1000000):yO C.P 43 [.agg c.row] (.agg c.row):=by
 have g1:=Jt c.base h1
 have g2:=Jt c.mine h2
 have g3:=Xc c.asked h3
 refine qa Tryz.func43 rfl _ Tryz.ntmps43 (Nat.le_of_ble_eq_true rfl) _ Tryz.results43 0 rfl rfl ?_
 repeat' (first|refine qm ?_|(first|refine xsQ Tryz.func75 (g1 ..) ?_|refine xsQ Tryz.func75 (g2 ..) ?_|refine xsQ Tryz.func77 (g3 ..) ?_)|((first|refine xsC ?_ ?_);all_goals (intro hc;have hp:=hc;try simp at hp;try (exfalso;omega)))|refine qO ?_ ?_)
 all_goals try (exfalso;omega)
 all_goals ((exact xE (rs:=[.cell 2 38])))
theorem qgi (c:Cli) (x:Chg) (hb:CliBig c) (hx:x.small):yO C.P 50 [.agg c.row,.agg x.row] (qhe (qdS c x)):=by
 have h1:=Ym c hb
 have h2:=qeI c.mine x 1 hb.mine hx
 have hE:qdR c x = if ¬ x.base = -1 then 3 else Qt c.mine x 1:=rfl
 unfold qdS
 by_cases hz:yX c = 0
 ·rw [if_neg (by simp [hz])]
  have hR:=Qy.1 hz
  have h3:=Ju c (by have:=(ju.1 hR.base).len;omega) (by have:=(ju.1 hR.mine).len;omega) (by have:=hR.few;omega)
  rw [hz] at h1
  generalize qdR c x = G at *
  generalize Xd c.mine x 1 = L at *
  generalize Qt c.mine x 1 = A at *
  by_cases hb1:x.base = -1
  ·rw [if_neg (by simp [hb1])] at hE
   subst hE
   by_cases hA:G = 0
   ·subst hA
    refine qa Tryz.func50 rfl _ Tryz.ntmps50 (Nat.le_of_ble_eq_true rfl) _ Tryz.results50 0 rfl rfl ?_
    repeat' (first|refine qm ?_|(first|refine xsQ Tryz.func22 (h1 ..) ?_|refine xsQ Tryz.func40 (h2 ..) ?_|refine xsQ Tryz.func43 (h3 ..) ?_)|((first|refine xsC ?_ ?_);all_goals (intro hc;have hp:=hc;try simp at hp;try (exfalso;omega)))|refine qO ?_ ?_)
    all_goals try (exfalso;omega)
    all_goals ((exact xE (rs:=[.cell 4 38,.tmp 5])))
   ·rw [show qem G { c with mine:=L } = (zl,G) from if_neg hA]
    refine qa Tryz.func50 rfl _ Tryz.ntmps50 (Nat.le_of_ble_eq_true rfl) _ Tryz.results50 0 rfl rfl ?_
    repeat' (first|refine qm ?_|(first|refine xsQ Tryz.func22 (h1 ..) ?_|refine xsQ Tryz.func40 (h2 ..) ?_|refine xsQ Tryz.func43 (h3 ..) ?_)|((first|refine xsC ?_ ?_);all_goals (intro hc;have hp:=hc;try simp at hp;try (exfalso;omega)))|refine qO ?_ ?_)
    all_goals try (exfalso;omega)
    all_goals ((exact xE (rs:=[.cell 4 38,.tmp 5])))
  ·rw [if_pos hb1] at hE
   subst hE
   rw [show qem 3 { c with mine:=L } = (zl,3) from rfl]
   refine qa Tryz.func50 rfl _ Tryz.ntmps50 (Nat.le_of_ble_eq_true rfl) _ Tryz.results50 0 rfl rfl ?_
   repeat' (first|refine qm ?_|(first|refine xsQ Tryz.func22 (h1 ..) ?_)|((first|refine xsC ?_ ?_);all_goals (intro hc;have hp:=hc;try simp at hp;try (exfalso;omega)))|refine qO ?_ ?_)
   all_goals try (exfalso;omega)
   all_goals ((exact xE (rs:=[.cell 4 38,.tmp 5])))
 ·rw [if_pos hz]
  generalize yX c = E at *
  refine qa Tryz.func50 rfl _ Tryz.ntmps50 (Nat.le_of_ble_eq_true rfl) _ Tryz.results50 0 rfl rfl ?_
  repeat' (first|refine qm ?_|(first|refine xsQ Tryz.func22 (h1 ..) ?_)|((first|refine xsC ?_ ?_);all_goals (intro hc;have hp:=hc;try simp at hp;try (exfalso;omega)))|refine qO ?_ ?_)
  all_goals try (exfalso;omega)
  all_goals ((exact xE (rs:=[.cell 4 38,.tmp 5])))
end Go.Proofs.YtnhpclmbhbblbaaGreatDoor
set_option linter.unusedSimpArgs false
set_option linter.unnecessarySimpa false
set_option linter.unusedVariables false
set_option maxHeartbeats 1000000
namespace Go.Proofs.YtnhpclmbhbblbaaGreatDoor
open Go.Ab Go.RowKit
set_option maxRecDepth 10000
attribute [local irreducible] Awp yl jE jl Red qX Go.Ab.Fin qW Rz vl jj ji ResOk jV jz yb jv
theorem ZB (n:Int):yO C.P 47 [.v (.int .i64 n)] (.v (.bool (JN n))):=by
 refine qa Tryz.func47 rfl _ Tryz.ntmps47 (Nat.le_of_ble_eq_true rfl) _ Tryz.results47 0 rfl rfl ?_
 repeat' (first|refine qm ?_|fail|((first|refine qd ?_ ?_|refine qc ?_ ?_|refine xsC ?_ ?_);all_goals (intro hc;have hp:=hc;try simp at hp;try (exfalso;omega)))|refine qO ?_ ?_)
 all_goals (apply jB;rfl;(simp_all [JN];try omega))
set_option maxHeartbeats 4000000 in
theorem qb2 (c:Cli) (hb:CliBig c) (hct1:yO C.P 28 [qb c.base] (.v (.int .i64 (qD c.base)))) (hct2:yO C.P 28 [qb c.mine] (.v (.int .i64 (qD c.mine)))):yO C.P 18 [.agg c.row] (.v (.int .i64 (yX c))):=by
 have h1:=Xl c.who (by have:=hb.who;omega)
 have h2:=Xl c.folder (by have:=hb.folder;omega)
 have h3:=Wn c.who (by have:=hb.who;omega)
 have h4:=Wn c.key (by have:=hb.key;omega)
 have h5:=ZB c.cursor
 have h6:=ZB c.keys
 have hl:=hb.asked.len
 have hE:yX c = if zI c then 1 else if ¬ qD c.base = 0 then qD c.base else if ¬ qD c.mine = 0 then qD c.mine else wP c:=rfl
 have hH:zI c ↔ (jP c.who = false ∨ jP c.folder = false ∨ zR c.who = false ∨ 10 < c.who.length):=Iff.rfl
 have hT:wP c = if JN c.cursor = false ∨ JN c.keys = false then 3 else if ¬ c.key = [] ∧ zR c.key = false then 1 else if ¬ (c.key = [] ↔ c.asked = []) then 4 else if 20 < c.asked.length then 2 else 0:=rfl
 have hn0:c.asked = [] ↔ c.asked.length = 0:=List.length_eq_zero_iff.symm
 have hml:(c.asked.map Chg.row).length = c.asked.length:=List.length_map ..
 generalize jP c.who = n1 at *
 generalize jP c.folder = n2 at *
 generalize zR c.who = n3 at *
 generalize zR c.key = n4 at *
 generalize JN c.cursor = n5 at *
 generalize JN c.keys = n6 at *
 generalize wP c = T at *
 generalize yX c = E at *
 generalize qD c.base = e1 at *
 generalize qD c.mine = e2 at *
 by_cases hh:zI c
 ·rw [if_pos hh] at hE
  rw [hE]
  rw [hH] at hh
  refine qa Tryz.func18 rfl _ Tryz.ntmps18 (Nat.le_of_ble_eq_true rfl) _ Tryz.results18 0 rfl rfl ?_
  cases n1<;>cases n2<;>cases n3
  all_goals (repeat' (first|refine qm ?_|(first|refine jc Tryz.func45 (h1 ..) ?_|refine jc Tryz.func45 (h2 ..) ?_|refine jc Tryz.func46 (h3 ..) ?_)|((first|refine qd ?_ ?_|refine qc ?_ ?_|refine xsC ?_ ?_);all_goals (intro hc;have hp:=hc;try simp at hp;try (exfalso;omega)))|refine qO ?_ ?_))
  all_goals try (exfalso;first|omega|(simp_all;omega))
  all_goals (apply jL;rfl;rfl)
 ·rw [if_neg hh] at hE
  rw [hH] at hh
  simp only [not_or,Bool.not_eq_false,Nat.not_lt] at hh
  obtain ⟨rfl,rfl,rfl,hw10⟩:=hh
  clear hH
  by_cases hz1:e1 = 0
  ·subst hz1
   rw [if_neg (by simp)] at hE
   by_cases hz2:e2 = 0
   ·subst hz2
    rw [if_neg (by simp)] at hE
    subst hE
    refine qa Tryz.func18 rfl _ Tryz.ntmps18 (Nat.le_of_ble_eq_true rfl) _ Tryz.results18 0 rfl rfl ?_
    repeat' (first|refine qm ?_|(first|refine jc Tryz.func45 (h1 ..) ?_|refine jc Tryz.func45 (h2 ..) ?_|refine jc Tryz.func46 (h3 ..) ?_|refine jc Tryz.func28 (hct1 ..) ?_|refine jc Tryz.func28 (hct2 ..) ?_|refine jc Tryz.func47 (h5 ..) ?_|refine jc Tryz.func47 (h6 ..) ?_|refine jc Tryz.func46 (h4 ..) ?_|(refine W0 ?_))|((first|refine qd ?_ ?_|refine qc ?_ ?_|refine xsC ?_ ?_);all_goals (intro hc;have hp:=hc;try simp at hp;try (exfalso;omega)))|refine qO ?_ ?_)
    all_goals try (exfalso;omega)
    all_goals (apply jL;rfl;rw [hT];clear hT h4 h5 h6 hb h1 h2 h3 hct1 hct2;rw [hml] at *;clear hml)
    all_goals (by_cases ha:c.asked = [])
    all_goals (first|(have hl1:c.asked.length = 0:=hn0.1 ha)|(have hl1:¬ c.asked.length = 0:=fun h=>ha (hn0.2 h)))
    all_goals clear hn0
    all_goals ((repeat' split)<;>first|rfl|(exfalso;omega)|(exfalso;simp_all;done)|(exfalso;simp_all;omega))
   ·rw [if_pos hz2] at hE
    subst hE
    clear hT
    refine qa Tryz.func18 rfl _ Tryz.ntmps18 (Nat.le_of_ble_eq_true rfl) _ Tryz.results18 0 rfl rfl ?_
    repeat' (first|refine qm ?_|(first|refine jc Tryz.func45 (h1 ..) ?_|refine jc Tryz.func45 (h2 ..) ?_|refine jc Tryz.func46 (h3 ..) ?_|refine jc Tryz.func28 (hct1 ..) ?_|refine jc Tryz.func28 (hct2 ..) ?_)|((first|refine qd ?_ ?_|refine qc ?_ ?_|refine xsC ?_ ?_);all_goals (intro hc;have hp:=hc;try simp at hp;try (exfalso;omega)))|refine qO ?_ ?_)
    all_goals try (exfalso;omega)
    all_goals (apply jL;rfl;rfl)
  ·rw [if_pos hz1] at hE
   subst hE
   clear hT
   refine qa Tryz.func18 rfl _ Tryz.ntmps18 (Nat.le_of_ble_eq_true rfl) _ Tryz.results18 0 rfl rfl ?_
   repeat' (first|refine qm ?_|(first|refine jc Tryz.func45 (h1 ..) ?_|refine jc Tryz.func45 (h2 ..) ?_|refine jc Tryz.func46 (h3 ..) ?_|refine jc Tryz.func28 (hct1 ..) ?_)|((first|refine qd ?_ ?_|refine qc ?_ ?_|refine xsC ?_ ?_);all_goals (intro hc;have hp:=hc;try simp at hp;try (exfalso;omega)))|refine qO ?_ ?_)
   all_goals try (exfalso;omega)
   all_goals (apply jL;rfl;rfl)
theorem qdg (c:Cli) (hb:CliBig c):yO C.P 18 [.agg c.row] (.v (.int .i64 (yX c))) :=
 qb2 c hb (zW c.base hb.base) (zW c.mine hb.mine)
theorem ZD (a b:Cli) (h1:a.base.length ≤ 1000000000) (h2:b.base.length ≤ 1000000000) (h3:a.mine.length ≤ 1000000000) (h4:b.mine.length ≤ 1000000000) (h5:a.asked.length ≤ 1000000000) (h6:b.asked.length ≤ 1000000000) :
  yO C.P 52 [.agg a.row,.agg b.row] (.v (.bool (decide (a = b)))):=by
 have g1:=JU a.base b.base h1 h2
 have g2:=JU a.mine b.mine h3 h4
 have g3:=Zt a.asked b.asked h5 h6
 have hin:decide (a = b) = (decide (a.who = b.who) && decide (a.folder = b.folder) && decide (a.base = b.base) && decide (a.cursor = b.cursor) && decide (a.mine = b.mine) && decide (a.key = b.key) && decide (a.asked = b.asked) && decide (a.keys = b.keys)):=by
  obtain ⟨x1,x2,x3,x4,x5,x6,x7,x8⟩:=a
  obtain ⟨y1,y2,y3,y4,y5,y6,y7,y8⟩:=b
  rw [Bool.eq_iff_iff];simp [and_assoc]
 rw [hin]
 generalize decide (a.base = b.base) = D1 at *
 generalize decide (a.mine = b.mine) = D2 at *
 generalize decide (a.asked = b.asked) = D3 at *
 clear hin h1 h2 h3 h4 h5 h6
 refine qa Tryz.func52 rfl _ Tryz.ntmps52 (Nat.le_of_ble_eq_true rfl) _ Tryz.results52 0 rfl rfl ?_
 repeat' (first|refine qm ?_|(first|refine jc Tryz.func39 (g1 ..) ?_|refine jc Tryz.func39 (g2 ..) ?_|refine jc Tryz.func82 (g3 ..) ?_)|((first|refine qd ?_ ?_|refine qc ?_ ?_|refine xsC ?_ ?_);all_goals (intro hc;have hp:=hc;try simp at hp;try (exfalso;omega)))|refine qO ?_ ?_)
 all_goals (apply jB;rfl;clear g1 g2 g3;simp_all)
end Go.Proofs.YtnhpclmbhbblbaaGreatDoor
