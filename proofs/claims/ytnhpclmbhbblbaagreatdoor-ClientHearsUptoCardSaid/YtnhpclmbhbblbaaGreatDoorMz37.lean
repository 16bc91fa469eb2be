import Derived.Test.YtnhpclmbhbblbaaGreatDoorMz21
import Derived.Test.YtnhpclmbhbblbaaGreatDoorMz24
import Derived.Test.YtnhpclmbhbblbaaGreatDoorMz34
set_option linter.unusedSimpArgs false
set_option linter.unnecessarySimpa false
set_option linter.unusedVariables false
set_option maxHeartbeats 1000000
namespace Go.Proofs.YtnhpclmbhbblbaaGreatDoor
open Go.Ab Go.RowKit
set_option maxRecDepth 10000
attribute [local irreducible] Awp yl jE jl Red qX Go.Ab.Fin qW Rz vl jj ji ResOk jV jz yb jv
structure Anw where
 err:Int
 num:Int
 page:Pag
def Anw.row (a:Anw):List AV:=[.v (.int .i64 a.err),.v (.int .i64 a.num),.v (.bool a.page.reset),qb a.page.tree,vN a.page.coms,.v (.int .i64 a.page.cur),.v (.bool a.page.more)]
def V9 (c:Cli) (a:Anw):Cli × List Cpy × Int :=
 if ¬ a.err = 0 then (zl,[],a.err)
 else if a.page.reset = true ∧ a.page.cur < c.cursor then (zl,[],4)
 else if ¬ (j0 c.base c.cursor a.page).2.2 = 0 then (zl,[],(j0 c.base c.cursor a.page).2.2)
 else if ¬ (zd c.base c.mine (j0 c.base c.cursor a.page).1).2.2 = 0 then (zl,[],(zd c.base c.mine (j0 c.base c.cursor a.page).1).2.2)
 else ({ c with base:=(j0 c.base c.cursor a.page).1,cursor:=(j0 c.base c.cursor a.page).2.1,mine:=(zd c.base c.mine (j0 c.base c.cursor a.page).1).1 },(zd c.base c.mine (j0 c.base c.cursor a.page).1).2.1,0)
def kR (c:Cli) (k:Int) (a:Anw):Cli × List Cpy × Int:=if k = 1 then ({ c with key:=[],asked:=[] },[],0) else if ¬ k = 2 then (zl,[],7) else V9 c a
def qd7 (c:Cli) (k:Int) (a:Anw):Cli × List Cpy × Int:=if ¬ yX c = 0 then (zl,[],yX c) else kR c k a
def w7 (r:Cli × List Cpy × Int):AV := .tup [.agg r.1.row,vf r.2.1,.v (.int .i64 r.2.2)]
theorem qdb {n:Nat} {xs:List AV} (h:kV C.tab 1000000000 n 24 xs) : ∃ a,xs = [.v (.int .i64 a)] ∧ (Lit.int .i64 a).wf = true:=by
 cases n with
 | zero=>exact h.elim
 | succ n=>exact (show ∃ a,xs = [.v (.int .i64 a)] ∧ (Lit.int .i64 a).wf = true from h)
theorem qfY {n:Nat} {xs:List AV} (h:kV C.tab 1000000000 n 43 xs) : ∃ a:Anw,xs = a.row ∧ PBig a.page:=by
 cases n with
 | zero=>exact h.elim
 | succ n =>
   obtain ⟨_,_,rfl,h0,_,_,rfl,h1,_,_,rfl,h2,rfl⟩:=(show Q0 C.tab 0 _ = some _ → Kp (kV C.tab 1000000000 n) [(0,24),(1,3),(2,41)] xs from h) rfl
   obtain ⟨a0,rfl,_⟩:=qdb h0
   obtain ⟨a1,rfl,_⟩:=wc h1
   obtain ⟨a2,rfl,l2⟩:=qeE h2
   exact ⟨⟨a0,a1,a2⟩,rfl,l2⟩
theorem qfV {y:AV} (h:Wd C.tab 1000000000 43 y) : ∃ a:Anw,y = .agg a.row ∧ PBig a.page:=by
 obtain ⟨n,xs,rfl,h2⟩:=(show ∃ n xs,y = .agg xs ∧ kV C.tab 1000000000 n 43 xs from h)
 obtain ⟨c,rfl,hc⟩:=qfY h2
 exact ⟨c,rfl,hc⟩
theorem kX {t:List Ent} {c:Int} {p:Pag} (h:(j0 t c p).2.2 = 0):Right (j0 t c p).1:=by
 unfold j0 at *
 by_cases h1:qD t = 0
 case neg=>rw [if_pos h1] at h;exact absurd h h1
 have hR:=ju.1 h1
 rw [if_neg (by simp [h1])] at h ⊢
 by_cases h2:ka c = false
 ·rw [if_pos h2] at h;exact absurd (show (3:Int) = 0 from h) (by decide)
 rw [if_neg h2] at h ⊢
 by_cases h3:p.reset = true
 ·rw [if_pos h3] at h ⊢
  by_cases h4:qD p.tree = 0
  case neg=>rw [if_pos h4] at h;exact absurd h h4
  rw [if_neg (by simp [h4])] at h ⊢
  by_cases h5:ka p.cur = false
  ·rw [if_pos h5] at h;exact absurd (show (3:Int) = 0 from h) (by decide)
  rw [if_neg h5] at h ⊢
  by_cases h6:¬ p.coms = [] ∨ p.more = true
  ·rw [if_pos h6] at h;exact absurd (show (1:Int) = 0 from h) (by decide)
  rw [if_neg h6]
  exact ju.1 h4
 ·rw [if_neg h3] at h ⊢
  by_cases h4:p.tree = []
  case neg=>rw [if_pos h4] at h;exact absurd (show (1:Int) = 0 from h) (by decide)
  rw [if_neg (by simp [h4])] at h ⊢
  by_cases h5:10 < p.coms.length
  ·rw [if_pos h5] at h;exact absurd (show (2:Int) = 0 from h) (by decide)
  rw [if_neg h5] at h ⊢
  by_cases h6:kg (c + 1) p.coms = false
  ·rw [if_pos h6] at h;exact absurd (show (4:Int) = 0 from h) (by decide)
  rw [if_neg h6] at h ⊢
  by_cases h7:p.cur = c + p.coms.length
  case neg=>rw [if_pos h7] at h;exact absurd (show (4:Int) = 0 from h) (by decide)
  rw [if_neg (by simp [h7])] at h ⊢
  by_cases h8:(kL t p.coms).2 = 0
  case neg=>rw [if_pos h8] at h;exact absurd h h8
  rw [if_neg (by simp [h8])]
  exact VP hR h8
set_option maxHeartbeats 4000000 in
theorem qeS (c:Cli) (hb:CliBig c) (hR:CRight c) (a:Anw) (ha:PBig a.page):yO C.P 44 [.agg c.row,.agg a.row] (w7 (V9 c a)):=by
 have hF:=qdi c.base c.cursor a.page hb.base ha
 have lb:=(ju.1 hR.base).len
 have lm:=(ju.1 hR.mine).len
 have lf:=hR.few
 have hcl:=Ju c (by omega) (by omega) (by omega)
 obtain ⟨err,num,⟨res,tree,coms,cur,more⟩⟩:=a
 obtain ⟨who,folder,base,cursor,mine,key,asked,keys⟩:=c
 unfold qcV at hF
 unfold Pag.row at hF
 unfold Cli.row at hcl
 unfold V9
 dsimp only at *
 by_cases h0:err = 0
 case neg =>
  rw [if_pos h0]
  unfold w7 vf
  refine qa Tryz.func44 rfl _ Tryz.ntmps44 (Nat.le_of_ble_eq_true rfl) _ Tryz.results44 0 rfl rfl ?_
  repeat' (first|refine qm ?_|(first|fail)|((first|refine qd ?_ ?_|refine qc ?_ ?_|refine xsC ?_ ?_);all_goals (intro hc;have hp:=hc;try simp at hp;try (exfalso;omega)))|refine qO ?_ ?_)
  all_goals try (exfalso;first|omega|contradiction|simp_all;done)
  all_goals ((exact xE (rs:=[.cell 4 38,.tmp 5,.tmp 6])))
 subst h0
 rw [if_neg (by simp)]
 by_cases h1:res = true ∧ cur < cursor
 ·rw [if_pos h1]
  obtain ⟨rfl,h1⟩:=h1
  unfold w7 vf
  refine qa Tryz.func44 rfl _ Tryz.ntmps44 (Nat.le_of_ble_eq_true rfl) _ Tryz.results44 0 rfl rfl ?_
  repeat' (first|refine qm ?_|(first|fail)|((first|refine qd ?_ ?_|refine qc ?_ ?_|refine xsC ?_ ?_);all_goals (intro hc;have hp:=hc;try simp at hp;try (exfalso;omega)))|refine qO ?_ ?_)
  all_goals try (exfalso;first|omega|contradiction|simp_all;done)
  all_goals ((exact xE (rs:=[.cell 4 38,.tmp 5,.tmp 6])))
 rw [if_neg h1]
 have hfR:(j0 base cursor ⟨res,tree,coms,cur,more⟩).2.2 = 0 → Right (j0 base cursor ⟨res,tree,coms,cur,more⟩).1:=fun e=>kX e
 generalize j0 base cursor ⟨res,tree,coms,cur,more⟩ = FF at *
 obtain ⟨T,cu,E⟩:=FF
 dsimp only at *
 have h1' : res = true → ¬ cur < cursor:=fun e h=>h1 ⟨e,h⟩
 by_cases hE:E = 0
 case neg =>
  rw [if_pos hE]
  unfold w7 vf
  refine qa Tryz.func44 rfl _ Tryz.ntmps44 (Nat.le_of_ble_eq_true rfl) _ Tryz.results44 0 rfl rfl ?_
  repeat' (first|refine qm ?_|(first|refine xsQ Tryz.func78 (hF ..) ?_)|((first|refine qd ?_ ?_|refine qc ?_ ?_|refine xsC ?_ ?_);all_goals (intro hc;have hp:=hc;try simp at hp;try (exfalso;omega)))|refine qO ?_ ?_)
  all_goals try (exfalso;first|omega|contradiction|simp_all;done)
  all_goals ((exact xE (rs:=[.cell 4 38,.tmp 5,.tmp 6])))
 subst hE
 rw [if_neg (by simp)]
 have hM:=qeR base mine T hb.base hb.mine (hfR rfl).big
 generalize zd base mine T = MM at *
 obtain ⟨X,L,G⟩:=MM
 unfold Q5 at hM
 dsimp only at *
 clear hfR
 by_cases hG:G = 0
 case neg =>
  rw [if_pos hG]
  unfold w7 vf
  refine qa Tryz.func44 rfl _ Tryz.ntmps44 (Nat.le_of_ble_eq_true rfl) _ Tryz.results44 0 rfl rfl ?_
  repeat' (first|refine qm ?_|(first|refine xsQ Tryz.func78 (hF ..) ?_|refine xsQ Tryz.func7 (hM ..) ?_)|((first|refine qd ?_ ?_|refine qc ?_ ?_|refine xsC ?_ ?_);all_goals (intro hc;have hp:=hc;try simp at hp;try (exfalso;omega)))|refine qO ?_ ?_)
  all_goals try (exfalso;first|omega|contradiction|simp_all;done)
  all_goals ((exact xE (rs:=[.cell 4 38,.tmp 5,.tmp 6])))
 subst hG
 rw [if_neg (by simp)]
 unfold w7
 refine qa Tryz.func44 rfl _ Tryz.ntmps44 (Nat.le_of_ble_eq_true rfl) _ Tryz.results44 0 rfl rfl ?_
 repeat' (first|refine qm ?_|(first|refine xsQ Tryz.func78 (hF ..) ?_|refine xsQ Tryz.func7 (hM ..) ?_|refine xsQ Tryz.func43 (hcl ..) ?_)|((first|refine qd ?_ ?_|refine qc ?_ ?_|refine xsC ?_ ?_);all_goals (intro hc;have hp:=hc;try simp at hp;try (exfalso;omega)))|refine qO ?_ ?_)
 all_goals try (exfalso;first|omega|contradiction|simp_all;done)
 all_goals ((exact xE (rs:=[.cell 4 38,.tmp 5,.tmp 6])))
theorem qgk (c:Cli) (hb:CliBig c) (k:Int) (a:Anw) (ha:PBig a.page):yO C.P 17 [.agg c.row,.v (.int .i64 k),.agg a.row] (w7 (qd7 c k a)):=by
 have h1:=Ym c hb
 unfold qd7
 by_cases h0:yX c = 0
 case neg =>
  rw [if_pos h0]
  generalize yX c = E at *
  unfold w7 vf
  refine qa Tryz.func17 rfl _ Tryz.ntmps17 (Nat.le_of_ble_eq_true rfl) _ Tryz.results17 0 rfl rfl ?_
  repeat' (first|refine qm ?_|(first|refine jc Tryz.func22 (h1 ..) ?_)|((first|refine xsC ?_ ?_);all_goals (intro hc;have hp:=hc;try simp at hp;try (exfalso;omega)))|refine qO ?_ ?_)
  all_goals try (exfalso;first|omega|contradiction|simp_all;done)
  all_goals ((exact xE (rs:=[.cell 6 38,.tmp 7,.tmp 8])))
 rw [if_neg (by simp [h0])]
 have hR:=Qy.1 h0
 rw [h0] at h1
 have lb:=(ju.1 hR.base).len
 have lm:=(ju.1 hR.mine).len
 have lf:=hR.few
 have hcl:=Ju c (by omega) (by omega) (by omega)
 have hpg:=qeS c hb hR a ha
 unfold kR
 by_cases k1:k = 1
 ·subst k1
  rw [if_pos rfl]
  unfold w7 vf
  refine qa Tryz.func17 rfl _ Tryz.ntmps17 (Nat.le_of_ble_eq_true rfl) _ Tryz.results17 0 rfl rfl ?_
  repeat' (first|refine qm ?_|(first|refine jc Tryz.func22 (h1 ..) ?_|refine xsQ Tryz.func43 (hcl ..) ?_)|((first|refine xsC ?_ ?_);all_goals (intro hc;have hp:=hc;try simp at hp;try (exfalso;omega)))|refine qO ?_ ?_)
  all_goals try (exfalso;first|omega|contradiction|simp_all;done)
  all_goals ((exact xE (rs:=[.cell 6 38,.tmp 7,.tmp 8])))
 rw [if_neg k1]
 by_cases k2:k = 2
 ·subst k2
  rw [if_neg (by simp)]
  generalize V9 c a = PP at *
  obtain ⟨d,L,E⟩:=PP
  unfold w7 at hpg ⊢
  dsimp only at *
  refine qa Tryz.func17 rfl _ Tryz.ntmps17 (Nat.le_of_ble_eq_true rfl) _ Tryz.results17 0 rfl rfl ?_
  repeat' (first|refine qm ?_|(first|refine jc Tryz.func22 (h1 ..) ?_|refine xsQ Tryz.func44 (hpg ..) ?_)|((first|refine xsC ?_ ?_);all_goals (intro hc;have hp:=hc;try simp at hp;try (exfalso;omega)))|refine qO ?_ ?_)
  all_goals try (exfalso;first|omega|contradiction|simp_all;done)
  all_goals ((exact xE (rs:=[.cell 6 38,.tmp 7,.tmp 8])))
 ·rw [if_pos k2]
  unfold w7 vf
  refine qa Tryz.func17 rfl _ Tryz.ntmps17 (Nat.le_of_ble_eq_true rfl) _ Tryz.results17 0 rfl rfl ?_
  repeat' (first|refine qm ?_|(first|refine jc Tryz.func22 (h1 ..) ?_)|((first|refine xsC ?_ ?_);all_goals (intro hc;have hp:=hc;try simp at hp;try (exfalso;omega)))|refine qO ?_ ?_)
  all_goals try (exfalso;first|omega|contradiction|simp_all;done)
  all_goals ((exact xE (rs:=[.cell 6 38,.tmp 7,.tmp 8])))
end Go.Proofs.YtnhpclmbhbblbaaGreatDoor
