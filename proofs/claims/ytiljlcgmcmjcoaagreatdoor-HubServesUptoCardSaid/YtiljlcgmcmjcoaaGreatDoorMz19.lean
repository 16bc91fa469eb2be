import Derived.Test.YtiljlcgmcmjcoaaGreatDoorMz18
set_option linter.unusedSimpArgs false
set_option maxHeartbeats 1000000
namespace Go.Proofs.YtiljlcgmcmjcoaaGreatDoor
open Go.Ab Go.RowKit
set_option maxRecDepth 10000
attribute [local irreducible] Awp ye ji qQ Red qF Go.Ab.Fin qo Rz xx qG qO ResOk jK je jX qW
def yh (L:List Gra) (f:qC):Int:=if L.any (wl f) then (if 60 < L.length then 2 else 0) else 4
def zy (L:List Gra) (f:qC):List Gra:=if yh L f = 0 then L else []
theorem qhY {L:List Gra} {f:qC} (h : ∀ x,x ∈ L → wl f x = false):yh L f = 4 ∧ zy L f = []:=by
 have h1:L.any (wl f) = false:=List.any_eq_false.2 fun x hx=>by rw [h x hx];simp
 have h2:yh L f = 4:=by simp [yh,h1]
 exact ⟨h2,by simp [zy,h2]⟩
theorem qfM {L:List Gra} {f:qC} (h : ∃ x,x ∈ L ∧ wl f x = true) (hl:(60:Int) < (L.length:Int)):yh L f = 2 ∧ zy L f = []:=by
 have h1:L.any (wl f) = true:=List.any_eq_true.2 h
 have h3:60 < L.length:=by omega
 have h2:yh L f = 2:=by simp [yh,h1,h3]
 exact ⟨h2,by simp [zy,h2]⟩
theorem qds {L:List Gra} {f:qC} (h : ∃ x,x ∈ L ∧ wl f x = true) (hl:(L.length:Int) ≤ 60):yh L f = 0 ∧ zy L f = L:=by
 have h1:L.any (wl f) = true:=List.any_eq_true.2 h
 have h3:¬ 60 < L.length:=by omega
 have h2:yh L f = 0:=by simp [yh,h1,h3]
 exact ⟨h2,by simp [zy,h2]⟩
theorem qer (l:List Gra) (hl:GBig l) (f b w:qC) (r:Int) (hf:f.length ≤ 140737488355328) (hb:b.length ≤ 140737488355328) (hw:w.length ≤ 140737488355328) (he:jD l f b w r = 0) (L:List Gra) (hL:L.length ≤ 1000000)
  (hset:qo C.P 104 [q9 l,.v (str f),.v (str w),.v (.int .i64 r)] [] (.os 0 0 L.length) [.own false 3 (L.map Gra.row)]) :
  jO C.P 61 [q9 l,.v (str f),.v (str b),.v (str w),.v (.int .i64 r)] (.tup [q9 (zy L f),.v (.int .i64 (yh L f))]):=by
 have hch:=Jn l hl
 obtain ⟨h0,hn,hr,ho,hw0⟩:=Wp he
 rw [h0] at hch
 have hlen:=vJ h0
 have hri:=wg h0
 have hnm:=Y9 [f,b,w] (by simp) (by simp;exact ⟨hf,hb,hw⟩)
 simp only [List.map,List.all_cons,List.all_nil,Bool.and_true,hn.1,hn.2.1,hn.2.2,Bool.and_self] at hnm
 have ho1:=qfN l f b (by omega) hri
 have ho2:=qfN l f w (by omega) hri
 have hcon:=JK (wl f) 105 (jP Tryz.func105 rfl rfl) [.fp [[.v (str f)]] 0 0] rfl L hL (fun g _=>qhZ g f)
 refine qa Tryz.func61 rfl _ Tryz.ntmps61 (Nat.le_of_ble_eq_true rfl) _ Tryz.results61 0 rfl rfl ?_
 (repeat apply jg);apply qw;(repeat' (first|apply qT|refine xi ?_|refine xe ?_|refine xl ?_|refine xj ?_|refine vm ?_|refine xb ?_|refine vl ?_|refine vZ ?_|refine xn ?_|(first|fail)|refine yg ?_|refine j6 ?_|refine j4 ?_|refine jF ?_|refine jG ?_|refine yL ?_|refine yK ?_|refine j7 ?_|refine j8 ?_|((first|refine qb ?_ ?_|refine qc ?_ ?_);all_goals (intro hc;have hp:=hc;try simp at hp;try (exfalso;omega)))));show Awp _ _ _ _ _
 refine xV 6 0 ?_
 repeat' (first|refine qe ?_|(first|refine xsF Tryz.func39 (hch ..) ?_|refine xsQ Tryz.func62 (hnm ..) ?_|(refine jN ?_)|refine xsF Tryz.func63 (ho1 ..) ?_|refine xsF Tryz.func63 (ho2 ..) ?_|(apply qN Tryz.func104 rfl rfl;intro hIsFn;refine yr ([]) hIsFn (hset ..) ?_)|(apply qj;apply yy ([1]);exact jP Tryz.func102 rfl rfl;exact hcon;(case hz=>exact qk (yn rfl (by simp) (jq fun _=>rfl)) (qk (x8 rfl) qL));(case hfl=>rfl);(case hN=>exact nle rfl)))|((first|refine qb ?_ ?_|refine qc ?_ ?_|refine xsC ?_ ?_);all_goals (intro hc;have hp:=hc;try simp at hp;try (exfalso;omega)))|refine qp ?_ ?_)
 all_goals try (exfalso;omega)
 all_goals try (exfalso;rcases ho with h|⟨h,_⟩<;>contradiction)
 all_goals first
  | (refine (fun (h:yh L f = 4 ∧ zy L f = [])=>?_) (qhY (L:=L) (f:=f) ?_);rotate_left;assumption
     rw [h.1,h.2]
     (exact j1 (rs:=[.tmp 10,.tmp 11])))
  | (refine (fun (h:yh L f = 2 ∧ zy L f = [])=>?_) (qfM (L:=L) (f:=f) ?_ ?_);rotate_left;assumption;assumption
     rw [h.1,h.2]
     (exact j1 (rs:=[.tmp 10,.tmp 11])))
  | (refine (fun (h:yh L f = 0 ∧ zy L f = L)=>?_) (qds (L:=L) (f:=f) ?_ ?_);rotate_left;assumption;assumption
     rw [h.1,h.2]
     (exact j1 (rs:=[.tmp 10,.tmp 11])))
end Go.Proofs.YtiljlcgmcmjcoaaGreatDoor
set_option linter.unusedSimpArgs false
set_option maxHeartbeats 1000000
namespace Go.Proofs.YtiljlcgmcmjcoaaGreatDoor
open Go.Ab Go.RowKit
set_option maxRecDepth 10000
attribute [local irreducible] Awp ye ji qQ Red qF Go.Ab.Fin qo Rz xx qG qO ResOk jK je jX qW
def zK (l:List Gra) (f:qC):List qC:=(l.filter (vg f)).map (·.who)
@[simp] theorem qjj (f:qC):zK [] f = []:=rfl
theorem qfG {l:List Gra} {f:qC} {k:Nat} (hk:k < l.length) (h:l[k].folder = f):zK (l.take (k + 1)) f = zK (l.take k) f ++ [l[k].who]:=by
 rw [zK,YP hk (by simp [vg,h]),List.map_append];rfl
theorem qe7 {l:List Gra} {f:qC} {k:Nat} (hk:k < l.length) (h:¬ l[k].folder = f):zK (l.take (k + 1)) f = zK (l.take k) f:=by
 rw [zK,Qo hk (by simp [vg,h])];rfl
theorem qbB (l:List Gra) (f:qC):(zK l f).length ≤ l.length:=by
 rw [zK,List.length_map];exact List.length_filter_le _ _
theorem qdP (l:List Gra) (f:qC) (hl:l.length ≤ 1000000):jO C.P 43 [q9 l,.v (str f)] (.sl false ((zK l f).map jr)):=by
 refine qa Tryz.func43 rfl _ Tryz.ntmps43 (Nat.le_of_ble_eq_true rfl) _ Tryz.results43 0 rfl rfl ?_
 repeat' (first|refine qe ?_|fail|((first|refine xsC ?_ ?_);all_goals (intro hc;have hp:=hc;try simp at hp;try (exfalso;omega)))|refine qp ?_ ?_)
 refine Awp.red (zd 5 1 rfl (Nat.zero_le _)) ?_
 (refine Awp.red (qY (τ:=⟨[(0,q9 l),(1,.v (str f)),(5,.os 0 0 (zK (l.take 0) f).length),(6,.v (.int .i64 ((0:Nat):Int)))],[(0,.own false 1 ((zK (l.take 0) f).map jr))],1⟩) [(0,0)] rfl ?gts ?ghs) ?gmain;(case gts=>(repeat (first|exact qd|refine qi ?_|refine xd ?_|refine xL ?_|refine qI ?_ ?_)));(case ghs=>(repeat (first|exact qf|refine jV ?_|refine qH ?_ ?_))))
 refine qq (fun n σ => ∃ i:Nat,i ≤ l.length ∧ n = l.length - i ∧ (True) ∧ σ = ⟨[(0,q9 l),(1,.v (str f)),(5,.os 0 0 (zK (l.take i) f).length),(6,.v (.int .i64 (i:Int)))],[(0,.own false 1 ((zK (l.take i) f).map jr))],1⟩) l.length ⟨0,Nat.zero_le _,rfl,trivial,rfl⟩ ?_
 rintro n σ ⟨i,hi,rfl, -,rfl⟩
 by_cases hlt:i < l.length
 ·have hr:=qx (f:=Gra.row) hlt
  have hfl:(zK (l.take i) f).length ≤ 1000000:=by
   have:=qbB (l.take i) f
   simp at this;omega
  repeat' (first|refine qe ?_|(first|(refine jN ?_)|(refine yX ?_))|((first|refine xsC ?_ ?_);all_goals (intro hc;have hp:=hc;try simp at hp;try (exfalso;omega)))|refine qp ?_ ?_)
  all_goals try (exfalso;omega)
  ·have hk:zK (l.take (i + 1)) f = zK (l.take i) f ++ [l[i].who]:=qfG (f:=f) hlt (by assumption)
   have hk2:List.take (zK (l.take i) f).length ((zK (l.take i) f).map jr) ++ [cellsOf (AV.v (str l[i].who))] = (zK (l.take (i + 1)) f).map jr:=by rw [hk,List.map_append,List.take_of_length_le (by simp)];rfl
   refine ⟨l.length - (i + 1),_,by omega,qY (τ:=⟨[(0,q9 l),(1,.v (str f)),(5,.os 0 0 (zK (l.take (i + 1)) f).length),(6,.v (.int .i64 ((i + 1:Nat):Int)))],[(0,.own false 1 ((zK (l.take (i + 1)) f).map jr))],1⟩) [(1,0)] rfl ?gts ?ghs,i + 1,by omega,rfl,trivial,rfl⟩;(case gts=>(repeat (first|exact qd|refine qi ?_|refine xd ?_|refine ZX ?_|refine Zd ?_ ?_|refine qI ?_ ?_));all_goals (first|exact hk2|rfl|(rw [hk,List.length_append];done)|(rw [hk];simp;done)|trace_state));(case ghs=>(repeat (first|exact qf|refine Ji ?_|refine qH ?_ ?_));all_goals (first|exact hk2|rfl|(rw [hk,List.length_append];done)|(rw [hk];simp;done)|trace_state))
  ·have hk:=qe7 (f:=f) hlt (by assumption)
   refine ⟨l.length - (i + 1),_,by omega,qY (τ:=⟨[(0,q9 l),(1,.v (str f)),(5,.os 0 0 (zK (l.take (i + 1)) f).length),(6,.v (.int .i64 ((i + 1:Nat):Int)))],[(0,.own false 1 ((zK (l.take (i + 1)) f).map jr))],1⟩) [(0,0)] rfl ?gts ?ghs,i + 1,by omega,rfl,trivial,rfl⟩;(case gts=>(repeat (first|exact qd|refine qi ?_|refine xd ?_|refine xL ?_|refine qI ?_ ?_)));(case ghs=>(repeat (first|exact qf|refine jV ?_|refine qH ?_ ?_)))
 obtain rfl:i = l.length:=by omega
 repeat' (first|refine qe ?_|fail|((first|refine xsC ?_ ?_);all_goals (intro hc;have hp:=hc;try simp at hp;try (exfalso;omega)))|refine qp ?_ ?_)
 all_goals try (exfalso;omega)
 rw [List.take_length]
 (exact j1 (rs:=[.tmp 4]))
end Go.Proofs.YtiljlcgmcmjcoaaGreatDoor
set_option linter.unusedSimpArgs false
namespace Go.Proofs.YtiljlcgmcmjcoaaGreatDoor
open Go.Ab Go.RowKit
def va (l:List Gra) (f w:qC) (r:Int):List Gra :=
 l.take (v2 l ⟨f,w,0⟩) ++ ((if r = 0 then [] else [⟨f,w,r⟩]) ++ l.drop (v2 l ⟨f,w,0⟩ + if kq l ⟨f,w,0⟩ = true then 1 else 0))
def Qk (f w:qC) (r:Int):List Gra → Bool → List Gra
 | [],put=>if put = true then [] else [⟨f,w,r⟩]
 | x :: l,put=>(if put = false ∧ jv x ⟨f,w,0⟩ = false then [⟨f,w,r⟩] else []) ++ ((if sameKey ⟨f,w,0⟩ x = true then [] else [x]) ++ Qk f w r l (put || !jv x ⟨f,w,0⟩))
theorem xK {k x:Gra}:sameKey k x = true ↔ x.folder = k.folder ∧ x.who = k.who:=by simp [sameKey]
theorem Ko {k x:Gra} (h:jv x k = true):sameKey k x = false:=by
 cases e:sameKey k x
 ·rfl
 ·have:=(kJ (c:=x) (xK.1 e)).1
  rw [← this,QF] at h;cases h
theorem Yu {k x:Gra} (h:jv k x = true):sameKey k x = false:=by
 cases e:sameKey k x
 ·rfl
 ·have:=(kJ (c:=x) (xK.1 e)).2
  rw [← this,QF] at h;cases h
theorem qcR {a b:Gra} (h:jv a b = true):jv b a = false:=by
 cases e:jv b a
 ·rfl
 ·have:=wm h e
  rw [QF] at this;cases this
theorem qef {a b:Gra} (h1:jv a b = false) (h2:sameKey b a = false):jv b a = true:=by
 by_cases h:kQ a b = 0
 ·have:=(z7 a b).1 h
  rw [xK.2 ⟨this.1,this.2⟩] at h2;cases h2
 ·by_cases h' : kQ a b < 0
  ·rw [(wZ a b).1 h'] at h1;cases h1
  ·exact (qcw a b).1 (by omega)
theorem zA : ∀ {l:List Gra},qv jv l = true ↔ l.Pairwise (fun a b=>jv a b = true):=by
 intro l
 rw [List.pairwise_iff_getElem]
 constructor
 ·intro h i j hi hj hij
  exact J1 h i j hi hj hij
 ·intro h
  exact yf.2 fun k hk=>h k (k + 1) (by omega) hk (by omega)
theorem XX (k:Gra) : ∀ {l:List Gra},l.Pairwise (fun a b=>jv a b = true) → ∃ A M Z,l = A ++ (M ++ Z) ∧ v2 l k = A.length ∧ (∀ a,a ∈ A → jv a k = true) ∧ (∀ z,z ∈ Z → jv k z = true) ∧
  ((kq l k = true ∧ ∃ x,M = [x] ∧ sameKey k x = true) ∨ (kq l k = false ∧ M = []))
 | [],_=>⟨[],[],[],rfl,rfl,nofun,nofun,.inr ⟨rfl,rfl⟩⟩
 | x :: l,h=>by
   obtain ⟨h1,h2⟩:=List.pairwise_cons.1 h
   by_cases hx:jv x k = true
   ·obtain ⟨A,M,Z,rfl,hp,hA,hZ,hM⟩:=XX k h2
    have hp' : v2 (x :: (A ++ (M ++ Z))) k = A.length + 1:=by
     simp only [v2,List.takeWhile_cons,hx,if_true,List.length_cons] at hp ⊢;omega
    refine ⟨x :: A,M,Z,rfl,hp',fun a ha=>?_,hZ,?_⟩
    ·rcases List.mem_cons.1 ha with rfl|ha
     ·exact hx
     ·exact hA a ha
    ·have:kq (x :: (A ++ (M ++ Z))) k = kq (A ++ (M ++ Z)) k:=by
      unfold kq
      rw [hp',hp,List.getElem?_cons_succ]
     rw [this];exact hM
   ·have hx:jv x k = false:=by simpa using hx
    have hp:v2 (x :: l) k = 0:=by simp [v2,List.takeWhile_cons,hx]
    have hh:kq (x :: l) k = decide (kQ x k = 0):=by
     unfold kq;rw [hp];rfl
    cases hk:sameKey k x with
    | true =>
      refine ⟨[],[x],l,rfl,hp,nofun,fun z hz=>?_,.inl ⟨?_,x,rfl,hk⟩⟩
      ·rw [← (kJ (c:=z) (xK.1 hk)).2];exact h1 z hz
      ·rw [hh,decide_eq_true_iff,z7];exact xK.1 hk
    | false =>
      have hg:=qef hx hk
      refine ⟨[],[],x :: l,rfl,hp,nofun,fun z hz=>?_,.inr ⟨?_,rfl⟩⟩
      ·rcases List.mem_cons.1 hz with rfl|hz
       ·exact hg
       ·exact wm hg (h1 z hz)
      ·rw [hh,decide_eq_false_iff_not,z7]
       intro e
       rw [xK.2 e] at hk;cases hk
theorem wW {l A M Z:List Gra} {f w:qC} {r:Int} (h:l = A ++ (M ++ Z)) (hp:v2 l ⟨f,w,0⟩ = A.length) (hM:(kq l ⟨f,w,0⟩ = true ∧ ∃ x,M = [x] ∧ sameKey ⟨f,w,0⟩ x = true) ∨ (kq l ⟨f,w,0⟩ = false ∧ M = [])) :
  va l f w r = A ++ ((if r = 0 then [] else [⟨f,w,r⟩]) ++ Z):=by
 unfold va
 rw [hp]
 have h1:l.take A.length = A:=by rw [h];simp
 rw [h1]
 rcases hM with ⟨hh,x,rfl,_⟩|⟨hh,rfl⟩
 ·simp only [hh,if_true];rw [h];simp
 ·simp only [hh,Bool.false_eq_true,if_false];rw [h];simp
theorem qbs {f w:qC} {r:Int} {put:Bool} : ∀ {A R:List Gra},(∀ a,a ∈ A → jv a ⟨f,w,0⟩ = true) → Qk f w r (A ++ R) put = A ++ Qk f w r R put
 | [],R,_=>rfl
 | a :: A,R,h=>by
   have h1:=h a (by simp)
   have ih:=qbs (r:=r) (put:=put) (A:=A) (R:=R) fun x hx=>h x (by simp [hx])
   simp [Qk,h1,Ko h1,ih]
theorem XE {f w:qC} {r:Int} : ∀ {Z:List Gra},(∀ z,z ∈ Z → jv ⟨f,w,0⟩ z = true) → Qk f w r Z true = Z
 | [],_=>rfl
 | z :: Z,h=>by
   have h1:=h z (by simp)
   have ih:=XE (r:=r) (Z:=Z) fun x hx=>h x (by simp [hx])
   simp [Qk,Yu h1,ih]
theorem qbe {l:List Gra} {f w:qC} {r:Int} (hs:qv jv l = true):Qk f w r l (decide (r = 0)) = va l f w r:=by
 obtain ⟨A,M,Z,h,hp,hA,hZ,hM⟩:=XX ⟨f,w,0⟩ (zA.1 hs)
 rw [wW h hp hM,h,qbs hA]
 congr 1
 rcases hM with ⟨_,x,rfl,hx⟩|⟨_,rfl⟩
 ·have h1:jv x ⟨f,w,0⟩ = false:=by rw [(kJ (c:=⟨f,w,0⟩) (xK.1 hx)).2];exact QF _
  by_cases h0:r = 0<;>simp [Qk,h1,hx,h0,XE hZ]
 ·cases Z with
  | nil=>by_cases h0:r = 0<;>simp [Qk,h0]
  | cons z Z =>
    have hz:=hZ z (by simp)
    have h1:jv z ⟨f,w,0⟩ = false:=qcR hz
    have h2:=Yu hz
    have ih:=XE (r:=r) (Z:=Z) fun x hx=>hZ x (by simp [hx])
    by_cases h0:r = 0
    ·subst h0;simp [Qk,h1,h2,ih]
    ·simp [Qk,h1,h2,h0,ih]
theorem qa9 {l:List Gra} {f w:qC} {r:Int} (hs:qv jv l = true):qv jv (va l f w r) = true:=by
 have hl:=zA.1 hs
 obtain ⟨A,M,Z,h,hp,hA,hZ,hM⟩:=XX ⟨f,w,0⟩ hl
 rw [wW h hp hM]
 refine zA.2 ?_
 have hsub:(A ++ Z).Sublist l:=by
  rw [h];exact List.Sublist.append_left (List.sublist_append_right _ _) _
 have hAZ:=List.Pairwise.sublist hsub hl
 rw [List.pairwise_append] at hAZ
 have hkey : ∀ c,jv c ⟨f,w,r⟩ = jv c ⟨f,w,0⟩ ∧ jv ⟨f,w,r⟩ c = jv ⟨f,w,0⟩ c:=fun c=>kJ ⟨rfl,rfl⟩
 by_cases h0:r = 0
 ·simp only [h0,if_true,List.nil_append]
  rw [List.pairwise_append];exact hAZ
 ·simp only [h0,if_false]
  rw [List.pairwise_append]
  refine ⟨hAZ.1,?_,fun a ha b hb=>?_⟩
  ·rw [List.cons_append,List.nil_append,List.pairwise_cons]
   exact ⟨fun z hz=>by rw [(hkey z).2];exact hZ z hz,hAZ.2.1⟩
  ·rw [List.cons_append,List.nil_append,List.mem_cons] at hb
   rcases hb with rfl|hb
   ·rw [(hkey a).1];exact hA a ha
   ·exact hAZ.2.2 a ha b hb
theorem qcu (A B:List Gra) (f w:qC) (hA : ∀ a,a ∈ A → sameKey ⟨f,w,0⟩ a = false):jx (A ++ B) f w = jx B f w:=by
 have:A.find? (sameKey ⟨f,w,0⟩) = none:=List.find?_eq_none.2 fun a ha=>by rw [hA a ha];simp
 unfold jx
 rw [List.find?_append,this,Option.none_or]
theorem qbL {A:List Gra} {f w:qC} (hA : ∀ a,a ∈ A → sameKey ⟨f,w,0⟩ a = false):jx A f w = 0:=by
 have:A.find? (sameKey ⟨f,w,0⟩) = none:=List.find?_eq_none.2 fun a ha=>by rw [hA a ha];simp
 unfold jx
 rw [this]
theorem qca {l:List Gra} {f w:qC} {r:Int} (hs:qv jv l = true):jx (va l f w r) f w = r:=by
 obtain ⟨A,M,Z,h,hp,hA,hZ,hM⟩:=XX ⟨f,w,0⟩ (zA.1 hs)
 rw [wW h hp hM,qcu _ _ _ _ fun a ha=>Ko (hA a ha)]
 by_cases h0:r = 0
 ·simp only [h0,if_true,List.nil_append]
  exact qbL fun z hz=>Yu (hZ z hz)
 ·simp [h0,jx,sameKey]
theorem JW {l:List Gra} {f w:qC} {r:Int} (hs:qv jv l = true) {x:Gra} (hx:x ∈ va l f w r):x ∈ l ∨ (r ≠ 0 ∧ x = ⟨f,w,r⟩):=by
 obtain ⟨A,M,Z,h,hp,hA,hZ,hM⟩:=XX ⟨f,w,0⟩ (zA.1 hs)
 rw [wW h hp hM] at hx
 rw [h]
 by_cases h0:r = 0
 ·simp only [h0,if_true,List.nil_append,List.mem_append] at hx ⊢
  rcases hx with hx|hx
  ·exact .inl (.inl hx)
  ·exact .inl (.inr (.inr hx))
 ·simp only [h0,if_false,List.mem_append,List.mem_singleton,List.mem_cons,List.not_mem_nil,or_false] at hx ⊢
  rcases hx with hx|hx|hx
  ·exact .inl (.inl hx)
  ·exact .inr ⟨h0,hx⟩
  ·exact .inl (.inr (.inr hx))
theorem qbx {l:List Gra} {f w:qC} {r:Int} (hs:qv jv l = true) {x:Gra} (hx:x ∈ l) (hk:sameKey ⟨f,w,0⟩ x = false):x ∈ va l f w r:=by
 obtain ⟨A,M,Z,h,hp,hA,hZ,hM⟩:=XX ⟨f,w,0⟩ (zA.1 hs)
 rw [wW h hp hM]
 rw [h] at hx
 simp only [List.mem_append] at hx ⊢
 rcases hx with hx|hx|hx
 ·exact .inl hx
 ·rcases hM with ⟨_,y,rfl,hy⟩|⟨_,rfl⟩
  ·rw [List.mem_singleton.1 hx,hy] at hk;cases hk
  ·cases hx
 ·exact .inr (.inr hx)
theorem XV {f:qC} {x:Gra}:wl f x = true ↔ x.folder = f ∧ x.right = 3:=by simp [wl]
theorem qct {l:List Gra} {f w:qC} {r:Int} (hs:qv jv l = true) (ho:Qx l = true) (hf:(va l f w r).any (wl f) = true):Qx (va l f w r) = true:=by
 refine List.all_eq_true.2 fun x hx=>?_
 by_cases e:x.folder = f
 ·obtain ⟨y,hy,h1⟩:=List.any_eq_true.1 hf
  have h1:=XV.1 h1
  exact List.any_eq_true.2 ⟨y,hy,by simp [h1.1,h1.2,e]⟩
 ·rcases JW hs hx with h|⟨_,rfl⟩
  ·obtain ⟨y,hy,h1⟩:=List.any_eq_true.1 (List.all_eq_true.1 ho x h)
   simp only [Bool.and_eq_true,decide_eq_true_eq] at h1
   have hk:sameKey ⟨f,w,0⟩ y = false:=by
    cases e' : sameKey ⟨f,w,0⟩ y
    ·rfl
    ·exact absurd (h1.1.symm.trans (xK.1 e').1) e
   exact List.any_eq_true.2 ⟨y,qbx hs hy hk,by simp [h1.1,h1.2]⟩
  ·exact absurd rfl e
theorem Kq {l:List Gra} {f w:qC} {r:Int}:(va l f w r).length ≤ l.length + 1:=by
 unfold va
 have:=qdQ l ⟨f,w,0⟩
 by_cases h0:r = 0
 ·simp [h0];omega
 ·simp [h0];omega
theorem yZ {l:List Gra} (h:jH l = 0):l.length ≤ 60 ∧ (∀ x,x ∈ l → vR x = 0) ∧ qv jv l = true ∧ Qx l = true:=by
 unfold jH at h
 split at h
 ·omega
 ·rename_i h60
  split at h
  ·rename_i h1
   split at h
   ·split at h
    ·exact ⟨by omega,jL.1 h1,by assumption,by assumption⟩
    ·omega
   ·omega
  ·exact absurd h (by assumption)
theorem qeG {l:List Gra} (h1:l.length ≤ 60) (h2 : ∀ x,x ∈ l → vR x = 0) (h3:qv jv l = true) (h4:Qx l = true):jH l = 0:=by
 unfold jH
 rw [if_neg (by omega),if_pos (jL.2 h2),if_pos h3,if_pos h4]
theorem Ki {l:List Gra} {f w:qC} {r:Int} (h:jH l = 0) (hf:ql f = true) (hw:ql w = true) (hr:0 ≤ r ∧ r ≤ 3) (ho:(va l f w r).any (wl f) = true) (hlen:(va l f w r).length ≤ 60):jH (va l f w r) = 0:=by
 obtain ⟨h1,h2,h3,h4⟩:=yZ h
 refine qeG hlen (fun x hx=>?_) (qa9 h3) (qct h3 h4 ho)
 rcases JW h3 hx with h|⟨h0,rfl⟩
 ·exact h2 x h
 ·exact X4 ⟨hf,hw⟩ ⟨by show 1 ≤ r;omega,hr.2⟩
theorem qaz {l:List Gra} {f w:qC} {r:Int} (hl:GBig l) (hs:qv jv l = true) (hlen:l.length ≤ 1000000) (hf:f.length ≤ 140737488355328) (hw:w.length ≤ 140737488355328):GBig (va l f w r):=by
 refine ⟨fun x hx=>?_,by have:=Kq (l:=l) (f:=f) (w:=w) (r:=r);omega⟩
 rcases JW hs hx with h|⟨_,rfl⟩
 ·exact hl.each x h
 ·exact ⟨hf,hw⟩
end Go.Proofs.YtiljlcgmcmjcoaaGreatDoor
set_option linter.unusedSimpArgs false
set_option maxHeartbeats 1000000
namespace Go.Proofs.YtiljlcgmcmjcoaaGreatDoor
open Go.Ab Go.RowKit
set_option maxRecDepth 10000
attribute [local irreducible] Awp ye ji qQ Red qF Go.Ab.Fin qo Rz xx qG qO ResOk jK je jX qW
theorem qfh {α:Type} (rs:List α) (i n:Nat) (hi:i < n) (hn:n ≤ rs.length) (z:α) :
  ((rs.take i ++ (rs.drop (i + 1)).take (n - (i + 1)) ++ rs.drop (i + (n - (i + 1)))).take (i + (n - (i + 1))) ++ List.replicate (n - (i + (n - (i + 1)))) z ++ (rs.take i ++ (rs.drop (i + 1)).take (n - (i + 1)) ++ rs.drop (i + (n - (i + 1)))).drop (i + (n - (i + 1)) + (n - (i + (n - (i + 1)))))).take (n - 1) =
    rs.take i ++ (rs.drop (i + 1)).take (n - (i + 1)):=by
 rw [List.append_assoc,List.take_append_of_le_length (by simp;omega),List.take_take,show min (n - 1) (i + (n - (i + 1))) = n - 1 from by omega,List.take_append_of_le_length (by simp;omega),List.take_of_length_le (by simp;omega)]
theorem qeQ (l:List Gra) (i:Nat) (hi:i < l.length) (hl:l.length ≤ 1000000) :
  qo C1.P 133 [.os 0 0 l.length,.v (.int .i64 (i:Int)),.v (.int .i64 ((i + 1:Nat):Int))] [.own false 3 (l.map Gra.row)] (.os 0 0 (l.length - 1)) [.own false 3 ((l.take i ++ l.drop (i + 1)).map Gra.row)]:=by
 have hrc:(l.map Gra.row).all (fun row=>row.length == 3 && row.all j5) = true:=yA fun _=>rfl
 have hml:(l.map Gra.row).length = l.length:=List.length_map ..
 refine qa (C:=C1) Tryz.func133 rfl _ Tryz.ntmps133 (Nat.le_of_ble_eq_true rfl) _ Tryz.results133 1 rfl rfl ?_
 repeat' (first|refine qe ?_|(first|(refine qgg ?_)|(refine Jm ?_)|(refine qdI ?_)|(apply kD;apply Xa;(case hx=>rfl);(case hT=>rfl);(case he=>rfl);(case hE=>rfl);(case hn=>rfl);(case hsrc=>apply QR;rfl;rfl;(show 0 + (i + 1) + (l.length - (i + 1)) ≤ (l.map Gra.row).length;omega);rfl;exact hrc);(case hfit=>(first|omega|(simp;done)|(simp only [List.length_cons,List.length_nil,List.length_map];omega)|(simp;omega)));(case hN=>exact nle rfl)))|((first|refine qb ?_ ?_|refine qc ?_ ?_|refine xsC ?_ ?_);all_goals (intro hc;have hp:=hc;try simp at hp;try (exfalso;omega)))|refine qp ?_ ?_)
 all_goals try (exfalso;omega)
 have hL:(List.take (l.length - (i + 1)) (List.drop (i + 1) (l.map Gra.row))).length = l.length - (i + 1):=by simp
 apply qdV (C:=C1) 0 (l.length - 1)
 case hn=>rfl
 case hr =>
  simp only [Nat.zero_add,Nat.sub_zero,hL]
  refine (qfh (l.map Gra.row) i l.length hi (by omega) _).trans (?_:_ = (l.take i ++ l.drop (i + 1)).map Gra.row)
  rw [List.map_append,List.map_take,List.map_drop,List.take_of_length_le (l:=List.drop (i + 1) (l.map Gra.row)) (by simp)]
 (apply jp (rs:=[.tmp 6]) [] 1;(case hr=>(repeat (first|exact qS|(apply qU;rfl)|(apply qK;rfl;rfl;rfl;rfl;rfl))));(case hL=>rfl);(case hh=>(repeat (first|exact qf|refine jV ?_|refine qH ?_ ?_));all_goals trace_state);(case hi=>first|exact (rfl:_ = ([]:List (Nat × Nat)))|exact (rfl:_ = [((0:Nat),(0:Nat))])|exact (rfl:_ = [((0:Nat),(0:Nat)),(1,1)]));(case hz=>first|rfl|(simp [jI,AV.ren,AV.ren.renL,qZ,qu,qX];done)|(simp [jI,AV.ren,AV.ren.renL,qZ,qu,qX, *];done)|(simp [jI,AV.ren,AV.ren.renL,qZ,qu,qX];omega)))
theorem qd5 {l:List Gra} {k:Gra} (h:kq l k = true):v2 l k < l.length:=by
 unfold kq at h
 split at h
 ·rename_i x hx;exact (List.getElem?_eq_some_iff.1 hx).1
 ·cases h
theorem qid (l:List Gra) (f w:qC) (r:Int) (hl:l.length ≤ 1000000) (hs:qv jv l = true) (hr:r = 0 → kq l ⟨f,w,0⟩ = true) :
  qo C.P 104 [q9 l,.v (str f),.v (str w),.v (.int .i64 r)] [] (.os 0 0 (va l f w r).length) [.own false 3 ((va l f w r).map Gra.row)]:=by
 have hfi:=qcg l f w hl hs
 by_cases h0:r = 0
 ·have hh:=hr h0
  have hp:=qd5 hh
  have hL:va l f w r = l.take (v2 l ⟨f,w,0⟩) ++ l.drop (v2 l ⟨f,w,0⟩ + 1):=by simp [va,h0,hh]
  rw [hh] at hfi
  have hdel:=qeQ l (v2 l ⟨f,w,0⟩) hp hl
  generalize va l f w r = L at hL ⊢
  generalize v2 l ⟨f,w,0⟩ = p at hL hp hfi hdel
  have hlen:L.length = l.length - 1:=by rw [hL];simp;omega
  subst h0
  refine qa Tryz.func104 rfl _ Tryz.ntmps104 (Nat.le_of_ble_eq_true rfl) _ Tryz.results104 0 rfl rfl ?_
  repeat' (first|refine qe ?_|(first|(apply qN Tryz.func79 rfl rfl;intro hIsFn;refine yr ([]) hIsFn (JF l hl ..) ?_)|(apply qj;apply yy ([0]);exact jP Tryz.func108 rfl rfl;apply hfi;(case hz=>(repeat' (first|exact qL|apply qk|exact qB rfl|exact yi|(apply yn;(case hn=>rfl);(case hl=>first|with_reducible rfl|(simp;done)|(simp [*];done)|omega);(case hp=>(first|assumption|exact yO rfl|exact jq fun _=>rfl)))|apply jT|apply jQ)));(case hfl=>rfl);(case hN=>exact nle rfl))|(apply qN Tryz.func133 rfl rfl;intro hIsFn;refine Qm ([0]) 0 hIsFn (hdel ..) ?_))|((first|refine xsC ?_ ?_);all_goals (intro hc;have hp:=hc;try simp at hp;try (exfalso;omega)))|refine qp ?_ ?_)
  all_goals try (exfalso;omega)
  (apply jp (rs:=[.tmp 8]) [(0,0)] 1;(case hr=>(repeat (first|exact qS|(apply qU;rfl)|(apply qK;rfl;rfl;rfl;rfl;rfl))));(case hL=>rfl);(case hh=>(repeat (first|exact qf|refine jV ?_|refine qH ?_ ?_));all_goals (rw [hL]));(case hi=>first|exact (rfl:_ = ([]:List (Nat × Nat)))|exact (rfl:_ = [((0:Nat),(0:Nat))])|exact (rfl:_ = [((0:Nat),(0:Nat)),(1,1)]));(case hz=>first|rfl|(simp [jI,AV.ren,AV.ren.renL,qZ,qu,qX];done)|(simp [jI,AV.ren,AV.ren.renL,qZ,qu,qX, *];done)|(simp [jI,AV.ren,AV.ren.renL,qZ,qu,qX];omega)))
 ·cases hh:kq l ⟨f,w,0⟩ with
  | true =>
    have hp:=qd5 hh
    have hL:va l f w r = l.take (v2 l ⟨f,w,0⟩) ++ ([⟨f,w,r⟩] ++ l.drop (v2 l ⟨f,w,0⟩ + 1)):=by simp [va,h0,hh]
    have hx:l[v2 l ⟨f,w,0⟩].folder = f ∧ l[v2 l ⟨f,w,0⟩].who = w:=by
     unfold kq at hh
     rw [List.getElem?_eq_getElem hp] at hh
     simpa [z7] using hh
    rw [hh] at hfi
    generalize va l f w r = L at hL ⊢
    generalize v2 l ⟨f,w,0⟩ = p at hL hp hfi hx
    have hlen:L.length = l.length:=by rw [hL];simp;omega
    have hrow:=qx (f:=Gra.row) hp
    refine qa Tryz.func104 rfl _ Tryz.ntmps104 (Nat.le_of_ble_eq_true rfl) _ Tryz.results104 0 rfl rfl ?_
    repeat' (first|refine qe ?_|(first|(apply qN Tryz.func79 rfl rfl;intro hIsFn;refine yr ([]) hIsFn (JF l hl ..) ?_)|(apply qj;apply yy ([0]);exact jP Tryz.func108 rfl rfl;apply hfi;(case hz=>(repeat' (first|exact qL|apply qk|exact qB rfl|exact yi|(apply yn;(case hn=>rfl);(case hl=>first|with_reducible rfl|(simp;done)|(simp [*];done)|omega);(case hp=>(first|assumption|exact yO rfl|exact jq fun _=>rfl)))|apply jT|apply jQ)));(case hfl=>rfl);(case hN=>exact nle rfl))|(refine vV ?_))|((first|refine xsC ?_ ?_);all_goals (intro hc;have hp:=hc;try simp at hp;try (exfalso;omega)))|refine qp ?_ ?_)
    all_goals try (exfalso;omega)
    (apply jp (rs:=[.tmp 8]) [(0,0)] 1;(case hr=>(repeat (first|exact qS|(apply qU;rfl)|(apply qK;rfl;rfl;rfl;rfl;rfl))));(case hL=>rfl);(case hh=>(repeat (first|exact qf|refine jV ?_|refine qH ?_ ?_));all_goals (show (l.map Gra.row).set p (Gra.row ⟨l[p].folder,l[p].who,r⟩) = L.map Gra.row;rw [hx.1,hx.2, ← List.map_set,hL,List.set_eq_take_append_cons_drop,if_pos (by assumption)];rfl));(case hi=>first|exact (rfl:_ = ([]:List (Nat × Nat)))|exact (rfl:_ = [((0:Nat),(0:Nat))])|exact (rfl:_ = [((0:Nat),(0:Nat)),(1,1)]));(case hz=>first|rfl|(simp [jI,AV.ren,AV.ren.renL,qZ,qu,qX];done)|(simp [jI,AV.ren,AV.ren.renL,qZ,qu,qX, *];done)|(simp [jI,AV.ren,AV.ren.renL,qZ,qu,qX];omega)))
  | false =>
    by_cases hp:v2 l ⟨f,w,0⟩ = l.length
    ·have hL:va l f w r = l ++ [⟨f,w,r⟩]:=by simp [va,h0,hh,hp]
     rw [hL,List.length_append]
     exact qgF l f w r hl hs h0 hh hp
    ·have hpl:v2 l ⟨f,w,0⟩ < l.length:=by have:=qdQ l ⟨f,w,0⟩;omega
     have hL:va l f w r = l.take (v2 l ⟨f,w,0⟩) ++ ([⟨f,w,r⟩] ++ l.drop (v2 l ⟨f,w,0⟩)):=by simp [va,h0,hh]
     rw [hh] at hfi
     have hin:=qcz l ⟨f,w,r⟩ (v2 l ⟨f,w,0⟩) hpl hl
     generalize va l f w r = L at hL ⊢
     generalize v2 l ⟨f,w,0⟩ = p at hL hpl hfi hin
     have hlen:L.length = l.length + 1:=by rw [hL];simp;omega
     refine qa Tryz.func104 rfl _ Tryz.ntmps104 (Nat.le_of_ble_eq_true rfl) _ Tryz.results104 0 rfl rfl ?_
     repeat' (first|refine qe ?_|(first|(apply qN Tryz.func79 rfl rfl;intro hIsFn;refine yr ([]) hIsFn (JF l hl ..) ?_)|(apply qj;apply yy ([0]);exact jP Tryz.func108 rfl rfl;apply hfi;(case hz=>(repeat' (first|exact qL|apply qk|exact qB rfl|exact yi|(apply yn;(case hn=>rfl);(case hl=>first|with_reducible rfl|(simp;done)|(simp [*];done)|omega);(case hp=>(first|assumption|exact yO rfl|exact jq fun _=>rfl)))|apply jT|apply jQ)));(case hfl=>rfl);(case hN=>exact nle rfl))|(refine jN ?_)|(apply qN Tryz.func134 rfl rfl;intro hIsFn;refine zP ([0]) 0 hIsFn (hin ..) ?_))|((first|refine xsC ?_ ?_);all_goals (intro hc;have hp:=hc;try simp at hp;try (exfalso;omega)))|refine qp ?_ ?_)
     all_goals try (exfalso;omega)
     (apply jp (rs:=[.tmp 8]) [(1,0)] 1;(case hr=>(repeat (first|exact qS|(apply qU;rfl)|(apply qK;rfl;rfl;rfl;rfl;rfl))));(case hL=>rfl);(case hh=>(repeat (first|exact qf|refine jV ?_|refine qH ?_ ?_));all_goals (rw [hL]));(case hi=>first|exact (rfl:_ = ([]:List (Nat × Nat)))|exact (rfl:_ = [((0:Nat),(0:Nat))])|exact (rfl:_ = [((0:Nat),(0:Nat)),(1,1)]));(case hz=>first|rfl|(simp [jI,AV.ren,AV.ren.renL,qZ,qu,qX];done)|(simp [jI,AV.ren,AV.ren.renL,qZ,qu,qX, *];done)|(simp [jI,AV.ren,AV.ren.renL,qZ,qu,qX];omega)))
end Go.Proofs.YtiljlcgmcmjcoaaGreatDoor
set_option linter.unusedSimpArgs false
set_option maxHeartbeats 1000000
namespace Go.Proofs.YtiljlcgmcmjcoaaGreatDoor
open Go.Ab Go.RowKit
set_option maxRecDepth 10000
attribute [local irreducible] Awp ye ji qQ Red qF Go.Ab.Fin qo Rz xx qG qO ResOk jK je jX qW
def vt (f w:qC) (r:Int) (s:List Gra × Bool) (x:Gra):List Gra × Bool :=
 (s.1 ++ ((if s.2 = false ∧ jv x ⟨f,w,0⟩ = false then [⟨f,w,r⟩] else []) ++ (if sameKey ⟨f,w,0⟩ x = true then [] else [x])),s.2 || !jv x ⟨f,w,0⟩)
def yU (f w:qC) (r:Int) (l:List Gra):List Gra × Bool:=l.foldl (vt f w r) ([],decide (r = 0))
@[simp] theorem qiV (f w:qC) (r:Int):yU f w r [] = ([],decide (r = 0)):=rfl
theorem qcQ {f w:qC} {r:Int} {l:List Gra} {i:Nat} (h:i < l.length):yU f w r (l.take (i + 1)) = vt f w r (yU f w r (l.take i)) l[i]:=by
 rw [List.take_succ_eq_append_getElem h,yU,List.foldl_append];rfl
theorem KX {f w:qC} {r:Int} : ∀ (l:List Gra) (s:List Gra × Bool),(l.foldl (vt f w r) s).1 ++ (if (l.foldl (vt f w r) s).2 = true then [] else [⟨f,w,r⟩]) = s.1 ++ Qk f w r l s.2
 | [],s=>rfl
 | x :: l,s=>by
   rw [List.foldl_cons,KX l]
   simp [vt,Qk]
theorem K9 {f w:qC} {r:Int} {l:List Gra}:(yU f w r l).1 ++ (if (yU f w r l).2 = true then [] else [⟨f,w,r⟩]) = Qk f w r l (decide (r = 0)):=KX l ([],decide (r = 0))
theorem X6 {f w:qC} {r:Int} (l:List Gra) : ∀ (s:List Gra × Bool),(l.foldl (vt f w r) s).1.length ≤ s.1.length + 2 * l.length:=by
 induction l with
 | nil=>intro s;simp
 | cons x l ih =>
   intro s
   rw [List.foldl_cons]
   refine Nat.le_trans (ih _) ?_
   have:(vt f w r s x).1.length ≤ s.1.length + 2:=by
    simp only [vt,List.length_append]
    split<;>split<;>simp
   simp only [List.length_cons];omega
theorem qf5 {f w:qC} {r:Int} {l:List Gra} (hl:l.length ≤ 100):(Qk f w r l (decide (r = 0))).length ≤ 201:=by
 have:=X6 (f:=f) (w:=w) (r:=r) l ([],decide (r = 0))
 rw [← K9]
 simp only [List.length_append,yU,List.length_nil] at *
 have h1 : ∀ b:Bool,(if b = true then ([]:List Gra) else [⟨f,w,r⟩]).length ≤ 1:=fun b=>by cases b<;>simp
 exact Nat.le_trans (Nat.add_le_add this (h1 _)) (by omega)
theorem VU {acc:List Gra} {g x:Gra} {X Y:List AV} (hX:X = g.row) (hY:Y = x.row):(((acc.map Gra.row).take acc.length ++ [X]).take (acc.length + [X].length)) ++ [Y] = (acc ++ ([g] ++ [x])).map Gra.row:=by
 subst hX;subst hY
 rw [List.take_of_length_le (l:=acc.map Gra.row) (by simp),List.take_of_length_le (by simp)]
 simp
theorem X5 {acc R:List Gra} {x:Gra} {X:List AV} (hR:R = [x]) (hX:X = x.row):(acc.map Gra.row).take acc.length ++ [X] = (acc ++ R).map Gra.row:=by
 subst hX;subst hR
 rw [List.take_of_length_le (l:=acc.map Gra.row) (by simp)]
 simp
theorem XY {acc R:List Gra} (hR:R = []):acc.map Gra.row = (acc ++ R).map Gra.row:=by subst hR;simp
theorem ZV (l:List Gra) (f w:qC) (r:Int) (hl:l.length ≤ 100) :
  jO C.P 92 [q9 l,.v (str f),.v (str w),.v (.int .i64 r)] (q9 (Qk f w r l (decide (r = 0)))):=by
 refine qa Tryz.func92 rfl _ Tryz.ntmps92 (Nat.le_of_ble_eq_true rfl) _ Tryz.results92 0 rfl rfl ?_
 repeat' (first|refine qe ?_|fail|((first|refine qb ?_ ?_|refine qc ?_ ?_|refine xsC ?_ ?_);all_goals (intro hc;have hp:=hc;try simp at hp;try (exfalso;omega)))|refine qp ?_ ?_)
 refine Awp.red (zd 9 3 rfl (Nat.zero_le _)) ?_
 (refine Awp.red (qY (τ:=⟨[(0,q9 l),(1,.v (str f)),(2,.v (str w)),(3,.v (.int .i64 r)),(9,.os 0 0 (yU f w r (l.take 0)).1.length),(10,.v (.bool (yU f w r (l.take 0)).2)),(11,.v (.int .i64 ((0:Nat):Int)))],[(0,.own false 3 ((yU f w r (l.take 0)).1.map Gra.row))],1⟩) [(0,0)] rfl ?gts ?ghs) ?gmain;(case gts=>(repeat (first|exact qd|refine qi ?_|refine xd ?_|refine xL ?_|refine qI ?_ ?_)));(case ghs=>(repeat (first|exact qf|refine jV ?_|refine qH ?_ ?_))))
 refine qq (fun n σ => ∃ i:Nat,i ≤ l.length ∧ n = l.length - i ∧ (True) ∧ σ = ⟨[(0,q9 l),(1,.v (str f)),(2,.v (str w)),(3,.v (.int .i64 r)),(9,.os 0 0 (yU f w r (l.take i)).1.length),(10,.v (.bool (yU f w r (l.take i)).2)),(11,.v (.int .i64 (i:Int)))],[(0,.own false 3 ((yU f w r (l.take i)).1.map Gra.row))],1⟩) l.length ⟨0,Nat.zero_le _,rfl,trivial,rfl⟩ ?_
 rintro n σ ⟨i,hi,rfl, -,rfl⟩
 by_cases hlt:i < l.length
 ·have hr:=qx (f:=Gra.row) hlt
  have hal:(yU f w r (l.take i)).1.length ≤ 300:=by
   have:=X6 (f:=f) (w:=w) (r:=r) (l.take i) ([],decide (r = 0))
   simp only [yU,List.length_nil,List.length_take] at *;omega
  have hsu:=qcQ (f:=f) (w:=w) (r:=r) hlt
  have hlq:jv l[i] ⟨f,w,0⟩ = (Op.bytesLess l[i].folder f || (decide (l[i].folder = f) && Op.bytesLess l[i].who w)):=rfl
  have hkq:sameKey ⟨f,w,0⟩ l[i] = (decide (l[i].folder = f) && decide (l[i].who = w)):=rfl
  generalize hst:yU f w r (l.take i) = s at hal hsu ⊢
  obtain ⟨acc,put⟩:=s
  simp only at hal ⊢
  cases put
  ·repeat' (first|refine qe ?_|(first|(refine jN ?_)|(refine yX ?_))|((first|refine qb ?_ ?_|refine qc ?_ ?_|refine xsC ?_ ?_);all_goals (intro hc;have hp:=hc;try simp at hp;try (exfalso;omega)))|refine qp ?_ ?_)
   all_goals try (exfalso;omega)
   all_goals first
    | (have hk:yU f w r (l.take (i + 1)) = (acc ++ ([⟨f,w,r⟩] ++ [l[i]]),true):=(by rw [hsu];simp_all [vt,xp])
       refine ⟨l.length - (i + 1),_,by omega,qY (τ:=⟨[(0,q9 l),(1,.v (str f)),(2,.v (str w)),(3,.v (.int .i64 r)),(9,.os 0 0 (yU f w r (l.take (i + 1))).1.length),(10,.v (.bool (yU f w r (l.take (i + 1))).2)),(11,.v (.int .i64 ((i + 1:Nat):Int)))],[(0,.own false 3 ((yU f w r (l.take (i + 1))).1.map Gra.row))],1⟩) [(3,0)] rfl ?gts ?ghs,i + 1,by omega,rfl,trivial,rfl⟩;(case gts=>(repeat (first|exact qd|refine qi ?_|refine xd ?_|refine xL ?_|refine qI ?_ ?_));all_goals (rw [hk];first|done|exact VU rfl rfl|exact X5 rfl rfl|exact XY rfl));(case ghs=>(repeat (first|exact qf|refine jV ?_|refine qH ?_ ?_));all_goals (rw [hk];first|done|exact VU rfl rfl|exact X5 rfl rfl|exact XY rfl)))
    | (have hk:yU f w r (l.take (i + 1)) = (acc ++ ([⟨f,w,r⟩] ++ []),true):=(by rw [hsu];simp_all [vt,xp])
       refine ⟨l.length - (i + 1),_,by omega,qY (τ:=⟨[(0,q9 l),(1,.v (str f)),(2,.v (str w)),(3,.v (.int .i64 r)),(9,.os 0 0 (yU f w r (l.take (i + 1))).1.length),(10,.v (.bool (yU f w r (l.take (i + 1))).2)),(11,.v (.int .i64 ((i + 1:Nat):Int)))],[(0,.own false 3 ((yU f w r (l.take (i + 1))).1.map Gra.row))],1⟩) [(2,0)] rfl ?gts ?ghs,i + 1,by omega,rfl,trivial,rfl⟩;(case gts=>(repeat (first|exact qd|refine qi ?_|refine xd ?_|refine xL ?_|refine qI ?_ ?_));all_goals (rw [hk];first|done|exact VU rfl rfl|exact X5 rfl rfl|exact XY rfl));(case ghs=>(repeat (first|exact qf|refine jV ?_|refine qH ?_ ?_));all_goals (rw [hk];first|done|exact VU rfl rfl|exact X5 rfl rfl|exact XY rfl)))
    | (have hk:yU f w r (l.take (i + 1)) = (acc ++ ([] ++ [l[i]]),false):=(by rw [hsu];simp_all [vt,xp])
       refine ⟨l.length - (i + 1),_,by omega,qY (τ:=⟨[(0,q9 l),(1,.v (str f)),(2,.v (str w)),(3,.v (.int .i64 r)),(9,.os 0 0 (yU f w r (l.take (i + 1))).1.length),(10,.v (.bool (yU f w r (l.take (i + 1))).2)),(11,.v (.int .i64 ((i + 1:Nat):Int)))],[(0,.own false 3 ((yU f w r (l.take (i + 1))).1.map Gra.row))],1⟩) [(2,0)] rfl ?gts ?ghs,i + 1,by omega,rfl,trivial,rfl⟩;(case gts=>(repeat (first|exact qd|refine qi ?_|refine xd ?_|refine xL ?_|refine qI ?_ ?_));all_goals (rw [hk];first|done|exact VU rfl rfl|exact X5 rfl rfl|exact XY rfl));(case ghs=>(repeat (first|exact qf|refine jV ?_|refine qH ?_ ?_));all_goals (rw [hk];first|done|exact VU rfl rfl|exact X5 rfl rfl|exact XY rfl)))
    | (have hk:yU f w r (l.take (i + 1)) = (acc ++ ([] ++ []),false):=(by rw [hsu];simp_all [vt,xp])
       refine ⟨l.length - (i + 1),_,by omega,qY (τ:=⟨[(0,q9 l),(1,.v (str f)),(2,.v (str w)),(3,.v (.int .i64 r)),(9,.os 0 0 (yU f w r (l.take (i + 1))).1.length),(10,.v (.bool (yU f w r (l.take (i + 1))).2)),(11,.v (.int .i64 ((i + 1:Nat):Int)))],[(0,.own false 3 ((yU f w r (l.take (i + 1))).1.map Gra.row))],1⟩) [(0,0)] rfl ?gts ?ghs,i + 1,by omega,rfl,trivial,rfl⟩;(case gts=>(repeat (first|exact qd|refine qi ?_|refine xd ?_|refine xL ?_|refine qI ?_ ?_));all_goals (rw [hk];first|done|exact VU rfl rfl|exact X5 rfl rfl|exact XY rfl));(case ghs=>(repeat (first|exact qf|refine jV ?_|refine qH ?_ ?_));all_goals (rw [hk];first|done|exact VU rfl rfl|exact X5 rfl rfl|exact XY rfl)))
  ·repeat' (first|refine qe ?_|(first|(refine jN ?_)|(refine yX ?_))|((first|refine qb ?_ ?_|refine qc ?_ ?_|refine xsC ?_ ?_);all_goals (intro hc;have hp:=hc;try simp at hp;try (exfalso;omega)))|refine qp ?_ ?_)
   all_goals try (exfalso;omega)
   all_goals first
    | (have hk:yU f w r (l.take (i + 1)) = (acc ++ ([] ++ [l[i]]),true):=(by rw [hsu];simp_all [vt,xp])
       refine ⟨l.length - (i + 1),_,by omega,qY (τ:=⟨[(0,q9 l),(1,.v (str f)),(2,.v (str w)),(3,.v (.int .i64 r)),(9,.os 0 0 (yU f w r (l.take (i + 1))).1.length),(10,.v (.bool (yU f w r (l.take (i + 1))).2)),(11,.v (.int .i64 ((i + 1:Nat):Int)))],[(0,.own false 3 ((yU f w r (l.take (i + 1))).1.map Gra.row))],1⟩) [(2,0)] rfl ?gts ?ghs,i + 1,by omega,rfl,trivial,rfl⟩;(case gts=>(repeat (first|exact qd|refine qi ?_|refine xd ?_|refine xL ?_|refine qI ?_ ?_));all_goals (rw [hk];first|done|exact VU rfl rfl|exact X5 rfl rfl|exact XY rfl));(case ghs=>(repeat (first|exact qf|refine jV ?_|refine qH ?_ ?_));all_goals (rw [hk];first|done|exact VU rfl rfl|exact X5 rfl rfl|exact XY rfl)))
    | (have hk:yU f w r (l.take (i + 1)) = (acc ++ ([] ++ []),true):=(by rw [hsu];simp_all [vt,xp])
       refine ⟨l.length - (i + 1),_,by omega,qY (τ:=⟨[(0,q9 l),(1,.v (str f)),(2,.v (str w)),(3,.v (.int .i64 r)),(9,.os 0 0 (yU f w r (l.take (i + 1))).1.length),(10,.v (.bool (yU f w r (l.take (i + 1))).2)),(11,.v (.int .i64 ((i + 1:Nat):Int)))],[(0,.own false 3 ((yU f w r (l.take (i + 1))).1.map Gra.row))],1⟩) [(0,0)] rfl ?gts ?ghs,i + 1,by omega,rfl,trivial,rfl⟩;(case gts=>(repeat (first|exact qd|refine qi ?_|refine xd ?_|refine xL ?_|refine qI ?_ ?_));all_goals (rw [hk];first|done|exact VU rfl rfl|exact X5 rfl rfl|exact XY rfl));(case ghs=>(repeat (first|exact qf|refine jV ?_|refine qH ?_ ?_));all_goals (rw [hk];first|done|exact VU rfl rfl|exact X5 rfl rfl|exact XY rfl)))
 obtain rfl:i = l.length:=by omega
 rw [List.take_length]
 have hal:(yU f w r l).1.length ≤ 300:=by
  have:=X6 (f:=f) (w:=w) (r:=r) l ([],decide (r = 0))
  simp only [yU,List.length_nil] at *;omega
 have hall:=K9 (f:=f) (w:=w) (r:=r) (l:=l)
 generalize Qk f w r l (decide (r = 0)) = G at hall ⊢
 generalize yU f w r l = s at hal hall ⊢
 obtain ⟨acc,put⟩:=s
 simp only at hal hall ⊢
 subst hall
 cases put
 ·repeat' (first|refine qe ?_|(first|(refine jN ?_)|(refine yX ?_))|((first|refine qb ?_ ?_|refine qc ?_ ?_|refine xsC ?_ ?_);all_goals (intro hc;have hp:=hc;try simp at hp;try (exfalso;omega)))|refine qp ?_ ?_)
  all_goals try (exfalso;omega)
  (refine yu (rs:=[.tmp 8]) ?_;(repeat' (first|exact qL|apply qk|exact qB rfl|exact yi|exact vS|apply jT|apply yl|apply jQ|apply yo|apply jY|apply yq|refine vY ?_|apply y0));all_goals exact X5 rfl rfl)
 ·repeat' (first|refine qe ?_|(first|(refine jN ?_)|(refine yX ?_))|((first|refine qb ?_ ?_|refine qc ?_ ?_|refine xsC ?_ ?_);all_goals (intro hc;have hp:=hc;try simp at hp;try (exfalso;omega)))|refine qp ?_ ?_)
  all_goals try (exfalso;omega)
  (refine yu (rs:=[.tmp 8]) ?_;(repeat' (first|exact qL|apply qk|exact qB rfl|exact yi|exact vS|apply jT|apply yl|apply jQ|apply yo|apply jY|apply yq|refine vY ?_|apply y0));all_goals exact XY rfl)
end Go.Proofs.YtiljlcgmcmjcoaaGreatDoor
set_option linter.unusedSimpArgs false
set_option maxHeartbeats 1000000
namespace Go.Proofs.YtiljlcgmcmjcoaaGreatDoor
open Go.Ab Go.RowKit
set_option maxRecDepth 10000
attribute [local irreducible] Awp ye ji qQ Red qF Go.Ab.Fin qo Rz xx qG qO ResOk jK je jX qW
theorem qhQ:qeN C.P 88 = some [1,1,0]:=by kernel_rfl
theorem qfo (a b:Gra):QI [1,1,0] a.row b.row = some (decide (a = b)):=by
 obtain ⟨a1,a2,a3⟩:=a
 obtain ⟨b1,b2,b3⟩:=b
 simp only [Gra.row,QI,Jb,str,Gra.mk.injEq,if_true,Option.some.injEq]
 by_cases h1:a1 = b1<;>by_cases h2:a2 = b2<;>by_cases h3:a3 = b3<;>simp [h1,h2,h3]
theorem qfg (l:List Gra) (hl:l.length ≤ 1000000):jO C.P 34 [q9 l,q9 l] (.v (.bool true)):=by
 refine qa Tryz.func34 rfl _ Tryz.ntmps34 (Nat.le_of_ble_eq_true rfl) _ Tryz.results34 0 rfl rfl ?_
 repeat' (first|refine qe ?_|fail|((first|refine xsC ?_ ?_);all_goals (intro hc;have hp:=hc;try simp at hp;try (exfalso;omega)))|refine qp ?_ ?_)
 all_goals try (exfalso;simp_all;done)
 (refine Awp.red (qg (ts:=[(0,q9 l),(1,q9 l),(5,.v (.int .i64 ((0:Nat):Int)))]) ?_) ?_;((repeat (first|exact qd|refine qi ?_|refine qI ?_ ?_))))
 refine qq (fun n σ => ∃ i:Nat,i ≤ l.length ∧ n = l.length - i ∧ (True) ∧ σ = ⟨[(0,q9 l),(1,q9 l),(5,.v (.int .i64 (i:Int)))],[],C.nh⟩) l.length ⟨0,Nat.zero_le _,rfl,trivial,rfl⟩ ?_
 rintro n σ ⟨i,hi,rfl, -,rfl⟩
 by_cases hlt:i < l.length
 ·have hr:=qx (f:=Gra.row) hlt
  repeat' (first|refine qe ?_|(first|(apply qj;apply Y1;rfl;rfl;exact qhQ;exact qfo _ _;(first|exact .inl ⟨rfl,rfl⟩|exact .inr ⟨rfl,rfl⟩);exact nle rfl))|((first|refine xsC ?_ ?_);all_goals (intro hc;have hp:=hc;try simp at hp;try (exfalso;omega)))|refine qp ?_ ?_)
  all_goals try (exfalso;omega)
  all_goals try (exfalso;simp_all;done)
  refine ⟨l.length - (i + 1),_,by omega,qg (ts:=[(0,q9 l),(1,q9 l),(5,.v (.int .i64 ((i + 1:Nat):Int)))]) ?_,i + 1,by omega,rfl,trivial,rfl⟩;((repeat (first|exact qd|refine qi ?_|refine qI ?_ ?_)))
 obtain rfl:i = l.length:=by omega
 repeat' (first|refine qe ?_|fail|((first|refine xsC ?_ ?_);all_goals (intro hc;have hp:=hc;try simp at hp;try (exfalso;omega)))|refine qp ?_ ?_)
 all_goals try (exfalso;omega)
 apply jd
 rfl
 rfl
def vv (l:List Gra) (f w:qC):Int:=if ql f && ql w then (if l.any (vg f) then 6 else if l.length = 60 then 2 else 0) else 1
theorem qfL (l:List Gra) (f:qC):l.any (vg f) = decide (0 < (zK l f).length):=by
 rw [Bool.eq_iff_iff,decide_eq_true_iff,List.any_eq_true,zK,List.length_map,List.length_pos_iff_exists_mem]
 simp only [List.mem_filter]
theorem qfv (l:List Gra) (f w:qC) (hl:l.length ≤ 60) (hf:f.length ≤ 140737488355328) (hw:w.length ≤ 140737488355328) :
  jO C.P 48 [q9 l,.v (str f),.v (str w)] (.tup [q9 (if vv l f w = 0 then Qk f w 3 l false else []),.v (.int .i64 (vv l f w))]):=by
 have h1:=vU f hf
 have h2:=vU w hw
 have h3:=qdP l f (by omega)
 have h4:=ZV l f w 3 (by omega)
 rw [show decide ((3:Int) = 0) = false from rfl] at h4
 have hw1:=qfL l f
 have hwl:=qbB l f
 cases hb1:ql f with
 | false =>
   rw [hb1] at h1
   rw [show vv l f w = 1 from by simp [vv,hb1]]
   refine qa Tryz.func48 rfl _ Tryz.ntmps48 (Nat.le_of_ble_eq_true rfl) _ Tryz.results48 0 rfl rfl ?_
   repeat' (first|refine qe ?_|(first|refine xsF Tryz.func25 (h1 ..) ?_)|((first|refine xsC ?_ ?_);all_goals (intro hc;have hp:=hc;try simp at hp;try (exfalso;omega)))|refine qp ?_ ?_)
   all_goals try (exfalso;simp_all;done)
   all_goals ((exact j1 (rs:=[.tmp 6,.tmp 7])))
 | true =>
   rw [hb1] at h1
   cases hb2:ql w with
   | false =>
     rw [hb2] at h2
     rw [show vv l f w = 1 from by simp [vv,hb1,hb2]]
     refine qa Tryz.func48 rfl _ Tryz.ntmps48 (Nat.le_of_ble_eq_true rfl) _ Tryz.results48 0 rfl rfl ?_
     repeat' (first|refine qe ?_|(first|refine xsF Tryz.func25 (h1 ..) ?_|refine xsF Tryz.func25 (h2 ..) ?_)|((first|refine xsC ?_ ?_);all_goals (intro hc;have hp:=hc;try simp at hp;try (exfalso;omega)))|refine qp ?_ ?_)
     all_goals try (exfalso;simp_all;done)
     all_goals ((exact j1 (rs:=[.tmp 6,.tmp 7])))
   | true =>
     rw [hb2] at h2
     refine qa Tryz.func48 rfl _ Tryz.ntmps48 (Nat.le_of_ble_eq_true rfl) _ Tryz.results48 0 rfl rfl ?_
     repeat' (first|refine qe ?_|(first|refine xsF Tryz.func25 (h1 ..) ?_|refine xsF Tryz.func25 (h2 ..) ?_|refine xsQ Tryz.func43 (h3 ..) ?_|refine xsQ Tryz.func92 (h4 ..) ?_)|((first|refine xsC ?_ ?_);all_goals (intro hc;have hp:=hc;try simp at hp;try (exfalso;omega)))|refine qp ?_ ?_)
     all_goals try (exfalso;simp_all;done)
     ·rw [show vv l f w = 6 from by simp_all [vv]]
      (exact j1 (rs:=[.tmp 6,.tmp 7]))
     ·rw [show vv l f w = 2 from by
       have:l.length = 60:=by omega
       simp_all [vv]]
      (exact j1 (rs:=[.tmp 6,.tmp 7]))
     ·rw [show vv l f w = 0 from by
       have:¬ l.length = 60:=by omega
       simp_all [vv]]
      (exact j1 (rs:=[.tmp 6,.tmp 7]))
end Go.Proofs.YtiljlcgmcmjcoaaGreatDoor
set_option linter.unusedSimpArgs false
set_option maxHeartbeats 1000000
namespace Go.Proofs.YtiljlcgmcmjcoaaGreatDoor
open Go.Ab Go.RowKit
set_option maxRecDepth 10000
attribute [local irreducible] Awp ye ji qQ Red qF Go.Ab.Fin qo Rz xx qG qO ResOk jK je jX qW
theorem qao (l:List Gra) (f b w:qC) (r:Int) (h0:jH l = 0) (hf:f.length ≤ 140737488355328) (hb:b.length ≤ 140737488355328) (hw:w.length ≤ 140737488355328) (he:jD l f b w r ≠ 0) :
  jO C.P 49 [q9 l,.v (str f),.v (str b),.v (str w),.v (.int .i64 r)] (.tup [q9 [],.v (.int .i64 (jD l f b w r))]):=by
 have hlen:=vJ h0
 have h1:=vU f hf
 have h2:=vU b hb
 have h3:=vU w hw
 have ho1:=vd l f b (by omega)
 have ho2:=vd l f w (by omega)
 have hof := @WX l f b w r h0
 have hor := @ZU l f b w r h0
 have hod := @qdb l f b w r h0
 have hon := @Wu l f b w r h0
 have hok := @qif l f b w r h0
 refine qa Tryz.func49 rfl _ Tryz.ntmps49 (Nat.le_of_ble_eq_true rfl) _ Tryz.results49 0 rfl rfl ?_
 repeat' (first|refine qe ?_|(first|refine xsF Tryz.func25 (h1 ..) ?_|refine xsF Tryz.func25 (h2 ..) ?_|refine xsF Tryz.func25 (h3 ..) ?_|refine xsF Tryz.func47 (ho1 ..) ?_|refine xsF Tryz.func47 (ho2 ..) ?_)|((first|refine qb ?_ ?_|refine qc ?_ ?_|refine xsC ?_ ?_);all_goals (intro hc;have hp:=hc;try simp at hp;try (exfalso;omega)))|refine qp ?_ ?_)
 all_goals try (exfalso;simp_all;done)
 all_goals first
  | (have h1:jD l f b w r = 1:=hof (by first|(left;assumption)|(right;left;assumption)|(right;right;assumption))
     rw [h1]
     (exact j1 (rs:=[.tmp 10,.tmp 11])))
  | (have h1:jD l f b w r = 3:=hor ⟨by assumption,by assumption,by assumption⟩ (by omega)
     rw [h1]
     (exact j1 (rs:=[.tmp 10,.tmp 11])))
  | (have h1:jD l f b w r = 9:=hod ⟨by assumption,by assumption,by assumption⟩ (by omega) (by assumption) (by first|exact .inl (by assumption)|exact .inr (by assumption))
     rw [h1]
     (exact j1 (rs:=[.tmp 10,.tmp 11])))
  | (have h1:jD l f b w r = 5:=hon ⟨by assumption,by assumption,by assumption⟩ (by first|exact .inl (by assumption)|exact .inr ⟨by assumption,by assumption⟩) (by assumption) (by assumption)
     rw [h1]
     (exact j1 (rs:=[.tmp 10,.tmp 11])))
  | (have h1:jD l f b w r = 0:=hok ⟨by assumption,by assumption,by assumption⟩ (by omega) (by first|exact .inl (by assumption)|exact .inr ⟨by assumption,by assumption⟩) (by first|exact .inl (by assumption)|exact .inr (by assumption))
     exact absurd h1 he)
  | trace_state
theorem qc3 (L:List Gra) (f:qC):Yw L f = L.any (wl f):=rfl
theorem qjf {L:List Gra} {f:qC}:(Yw L f = false → yh L f = 4 ∧ zy L f = []) ∧ (Yw L f = true → (60:Int) < (L.length:Int) → yh L f = 2 ∧ zy L f = []) ∧ (Yw L f = true → (L.length:Int) ≤ 60 → yh L f = 0 ∧ zy L f = L):=by
 rw [qc3]
 refine ⟨fun h=>?_,fun h hl=>?_,fun h hl=>?_⟩
 ·have h2:yh L f = 4:=by simp [yh,h]
  exact ⟨h2,by simp [zy,h2]⟩
 ·exact qfM (List.any_eq_true.1 h) hl
 ·exact qds (List.any_eq_true.1 h) hl
theorem qb2 (l:List Gra) (f b w:qC) (r:Int) (hf:f.length ≤ 140737488355328) (hb:b.length ≤ 140737488355328) (hw:w.length ≤ 140737488355328) (he:jD l f b w r = 0) :
  jO C.P 49 [q9 l,.v (str f),.v (str b),.v (str w),.v (.int .i64 r)] (.tup [q9 (zy (Qk f w r l (decide (r = 0))) f),.v (.int .i64 (yh (Qk f w r l (decide (r = 0))) f))]):=by
 obtain ⟨h0,hn,hr,ho,hw0⟩:=Wp he
 have hlen:=vJ h0
 have h1:=vU f hf
 have h2:=vU b hb
 have h3:=vU w hw
 rw [hn.1] at h1
 rw [hn.2.1] at h2
 rw [hn.2.2] at h3
 have ho1:=vd l f b (by omega)
 have ho2:=vd l f w (by omega)
 have hpu:=ZV l f w r (by omega)
 have hgl:=qf5 (f:=f) (w:=w) (r:=r) (l:=l) (by omega)
 generalize Qk f w r l (decide (r = 0)) = G at hpu hgl ⊢
 have how:=qbo G (by omega) f
 obtain ⟨g4,g2,g0⟩:=qjf (L:=G) (f:=f)
 refine qa Tryz.func49 rfl _ Tryz.ntmps49 (Nat.le_of_ble_eq_true rfl) _ Tryz.results49 0 rfl rfl ?_
 repeat' (first|refine qe ?_|(first|refine xsF Tryz.func25 (h1 ..) ?_|refine xsF Tryz.func25 (h2 ..) ?_|refine xsF Tryz.func25 (h3 ..) ?_|refine xsF Tryz.func47 (ho1 ..) ?_|refine xsF Tryz.func47 (ho2 ..) ?_|refine xsQ Tryz.func92 (hpu ..) ?_|refine xsF Tryz.func77 (how ..) ?_)|((first|refine qb ?_ ?_|refine qc ?_ ?_|refine xsC ?_ ?_);all_goals (intro hc;have hp:=hc;try simp at hp;try (exfalso;omega)))|refine qp ?_ ?_)
 all_goals try (exfalso;omega)
 all_goals try (exfalso;rcases ho with h|⟨h,_⟩<;>contradiction)
 all_goals first
  | (refine (fun (h:yh G f = 4 ∧ zy G f = [])=>?_) (g4 ?_);rotate_left;assumption
     rw [h.1,h.2]
     (exact j1 (rs:=[.tmp 10,.tmp 11])))
  | (refine (fun (h:yh G f = 2 ∧ zy G f = [])=>?_) (g2 ?_ ?_);rotate_left;assumption;assumption
     rw [h.1,h.2]
     (exact j1 (rs:=[.tmp 10,.tmp 11])))
  | (refine (fun (h:yh G f = 0 ∧ zy G f = G)=>?_) (g0 ?_ ?_);rotate_left;assumption;assumption
     rw [h.1,h.2]
     (exact j1 (rs:=[.tmp 10,.tmp 11])))
  | trace_state
theorem Ks {l:List Gra} {f b w:qC} {r:Int} (he:jD l f b w r = 0) (h0:r = 0):kq l ⟨f,w,0⟩ = true:=by
 obtain ⟨hg,_,_,_,hw0⟩:=Wp he
 cases h:kq l ⟨f,w,0⟩
 ·have:=VQ (wg hg) h
  exact absurd this (hw0.resolve_left (fun e=>e h0))
 ·rfl
theorem qik (l:List Gra) (hl:GBig l) (f w:qC) (hf:f.length ≤ 140737488355328) (hw:w.length ≤ 140737488355328) (he:j3 l f w = 0) :
  jO C.P 60 [q9 l,.v (str f),.v (str w)] (.tup [q9 (va l f w 3),.v (.int .i64 0)]):=by
 have h0:jH l = 0:=by
  cases Classical.em (jH l = 0) with
  | inl h=>exact h
  | inr h=>simp [j3,h] at he
 have hlen:=vJ h0
 exact qed l hl f w hf hw he _ (qid l f w 3 (by omega) (wg h0) (fun h=>by omega))
theorem qij (l:List Gra) (hl:GBig l) (f b w:qC) (r:Int) (hf:f.length ≤ 140737488355328) (hb:b.length ≤ 140737488355328) (hw:w.length ≤ 140737488355328) (he:jD l f b w r = 0) :
  jO C.P 61 [q9 l,.v (str f),.v (str b),.v (str w),.v (.int .i64 r)] (.tup [q9 (zy (va l f w r) f),.v (.int .i64 (yh (va l f w r) f))]):=by
 have h0:=(Wp he).1
 have hlen:=vJ h0
 have:=Kq (l:=l) (f:=f) (w:=w) (r:=r)
 exact qer l hl f b w r hf hb hw he _ (by omega) (qid l f w r (by omega) (wg h0) (Ks he))
end Go.Proofs.YtiljlcgmcmjcoaaGreatDoor
