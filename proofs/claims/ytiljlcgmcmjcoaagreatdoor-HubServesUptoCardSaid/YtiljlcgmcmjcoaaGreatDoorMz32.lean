import Derived.Test.YtiljlcgmcmjcoaaGreatDoorMz31
set_option linter.unusedSimpArgs false
set_option linter.unnecessarySimpa false
set_option linter.unusedVariables false
set_option maxHeartbeats 1000000
namespace Go.Proofs.YtiljlcgmcmjcoaaGreatDoor
open Go.Ab Go.RowKit
set_option maxRecDepth 10000
attribute [local irreducible] Awp ye ji qQ Red qF Go.Ab.Fin qo Rz xx qG qO ResOk jK je jX qW
theorem QC {p:List AV → Bool} {l l' : List (List AV)} (h:l.all p = true) (hs : ∀ x,x ∈ l' → x ∈ l):l'.all p = true:=List.all_eq_true.2 fun x hx=>List.all_eq_true.1 h x (hs x hx)
theorem Yd {l:List (List AV)} {a b:Nat} : ∀ x,x ∈ (l.take b).drop a → x ∈ l:=fun _ h=>List.mem_of_mem_take (List.mem_of_mem_drop h)
theorem Vk (u:Upl) (hu:UBig u) (who:qC) (hw:who.length ≤ 1000000000) (number now:Int) (he:jA u who number now = 0) :
  jO C.P 53 [xw u,.v (str who),.v (.int .i64 number),.v (.int .i64 now)] (.tup [xw (yD u now),.v (.int .i64 ((mineK u who number now:Nat):Int)),.v (.int .i64 0)]):=by
 obtain ⟨m1,m2,m3,m4,m5⟩:=zI he
 have hl20:=(uok m1).len
 have hb:=Zf u hu now
 have hn:=xA who (kc hw)
 have hsw:=Z5 u now (by omega)
 have hse:=VD (yD u now) (by have:=vE u.sess now;show (qz u.sess now).length ≤ 1000000;omega) who number
 rw [m1] at hb
 rw [m2] at hn
 rw [show j0 (xD who number) (yD u now).sess = j0 (xD who number) (qz u.sess now) from rfl,m3] at hse
 generalize mineK u who number now = K at *
 clear m1 m2 m3 m4 m5 he
 refine qa Tryz.func53 rfl _ Tryz.ntmps53 (Nat.le_of_ble_eq_true rfl) _ Tryz.results53 0 rfl rfl ?_
 repeat' (first|refine qe ?_|(first|refine xsF Tryz.func93 (hb ..) ?_|refine xsF Tryz.func25 (hn ..) ?_|refine xsQ Tryz.func94 (hsw ..) ?_|refine xsF Tryz.func95 (hse ..) ?_)|((first|refine qb ?_ ?_|refine qc ?_ ?_|refine xsC ?_ ?_);all_goals (intro hc;have hp:=hc;try simp at hp;try (exfalso;omega)))|refine qp ?_ ?_)
 all_goals try (exfalso;first|omega|contradiction|simp_all;done)
 (exact j1 (rs:=[.cell 8 26,.tmp 9,.tmp 10]))
theorem Ys (u:Upl) (hu:UBig u) (who:qC) (hw:who.length ≤ 1000000000) (number now:Int) (he:jA u who number now ≠ 0) :
  ∃ u' : Upl,jO C.P 53 [xw u,.v (str who),.v (.int .i64 number),.v (.int .i64 now)] (.tup [xw u',.v (.int .i64 0),.v (.int .i64 (jA u who number now))]):=by
 have hb:=Zf u hu now
 have hn:=xA who (kc hw)
 by_cases hb0:js u now = 0
 case neg =>
  refine ⟨u,?_⟩
  rw [show jA u who number now = js u now from by simp [jA,hb0]]
  generalize js u now = E at *
  refine qa Tryz.func53 rfl _ Tryz.ntmps53 (Nat.le_of_ble_eq_true rfl) _ Tryz.results53 0 rfl rfl ?_
  repeat' (first|refine qe ?_|(first|refine xsF Tryz.func93 (hb ..) ?_|refine xsF Tryz.func25 (hn ..) ?_)|((first|refine qb ?_ ?_|refine qc ?_ ?_|refine xsC ?_ ?_);all_goals (intro hc;have hp:=hc;try simp at hp;try (exfalso;omega)))|refine qp ?_ ?_)
  all_goals try (exfalso;first|omega|contradiction|simp_all;done)
  (exact j1 (rs:=[.cell 8 26,.tmp 9,.tmp 10]))
 rw [hb0] at hb
 by_cases hnm:ql who = true
 case neg =>
  refine ⟨u,?_⟩
  have hnm:ql who = false:=by simpa using hnm
  rw [show jA u who number now = 1 from by simp [jA,hb0,hnm]]
  rw [hnm] at hn
  clear hb0 he
  refine qa Tryz.func53 rfl _ Tryz.ntmps53 (Nat.le_of_ble_eq_true rfl) _ Tryz.results53 0 rfl rfl ?_
  repeat' (first|refine qe ?_|(first|refine xsF Tryz.func93 (hb ..) ?_|refine xsF Tryz.func25 (hn ..) ?_)|((first|refine qb ?_ ?_|refine qc ?_ ?_|refine xsC ?_ ?_);all_goals (intro hc;have hp:=hc;try simp at hp;try (exfalso;omega)))|refine qp ?_ ?_)
  all_goals try (exfalso;first|omega|contradiction|simp_all;done)
  (exact j1 (rs:=[.cell 8 26,.tmp 9,.tmp 10]))
 rw [hnm] at hn
 have hx:j0 (xD who number) (qz u.sess now) < 0:=by
  by_cases h:j0 (xD who number) (qz u.sess now) < 0
  ·exact h
  ·exact absurd (show jA u who number now = 0 from by simp [jA,hb0,hnm,h]) he
 have hl20:=(uok hb0).len
 have hsw:=Z5 u now (by omega)
 have hse:=VD (yD u now) (by have:=vE u.sess now;show (qz u.sess now).length ≤ 1000000;omega) who number
 rw [show j0 (xD who number) (yD u now).sess = j0 (xD who number) (qz u.sess now) from rfl] at hse
 refine ⟨yD u now,?_⟩
 rw [show jA u who number now = 5 from by simp [jA,hb0,hnm,hx]]
 generalize j0 (xD who number) (qz u.sess now) = K at *
 clear hb0 hnm he
 refine qa Tryz.func53 rfl _ Tryz.ntmps53 (Nat.le_of_ble_eq_true rfl) _ Tryz.results53 0 rfl rfl ?_
 repeat' (first|refine qe ?_|(first|refine xsF Tryz.func93 (hb ..) ?_|refine xsF Tryz.func25 (hn ..) ?_|refine xsQ Tryz.func94 (hsw ..) ?_|refine xsF Tryz.func95 (hse ..) ?_)|((first|refine qb ?_ ?_|refine qc ?_ ?_|refine xsC ?_ ?_);all_goals (intro hc;have hp:=hc;try simp at hp;try (exfalso;omega)))|refine qp ?_ ?_)
 all_goals try (exfalso;first|omega|contradiction|simp_all;done)
 (exact j1 (rs:=[.cell 8 26,.tmp 9,.tmp 10]))
theorem qeX {α:Type} (l:List α) (k:Nat):l.take k ++ l.drop (k + 1) = l.eraseIdx k:=(List.eraseIdx_eq_take_drop_succ l k).symm
theorem qc9 (l:List Sess) (k:Nat):((((l.map Sess.row).take k).drop 0).take (((l.map Sess.row).take k).drop 0).length ++ ((l.map Sess.row).take (l.map Sess.row).length).drop (k + 1)).take ((((l.map Sess.row).take k).drop 0).length + (((l.map Sess.row).take (l.map Sess.row).length).drop (k + 1)).length) = (l.eraseIdx k).map Sess.row:=by
 simp only [List.take_length,List.drop_zero]
 rw [List.take_of_length_le (by rw [List.length_append];exact Nat.le_refl _), ← List.map_take, ← List.map_drop, ← List.map_append,qeX]
theorem ZC (l:List Sess) (k:Nat):(((l.map Sess.row).take k).drop 0).length + (((l.map Sess.row).take (l.map Sess.row).length).drop (k + 1)).length ≤ ((((l.map Sess.row).take k).drop 0).take (((l.map Sess.row).take k).drop 0).length ++ ((l.map Sess.row).take (l.map Sess.row).length).drop (k + 1)).length:=by
 simp only [List.take_length,List.drop_zero,List.length_append];exact Nat.le_refl _
theorem qhE {h:Nat → HB} {n k len:Nat} {l:List Sess} {rows:List (List AV)} (hn:h n = .own false 5 rows) (hr:rows.take len = (l.eraseIdx k).map Sess.row) (hl:len ≤ rows.length):Rz h (.os n 0 len) (.sl false ((l.eraseIdx k).map Sess.row)):=by
 refine Yo hn (by omega) ?_
 rw [List.drop_zero,hr]
 exact x6 (jq fun _=>rfl)
set_option maxHeartbeats 1000000 in
theorem qgo (u:Upl) (hu:UBig u) (who:qC) (hw:who.length ≤ 1000000000) (number now:Int) :
  jO C.P 54 [xw u,.v (str who),.v (.int .i64 number),.v (.int .i64 now)] (JJ (zq u who number now).1 (zq u who number now).2.1 (zq u who number now).2.2):=by
 unfold zq
 by_cases h0:jA u who number now = 0
 case neg =>
  rw [if_neg h0]
  obtain ⟨u',h1⟩:=Ys u hu who hw number now h0
  generalize jA u who number now = E at *
  refine qa Tryz.func54 rfl _ Tryz.ntmps54 (Nat.le_of_ble_eq_true rfl) _ Tryz.results54 0 rfl rfl ?_
  repeat' (first|refine qe ?_|(first|refine xsQ Tryz.func53 (h1 ..) ?_)|((first|refine xsC ?_ ?_);all_goals (intro hc;have hp:=hc;try simp at hp;try (exfalso;omega)))|refine qp ?_ ?_)
  all_goals try (exfalso;first|omega|contradiction|simp_all;done)
  (exact j1 (rs:=[.cell 8 26,.tmp 9,.tmp 10]))
 rw [if_pos h0]
 have h1:=Vk u hu who hw number now h0
 have hst:=kj h0
 obtain ⟨m1,m2,m3,m4,m5⟩:=zI h0
 have hl20:=(uok m1).len
 have hsl:=vE u.sess now
 have hsz:(mineS u who number now).text.length ≤ (mineS u who number now).size:=by
  have hs:=(ke (Yb m1).1).2.2.1 _ (kL (List.mem_of_getElem? m4))
  unfold yj at hs
  split at hs
  ·split at hs
   ·split at hs
    ·omega
    ·omega
   ·omega
  ·omega
 generalize mineK u who number now = K at *
 generalize mineS u who number now = S at *
 obtain ⟨hkl,hS⟩:=List.getElem?_eq_some_iff.1 m4
 have hr:((yD u now).sess.map Sess.row)[((K:Nat):Int).toNat]? = some S.row:=by
  show ((qz u.sess now).map Sess.row)[K]? = some S.row
  rw [List.getElem?_map,m4];rfl
 have hml:((yD u now).sess.map Sess.row).length = (qz u.sess now).length:=by simp [yD]
 have hml2:(yD u now).sess.length ≤ 20:=Nat.le_trans hsl hl20
 have hrk : ∀ row,row ∈ (yD u now).sess.map Sess.row → row.length = 5:=by
  intro row h
  obtain ⟨s,_,rfl⟩:=List.mem_map.1 h
  rfl
 have hfu:qgQ u now K = { u with sess:=(qz u.sess now).eraseIdx K }:=rfl
 clear m1 m2 m3 m4 m5 h0
 by_cases hlt:S.text.length < S.size
 ·rw [if_pos hlt]
  have hne:decide ((S.text.length:Int) = S.size) = false:=by simp;omega
  refine qa Tryz.func54 rfl _ Tryz.ntmps54 (Nat.le_of_ble_eq_true rfl) _ Tryz.results54 0 rfl rfl ?_
  repeat' (first|refine qe ?_|(first|refine xsQ Tryz.func53 (h1 ..) ?_)|((first|refine xsC ?_ ?_);all_goals (intro hc;have hp:=hc;try simp at hp;try (exfalso;omega)))|refine qp ?_ ?_)
  all_goals try (exfalso;first|omega|contradiction|simp_all;done)
  (exact j1 (rs:=[.cell 8 26,.tmp 9,.tmp 10]))
 ·rw [if_neg hlt]
  have heq:(S.text.length:Int) = S.size:=by omega
  refine qa Tryz.func54 rfl _ Tryz.ntmps54 (Nat.le_of_ble_eq_true rfl) _ Tryz.results54 0 rfl rfl ?_
  repeat' (first|refine qe ?_|(first|refine xsQ Tryz.func53 (h1 ..) ?_|(refine jN ?_)|(apply yW;apply kU;(case hx=>rfl);(case hT=>rfl);(case he=>rfl);(case hE=>rfl);(case hz=>rfl);(case hsrc=>(apply xQ;rfl;exact QC (yA fun _=>rfl) Yd));(case hsz=>(first|omega|(simp only [List.length_append,List.length_drop,List.length_take,List.length_map,List.length_cons,List.length_nil];omega)|(simp;omega)));(case hlen=>(first|omega|(simp only [List.length_append,List.length_drop,List.length_take,List.length_map,List.length_cons,List.length_nil];omega)|(simp;omega)));(case hN=>exact nle rfl))|(apply w4;apply vK;(case hx=>rfl);(case hT=>rfl);(case he=>rfl);(case hE=>rfl);(case hn=>rfl);(case hl=>(first|omega|(simp only [List.length_append,List.length_drop,List.length_take,List.length_map,List.length_cons,List.length_nil];omega)|(simp;omega)));(case hz=>rfl);(case hsrc=>(apply xQ;rfl;exact QC (yA fun _=>rfl) Yd));(case hsz=>(first|omega|(simp only [List.length_append,List.length_drop,List.length_take,List.length_map,List.length_cons,List.length_nil];omega)|(simp;omega)));(case hlen=>(first|omega|(simp only [List.length_append,List.length_drop,List.length_take,List.length_map,List.length_cons,List.length_nil];omega)|(simp;omega)));(case hmn=>exact Nat.ne_of_beq_eq_false rfl);(case hN=>exact nle rfl))|(apply qj;apply xo (ex':=false) (a:=0) (b:=K) (m:=0);(case hx=>rfl);(case hT=>rfl);(case he=>rfl);(case hE=>rfl);(case ha=>rfl);(case hb=>exact ⟨_,rfl⟩);(case hm=>trivial);(case hab=>(first|omega|(simp;done)|(simp only [List.length_cons,List.length_nil,List.length_map];omega)|(simp;omega)));(case hbl=>(first|omega|(simp;done)|(simp only [List.length_cons,List.length_nil,List.length_map];omega)|(simp;omega)));(case hrk=>exact hrk);(case hex=>exact nofun);(case hN=>exact nle rfl))|(apply qj;apply xo (ex':=false) (a:=K + 1) (b:=((yD u now).sess.map Sess.row).length) (m:=0);(case hx=>rfl);(case hT=>rfl);(case he=>rfl);(case hE=>rfl);(case ha=>exact ⟨_,wQ (by omega)⟩);(case hb=>rfl);(case hm=>trivial);(case hab=>(first|omega|(simp;done)|(simp only [List.length_cons,List.length_nil,List.length_map];omega)|(simp;omega)));(case hbl=>(first|omega|(simp;done)|(simp only [List.length_cons,List.length_nil,List.length_map];omega)|(simp;omega)));(case hrk=>exact hrk);(case hex=>exact nofun);(case hN=>exact nle rfl)))|((first|refine xsC ?_ ?_);all_goals (intro hc;have hp:=hc;try simp at hp;try (exfalso;omega)))|refine qp ?_ ?_)
  all_goals try (exfalso;first|omega|contradiction|simp_all;done)
  (refine yu (rs:=[.cell 8 26,.tmp 9,.tmp 10]) ?_;(repeat' (first|((apply qhE;(case hn=>rfl);(case hr=>exact qc9 _ _);(case hl=>exact ZC _ _)))|exact qL|apply qk|exact qB rfl|exact yi|exact vS|apply jT|apply yl|apply jQ|apply yo|apply jY|apply yq|refine vY ?_|apply y0));all_goals trace_state)
theorem qhk {h:Nat → HB} {n k len:Nat} {l:List Sess} {s:Sess} {rows:List (List AV)} (hn:h n = .own false 5 rows) (hr:rows = (l.map Sess.row).set k s.row) (hl:len = (l.map Sess.row).length):Rz h (.os n 0 len) (.sl false ((l.set k s).map Sess.row)):=by
 subst hr;subst hl
 refine Yo hn (by simp) ?_
 rw [List.drop_zero,List.take_of_length_le (by simp),List.map_set]
 exact x6 (by rw [← List.map_set];exact jq fun _=>rfl)
set_option maxHeartbeats 1000000 in
theorem qft (u:Upl) (hu:UBig u) (who:qC) (hw:who.length ≤ 1000000000) (number offset:Int) (text:qC) (ht:text.length ≤ 1000000000) (now:Int) :
  jO C.P 52 [xw u,.v (str who),.v (.int .i64 number),.v (.int .i64 offset),.v (str text),.v (.int .i64 now)] (kZ (wC u who number offset text now).1 (wC u who number offset text now).2.1 (wC u who number offset text now).2.2):=by
 unfold wC
 by_cases h0:jA u who number now = 0
 case neg =>
  rw [if_neg h0]
  obtain ⟨u',h1⟩:=Ys u hu who hw number now h0
  generalize jA u who number now = E at *
  refine qa Tryz.func52 rfl _ Tryz.ntmps52 (Nat.le_of_ble_eq_true rfl) _ Tryz.results52 0 rfl rfl ?_
  repeat' (first|refine qe ?_|(first|refine xsQ Tryz.func53 (h1 ..) ?_)|((first|refine qb ?_ ?_|refine qc ?_ ?_|refine xsC ?_ ?_);all_goals (intro hc;have hp:=hc;try simp at hp;try (exfalso;omega)))|refine qp ?_ ?_)
  all_goals try (exfalso;first|omega|contradiction|simp_all;done)
  (exact j1 (rs:=[.cell 12 26,.tmp 13,.tmp 14]))
 rw [if_pos h0]
 have h1:=Vk u hu who hw number now h0
 have hst:=kj h0
 obtain ⟨m1,m2,m3,m4,m5⟩:=zI h0
 have hl20:=(uok m1).len
 have hsl:=vE u.sess now
 obtain ⟨n0,n1,l0,l1,r0,r1,x0,x1,_,_⟩:=uok m1
 have hUl:(yD u now).lasts = u.lasts:=rfl
 have hap : ∀ e,QS (mineS u who number now) offset text = e → ¬ e = 0 → qaa u (mineK u who number now) (mineS u who number now) offset text now = (Ju,0,e):=fun e h1 h2=>by unfold qaa;rw [h1,if_neg h2]
 have hag:vW (mineS u who number now).text offset text = true → qaa u (mineK u who number now) (mineS u who number now) offset text now = (yD u now,((mineS u who number now).text.length:Int),0):=fun h=>by
  unfold qaa QS Yl
  rw [if_pos h,if_pos h]
  have:(qz u.sess now).set (mineK u who number now) (mineS u who number now) = qz u.sess now:=by
   obtain ⟨hk,he⟩:=List.getElem?_eq_some_iff.1 m4
   rw [← he];exact List.set_getElem_self hk
  rw [if_pos rfl,this];rfl
 have hnw:vW (mineS u who number now).text offset text = false → offset = (mineS u who number now).text.length → ¬ (mineS u who number now).size < (mineS u who number now).text.length + text.length → qaa u (mineK u who number now) (mineS u who number now) offset text now = ({ u with sess:=(qz u.sess now).set (mineK u who number now) { mineS u who number now with text:=(mineS u who number now).text ++ text,till:=now + u.lasts } },(((mineS u who number now).text.length + text.length:Nat):Int),0):=fun h h2 h3=>by
  unfold qaa QS Yl
  rw [h]
  simp only [if_neg (show ¬ (false = true) from by decide),if_pos h2,if_neg h3]
  simp
 have he4 := @qcP (mineS u who number now) offset text
 have he2 := @qgi (mineS u who number now) offset text
 generalize mineK u who number now = K at *
 generalize mineS u who number now = S at *
 obtain ⟨hkl,hS⟩:=List.getElem?_eq_some_iff.1 m4
 have hr:((yD u now).sess.map Sess.row)[((K:Nat):Int).toNat]? = some S.row:=by
  show ((qz u.sess now).map Sess.row)[K]? = some S.row
  rw [List.getElem?_map,m4];rfl
 have hml:((yD u now).sess.map Sess.row).length = (qz u.sess now).length:=by simp [yD]
 have hml2:(yD u now).sess.length ≤ 20:=Nat.le_trans hsl hl20
 clear m1 m2 m3 m4 m5 h0
 by_cases hin:qA offset 0 S.text.length = true
 ·obtain ⟨n,rfl⟩ : ∃ n:Nat,offset = n:=⟨offset.toNat,by simp [qA] at hin;omega⟩
  have hnl:n ≤ S.text.length:=by simp [qA] at hin;omega
  have hagd:vW S.text n text = decide ((S.text.take S.text.length).drop n = text):=by simp [vW,hin]
  cases ha:vW S.text n text with
  | true =>
    rw [hag ha]
    rw [ha] at hagd
    clear hap hag hnw he4 he2 hin
    refine qa Tryz.func52 rfl _ Tryz.ntmps52 (Nat.le_of_ble_eq_true rfl) _ Tryz.results52 0 rfl rfl ?_
    repeat' (first|refine qe ?_|(first|refine xsQ Tryz.func53 (h1 ..) ?_|(refine Wn ?_))|((first|refine qb ?_ ?_|refine qc ?_ ?_|refine xsC ?_ ?_);all_goals (intro hc;have hp:=hc;try simp at hp;try (exfalso;omega)))|refine qp ?_ ?_)
    all_goals try (exfalso;first|omega|contradiction|simp_all;done)
    all_goals ((exact j1 (rs:=[.cell 12 26,.tmp 13,.tmp 14])))
  | false =>
    rw [ha] at hagd
    by_cases hn:(n:Int) = S.text.length
    case neg =>
     rw [hap 4 (he4 ha hn) (by decide)]
     clear hap hag hnw he4 he2 hin
     refine qa Tryz.func52 rfl _ Tryz.ntmps52 (Nat.le_of_ble_eq_true rfl) _ Tryz.results52 0 rfl rfl ?_
     repeat' (first|refine qe ?_|(first|refine xsQ Tryz.func53 (h1 ..) ?_|(refine Wn ?_))|((first|refine qb ?_ ?_|refine qc ?_ ?_|refine xsC ?_ ?_);all_goals (intro hc;have hp:=hc;try simp at hp;try (exfalso;omega)))|refine qp ?_ ?_)
     all_goals try (exfalso;first|omega|contradiction|simp_all;done)
     all_goals ((exact j1 (rs:=[.cell 12 26,.tmp 13,.tmp 14])))
    by_cases hg:S.size < S.text.length + text.length
    ·rw [hap 2 (he2 ha hn hg) (by decide)]
     clear hap hag hnw he4 he2 hin
     refine qa Tryz.func52 rfl _ Tryz.ntmps52 (Nat.le_of_ble_eq_true rfl) _ Tryz.results52 0 rfl rfl ?_
     repeat' (first|refine qe ?_|(first|refine xsQ Tryz.func53 (h1 ..) ?_|(refine Wn ?_))|((first|refine qb ?_ ?_|refine qc ?_ ?_|refine xsC ?_ ?_);all_goals (intro hc;have hp:=hc;try simp at hp;try (exfalso;omega)))|refine qp ?_ ?_)
     all_goals try (exfalso;first|omega|contradiction|simp_all;done)
     all_goals ((exact j1 (rs:=[.cell 12 26,.tmp 13,.tmp 14])))
    ·rw [hnw ha hn hg]
     clear hap hag hnw he4 he2 hin
     refine qa Tryz.func52 rfl _ Tryz.ntmps52 (Nat.le_of_ble_eq_true rfl) _ Tryz.results52 0 rfl rfl ?_
     repeat' (first|refine qe ?_|(first|refine xsQ Tryz.func53 (h1 ..) ?_|(refine Wn ?_)|(refine jN ?_)|(refine vL ?_)|(refine vV ?_))|((first|refine qb ?_ ?_|refine qc ?_ ?_|refine xsC ?_ ?_);all_goals (intro hc;have hp:=hc;try simp at hp;try (exfalso;omega)))|refine qp ?_ ?_)
     all_goals try (exfalso;first|omega|contradiction|simp_all;done)
     all_goals ((refine yu (rs:=[.cell 12 26,.tmp 13,.tmp 14]) ?_;(repeat' (first|((apply qhk;(case hn=>rfl);(case hr=>rfl);(case hl=>rfl)))|exact qL|apply qk|exact qB rfl|exact yi|exact vS|apply jT|apply yl|apply jQ|apply yo|apply jY|apply yq|refine vY ?_|apply y0));all_goals (exact congrArg (fun (m:Nat)=>(m:Int)) List.length_append)))
 ·have hin:qA offset 0 S.text.length = false:=by simpa using hin
  have ha:vW S.text offset text = false:=by simp [vW,hin]
  have hne:¬ offset = S.text.length:=fun e=>by rw [e] at hin;simp [qA] at hin
  rw [hap 4 (he4 ha hne) (by decide)]
  have hout:offset < 0 ∨ (S.text.length:Int) < offset:=by simp [qA] at hin;omega
  clear hap hag hnw he4 he2 hin
  refine qa Tryz.func52 rfl _ Tryz.ntmps52 (Nat.le_of_ble_eq_true rfl) _ Tryz.results52 0 rfl rfl ?_
  repeat' (first|refine qe ?_|(first|refine xsQ Tryz.func53 (h1 ..) ?_|(refine Wn ?_))|((first|refine qb ?_ ?_|refine qc ?_ ?_|refine xsC ?_ ?_);all_goals (intro hc;have hp:=hc;try simp at hp;try (exfalso;omega)))|refine qp ?_ ?_)
  all_goals try (exfalso;first|omega|contradiction|simp_all;done)
  all_goals ((exact j1 (rs:=[.cell 12 26,.tmp 13,.tmp 14])))
end Go.Proofs.YtiljlcgmcmjcoaaGreatDoor
set_option linter.unusedSimpArgs false
set_option linter.unnecessarySimpa false
set_option linter.unusedVariables false
set_option maxHeartbeats 1000000
namespace Go.Proofs.YtiljlcgmcmjcoaaGreatDoor
open Go.Ab Go.RowKit
set_option maxRecDepth 10000
attribute [local irreducible] Awp ye ji qQ Red qF Go.Ab.Fin qo Rz xx qG qO ResOk jK je jX qW
section callpv
variable {C:Cx} {N:Nat} {all:Array Oper} {es:List Eff} {os:List Oper} {K:List Eff → St → Prop} {ts:List (Nat × AV)} {hs:List (Nat × HB)} {nx:Nat} {gd:List Nat}
theorem vf {f:FuncId} {fn:Func} {x:Operand} {first cap:List AV} {args:List Operand} {tys:Array TypeId} {d:Nat} {ty:TypeId} {pos:String} {af:Array Edge} {gg:Option (Nat × Bool)} {ys:List AV} {r:AV} (hf:C.P.funcs[f]? = some fn) (hc:qo C.P f ys [] r [])
  (k:ye C N all (⟨gd ++ (yx x ++ args.flatMap yx),[],some d,r,[],[]⟩ :: es) ⟨(d,r) :: ts,hs,nx⟩ os K) (hb0:fn.body.isNone = false:=by rfl) (hn0:(fn.name == "runtime.NumGoroutine") = false:=by rfl) (hx:evA (qu ts) x = .clo (.func f) first cap:=by rfl)
  (hz:qW [] [] (ja hs) (first ++ args.map (evA (qu ts)) ++ cap) ys:=by ((repeat' (first|exact jR|apply jB|exact jS rfl|exact yz|(apply J2;exact List.mem_cons_self ..)|apply yd|apply yc))<;>fail)) (hr:r.pure = true:=by rfl) (hN:d < N:=by exact nle rfl):ji C N all gd es ⟨ts,hs,nx⟩ ⟨some d,.call ⟨.value x,args.toArray,tys⟩,ty,pos,af,gg⟩ os K :=
 qj (qeZ [] hx (jP hf hb0 hn0) hc hz hr hN) k
end callpv
def zl (p:Hub × Ans):AV := .tup [xy p.1,Jj p.2]
theorem zX (h:Hub) (e:Int):jO C.P 46 [.v (.int .i64 e),.fp [h.row] 0 0] (zl (h,Qy e)):=by
 refine qa Tryz.func46 rfl _ Tryz.ntmps46 (Nat.le_of_ble_eq_true rfl) _ Tryz.results46 0 rfl rfl ?_
 repeat' (first|refine qe ?_|(first|(refine jN ?_))|((first|refine xsC ?_ ?_);all_goals (intro hc;have hp:=hc;try simp at hp;try (exfalso;omega)))|refine qp ?_ ?_)
 (refine yu (rs:=[.cell 3 28,.cell 4 46]) ?_;(repeat' (first|exact qL|apply qk|exact qB rfl|exact yi|exact vS|apply jT|apply yl|apply jQ|apply yo|apply jY|apply yq|refine vY ?_|apply y0));all_goals rfl)
theorem qh7 (h:Hub) (r:Rqt) (hk:¬ (1 ≤ r.kind ∧ r.kind ≤ 8)):jO C.P 19 [xy h,ki r] (zl (h,Qy 7)):=by
 have hbd:=zX h 7
 unfold zl at hbd ⊢
 have hk2:r.kind < 1 ∨ 8 < r.kind:=by omega
 refine qa Tryz.func19 rfl _ Tryz.ntmps19 (Nat.le_of_ble_eq_true rfl) _ Tryz.results19 0 rfl rfl ?_
 (repeat apply jg);apply qw;(repeat' (first|apply qT|refine xi ?_|refine xe ?_|refine xl ?_|refine xN ?_|refine xj ?_|refine vm ?_|refine xb ?_|refine vb ?_|refine vl ?_|refine zb ?_|refine vZ ?_|refine vX ?_|refine xX ?_|refine xn ?_|refine yG ?_|(first|fail)|refine yg ?_|refine j6 ?_|refine j4 ?_|refine jF ?_|refine jG ?_|refine yL ?_|refine yK ?_|refine j7 ?_|refine j8 ?_|((first|refine qb ?_ ?_|refine qc ?_ ?_);all_goals (intro hc;have hp:=hc;try simp at hp;try (exfalso;omega)))));show Awp _ _ _ _ _
 refine xV 2 0 ?_
 refine xV 3 1 ?_
 repeat' (first|refine qe ?_|(first|(refine vf Tryz.func46 (hbd ..) ?_))|((first|refine qb ?_ ?_|refine qc ?_ ?_|refine xsC ?_ ?_);all_goals (intro hc;have hp:=hc;try simp at hp;try (exfalso;omega)))|refine qp ?_ ?_)
 all_goals try (exfalso;first|omega|contradiction|simp_all;done)
 all_goals ((exact j1 (rs:=[.cell 4 28,.cell 5 46])))
theorem qhK (h:Hub) (r:Rqt) (rb:RBig r) (hk:1 ≤ r.kind ∧ r.kind ≤ 8) (hn:ql r.who = false):jO C.P 19 [xy h,ki r] (zl (h,Qy 1)):=by
 have hbd:=zX h 1
 have hnm:=xA r.who (kc rb.who)
 rw [hn] at hnm
 unfold zl at hbd ⊢
 refine qa Tryz.func19 rfl _ Tryz.ntmps19 (Nat.le_of_ble_eq_true rfl) _ Tryz.results19 0 rfl rfl ?_
 (repeat apply jg);apply qw;(repeat' (first|apply qT|refine xi ?_|refine xe ?_|refine xl ?_|refine xN ?_|refine xj ?_|refine vm ?_|refine xb ?_|refine vb ?_|refine vl ?_|refine zb ?_|refine vZ ?_|refine vX ?_|refine xX ?_|refine xn ?_|refine yG ?_|(first|fail)|refine yg ?_|refine j6 ?_|refine j4 ?_|refine jF ?_|refine jG ?_|refine yL ?_|refine yK ?_|refine j7 ?_|refine j8 ?_|((first|refine qb ?_ ?_|refine qc ?_ ?_);all_goals (intro hc;have hp:=hc;try simp at hp;try (exfalso;omega)))));show Awp _ _ _ _ _
 refine xV 2 0 ?_
 refine xV 3 1 ?_
 repeat' (first|refine qe ?_|(first|(refine vf Tryz.func46 (hbd ..) ?_)|refine xsF Tryz.func25 (hnm ..) ?_)|((first|refine qb ?_ ?_|refine qc ?_ ?_|refine xsC ?_ ?_);all_goals (intro hc;have hp:=hc;try simp at hp;try (exfalso;omega)))|refine qp ?_ ?_)
 all_goals try (exfalso;first|omega|contradiction|simp_all;done)
 all_goals ((exact j1 (rs:=[.cell 4 28,.cell 5 46])))
theorem qfE (u:Upl) (hu:UBig u) (who:qC) (hw:who.length ≤ 1000000000) (size now:Int):jO C.P 51 [xw u,.v (str who),.v (.int .i64 size),.v (.int .i64 now)] (kZ (wq u who size now).1 (wq u who size now).2.1 (wq u who size now).2.2):=by
 have h:=qeh u hu who (kc hw) size now
 unfold Jy at h
 unfold wq
 by_cases h0:yE u who size now = 0
 ·rw [if_pos h0] at h ⊢;exact h
 ·rw [if_neg h0] at h ⊢;exact h
set_option maxHeartbeats 1000000 in
theorem qh8 (h:Hub) (hb:HBig h) (hr:HRight h) (r:Rqt) (rb:RBig r) (hk:r.kind = 4) (hn:ql r.who = true):jO C.P 19 [xy h,ki r] (zl (Yi h (wq h.ups r.who r.number h.now))):=by
 have hnm:=xA r.who (kc rb.who)
 rw [hn] at hnm
 have hri:=vd h.gras r.folder r.who hr.lens.2
 have hfa:=vC h (by have:=hr.lens.1;omega) r.folder
 have hop:=qfE h.ups hb.ups r.who rb.who r.number h.now
 generalize jx h.gras r.folder r.who = RG at *
 generalize j0 (atF r.folder) h.fols = FA at *
 generalize wq h.ups r.who r.number h.now = P at *
 obtain ⟨u',n,e⟩:=P
 dsimp only at hop
 unfold kZ at hop
 have k1:¬ r.kind < 1:=by omega
 have k8:¬ 8 < r.kind:=by omega
 unfold Yi
 dsimp only
 by_cases he:e = 0
 ·subst he
  rw [if_pos rfl]
  unfold zl
  refine qa Tryz.func19 rfl _ Tryz.ntmps19 (Nat.le_of_ble_eq_true rfl) _ Tryz.results19 0 rfl rfl ?_
  (repeat apply jg);apply qw;(repeat' (first|apply qT|refine xi ?_|refine xe ?_|refine xl ?_|refine xN ?_|refine xj ?_|refine vm ?_|refine xb ?_|refine vb ?_|refine vl ?_|refine zb ?_|refine vZ ?_|refine vX ?_|refine xX ?_|refine xn ?_|refine yG ?_|(first|fail)|refine yg ?_|refine j6 ?_|refine j4 ?_|refine jF ?_|refine jG ?_|refine yL ?_|refine yK ?_|refine j7 ?_|refine j8 ?_|((first|refine qb ?_ ?_|refine qc ?_ ?_);all_goals (intro hc;have hp:=hc;try simp at hp;try (exfalso;omega)))));show Awp _ _ _ _ _
  refine xV 3 1 ?_
  repeat' (first|refine qe ?_|(first|refine xsF Tryz.func25 (hnm ..) ?_|refine xsF Tryz.func47 (hri ..) ?_|refine xsF Tryz.func27 (hfa ..) ?_|refine xsQ Tryz.func51 (hop ..) ?_)|((first|refine qb ?_ ?_|refine qc ?_ ?_|refine xsC ?_ ?_);all_goals (intro hc;have hp:=hc;try simp at hp;try (exfalso;omega)))|refine qp ?_ ?_)
  all_goals try (exfalso;first|omega|contradiction|simp_all;done)
  all_goals ((exact j1 (rs:=[.cell 4 28,.cell 5 46])))
 ·rw [if_neg he]
  have hbd:=zX h e
  unfold zl at hbd ⊢
  refine qa Tryz.func19 rfl _ Tryz.ntmps19 (Nat.le_of_ble_eq_true rfl) _ Tryz.results19 0 rfl rfl ?_
  (repeat apply jg);apply qw;(repeat' (first|apply qT|refine xi ?_|refine xe ?_|refine xl ?_|refine xN ?_|refine xj ?_|refine vm ?_|refine xb ?_|refine vb ?_|refine vl ?_|refine zb ?_|refine vZ ?_|refine vX ?_|refine xX ?_|refine xn ?_|refine yG ?_|(first|fail)|refine yg ?_|refine j6 ?_|refine j4 ?_|refine jF ?_|refine jG ?_|refine yL ?_|refine yK ?_|refine j7 ?_|refine j8 ?_|((first|refine qb ?_ ?_|refine qc ?_ ?_);all_goals (intro hc;have hp:=hc;try simp at hp;try (exfalso;omega)))));show Awp _ _ _ _ _
  refine xV 2 0 ?_
  refine xV 3 1 ?_
  repeat' (first|refine qe ?_|(first|(refine vf Tryz.func46 (hbd ..) ?_)|refine xsF Tryz.func25 (hnm ..) ?_|refine xsF Tryz.func47 (hri ..) ?_|refine xsF Tryz.func27 (hfa ..) ?_|refine xsQ Tryz.func51 (hop ..) ?_)|((first|refine qb ?_ ?_|refine qc ?_ ?_|refine xsC ?_ ?_);all_goals (intro hc;have hp:=hc;try simp at hp;try (exfalso;omega)))|refine qp ?_ ?_)
  all_goals try (exfalso;first|omega|contradiction|simp_all;done)
  all_goals ((exact j1 (rs:=[.cell 4 28,.cell 5 46])))
end Go.Proofs.YtiljlcgmcmjcoaaGreatDoor
set_option linter.unusedSimpArgs false
set_option linter.unnecessarySimpa false
set_option linter.unusedVariables false
set_option maxHeartbeats 1000000
namespace Go.Proofs.YtiljlcgmcmjcoaaGreatDoor
open Go.Ab Go.RowKit
set_option maxRecDepth 10000
attribute [local irreducible] Awp ye ji qQ Red qF Go.Ab.Fin qo Rz xx qG qO ResOk jK je jX qW
set_option maxHeartbeats 1000000 in
theorem qe5 (h:Hub) (hb:HBig h) (hr:HRight h) (r:Rqt) (rb:RBig r) (hk:r.kind = 5) (hn:ql r.who = true):jO C.P 19 [xy h,ki r] (zl (Yi h (wC h.ups r.who r.number r.offset r.text h.now))):=by
 have hnm:=xA r.who (kc rb.who)
 rw [hn] at hnm
 have hri:=vd h.gras r.folder r.who hr.lens.2
 have hfa:=vC h (by have:=hr.lens.1;omega) r.folder
 have hop:=qfE h.ups hb.ups r.who rb.who r.number h.now
 have hap:=qft h.ups hb.ups r.who rb.who r.number r.offset r.text rb.text h.now
 generalize jx h.gras r.folder r.who = RG at *
 generalize j0 (atF r.folder) h.fols = FA at *
 generalize wq h.ups r.who r.number h.now = P at *
 generalize wC h.ups r.who r.number r.offset r.text h.now = Q at *
 obtain ⟨u',n,e⟩:=P
 obtain ⟨u2,n2,e2⟩:=Q
 dsimp only at hop hap
 unfold kZ at hop hap
 have k1:¬ r.kind < 1:=by omega
 have k8:¬ 8 < r.kind:=by omega
 unfold Yi
 dsimp only
 by_cases he:e2 = 0
 ·subst he
  rw [if_pos rfl]
  unfold zl
  refine qa Tryz.func19 rfl _ Tryz.ntmps19 (Nat.le_of_ble_eq_true rfl) _ Tryz.results19 0 rfl rfl ?_
  (repeat apply jg);apply qw;(repeat' (first|apply qT|refine xi ?_|refine xe ?_|refine xl ?_|refine xN ?_|refine xj ?_|refine vm ?_|refine xb ?_|refine vb ?_|refine vl ?_|refine zb ?_|refine vZ ?_|refine vX ?_|refine xX ?_|refine xn ?_|refine yG ?_|(first|fail)|refine yg ?_|refine j6 ?_|refine j4 ?_|refine jF ?_|refine jG ?_|refine yL ?_|refine yK ?_|refine j7 ?_|refine j8 ?_|((first|refine qb ?_ ?_|refine qc ?_ ?_);all_goals (intro hc;have hp:=hc;try simp at hp;try (exfalso;omega)))));show Awp _ _ _ _ _
  refine xV 3 1 ?_
  repeat' (first|refine qe ?_|(first|refine xsF Tryz.func25 (hnm ..) ?_|refine xsF Tryz.func47 (hri ..) ?_|refine xsF Tryz.func27 (hfa ..) ?_|refine xsQ Tryz.func51 (hop ..) ?_|refine xsQ Tryz.func52 (hap ..) ?_)|((first|refine qb ?_ ?_|refine qc ?_ ?_|refine xsC ?_ ?_);all_goals (intro hc;have hp:=hc;try simp at hp;try (exfalso;omega)))|refine qp ?_ ?_)
  all_goals try (exfalso;first|omega|contradiction|simp_all;done)
  all_goals ((exact j1 (rs:=[.cell 4 28,.cell 5 46])))
 ·rw [if_neg he]
  have hbd:=zX h e2
  unfold zl at hbd ⊢
  refine qa Tryz.func19 rfl _ Tryz.ntmps19 (Nat.le_of_ble_eq_true rfl) _ Tryz.results19 0 rfl rfl ?_
  (repeat apply jg);apply qw;(repeat' (first|apply qT|refine xi ?_|refine xe ?_|refine xl ?_|refine xN ?_|refine xj ?_|refine vm ?_|refine xb ?_|refine vb ?_|refine vl ?_|refine zb ?_|refine vZ ?_|refine vX ?_|refine xX ?_|refine xn ?_|refine yG ?_|(first|fail)|refine yg ?_|refine j6 ?_|refine j4 ?_|refine jF ?_|refine jG ?_|refine yL ?_|refine yK ?_|refine j7 ?_|refine j8 ?_|((first|refine qb ?_ ?_|refine qc ?_ ?_);all_goals (intro hc;have hp:=hc;try simp at hp;try (exfalso;omega)))));show Awp _ _ _ _ _
  refine xV 2 0 ?_
  refine xV 3 1 ?_
  repeat' (first|refine qe ?_|(first|(refine vf Tryz.func46 (hbd ..) ?_)|refine xsF Tryz.func25 (hnm ..) ?_|refine xsF Tryz.func47 (hri ..) ?_|refine xsF Tryz.func27 (hfa ..) ?_|refine xsQ Tryz.func51 (hop ..) ?_|refine xsQ Tryz.func52 (hap ..) ?_)|((first|refine qb ?_ ?_|refine qc ?_ ?_|refine xsC ?_ ?_);all_goals (intro hc;have hp:=hc;try simp at hp;try (exfalso;omega)))|refine qp ?_ ?_)
  all_goals try (exfalso;first|omega|contradiction|simp_all;done)
  all_goals ((exact j1 (rs:=[.cell 4 28,.cell 5 46])))
set_option maxHeartbeats 1000000 in
theorem qgl (h:Hub) (hb:HBig h) (hr:HRight h) (r:Rqt) (rb:RBig r) (hk:r.kind = 6) (hn:ql r.who = true):jO C.P 19 [xy h,ki r] (zl (qbA h r)):=by
 have hnm:=xA r.who (kc rb.who)
 rw [hn] at hnm
 have hri:=vd h.gras r.folder r.who hr.lens.2
 have hfa:=vC h (by have:=hr.lens.1;omega) r.folder
 generalize jx h.gras r.folder r.who = RG at *
 generalize j0 (atF r.folder) h.fols = FA at *
 have k1:¬ r.kind < 1:=by omega
 have k8:¬ 8 < r.kind:=by omega
 unfold qbA Z2
 by_cases h0:jA h.ups r.who r.number h.now = 0
 ·rw [if_pos h0]
  rw [if_pos rfl]
  have h1:=Vk h.ups hb.ups r.who rb.who r.number h.now h0
  have hst:=kj h0
  obtain ⟨m1,m2,m3,m4,m5⟩:=zI h0
  dsimp only
  generalize mineK h.ups r.who r.number h.now = K at *
  generalize mineS h.ups r.who r.number h.now = S at *
  have hrow:((yD h.ups h.now).sess.map Sess.row)[((K:Nat):Int).toNat]? = some S.row:=by
   show ((qz h.ups.sess h.now).map Sess.row)[K]? = some S.row
   rw [List.getElem?_map,m4];rfl
  have hkl:K < ((yD h.ups h.now).sess.map Sess.row).length:=(List.getElem?_eq_some_iff.1 hrow).1
  clear m1 m2 m3 m4 m5 h0
  unfold zl
  refine qa Tryz.func19 rfl _ Tryz.ntmps19 (Nat.le_of_ble_eq_true rfl) _ Tryz.results19 0 rfl rfl ?_
  (repeat apply jg);apply qw;(repeat' (first|apply qT|refine xi ?_|refine xe ?_|refine xl ?_|refine xN ?_|refine xj ?_|refine vm ?_|refine xb ?_|refine vb ?_|refine vl ?_|refine zb ?_|refine vZ ?_|refine vX ?_|refine xX ?_|refine xn ?_|refine yG ?_|(first|fail)|refine yg ?_|refine j6 ?_|refine j4 ?_|refine jF ?_|refine jG ?_|refine yL ?_|refine yK ?_|refine j7 ?_|refine j8 ?_|((first|refine qb ?_ ?_|refine qc ?_ ?_);all_goals (intro hc;have hp:=hc;try simp at hp;try (exfalso;omega)))));show Awp _ _ _ _ _
  refine xV 3 1 ?_
  repeat' (first|refine qe ?_|(first|refine xsF Tryz.func25 (hnm ..) ?_|refine xsF Tryz.func47 (hri ..) ?_|refine xsF Tryz.func27 (hfa ..) ?_|refine xsQ Tryz.func53 (h1 ..) ?_)|((first|refine qb ?_ ?_|refine qc ?_ ?_|refine xsC ?_ ?_);all_goals (intro hc;have hp:=hc;try simp at hp;try (exfalso;omega)))|refine qp ?_ ?_)
  all_goals try (exfalso;first|omega|contradiction|simp_all;done)
  all_goals ((exact j1 (rs:=[.cell 4 28,.cell 5 46])))
 ·rw [if_neg h0]
  dsimp only
  rw [if_neg h0]
  obtain ⟨u',h1⟩:=Ys h.ups hb.ups r.who rb.who r.number h.now h0
  generalize jA h.ups r.who r.number h.now = E at *
  have hbd:=zX h E
  unfold zl at hbd ⊢
  refine qa Tryz.func19 rfl _ Tryz.ntmps19 (Nat.le_of_ble_eq_true rfl) _ Tryz.results19 0 rfl rfl ?_
  (repeat apply jg);apply qw;(repeat' (first|apply qT|refine xi ?_|refine xe ?_|refine xl ?_|refine xN ?_|refine xj ?_|refine vm ?_|refine xb ?_|refine vb ?_|refine vl ?_|refine zb ?_|refine vZ ?_|refine vX ?_|refine xX ?_|refine xn ?_|refine yG ?_|(first|fail)|refine yg ?_|refine j6 ?_|refine j4 ?_|refine jF ?_|refine jG ?_|refine yL ?_|refine yK ?_|refine j7 ?_|refine j8 ?_|((first|refine qb ?_ ?_|refine qc ?_ ?_);all_goals (intro hc;have hp:=hc;try simp at hp;try (exfalso;omega)))));show Awp _ _ _ _ _
  refine xV 2 0 ?_
  refine xV 3 1 ?_
  repeat' (first|refine qe ?_|(first|(refine vf Tryz.func46 (hbd ..) ?_)|refine xsF Tryz.func25 (hnm ..) ?_|refine xsF Tryz.func47 (hri ..) ?_|refine xsF Tryz.func27 (hfa ..) ?_|refine xsQ Tryz.func53 (h1 ..) ?_)|((first|refine qb ?_ ?_|refine qc ?_ ?_|refine xsC ?_ ?_);all_goals (intro hc;have hp:=hc;try simp at hp;try (exfalso;omega)))|refine qp ?_ ?_)
  all_goals try (exfalso;first|omega|contradiction|simp_all;done)
  all_goals ((exact j1 (rs:=[.cell 4 28,.cell 5 46])))
theorem qaZ {l:List Gra} {f w:qC} (h:jH l = 0):0 ≤ jx l f w:=by
 unfold jx
 cases hg:l.find? (sameKey ⟨f,w,0⟩) with
 | none=>simp
 | some g =>
   have h1:=(yZ h).2.1 g (List.mem_of_find?_eq_some hg)
   show 0 ≤ g.right
   by_cases h2:0 ≤ g.right
   ·exact h2
   ·exfalso
    have h3:qA g.right 1 3 = false:=by unfold qA;simp;omega
    unfold vR at h1
    simp [h3] at h1
    split at h1<;>omega
theorem qiK (l:List Gra) (h0:jH l = 0) (f b w:qC) (r:Int) (hf:f.length ≤ 1000000000) (hb:b.length ≤ 1000000000) (hw:w.length ≤ 1000000000) :
  jO C.P 49 [q9 l,.v (str f),.v (str b),.v (str w),.v (.int .i64 r)] (.tup [q9 (zv l f b w r).1,.v (.int .i64 (zv l f b w r).2)]):=by
 unfold zv
 by_cases h1:jD l f b w r = 0
 ·rw [if_pos h1]
  have h2:=qb2 l f b w r (jC hf) (jC hb) (jC hw) h1
  rw [qbe (yZ h0).2.2.1] at h2
  exact h2
 ·rw [if_neg h1]
  exact qao l f b w r h0 (jC hf) (jC hb) (jC hw) h1
set_option maxHeartbeats 1000000 in
theorem qho (h:Hub) (hb:HBig h) (hr:HRight h) (r:Rqt) (rb:RBig r) (hk:r.kind = 3) (hn:ql r.who = true):jO C.P 19 [xy h,ki r] (zl (Xq h r)):=by
 have hnm:=xA r.who (kc rb.who)
 rw [hn] at hnm
 have hri:=vd h.gras r.folder r.who hr.lens.2
 have hfa:=vC h (by have:=hr.lens.1;omega) r.folder
 have hgi:=qiK h.gras hr.gra r.folder r.who r.name r.number rb.folder rb.who rb.name
 have hnn:=qaZ (f:=r.folder) (w:=r.who) hr.gra
 unfold Xq
 generalize zv h.gras r.folder r.who r.name r.number = P at *
 generalize jx h.gras r.folder r.who = RG at *
 generalize j0 (atF r.folder) h.fols = FA at *
 obtain ⟨L,e⟩:=P
 dsimp only at *
 have k1:¬ r.kind < 1:=by omega
 have k8:¬ 8 < r.kind:=by omega
 by_cases hz:RG < 1
 ·rw [if_pos hz]
  obtain rfl:RG = 0:=by omega
  have hbd:=zX h 9
  unfold zl at hbd ⊢
  refine qa Tryz.func19 rfl _ Tryz.ntmps19 (Nat.le_of_ble_eq_true rfl) _ Tryz.results19 0 rfl rfl ?_
  (repeat apply jg);apply qw;(repeat' (first|apply qT|refine xi ?_|refine xe ?_|refine xl ?_|refine xN ?_|refine xj ?_|refine vm ?_|refine xb ?_|refine vb ?_|refine vl ?_|refine zb ?_|refine vZ ?_|refine vX ?_|refine xX ?_|refine xn ?_|refine yG ?_|(first|fail)|refine yg ?_|refine j6 ?_|refine j4 ?_|refine jF ?_|refine jG ?_|refine yL ?_|refine yK ?_|refine j7 ?_|refine j8 ?_|((first|refine qb ?_ ?_|refine qc ?_ ?_);all_goals (intro hc;have hp:=hc;try simp at hp;try (exfalso;omega)))));show Awp _ _ _ _ _
  refine xV 2 0 ?_
  refine xV 3 1 ?_
  repeat' (first|refine qe ?_|(first|(refine vf Tryz.func46 (hbd ..) ?_)|refine xsF Tryz.func25 (hnm ..) ?_|refine xsF Tryz.func47 (hri ..) ?_|refine xsF Tryz.func27 (hfa ..) ?_)|((first|refine qb ?_ ?_|refine qc ?_ ?_|refine xsC ?_ ?_);all_goals (intro hc;have hp:=hc;try simp at hp;try (exfalso;omega)))|refine qp ?_ ?_)
  all_goals try (exfalso;first|omega|contradiction|simp_all;done)
  all_goals ((exact j1 (rs:=[.cell 4 28,.cell 5 46])))
 rw [if_neg hz]
 by_cases he:e = 0
 ·subst he
  rw [if_pos rfl]
  unfold zl
  refine qa Tryz.func19 rfl _ Tryz.ntmps19 (Nat.le_of_ble_eq_true rfl) _ Tryz.results19 0 rfl rfl ?_
  (repeat apply jg);apply qw;(repeat' (first|apply qT|refine xi ?_|refine xe ?_|refine xl ?_|refine xN ?_|refine xj ?_|refine vm ?_|refine xb ?_|refine vb ?_|refine vl ?_|refine zb ?_|refine vZ ?_|refine vX ?_|refine xX ?_|refine xn ?_|refine yG ?_|(first|fail)|refine yg ?_|refine j6 ?_|refine j4 ?_|refine jF ?_|refine jG ?_|refine yL ?_|refine yK ?_|refine j7 ?_|refine j8 ?_|((first|refine qb ?_ ?_|refine qc ?_ ?_);all_goals (intro hc;have hp:=hc;try simp at hp;try (exfalso;omega)))));show Awp _ _ _ _ _
  refine xV 3 1 ?_
  repeat' (first|refine qe ?_|(first|refine xsF Tryz.func25 (hnm ..) ?_|refine xsF Tryz.func47 (hri ..) ?_|refine xsF Tryz.func27 (hfa ..) ?_|refine xsQ Tryz.func49 (hgi ..) ?_)|((first|refine qb ?_ ?_|refine qc ?_ ?_|refine xsC ?_ ?_);all_goals (intro hc;have hp:=hc;try simp at hp;try (exfalso;omega)))|refine qp ?_ ?_)
  all_goals try (exfalso;first|omega|contradiction|simp_all;done)
  all_goals ((exact j1 (rs:=[.cell 4 28,.cell 5 46])))
 ·rw [if_neg he]
  have hbd:=zX h e
  unfold zl at hbd ⊢
  refine qa Tryz.func19 rfl _ Tryz.ntmps19 (Nat.le_of_ble_eq_true rfl) _ Tryz.results19 0 rfl rfl ?_
  (repeat apply jg);apply qw;(repeat' (first|apply qT|refine xi ?_|refine xe ?_|refine xl ?_|refine xN ?_|refine xj ?_|refine vm ?_|refine xb ?_|refine vb ?_|refine vl ?_|refine zb ?_|refine vZ ?_|refine vX ?_|refine xX ?_|refine xn ?_|refine yG ?_|(first|fail)|refine yg ?_|refine j6 ?_|refine j4 ?_|refine jF ?_|refine jG ?_|refine yL ?_|refine yK ?_|refine j7 ?_|refine j8 ?_|((first|refine qb ?_ ?_|refine qc ?_ ?_);all_goals (intro hc;have hp:=hc;try simp at hp;try (exfalso;omega)))));show Awp _ _ _ _ _
  refine xV 2 0 ?_
  refine xV 3 1 ?_
  repeat' (first|refine qe ?_|(first|(refine vf Tryz.func46 (hbd ..) ?_)|refine xsF Tryz.func25 (hnm ..) ?_|refine xsF Tryz.func47 (hri ..) ?_|refine xsF Tryz.func27 (hfa ..) ?_|refine xsQ Tryz.func49 (hgi ..) ?_)|((first|refine qb ?_ ?_|refine qc ?_ ?_|refine xsC ?_ ?_);all_goals (intro hc;have hp:=hc;try simp at hp;try (exfalso;omega)))|refine qp ?_ ?_)
  all_goals try (exfalso;first|omega|contradiction|simp_all;done)
  all_goals ((exact j1 (rs:=[.cell 4 28,.cell 5 46])))
theorem qai {h:Hub} (hr:HRight h) {f w:qC} (hw:¬ jx h.gras f w = 0) : ∃ (k:Nat) (hk:k < h.fols.length),j0 (atF f) h.fols = (k:Int) ∧ vD h.fols f = k ∧ h.fols[k].name = f ∧ kY h.fols f = some h.fols[k].jou ∧ JRight h.fols[k].jou:=by
 obtain ⟨k,hk,e1,e2,e3,e4,e5⟩:=qcN hr hw
 refine ⟨k,hk,?_,e1,e3,e4,e5⟩
 obtain ⟨_,_,_,q⟩:=WT hr.rise e2
 rw [q,e1]
set_option maxHeartbeats 1000000 in
theorem qhg (h:Hub) (hb:HBig h) (hr:HRight h) (r:Rqt) (rb:RBig r) (hk:r.kind = 2) (hn:ql r.who = true):jO C.P 19 [xy h,ki r] (zl (YZ h r)):=by
 have hnm:=xA r.who (kc rb.who)
 rw [hn] at hnm
 have hri:=vd h.gras r.folder r.who hr.lens.2
 have hfa:=vC h (by have:=hr.lens.1;omega) r.folder
 have hnn:=qaZ (f:=r.folder) (w:=r.who) hr.gra
 have hfi := @qai h hr r.folder r.who
 unfold YZ
 generalize jx h.gras r.folder r.who = RG at *
 have k1:¬ r.kind < 1:=by omega
 have k8:¬ 8 < r.kind:=by omega
 by_cases hz:RG < 1
 ·rw [if_pos hz]
  obtain rfl:RG = 0:=by omega
  clear hfi
  generalize j0 (atF r.folder) h.fols = FA at *
  have hbd:=zX h 9
  unfold zl at hbd ⊢
  refine qa Tryz.func19 rfl _ Tryz.ntmps19 (Nat.le_of_ble_eq_true rfl) _ Tryz.results19 0 rfl rfl ?_
  (repeat apply jg);apply qw;(repeat' (first|apply qT|refine xi ?_|refine xe ?_|refine xl ?_|refine xN ?_|refine xj ?_|refine vm ?_|refine xb ?_|refine vb ?_|refine vl ?_|refine zb ?_|refine vZ ?_|refine vX ?_|refine xX ?_|refine xn ?_|refine yG ?_|(first|fail)|refine yg ?_|refine j6 ?_|refine j4 ?_|refine jF ?_|refine jG ?_|refine yL ?_|refine yK ?_|refine j7 ?_|refine j8 ?_|((first|refine qb ?_ ?_|refine qc ?_ ?_);all_goals (intro hc;have hp:=hc;try simp at hp;try (exfalso;omega)))));show Awp _ _ _ _ _
  refine xV 2 0 ?_
  refine xV 3 1 ?_
  repeat' (first|refine qe ?_|(first|(refine vf Tryz.func46 (hbd ..) ?_)|refine xsF Tryz.func25 (hnm ..) ?_|refine xsF Tryz.func47 (hri ..) ?_|refine xsF Tryz.func27 (hfa ..) ?_)|((first|refine qb ?_ ?_|refine qc ?_ ?_|refine xsC ?_ ?_);all_goals (intro hc;have hp:=hc;try simp at hp;try (exfalso;omega)))|refine qp ?_ ?_)
  all_goals try (exfalso;first|omega|contradiction|simp_all;done)
  all_goals ((exact j1 (rs:=[.cell 4 28,.cell 5 46])))
 rw [if_neg hz]
 obtain ⟨k,hkl,e1,e2,e3,e4,e5⟩:=hfi (by omega)
 rw [e4]
 dsimp only
 rw [e1] at hfa
 have hrd:=qgY h.fols[k].jou r.number 10 (hb.fols.each _ (List.getElem_mem hkl)).jou e5
 have hrow:=qx (f:=Fol.row) hkl
 have hrow2:(h.fols.map Fol.row)[((k:Nat):Int).toNat]? = some h.fols[k].row:=hrow
 generalize QA h.fols[k].jou r.number 10 = P at *
 obtain ⟨p,e⟩:=P
 dsimp only at *
 unfold qgw at hrd
 clear hfi e1 e2 e3 e4 e5
 by_cases he:e = 0
 ·subst he
  rw [if_pos rfl]
  unfold zl
  refine qa Tryz.func19 rfl _ Tryz.ntmps19 (Nat.le_of_ble_eq_true rfl) _ Tryz.results19 0 rfl rfl ?_
  (repeat apply jg);apply qw;(repeat' (first|apply qT|refine xi ?_|refine xe ?_|refine xl ?_|refine xN ?_|refine xj ?_|refine vm ?_|refine xb ?_|refine vb ?_|refine vl ?_|refine zb ?_|refine vZ ?_|refine vX ?_|refine xX ?_|refine xn ?_|refine yG ?_|(first|fail)|refine yg ?_|refine j6 ?_|refine j4 ?_|refine jF ?_|refine jG ?_|refine yL ?_|refine yK ?_|refine j7 ?_|refine j8 ?_|((first|refine qb ?_ ?_|refine qc ?_ ?_);all_goals (intro hc;have hp:=hc;try simp at hp;try (exfalso;omega)))));show Awp _ _ _ _ _
  refine xV 3 1 ?_
  repeat' (first|refine qe ?_|(first|refine xsF Tryz.func25 (hnm ..) ?_|refine xsF Tryz.func47 (hri ..) ?_|refine xsF Tryz.func27 (hfa ..) ?_|refine xsQ Tryz.func50 (hrd ..) ?_)|((first|refine qb ?_ ?_|refine qc ?_ ?_|refine xsC ?_ ?_);all_goals (intro hc;have hp:=hc;try simp at hp;try (exfalso;omega)))|refine qp ?_ ?_)
  all_goals try (exfalso;first|omega|contradiction|simp_all;done)
  all_goals ((exact j1 (rs:=[.cell 4 28,.cell 5 46])))
 ·rw [if_neg he]
  have hbd:=zX h e
  unfold zl at hbd ⊢
  refine qa Tryz.func19 rfl _ Tryz.ntmps19 (Nat.le_of_ble_eq_true rfl) _ Tryz.results19 0 rfl rfl ?_
  (repeat apply jg);apply qw;(repeat' (first|apply qT|refine xi ?_|refine xe ?_|refine xl ?_|refine xN ?_|refine xj ?_|refine vm ?_|refine xb ?_|refine vb ?_|refine vl ?_|refine zb ?_|refine vZ ?_|refine vX ?_|refine xX ?_|refine xn ?_|refine yG ?_|(first|fail)|refine yg ?_|refine j6 ?_|refine j4 ?_|refine jF ?_|refine jG ?_|refine yL ?_|refine yK ?_|refine j7 ?_|refine j8 ?_|((first|refine qb ?_ ?_|refine qc ?_ ?_);all_goals (intro hc;have hp:=hc;try simp at hp;try (exfalso;omega)))));show Awp _ _ _ _ _
  refine xV 2 0 ?_
  refine xV 3 1 ?_
  repeat' (first|refine qe ?_|(first|(refine vf Tryz.func46 (hbd ..) ?_)|refine xsF Tryz.func25 (hnm ..) ?_|refine xsF Tryz.func47 (hri ..) ?_|refine xsF Tryz.func27 (hfa ..) ?_|refine xsQ Tryz.func50 (hrd ..) ?_)|((first|refine qb ?_ ?_|refine qc ?_ ?_|refine xsC ?_ ?_);all_goals (intro hc;have hp:=hc;try simp at hp;try (exfalso;omega)))|refine qp ?_ ?_)
  all_goals try (exfalso;first|omega|contradiction|simp_all;done)
  all_goals ((exact j1 (rs:=[.cell 4 28,.cell 5 46])))
end Go.Proofs.YtiljlcgmcmjcoaaGreatDoor
