import Derived.Test.YtgcncinnlmjgdaaGreatDoorMz8
import Derived.Test.YtgcncinnlmjgdaaGreatDoorMz0
import Derived.Test.YtgcncinnlmjgdaaGreatDoorMz5
import Derived.Test.YtgcncinnlmjgdaaGreatDoorMz1
set_option linter.unusedSimpArgs false
set_option maxHeartbeats 1000000
set_option maxRecDepth 10000
namespace Go.Proofs.YtgcncinnlmjgdaaGreatDoor
open Go.Ab Go.RowKit
attribute [local irreducible] Awp j9 jr ye Red qz Go.Ab.Fin qf Rz wz jF jU ResOk yA j1 xR qX
theorem qkA {α:Type} (rs:List α) (i n:Nat) (hi:i < n) (hn:n ≤ rs.length) (z:α) :
  (rs.take i ++ (rs.drop (i + 1)).take (n - (i + 1)) ++ rs.drop (i + (n - (i + 1)))).take (i + (n - (i + 1))) ++ List.replicate (n - (i + (n - (i + 1)))) z ++ (rs.take i ++ (rs.drop (i + 1)).take (n - (i + 1)) ++ rs.drop (i + (n - (i + 1)))).drop (i + (n - (i + 1)) + (n - (i + (n - (i + 1))))) =
   rs.take i ++ (rs.drop (i + 1)).take (n - (i + 1)) ++ [z] ++ rs.drop n:=by
 have key : ∀ (P:List α) (m:Nat) (Q:List α),P.length = m → (P ++ Q).take m ++ List.replicate 1 z ++ (P ++ Q).drop (m + 1) = P ++ [z] ++ Q.drop 1:=by
  intro P m Q hP;subst hP;rw [List.take_left,List.drop_append,List.drop_eq_nil_of_le (by omega),List.nil_append,show P.length + 1 - P.length = 1 from by omega];rfl
 rw [show n - (i + (n - (i + 1))) = 1 from by omega,key _ _ _ (by simp;omega),List.drop_drop,show i + (n - (i + 1)) + 1 = n from by omega]
theorem qdC {rs:List (List AV)} (hrs : ∀ row,row ∈ rs → AV.pure.pureL row = true) (i n:Nat) : ∀ row,row ∈ rs.take i ++ (rs.drop (i + 1)).take (n - (i + 1)) ++ [zeroSess.row] ++ rs.drop n → AV.pure.pureL row = true:=by
 intro row hr;rcases List.mem_append.1 hr with hr|hr
 ·rcases List.mem_append.1 hr with hr|hr
  ·rcases List.mem_append.1 hr with hr|hr
   ·exact hrs row (List.mem_of_mem_take hr)
   ·exact hrs row (List.mem_of_mem_drop (List.mem_of_mem_take hr))
  ·obtain rfl:=List.mem_singleton.1 hr;rfl
 ·exact hrs row (List.mem_of_mem_drop hr)
theorem qh7 (rs:List (List AV)) (hrs : ∀ row,row ∈ rs → AV.pure.pureL row = true) (hrc:rs.all (fun row=>row.length == 5 && row.all jj) = true) (n i:Nat) (hi:i < n) (hn:n ≤ rs.length) (hn6:n ≤ 1000000) :
  qf C1.P 180 [.os 0 0 n,.v (.int .i64 (i:Int)),.v (.int .i64 ((i + 1:Nat):Int))] [.own false 5 rs] (.os 0 0 (n - 1)) [.own false 5 (rs.take i ++ (rs.drop (i + 1)).take (n - (i + 1)) ++ [zeroSess.row] ++ rs.drop n)]:=by
 refine qJ (C:=C1) 1 ?_
 repeat' (first|refine qg ?_|(first|(refine qlh ?_)|(refine YQ ?_)|(refine qhB ?_)|(apply zf;apply Vx;(case hx=>rfl);(case hT=>rfl);(case he=>rfl);(case hE=>rfl);(case hn=>rfl);(case hsrc=>apply K3;rfl;rfl;(show 0 + (i + 1) + (n - (i + 1)) ≤ rs.length;omega);rfl;exact hrc);(case hfit=>simp;omega);(case hN=>exact nle rfl)))|(refine xsS ?_ ?_;all_goals first|exact False.elim|intro hp hc)|refine xsA ?_ ?_)
 all_goals try (exfalso;omega)
 have hpu:=qdC hrs i n;have hL:(List.take (n - (i + 1)) (List.drop (i + 1) rs)).length = n - (i + 1):=by simp;omega
 (exact yp (rs:=[.tmp 6]) [] 1 (by (repeat (first|exact qn|refine J8 ?_|refine vH ?_ ?_));all_goals (simp only [Nat.zero_add,Nat.sub_zero,hL];exact qkA rs i n hi hn _)))
def Z9 (u:Upl) (t:qb) (e:Int):AV := .tup [vt u,.v (str t),.v (.int .i64 e)]
def qmK (u:Upl) (now:Int) (k:Nat):Upl := { u with sess:=(qt u.sess now).eraseIdx k }
def qbh (u:Upl) (now:Int) (k:Nat) (s:Sess):AV:=if s.text.length < s.size then Z9 Xt [] 4 else Z9 (qmK u now k) s.text 0
theorem qoG {h:Nat → HB} {n k:Nat} {l:List Sess} {now:Int} (hk:k < (qt l now).length) (hn:h n = .own false 5 (((yf l now).map Sess.row).take k ++ (((yf l now).map Sess.row).drop (k + 1)).take ((qt l now).length - (k + 1)) ++ [zeroSess.row] ++ ((yf l now).map Sess.row).drop (qt l now).length)) :
  Rz h (.os n 0 ((qt l now).length - 1)) (.sl false (((qt l now).eraseIdx k).map Sess.row)):=by
 have hlen:=ku l now;refine qbJ hn (by simp;omega) ?_
 have e:((((yf l now).map Sess.row).take k ++ (((yf l now).map Sess.row).drop (k + 1)).take ((qt l now).length - (k + 1)) ++ [zeroSess.row] ++ ((yf l now).map Sess.row).drop (qt l now).length).drop 0).take ((qt l now).length - 1) = ((qt l now).eraseIdx k).map Sess.row:=by
  rw [List.drop_zero,List.append_assoc,List.take_append_of_le_length (by simp;omega),List.take_of_length_le (by simp;omega),List.eraseIdx_eq_take_drop_succ,List.map_append];congr 1
  ·rw [List.map_take, ← zi l now,List.take_take,Nat.min_eq_left (by omega)]
  ·rw [List.map_drop, ← zi l now,List.drop_take]
 rw [e];exact QQ fun _=>rfl
theorem qbY (u:Upl) (hu:UBig u) (who:qb) (hw:who.length ≤ 9223372036854775807) (number now:Int) (he:jM u who number now ≠ 0) :
  jN C.P 149 [vt u,.v (str who),.v (.int .i64 number),.v (.int .i64 now)] (Z9 Xt [] (jM u who number now)):=by
 refine qJ 0 ?_
 repeat' (first|refine qg ?_|(first|refine yS (XG u hu who hw number now he ..) ?_)|(refine xsS ?_ ?_;all_goals first|exact False.elim|intro hp hc)|refine xsA ?_ ?_)
 all_goals try (exfalso;simp_all;done)
 (exact kw (rs:=[.cell 8 26,.tmp 9,.tmp 10]))
theorem qdf (u:Upl) (hu:UBig u) (who:qb) (hw:who.length ≤ 9223372036854775807) (number now:Int) (hb0:qQ u now = 0) (hnm:qj who = true) (k:Nat) (hk:yN (zu who number) (qt u.sess now) = k) (s:Sess) (hs:(qt u.sess now)[k]? = some s) :
  jN C.P 149 [vt u,.v (str who),.v (.int .i64 number),.v (.int .i64 now)] (qbh u now k s):=by
 have hkl:k < (qt u.sess now).length:=(List.getElem?_eq_some_iff.1 hs).1;have hr:=Y2 hs;have hsl:(qt u.sess now).length ≤ 20:=Nat.le_trans (QR _ _) (uok hb0).len;have hdel:=qh7 ((yf u.sess now).map Sess.row) (js fun _=>rfl) (kU fun _=>rfl) (qt u.sess now).length k hkl (by simpa using ku u.sess now) (by omega);have hpu:=qdC (rs:=(yf u.sess now).map Sess.row) (js fun _=>rfl) k (qt u.sess now).length;refine qJ 0 ?_
 repeat' (first|refine qg ?_|(first|(refine jP ([]) qi (Y7 u hu who hw number now hb0 hnm k hk ..) ?_)|(refine vq ?_)|(refine Q8 ([2]) 2 qi (hdel ..) ?_))|(refine xsS ?_ ?_;all_goals first|exact False.elim|intro hp hc)|refine xsA ?_ ?_)
 all_goals try (exfalso;simp_all;done)
 ·rw [show qbh u now k s = Z9 Xt [] 4 from by unfold qbh;rw [if_pos hp]]
  (exact kw (rs:=[.cell 8 26,.tmp 9,.tmp 10]))
 ·skip
  rw [show qbh u now k s = Z9 (qmK u now k) s.text 0 from by unfold qbh;rw [if_neg (by omega)]]
  (exact Jd (rs:=[.cell 8 26,.tmp 9,.tmp 10]) (hz:=by (repeat' (first|(apply qoG hkl;rfl)|exact jX|apply qH|exact ju rfl|exact zP|exact Kc|apply vn|apply kP|apply vo|apply kN|apply vR|apply kO|refine Kb ?_|apply JD));all_goals trace_state))
end Go.Proofs.YtgcncinnlmjgdaaGreatDoor
namespace Go.Proofs.YtgcncinnlmjgdaaGreatDoor
theorem Kx {l:List Sess}:ql (fun a b=>decide (a.number < b.number)) l = true ↔ l.Pairwise (fun a b=>a.number < b.number):=by
 induction l with
 | nil=>simp [ql]
 | cons x l ih =>
   simp only [ql,Bool.and_eq_true,ih,List.pairwise_cons];constructor
   ·rintro ⟨h1,h2⟩;refine ⟨?_,h2⟩
    cases l with
    | nil=>simp
    | cons y l =>
      simp at h1;intro z hz;rcases List.mem_cons.1 hz with rfl|hz
      ·exact h1
      ·have:=(List.pairwise_cons.1 h2).1 z hz;omega
   ·rintro ⟨h1,h2⟩;refine ⟨?_,h2⟩
    cases l with
    | nil=>rfl
    | cons y l=>simpa using h1 y (List.mem_cons_self ..)
theorem wl (s:Sess) (l:List Sess) (who:qb):jQ (s :: l) who = (if s.who = who then s.size else 0) + jQ l who:=by simp [jQ]
theorem qaU {l:List Sess} (p:Sess → Bool) (who:qb) (h : ∀ s,s ∈ l → 0 ≤ s.size):jQ (l.filter p) who ≤ jQ l who:=by
 induction l with
 | nil=>simp
 | cons s l ih =>
   have ih:=ih fun t ht=>h t (List.mem_cons_of_mem _ ht)
   have h0:=h s (List.mem_cons_self ..);rw [wl];by_cases hp:p s = true
   ·rw [List.filter_cons_of_pos hp,wl];omega
   ·rw [List.filter_cons_of_neg hp];split<;>omega
theorem Zn {u:Upl} (h1:wL u = true) (h2:u.sess.length ≤ 20) (h3 : ∀ s,s ∈ u.sess → yj u.next s = 0) (h4:u.sess.Pairwise (fun a b=>a.number < b.number)) (h5 : ∀ s,s ∈ u.sess → jQ u.sess s.who ≤ u.room):yu u = 0:=by
 unfold yu;rw [if_pos h1,if_neg (by omega),if_pos (jA.2 h3),if_pos (Kx.2 h4),if_pos (show qeF u = true from List.all_eq_true.2 fun s hs=>by simpa using h5 s hs)]
theorem kS {u:Upl} (h:yu u = 0):wL u = true ∧ u.sess.length ≤ 20 ∧ (∀ s,s ∈ u.sess → yj u.next s = 0) ∧ u.sess.Pairwise (fun a b=>a.number < b.number) ∧ ∀ s,s ∈ u.sess → jQ u.sess s.who ≤ u.room:=by
 obtain ⟨a,b,c,d,e⟩:=qay h;exact ⟨a,b,c,Kx.1 d,fun s hs=>by have:=List.all_eq_true.1 e s hs;simpa using this⟩
theorem Y3 {u:Upl} (t:Int) (h:yu u = 0):yu (X8 u t) = 0:=by
 obtain ⟨a,b,c,d,e⟩:=kS h;refine Zn a (Nat.le_trans (QR _ _) b) (fun s hs=>c s (Ye hs)) (d.filter _) (fun s hs=>?_);have h1:=qaU (l:=u.sess) (VQ t) s.who (fun s hs=>(vS (c s hs)).1);have h2:=e s (Ye hs);show jQ (qt u.sess t) s.who ≤ u.room;unfold qt;omega
theorem KB {next:Int} {s:Sess} (h:yj next s = 0):1 ≤ s.number ∧ s.number ≤ next - 1:=by
 unfold yj at h;split at h
 ·rename_i h1;simp [qq] at h1;omega
 ·cases h
theorem qgG {next:Int} {s:Sess} (h:yj next s = 0):yj (next + 1) s = 0:=by
 have hn:=KB h
 have e:qq s.number 1 (next + 1 - 1) = qq s.number 1 (next - 1):=by
  rw [Bool.eq_iff_iff];simp [qq];omega
 unfold yj at h ⊢;rw [e];exact h
theorem qeh {u:Upl} {who:qb} {size now:Int} (h:yi u who size now = 0):qQ u now = 0 ∧ qj who = true ∧ 0 ≤ size ∧ size ≤ 300 ∧ u.next ≠ 1099511627776 ∧ (qt u.sess now).length ≠ 20 ∧ jQ (qt u.sess now) who + size ≤ u.room:=by
 unfold yi at h;split at h
 ·rename_i h1;split at h
  ·rename_i h2;split at h
   ·cases h
   ·rename_i h3;split at h
    ·cases h
    ·rename_i h4;split at h
     ·cases h
     ·rename_i h5;exact ⟨h1,h2,by omega,by omega,fun e=>h3 (.inr (.inr e)),h4,by omega⟩
  ·cases h
 ·rename_i h1;exact absurd h h1
theorem qek {u:Upl} {who:qb} {size now:Int} (h:yi u who size now = 0):yu (VZ u who size now) = 0:=by
 obtain ⟨h1,h2,h3,h4,h5,h6,h7⟩:=qeh h;have ok:=uok h1;obtain ⟨n0,n1,l0,l1,r0,r1,x0,x1,_,_⟩:=ok;obtain ⟨a,b,c,d,e⟩:=kS (Y3 now (XK h1).1);have hU:(X8 u now).sess = qt u.sess now:=rfl;have hn:(X8 u now).next = u.next:=rfl;have hr:(X8 u now).room = u.room:=rfl;rw [hU] at b c d e;rw [hn] at c;rw [hr] at e;refine Zn ?_ ?_ ?_ ?_ ?_
 ·have e1:qq u.lasts 1 1000000 = true:=by simp [qq];omega
  have e2:qq u.room 0 100000 = true:=by simp [qq];omega
  have e3:qq (u.next + 1) 1 1099511627776 = true:=by simp [qq];omega
  show (qq u.lasts 1 1000000 && qq u.room 0 100000 && qq (u.next + 1) 1 1099511627776) = true;rw [e1,e2,e3];rfl
 ·simp [VZ];omega
 ·intro s hs;simp only [VZ,List.mem_append,List.mem_singleton] at hs;rcases hs with hs|rfl
  ·exact qgG (c s hs)
  ·have w1:qq u.next 1 u.next = true:=by simp [qq];omega
   have w2:qq size 0 300 = true:=by simp [qq];omega
   have w3:qq (now + u.lasts) 0 2199023255552 = true:=by simp [qq];omega
   simp [yj,VZ,w1,w2,w3,h2];omega
 ·show (qt u.sess now ++ [_]).Pairwise _;rw [List.pairwise_append];refine ⟨d,by simp,fun s hs t ht=>?_⟩;obtain rfl:=List.mem_singleton.1 ht;have:=KB (c s hs);show s.number < u.next;omega
 ·intro s hs;simp only [VZ,List.mem_append,List.mem_singleton] at hs;show jQ (qt u.sess now ++ [_]) s.who ≤ u.room;rw [Ku];rcases hs with hs|rfl
  ·have:=e s hs;by_cases hw:who = s.who
   ·rw [if_pos hw];rw [← hw];exact h7
   ·rw [if_neg hw];omega
  ·simpa using h7
end Go.Proofs.YtgcncinnlmjgdaaGreatDoor
namespace Go.Proofs.YtgcncinnlmjgdaaGreatDoor
open Go.Ab Go.RowKit
def Gra.row (g:Gra):List AV:=[.v (str g.folder),.v (str g.who),.v (.int .i64 g.right)]
def Gra.small (g:Gra):Prop:=g.folder.length ≤ 140737488355328 ∧ g.who.length ≤ 140737488355328
def jw (l:List Gra):AV := .sl false (l.map Gra.row)
structure GBig (l:List Gra):Prop where
 each : ∀ g,g ∈ l → g.small
 len:l.length ≤ 140737488355328
def kG (a b:Gra):Int:=if vp a.folder b.folder = 0 then vp a.who b.who else vp a.folder b.folder
end Go.Proofs.YtgcncinnlmjgdaaGreatDoor
