import Derived.Test.YtiljlcgmcmjcoaaGreatDoorMz16
import Derived.Test.YtiljlcgmcmjcoaaGreatDoorMz7
import Derived.Test.YtiljlcgmcmjcoaaGreatDoorMz0
set_option linter.unusedSimpArgs false
namespace Go.Proofs.YtiljlcgmcmjcoaaGreatDoor
open Go.Ab
def Yw (l:List Gra) (f:qC):Bool:=l.any fun h=>decide (h.folder = f) && decide (h.right = 3)
def Qx (l:List Gra):Bool:=l.all fun g=>Yw l g.folder
def XC (l:List Gra):List (List UInt8 × AV):=ko (l.map (·.folder))
def VS (l:List Gra):List (List UInt8 × AV):=ko ((l.filter (fun g=>decide (g.right = 3))).map (·.folder))
theorem qcG (l:List Gra):decide ((VS l).length = (XC l).length) = Qx l:=by
 have hsub:(l.filter (fun g=>decide (g.right = 3))).map (·.folder) ⊆ l.map (·.folder):=by
  intro s hs
  obtain ⟨g,hg,rfl⟩:=List.mem_map.1 hs
  exact List.mem_map.2 ⟨g,(List.mem_filter.1 hg).1,rfl⟩
 rw [Bool.eq_iff_iff,decide_eq_true_iff,VS,XC,qaG hsub,Qx,List.all_eq_true]
 constructor
 ·intro h g hg
  obtain ⟨g',hg',he⟩:=List.mem_map.1 (h (List.mem_map.2 ⟨g,hg,rfl⟩))
  have:=List.mem_filter.1 hg'
  exact List.any_eq_true.2 ⟨g',this.1,by simp [he,of_decide_eq_true this.2]⟩
 ·intro h s hs
  obtain ⟨g,hg,rfl⟩:=List.mem_map.1 hs
  obtain ⟨g',hg',he⟩:=List.any_eq_true.1 (h g hg)
  simp only [Bool.and_eq_true,decide_eq_true_eq] at he
  exact List.mem_map.2 ⟨g',List.mem_filter.2 ⟨hg',by simp [he.2]⟩,he.1⟩
theorem KW {l:List Gra} {i:Nat} (h:i < l.length):XC (l.take (i + 1)) = xz (XC (l.take i)) l[i].folder yes:=by
 rw [XC,List.take_succ_eq_append_getElem h,List.map_append];exact Yg _ _
theorem qfz {l:List Gra} {i:Nat} (h:i < l.length) (h3:l[i].right = 3):VS (l.take (i + 1)) = xz (VS (l.take i)) l[i].folder yes:=by
 rw [VS,List.take_succ_eq_append_getElem h,List.filter_append,List.map_append,List.filter_cons_of_pos (by simp [h3])];exact Yg _ _
theorem qhH {l:List Gra} {i:Nat} (h:i < l.length) (h3:¬ l[i].right = 3):VS (l.take (i + 1)) = VS (l.take i):=by
 rw [VS,List.take_succ_eq_append_getElem h,List.filter_append,List.map_append,List.filter_cons_of_neg (by simp [h3])];simp [VS]
end Go.Proofs.YtiljlcgmcmjcoaaGreatDoor
set_option linter.unusedSimpArgs false
namespace Go.Proofs.YtiljlcgmcmjcoaaGreatDoor
open Go.Op
def jv (a b:Gra):Bool:=bytesLess a.folder b.folder || (decide (a.folder = b.folder) && bytesLess a.who b.who)
theorem wZ (a b:Gra):kQ a b < 0 ↔ jv a b = true:=by
 unfold kQ jv
 by_cases h:a.folder = b.folder
 ·rw [if_pos ((xG _ _).2 h),kR,h];simp [xp]
 ·rw [if_neg (fun e=>h ((xG _ _).1 e)),kR];simp [h]
theorem z7 (a b:Gra):kQ a b = 0 ↔ a.folder = b.folder ∧ a.who = b.who:=by
 unfold kQ
 by_cases h:a.folder = b.folder
 ·rw [if_pos ((xG _ _).2 h),xG];simp [h]
 ·rw [if_neg (fun e=>h ((xG _ _).1 e)),xG];simp [h]
theorem qcw (a b:Gra):0 < kQ a b ↔ jv b a = true:=by
 unfold kQ jv
 by_cases h:a.folder = b.folder
 ·rw [if_pos ((xG _ _).2 h),Kn,h];simp [xp]
 ·rw [if_neg (fun e=>h ((xG _ _).1 e)),Kn];simp [show ¬ b.folder = a.folder from fun e=>h e.symm]
theorem wm {a b c:Gra} (h1:jv a b = true) (h2:jv b c = true):jv a c = true:=by
 simp only [jv,Bool.or_eq_true,Bool.and_eq_true,decide_eq_true_eq] at *
 rcases h1 with h1|⟨e1,h1⟩
 ·rcases h2 with h2|⟨e2,h2⟩
  ·exact .inl (vT h1 h2)
  ·exact .inl (e2 ▸ h1)
 ·rcases h2 with h2|⟨e2,h2⟩
  ·exact .inl (e1 ▸ h2)
  ·exact .inr ⟨e1.trans e2,vT h1 h2⟩
theorem QF (a:Gra):jv a a = false:=by simp [jv,xp]
theorem qep (a b:Gra):(bytesLess b.folder a.folder || (decide (b.folder = a.folder) && (bytesLess b.who a.who || decide (b.who = a.who)))) = !jv a b:=by
 unfold jv
 rcases w9 a.folder b.folder with ⟨h1,h2,h3⟩|⟨h1,h2,h3⟩|⟨h1,h2,h3⟩
 ·have h4:¬ b.folder = a.folder:=fun e=>h3 e.symm
  simp [h1,h2,h3,h4]
 ·rw [h1]
  rcases w9 a.who b.who with ⟨g1,g2,g3⟩|⟨g1,g2,g3⟩|⟨g1,g2,g3⟩
  ·have g4:¬ b.who = a.who:=fun e=>g3 e.symm
   simp [xp,g1,g2,g3,g4]
  ·simp [xp,g1]
  ·simp [xp,g1,g2,g3]
 ·simp [h1,h2,h3]
def vR (g:Gra):Int:=if ql g.folder && ql g.who then (if qA g.right 1 3 then 0 else 3) else 1
def jH (l:List Gra):Int :=
 if 60 < l.length then 2
 else if jU vR l = 0 then
  if qv jv l then
   if Qx l then 0 else 5
  else 4
 else jU vR l
def v2 (l:List Gra) (g:Gra):Nat:=(l.takeWhile (fun x=>jv x g)).length
theorem qae {g:Gra} : ∀ {l:List Gra} {p:Nat},p ≤ l.length → (∀ (k:Nat) (h:k < l.length),k < p → jv l[k] g = true) → (∀ (h:p < l.length),jv l[p] g = false) → v2 l g = p
 | [],p,hp,_,_=>by simp at hp;simp [v2,hp]
 | x :: l,0,_,_,h2=>by
   have:=h2 (by simp)
   simp only [List.getElem_cons_zero] at this
   simp [v2,List.takeWhile_cons,this]
 | x :: l,p + 1,hp,h1,h2=>by
   have hx:jv x g = true:=h1 0 (by simp) (by omega)
   have:=qae (l:=l) (p:=p) (by simpa using hp) (fun k h hk=>h1 (k + 1) (by simpa using h) (by omega)) (fun h=>h2 (by simpa using h))
   simp only [v2] at this
   simp [v2,List.takeWhile_cons,hx,this]
theorem qdQ (l:List Gra) (g:Gra):v2 l g ≤ l.length:=by
 induction l with
 | nil=>simp [v2]
 | cons x l ih=>simp only [v2,List.takeWhile_cons] at *;split<;>simp<;>omega
def sameKey (g x:Gra):Bool:=decide (x.folder = g.folder) && decide (x.who = g.who)
def kq (l:List Gra) (g:Gra):Bool:=match l[v2 l g]? with|some x=>decide (kQ x g = 0)|none=>false
theorem J1 : ∀ {l:List Gra},qv jv l = true → ∀ (j k:Nat) (hj:j < l.length) (hk:k < l.length),j < k → jv l[j] l[k] = true:=by
 intro l h j k hj hk hjk
 induction k with
 | zero=>omega
 | succ k ih =>
   have h1:=yf.1 h k hk
   by_cases e:j = k
   ·subst e;exact h1
   ·exact wm (ih (by omega) (by omega)) h1
theorem kJ {a b c:Gra} (h:a.folder = b.folder ∧ a.who = b.who):jv c a = jv c b ∧ jv a c = jv b c:=by simp [jv,h.1,h.2]
theorem WZ {l:List Gra} {g:Gra} (hs:qv jv l = true) {k:Nat} (hk:k < l.length) (he:sameKey g l[k] = true):v2 l g = k:=by
 simp only [sameKey,Bool.and_eq_true,decide_eq_true_eq] at he
 refine qae (by omega) (fun j hj hjk=>?_) (fun _=>?_)
 ·rw [← (kJ he).1];exact J1 hs j k hj hk hjk
 ·rw [← (kJ he).1];exact QF _
theorem qbU {l:List Gra} (hs:qv jv l = true) (g:Gra):kq l g = l.any (sameKey g):=by
 rcases xZ (sameKey g) l with ⟨_,h2⟩|⟨k,hk,_,_,h3⟩
 ·have:l.any (sameKey g) = false:=List.any_eq_false.2 (fun x hx=>by rw [h2 x hx];simp)
  rw [this]
  unfold kq
  split
  ·rename_i x hx
   have hm:=List.mem_of_getElem? hx
   rw [decide_eq_false_iff_not,z7]
   intro h
   have:=h2 x hm
   simp [sameKey,h.1,h.2] at this
  ·rfl
 ·have:l.any (sameKey g) = true:=List.any_eq_true.2 ⟨l[k],List.getElem_mem _,h3⟩
  rw [this]
  unfold kq
  rw [WZ hs hk h3,List.getElem?_eq_getElem hk]
  simp only [decide_eq_true_eq,z7]
  simp only [sameKey,Bool.and_eq_true,decide_eq_true_eq] at h3
  exact h3
theorem VH {g:Gra} (h:ql g.folder = false ∨ ql g.who = false):vR g = 1:=by
 unfold vR;rcases h with h|h<;>simp [h]
theorem YU {g:Gra} (h:ql g.folder = true ∧ ql g.who = true) (hr:¬ (1 ≤ g.right ∧ g.right ≤ 3)):vR g = 3:=by
 have:qA g.right 1 3 = false:=by simp [qA];omega
 unfold vR;simp [h.1,h.2,this]
theorem X4 {g:Gra} (h:ql g.folder = true ∧ ql g.who = true) (hr:1 ≤ g.right ∧ g.right ≤ 3):vR g = 0:=by
 have:qA g.right 1 3 = true:=by simp [qA];omega
 unfold vR;simp [h.1,h.2,this]
theorem wz {l:List Gra} (h60:¬ 60 < l.length) {k:Nat} (hk:k < l.length) (hs : ∀ g,g ∈ l.take k → vR g = 0) {e:Int} (he:vR l[k] = e) (h0:e ≠ 0):e = jH l:=by
 have h1:=kf hk hs (by rw [he];exact h0)
 have hz:¬ jU vR l = 0:=by rw [h1,he];exact h0
 simp only [jH,h60,hz,if_false]
 rw [h1,he]
end Go.Proofs.YtiljlcgmcmjcoaaGreatDoor
