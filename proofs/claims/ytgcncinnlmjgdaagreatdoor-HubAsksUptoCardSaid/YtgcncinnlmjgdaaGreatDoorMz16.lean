import Derived.Test.YtgcncinnlmjgdaaGreatDoorMz15
import Derived.Test.YtgcncinnlmjgdaaGreatDoorMz9
import Derived.Test.YtgcncinnlmjgdaaGreatDoorMz0
set_option linter.unusedSimpArgs false
namespace Go.Proofs.YtgcncinnlmjgdaaGreatDoor
open Go.Ab
def qou (l:List Gra) (f:qb):Bool:=l.any fun h=>decide (h.folder = f) && decide (h.right = 3)
def YR (l:List Gra):Bool:=l.all fun g=>qou l g.folder
def Vk (l:List Gra):List (List UInt8 × AV):=zU (l.map (·.folder))
def KF (l:List Gra):List (List UInt8 × AV):=zU ((l.filter (fun g=>decide (g.right = 3))).map (·.folder))
theorem qf7 (l:List Gra):decide ((KF l).length = (Vk l).length) = YR l:=by
 have hsub:(l.filter (fun g=>decide (g.right = 3))).map (·.folder) ⊆ l.map (·.folder):=by
  intro s hs;obtain ⟨g,hg,rfl⟩:=List.mem_map.1 hs;exact List.mem_map.2 ⟨g,(List.mem_filter.1 hg).1,rfl⟩
 rw [Bool.eq_iff_iff,decide_eq_true_iff,KF,Vk,qd3 hsub,YR,List.all_eq_true];constructor
 ·intro h g hg;obtain ⟨g',hg',he⟩:=List.mem_map.1 (h (List.mem_map.2 ⟨g,hg,rfl⟩));have:=List.mem_filter.1 hg';exact List.any_eq_true.2 ⟨g',this.1,by simp [he,of_decide_eq_true this.2]⟩
 ·intro h s hs;obtain ⟨g,hg,rfl⟩:=List.mem_map.1 hs;obtain ⟨g',hg',he⟩:=List.any_eq_true.1 (h g hg);simp only [Bool.and_eq_true,decide_eq_true_eq] at he;exact List.mem_map.2 ⟨g',List.mem_filter.2 ⟨hg',by simp [he.2]⟩,he.1⟩
theorem qa7 {l:List Gra} {i:Nat} (h:i < l.length):Vk (l.take (i + 1)) = yF (Vk (l.take i)) l[i].folder yes:=by
 rw [Vk,List.take_succ_eq_append_getElem h,List.map_append];exact Xh _ _
theorem qlm {l:List Gra} {i:Nat} (h:i < l.length) (h3:l[i].right = 3):KF (l.take (i + 1)) = yF (KF (l.take i)) l[i].folder yes:=by
 rw [KF,List.take_succ_eq_append_getElem h,List.filter_append,List.map_append,List.filter_cons_of_pos (by simp [h3])];exact Xh _ _
theorem qm7 {l:List Gra} {i:Nat} (h:i < l.length) (h3:¬ l[i].right = 3):KF (l.take (i + 1)) = KF (l.take i):=by
 rw [KF,List.take_succ_eq_append_getElem h,List.filter_append,List.map_append,List.filter_cons_of_neg (by simp [h3])];simp [KF]
end Go.Proofs.YtgcncinnlmjgdaaGreatDoor
namespace Go.Proofs.YtgcncinnlmjgdaaGreatDoor
open Go.Op
def ja (a b:Gra):Bool:=bytesLess a.folder b.folder || (decide (a.folder = b.folder) && bytesLess a.who b.who)
theorem QC (a b:Gra):kG a b < 0 ↔ ja a b = true:=by
 unfold kG ja;by_cases h:a.folder = b.folder
 ·rw [if_pos ((yR _ _).2 h),kQ,h];simp [zp]
 ·rw [if_neg (fun e=>h ((yR _ _).1 e)),kQ];simp [h]
theorem zF (a b:Gra):kG a b = 0 ↔ a.folder = b.folder ∧ a.who = b.who:=by
 unfold kG;by_cases h:a.folder = b.folder
 ·rw [if_pos ((yR _ _).2 h),yR];simp [h]
 ·rw [if_neg (fun e=>h ((yR _ _).1 e)),yR];simp [h]
theorem qfJ (a b:Gra):0 < kG a b ↔ ja b a = true:=by
 unfold kG ja;by_cases h:a.folder = b.folder
 ·rw [if_pos ((yR _ _).2 h),qas,h];simp [zp]
 ·rw [if_neg (fun e=>h ((yR _ _).1 e)),qas];simp [show ¬ b.folder = a.folder from fun e=>h e.symm]
theorem Q5 {a b c:Gra} (h1:ja a b = true) (h2:ja b c = true):ja a c = true:=by
 simp only [ja,Bool.or_eq_true,Bool.and_eq_true,decide_eq_true_eq] at *
 rcases h1 with h1|⟨e1,h1⟩
 ·rcases h2 with h2|⟨e2,h2⟩
  ·exact .inl (vf h1 h2)
  ·exact .inl (e2 ▸ h1)
 ·rcases h2 with h2|⟨e2,h2⟩
  ·exact .inl (e1 ▸ h2)
  ·exact .inr ⟨e1.trans e2,vf h1 h2⟩
theorem ZI (a:Gra):ja a a = false:=by simp [ja,zp]
def vX (g:Gra):Int:=if qj g.folder && qj g.who then (if qq g.right 1 3 then 0 else 3) else 1
def jx (l:List Gra):Int :=
 if 60 < l.length then 2
 else if jp vX l = 0 then
  if ql ja l then
   if YR l then 0 else 5
  else 4
 else jp vX l
def x8 (l:List Gra) (g:Gra):Nat:=(l.takeWhile (fun x=>ja x g)).length
theorem qcI {g:Gra} : ∀ {l:List Gra} {p:Nat},p ≤ l.length → (∀ (k:Nat) (h:k < l.length),k < p → ja l[k] g = true) → (∀ (h:p < l.length),ja l[p] g = false) → x8 l g = p
 | [],p,hp,_,_=>by simp at hp;simp [x8,hp]
 | x :: l,0,_,_,h2=>by
   have:=h2 (by simp);simp only [List.getElem_cons_zero] at this;simp [x8,List.takeWhile_cons,this]
 | x :: l,p + 1,hp,h1,h2=>by
   have hx:ja x g = true:=h1 0 (by simp) (by omega);have:=qcI (l:=l) (p:=p) (by simpa using hp) (fun k h hk=>h1 (k + 1) (by simpa using h) (by omega)) (fun h=>h2 (by simpa using h));simp only [x8] at this;simp [x8,List.takeWhile_cons,hx,this]
theorem qhJ (l:List Gra) (g:Gra):x8 l g ≤ l.length:=by
 induction l with
 | nil=>simp [x8]
 | cons x l ih=>simp only [x8,List.takeWhile_cons] at *;split<;>simp<;>omega
def sameKey (g x:Gra):Bool:=decide (x.folder = g.folder) && decide (x.who = g.who)
def zT (l:List Gra) (g:Gra):Bool:=match l[x8 l g]? with|some x=>decide (kG x g = 0)|none=>false
theorem Xo : ∀ {l:List Gra},ql ja l = true → ∀ (j k:Nat) (hj:j < l.length) (hk:k < l.length),j < k → ja l[j] l[k] = true:=by
 intro l h j k hj hk hjk
 induction k with
 | zero=>omega
 | succ k ih =>
   have h1:=yt.1 h k hk;by_cases e:j = k
   ·subst e;exact h1
   ·exact Q5 (ih (by omega) (by omega)) h1
theorem Qj {a b c:Gra} (h:a.folder = b.folder ∧ a.who = b.who):ja c a = ja c b ∧ ja a c = ja b c:=by simp [ja,h.1,h.2]
theorem qcH {l:List Gra} {g:Gra} (hs:ql ja l = true) {k:Nat} (hk:k < l.length) (he:sameKey g l[k] = true):x8 l g = k:=by
 simp only [sameKey,Bool.and_eq_true,decide_eq_true_eq] at he;refine qcI (by omega) (fun j hj hjk=>?_) (fun _=>?_)
 ·rw [← (Qj he).1];exact Xo hs j k hj hk hjk
 ·rw [← (Qj he).1];exact ZI _
theorem qdW {l:List Gra} (hs:ql ja l = true) (g:Gra):zT l g = l.any (sameKey g):=by
 rcases xM (sameKey g) l with ⟨_,h2⟩|⟨k,hk,_,_,h3⟩
 ·have:l.any (sameKey g) = false:=List.any_eq_false.2 (fun x hx=>by rw [h2 x hx];simp);rw [this];unfold zT;split
  ·rename_i x hx;have hm:=List.mem_of_getElem? hx;rw [decide_eq_false_iff_not,zF];intro h;have:=h2 x hm;simp [sameKey,h.1,h.2] at this
  ·rfl
 ·have:l.any (sameKey g) = true:=List.any_eq_true.2 ⟨l[k],List.getElem_mem _,h3⟩;rw [this];unfold zT;rw [qcH hs hk h3,List.getElem?_eq_getElem hk];simp only [decide_eq_true_eq,zF];simp only [sameKey,Bool.and_eq_true,decide_eq_true_eq] at h3;exact h3
theorem qeg {g:Gra} (h:qj g.folder = false ∨ qj g.who = false):vX g = 1:=by
 unfold vX;rcases h with h|h<;>simp [h]
theorem qcy {g:Gra} (h:qj g.folder = true ∧ qj g.who = true) (hr:¬ (1 ≤ g.right ∧ g.right ≤ 3)):vX g = 3:=by
 have:qq g.right 1 3 = false:=by simp [qq];omega
 unfold vX;simp [h.1,h.2,this]
theorem qbw {g:Gra} (h:qj g.folder = true ∧ qj g.who = true) (hr:1 ≤ g.right ∧ g.right ≤ 3):vX g = 0:=by
 have:qq g.right 1 3 = true:=by simp [qq];omega
 unfold vX;simp [h.1,h.2,this]
theorem VF {l:List Gra} (h60:¬ 60 < l.length) {k:Nat} (hk:k < l.length) (hs : ∀ g,g ∈ l.take k → vX g = 0) {e:Int} (he:vX l[k] = e) (h0:e ≠ 0):e = jx l:=by
 have h1:=kY hk hs (by rw [he];exact h0);have hz:¬ jp vX l = 0:=by rw [h1,he];exact h0
 simp only [jx,h60,hz,if_false];rw [h1,he]
end Go.Proofs.YtgcncinnlmjgdaaGreatDoor
