import Derived.Test.YtnhpclmbhbblbaaDoorMz13
import Derived.Test.YtnhpclmbhbblbaaDoorMz12
import Derived.Shelf.AbstractIn
set_option linter.unusedSimpArgs false
set_option linter.unnecessarySimpa false
set_option linter.unusedVariables false
namespace Go.Proofs.YtnhpclmbhbblbaaDoor
open Go.Ab Go.RowKit
set_option maxRecDepth 10000
attribute [local irreducible] Awp jk qG q9 Red qp Go.Ab.Fin qx Rz yS qX qT ResOk jp jd jG qR
theorem k5 : ∀ {a b:List UInt8},(a ≤ b) ↔ ¬ Op.bytesLess b a = true:=by
 have key : ∀ (a b:List UInt8),Op.bytesLess a b = true ↔ a < b:=by
  intro a
  induction a with
  | nil=>intro b;cases b<;>simp [Op.bytesLess]
  | cons x a ih =>
    intro b
    cases b with
    | nil=>simp [Op.bytesLess]
    | cons y b =>
      simp only [Op.bytesLess,Bool.or_eq_true,Bool.and_eq_true,decide_eq_true_eq,beq_iff_eq,List.cons_lt_cons_iff,ih]
 intro a b
 rw [key,List.not_lt]
theorem JF {l:List qv} (hn:l.Nodup):k8 (l.mergeSort leB):=by
 have h1:=List.pairwise_mergeSort (le:=leB) (fun a b c hab hbc=>by
  simp only [decide_eq_true_eq,k5] at *
  intro h
  rcases xv b c with h2|h2|h2
  ·exact hab (yB h2.1 h)
  ·rw [h2.1] at hab;exact hab h
  ·exact hbc h2.1) (fun a b=>by
  simp only [Bool.or_eq_true,decide_eq_true_eq,k5]
  rcases xv a b with h2|h2|h2
  ·exact .inl (by simp [h2.2.1])
  ·exact .inl (by simp [h2.2.2])
  ·exact .inr (by simp [h2.2.1])) l
 have h2:=(List.mergeSort_perm l leB).nodup_iff.2 hn
 refine (h1.and h2).imp fun {a b} ⟨h3,h4⟩=>?_
 simp only [decide_eq_true_eq,k5] at h3
 rcases xv a b with h5|h5|h5
 ·exact h5.1
 ·exact absurd h5.1 h4
 ·exact absurd h5.1 h3
theorem Yx {l s:List qv} (hn:l.Nodup) (hs:k8 s) (hm : ∀ x,x ∈ l ↔ x ∈ s):l.mergeSort leB = s :=
 Ja (JF hn) hs fun x=>by rw [(List.mergeSort_perm l leB).mem_iff,hm]
end Go.Proofs.YtnhpclmbhbblbaaDoor
set_option linter.unusedSimpArgs false
set_option linter.unnecessarySimpa false
set_option linter.unusedVariables false
namespace Go.Proofs.YtnhpclmbhbblbaaDoor
open Go.Ab
def jS (t:List Ent) (p:qv):List qv:=(t.filter fun x=>decide (qm x.path = p)).map fun x=>qP x.path
def Qi (t:List Ent) (p:qv):List qv:=(jS t p).mergeSort leB
theorem Yl {t:List Ent} (h:Right t) (p:qv):(jS t p).Nodup:=by
 unfold jS
 unfold List.Nodup
 rw [List.pairwise_map]
 have h1:=(yn.1 h.rise).filter (fun x=>decide (qm x.path = p))
 refine h1.imp_of_mem fun {a b} ha hb hlt he=>?_
 obtain ⟨ha1,ha2⟩:=List.mem_filter.1 ha
 obtain ⟨hb1,hb2⟩:=List.mem_filter.1 hb
 have ea:=(kj ((ja (h.ent a ha1)).1)).2.2
 have eb:=(kj ((ja (h.ent b hb1)).1)).2.2
 rw [of_decide_eq_true ha2,he] at ea
 rw [of_decide_eq_true hb2] at eb
 have:a.path = b.path:=ea.symm.trans eb
 rw [this] at hlt
 exact absurd hlt (by rw [vl];decide)
theorem JA {t:List Ent} (h:Right t) (p:qv):Qi t p = (jS t p).foldl yt [] :=
 Yx (Yl h p) (QQ List.Pairwise.nil).1 (fun x=>by rw [(QQ List.Pairwise.nil).2];simp)
theorem zy {t:List Ent} {p:qv} {i:Nat} (h:i < t.length):jS (t.take (i + 1)) p = if qm t[i].path = p then jS (t.take i) p ++ [qP t[i].path] else jS (t.take i) p:=by
 unfold jS
 rw [List.take_succ_eq_append_getElem h,List.filter_append,List.map_append]
 by_cases hp:qm t[i].path = p
 ·rw [if_pos hp];simp [hp]
 ·rw [if_neg hp];simp [hp]
theorem xF (t:List Ent) (p:qv):(jS t p).length ≤ t.length:=by
 unfold jS;rw [List.length_map];exact List.length_filter_le _ _
def qI (t:List Ent):Int:=(t.map fun x=>(x.text.length:Int)).sum
theorem yu {t:List Ent} {i:Nat} (h:i < t.length):qI (t.take (i + 1)) = qI (t.take i) + t[i].text.length:=by
 unfold qI
 rw [List.take_succ_eq_append_getElem h,List.map_append,List.sum_append];simp
theorem kZ : ∀ (L l:List qv),(L.foldl yt l).length ≤ L.length + l.length
 | [],l=>by simp
 | a :: L,l=>by
   have h1:=kZ L (yt l a)
   have h2:(yt l a).length ≤ l.length + 1:=by
    unfold yt
    split
    ·omega
    ·have h3:=(List.takeWhile_sublist (fun x=>Op.bytesLess x a) (l:=l)).length_le
     have h4:(l.takeWhile (fun x=>Op.bytesLess x a) ++ l.dropWhile (fun x=>Op.bytesLess x a)).length = l.length:=by rw [List.takeWhile_append_dropWhile]
     rw [List.length_append] at h4
     rw [List.length_append,List.length_cons, ← h4]
     exact Nat.le_of_eq (by rw [Nat.add_assoc])
   simp only [List.foldl_cons,List.length_cons]
   omega
theorem ky {l:List qv} {s:qv} {k:Nat} (hs:¬ s ∈ l) (hk:k ≤ l.length) (h1 : ∀ x,x ∈ l.take k → Op.bytesLess x s = true) (h2 : ∀ h:k < l.length,Op.bytesLess l[k] s = false):yt l s = l.take k ++ s :: l.drop k:=by
 unfold yt
 rw [if_neg hs]
 have hl:l = l.take k ++ l.drop k:=(List.take_append_drop k l).symm
 have e1:l.takeWhile (fun x=>Op.bytesLess x s) = l.take k:=by
  conv=>lhs;rw [hl]
  rw [List.takeWhile_append_of_pos h1]
  by_cases hlt:k < l.length
  ·rw [List.drop_eq_getElem_cons hlt,List.takeWhile_cons_of_neg (by rw [h2 hlt];decide),List.append_nil]
  ·rw [List.drop_eq_nil_of_le (by omega)];simp
 have e2:l.dropWhile (fun x=>Op.bytesLess x s) = l.drop k:=by
  have h:=List.takeWhile_append_dropWhile (p:=fun x=>Op.bytesLess x s) (l:=l)
  rw [e1] at h
  exact List.append_cancel_left (h.trans hl)
 rw [e1,e2]
end Go.Proofs.YtnhpclmbhbblbaaDoor
