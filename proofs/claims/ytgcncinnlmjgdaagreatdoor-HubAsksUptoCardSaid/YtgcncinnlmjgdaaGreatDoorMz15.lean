import Derived.Test.YtgcncinnlmjgdaaGreatDoorMz1
import Derived.Test.YtgcncinnlmjgdaaGreatDoorMz0
set_option linter.unusedSimpArgs false
namespace Go.Proofs.YtgcncinnlmjgdaaGreatDoor
open Go.Ab
def yes:AV := .v (.bool true)
def zU (l:List qb):List (List UInt8 × AV):=l.foldl (fun m s=>yF m s yes) []
theorem Xh (l:List qb) (s:qb):zU (l ++ [s]) = yF (zU l) s yes:=by simp [zU]
theorem Xg (l:List qb) : ∀ e,e ∈ zU l → e.2.pure = true:=by
 have : ∀ (l:List qb) m,(∀ e,e ∈ m → e.2.pure = true) → ∀ e,e ∈ l.foldl (fun m s=>yF m s yes) m → e.2.pure = true:=by
  intro l
  induction l with
  | nil=>exact fun m h=>h
  | cons s l ih =>
    intro m h;refine ih _ ?_;intro e he;simp only [yF] at he;split at he
    ·rcases List.mem_or_eq_of_mem_set he with h1|rfl
     ·exact h e h1
     ·rfl
    ·rcases List.mem_append.1 he with h1|h1
     ·exact h e h1
     ·obtain rfl:=List.mem_singleton.1 h1;rfl
 exact this l [] (by simp)
theorem Kt (m:List (List UInt8 × AV)) (s:qb) (x:AV):(yF m s x).map (·.1) = if s ∈ m.map (·.1) then m.map (·.1) else m.map (·.1) ++ [s]:=by
 unfold yF
 cases h:m.findIdx? (fun e=>e.1 == s) with
 | none =>
   rw [List.findIdx?_eq_none_iff] at h;rw [if_neg]
   ·simp
   ·intro hs;obtain ⟨e,he,rfl⟩:=List.mem_map.1 hs;have:=h e he;simp at this
 | some j =>
   obtain ⟨hj,h1,_⟩:=List.findIdx?_eq_some_iff_getElem.1 h;have h1:m[j].1 = s:=by simpa using h1
   rw [if_pos (List.mem_map.2 ⟨m[j],List.getElem_mem _,h1⟩)];simp only [List.map_set];rw [← h1];have:m[j].1 = (m.map (·.1))[j]'(by simpa using hj):=by simp
   rw [this,List.set_getElem_self]
theorem ZM (l:List qb):((zU l).map (·.1)).Nodup ∧ ∀ s,s ∈ (zU l).map (·.1) ↔ s ∈ l:=by
 have : ∀ (l:List qb) m,(m.map (·.1)).Nodup → ((l.foldl (fun m s=>yF m s yes) m).map (·.1)).Nodup ∧ ∀ s,s ∈ (l.foldl (fun m s=>yF m s yes) m).map (·.1) ↔ s ∈ m.map (·.1) ∨ s ∈ l:=by
  intro l
  induction l with
  | nil=>intro m h;exact ⟨h,fun s=>by simp⟩
  | cons a l ih =>
    intro m h;have hk:=Kt m a yes
    have hn:((yF m a yes).map (·.1)).Nodup:=by
     rw [hk];split
     ·exact h
     ·rename_i hna;rw [List.nodup_append];exact ⟨h,by simp,fun x hx y hy=>by rw [List.mem_singleton.1 hy];rintro rfl;exact hna hx⟩
    refine ⟨(ih _ hn).1,fun s=>?_⟩;rw [List.foldl_cons,(ih _ hn).2 s,hk];split
    ·rename_i ha;constructor
     ·rintro (h|h)
      ·exact .inl h
      ·exact .inr (by simp [h])
     ·rintro (h|h)
      ·exact .inl h
      ·rcases List.mem_cons.1 h with rfl|h
       ·exact .inl ha
       ·exact .inr h
    ·simp only [List.mem_append,List.mem_singleton,List.mem_cons,or_assoc,List.not_mem_nil,false_or]
 have h:=this l [] (by simp);exact ⟨h.1,fun s=>by rw [show zU l = l.foldl (fun m s=>yF m s yes) [] from rfl,h.2 s];simp⟩
theorem ZR {α:Type} [DecidableEq α] : ∀ (a b:List α),a.Nodup → a ⊆ b → a.length ≤ b.length ∧ (a.length = b.length → b.Nodup → b ⊆ a)
 | [],b,_,_=>⟨by simp,fun h _=>by rw [List.length_nil] at h;rw [List.eq_nil_of_length_eq_zero h.symm];simp⟩
 | x :: a,b,hn,hs=>by
   have hx:x ∈ b:=hs (by simp);rw [List.nodup_cons] at hn
   have hs' : a ⊆ b.erase x:=fun y hy=>by
    have hyx:y ≠ x:=by rintro rfl;exact hn.1 hy
    exact (List.mem_erase_of_ne hyx).2 (hs (by simp [hy]))
   have hl:=List.length_erase_of_mem hx;have hp:=List.length_pos_of_mem hx;obtain ⟨h1,h2⟩:=ZR a (b.erase x) hn.2 hs';refine ⟨by simp;omega,fun he hb y hy=>?_⟩;by_cases hyx:y = x
   ·simp [hyx]
   ·have:=h2 (by simp at he;omega) (hb.erase x) ((List.mem_erase_of_ne hyx).2 hy);simp [this]
theorem qd3 {a b:List qb} (h:a ⊆ b):(zU a).length = (zU b).length ↔ b ⊆ a:=by
 have ha:=ZM a;have hb:=ZM b;have hsub:(zU a).map (·.1) ⊆ (zU b).map (·.1):=fun s hs=>(hb.2 s).2 (h ((ha.2 s).1 hs))
 have h1:=ZR _ _ ha.1 hsub;constructor
 ·intro he s hs;exact (ha.2 s).1 (h1.2 (by simpa using he) hb.1 ((hb.2 s).2 hs))
 ·intro hba;have hsub' : (zU b).map (·.1) ⊆ (zU a).map (·.1):=fun s hs=>(ha.2 s).2 (hba ((hb.2 s).1 hs))
  have h2:=ZR _ _ hb.1 hsub';have:=h1.1;have:=h2.1;simp at *;omega
theorem XW (l:List qb) : ∀ i,i ≤ l.length → (zU (l.take i)).length ≤ i ∧ ((zU (l.take i)).length = i ↔ (l.take i).Nodup)
 | 0,_=>by simp [zU]
 | i + 1,h=>by
   obtain ⟨h1,h2⟩:=XW l i (by omega);have hk:=Kt (zU (l.take i)) (l[i]'(by omega)) yes;have hm:=(ZM (l.take i)).2 (l[i]'(by omega));have hlen:=congrArg List.length hk;simp only [List.length_map] at hlen;rw [List.take_succ_eq_append_getElem (by omega),Xh,List.nodup_append];by_cases hx:l[i]'(by omega) ∈ l.take i
   ·rw [if_pos (hm.2 hx),List.length_map] at hlen;refine ⟨by omega,fun e=>by omega,fun ⟨_,_,e⟩=>?_⟩;exact absurd rfl (e _ hx _ (List.mem_singleton.2 rfl))
   ·rw [if_neg (fun e=>hx (hm.1 e)),List.length_append,List.length_map] at hlen;simp only [List.length_singleton] at hlen;refine ⟨by omega,fun e=>⟨h2.1 (by omega),by simp,fun a ha b hb=>?_⟩,fun e=>?_⟩
    ·rw [List.mem_singleton.1 hb];rintro rfl;exact hx ha
    ·have:=h2.2 e.1;omega
theorem qk8 (l:List qb):(zU l).length < l.length ↔ ¬ l.Nodup:=by
 have:=XW l l.length (Nat.le_refl _);rw [List.take_length] at this;constructor
 ·intro h e;have:=this.2.2 e;omega
 ·intro h;rcases Nat.lt_or_ge (zU l).length l.length with h1|h1
  ·exact h1
  ·exact absurd (this.2.1 (by omega)) h
end Go.Proofs.YtgcncinnlmjgdaaGreatDoor
