import Derived.Test.YtamejbkifpjhiaaGreatDoorMz23
import Derived.Test.YtamejbkifpjhiaaGreatDoorMz24
import Derived.Test.YtamejbkifpjhiaaGreatDoorMz14
import Derived.Shelf.AbstractIn
set_option linter.unusedSimpArgs false
set_option linter.unnecessarySimpa false
set_option linter.unusedVariables false
namespace Go.Proofs
open Go.RowKit Go.Maps Go.Sort Go.Shelf
theorem Tryz.sortsT (m:Nat):AnyZ.SortsIn Tryz.prog Tryz.sortedT_ren Fence.wide m :=
 ⟨fun blk off cap ss W hH hblk hsz=>callsIn_wide.2 (AnyM.slices_Sort_string Tryz.sortT blk off cap ss W hH hblk hsz),
  fun p cap W=>callsIn_wide.2 (AnyM.slices_Sort_string_none Tryz.sortT p cap W)⟩
set_option maxHeartbeats 1000000 in
theorem Tryz.paths_raw {H:Type} (b nn:Nat) (D0:DataW H) (R:Value → Option (DataW H × List MemPlace)) (w:World) (hown:w.ownsMap Tryz.prog 9 R b nn D0) (hmax:Maps.size D0 ≤ maxLen) (hbytes:Maps.size D0 * 16 ≤ 140737488355328) :
  Calls Tryz.prog 66 #[.map (some b)] w fun e w' => ∃ (v:Value) (ss:List (List UInt8)),e = .returned v ∧ ss.Perm (strKeys D0) ∧
   w'.ownsRow w.heap.size 9 1 v ss.length ((ss.mergeSort (fun x y=>decide (x ≤ y))).map encStr) ∧ (v = .slice none 0 0 ↔ ss = []) ∧ Below w.heap.size w w':=by
 refine (callsIn_wide (n:=6)).1 ?_
 have hbl:=hown.lt
 have hseq:SeqGives Fence.wide 2 Tryz.prog 149 #[.pointer (some ⟨w.heap.size,0,none⟩)] encStr (fun ss=>ss.Perm (strKeys D0)) (Maps.size D0) (w.alloc (.cells #[.map (some b)] 104)) :=
  AnyZ.keys_gives (ρ:=Tryz.keysT_ren) { Tryz.keysT with } Fence.wide _ trivial rfl (by omega) w.heap.size b nn D0 _ (by simp) (by simp) (by
   obtain ⟨es,clock,hb,Ft,hs,hD⟩:=hown
   exact ⟨es,clock,(Below.heap_alloc _ _ b hbl).trans hb,Ft,hs,hD⟩)
 have cK : ∀ mb W,CallsIn Fence.wide 5 Tryz.prog 119 #[.map mb] W fun e w'=>e = .returned (.func (.func 149) #[] #[.pointer (some ⟨W.heap.size,0,none⟩)]) ∧ w' = W.alloc (.cells #[.map mb] 104):=fun mb W=>AnyZ.keys_in Tryz.keysT Fence.wide 5 trivial rfl mb W
 have cS:=AnyZ.sorted_in Tryz.sortedT Fence.wide 5 trivial trivial trivial trivial rfl (by omega) (Tryz.sortsT _) (enters_of Tryz.func148 (by kernel_rfl) rfl) 149 #[.pointer (some ⟨w.heap.size,0,none⟩)] trivial (enters_of Tryz.func149 (by kernel_rfl) rfl) _ _ hmax hbytes _ hseq
 change CallsIn _ _ Tryz.prog 118 _ _ _ at cS
 have hfK:Fence.wide.fn 119:=trivial
 have hfS:Fence.wide.fn 118:=trivial
 refine callsIn_of_wp Tryz.func66 rfl trivial ?_ rfl
 simp only [Tryz.ntmps66,List.size_toArray,List.length_cons,List.length_nil,Nat.reduceAdd,Nat.reduceSub,Array.replicate_succ,Array.replicate_zero,List.push_toArray,List.append_toArray,List.nil_append,List.cons_append]
 gi_wp2_with (first
  | (gi_at_call 119;refine (cK _ _).mono ?_;rintro e w' ⟨rfl,rfl⟩)
  | (gi_at_call 118;refine cS.mono ?_;rintro e w' ⟨v,ss,rfl,hS,hrow,hnil,hb⟩))
 go_ret
 exact ⟨v,ss,rfl,hS,ownsRow_base_a hrow (by simp),hnil,((Below.refl _ w).alloc (Nat.le_refl _) _).trans (hb.mono (by simp))⟩
end Go.Proofs
namespace Go.Proofs.YtamejbkifpjhiaaGreatDoor
open Go.Ab Go.RowKit
set_option maxRecDepth 10000
attribute [local irreducible] Awp yH jH jw Red ja Go.Ab.Fin qZ Rz vn jr jp ResOk j3 jC yC jA
theorem VQ : ∀ {a b:List UInt8},(a ≤ b) ↔ ¬ Op.bytesLess b a = true:=by
 have key : ∀ (a b:List UInt8),Op.bytesLess a b = true ↔ a < b:=by
  intro a
  induction a with
  | nil=>intro b;cases b<;>simp [Op.bytesLess]
  | cons x a ih =>
    intro b
    cases b with
    | nil=>simp [Op.bytesLess]
    | cons y b =>
      simp only [Op.bytesLess,Bool.or_eq_true,Bool.and_eq_true,decide_eq_true_eq,beq_iff_eq,List.cons_lt_cons_iff,ih]
 intro a b
 rw [key,List.not_lt]
theorem qbk {l:List qP} (hn:l.Nodup):Qa (l.mergeSort leB):=by
 have h1:=List.pairwise_mergeSort (le:=leB) (fun a b c hab hbc=>by
  simp only [decide_eq_true_eq,VQ] at *
  intro h
  rcases wN b c with h2|h2|h2
  ·exact hab (kw h2.1 h)
  ·rw [h2.1] at hab;exact hab h
  ·exact hbc h2.1) (fun a b=>by
  simp only [Bool.or_eq_true,decide_eq_true_eq,VQ]
  rcases wN a b with h2|h2|h2
  ·exact .inl (by simp [h2.2.1])
  ·exact .inl (by simp [h2.2.2])
  ·exact .inr (by simp [h2.2.1])) l
 have h2:=(List.mergeSort_perm l leB).nodup_iff.2 hn
 refine (h1.and h2).imp fun {a b} ⟨h3,h4⟩=>?_
 simp only [decide_eq_true_eq,VQ] at h3
 rcases wN a b with h5|h5|h5
 ·exact h5.1
 ·exact absurd h5.1 h4
 ·exact absurd h5.1 h3
theorem qc6 {l s:List qP} (hn:l.Nodup) (hs:Qa s) (hm : ∀ x,x ∈ l ↔ x ∈ s):l.mergeSort leB = s :=
 qaa (qbk hn) hs fun x=>by rw [(List.mergeSort_perm l leB).mem_iff,hm]
theorem vY {s:List qP} (h:Qa s):s.Nodup:=h.imp fun {a b} hab e=>by rw [e,vD] at hab;cases hab
theorem Xy {t:List Ent} (h:qU jf t = true):Qa (t.map Ent.path):=by
 unfold Qa;rw [List.pairwise_map];exact jJ.1 h
theorem Yi (l:List (List UInt8 × AV)) (s:List qP) (hs:Qa s) (hp:(l.map (·.1)).Perm s) (hl:s.length ≤ 1000000) (hk : ∀ x,x ∈ s → x.length ≤ 1000000) :
  qZ C1.P 66 [.mp 0] [.mp l] (.os 1 0 s.length) [.mp l,.own false 1 (s.map jn)]:=by
 have hlen:l.length = s.length:=by rw [← hp.length_eq,List.length_map]
 have h:=qay (P:=C1.P) (f:=66) (k:=9) Tryz.underlying9 (l:=l) (by omega) (fun x hx=>hk x.1 (hp.mem_iff.1 (List.mem_map.2 ⟨x,hx,rfl⟩))) (fun b nn D0 w h1 h2 h3=>Tryz.paths_raw b nn D0 vi w h1 h2 h3)
 rw [qc6 (hp.nodup_iff.2 (vY hs)) hs (fun x=>hp.mem_iff),hlen] at h
 exact h
end Go.Proofs.YtamejbkifpjhiaaGreatDoor
set_option linter.unusedSimpArgs false
set_option linter.unnecessarySimpa false
set_option linter.unusedVariables false
set_option maxHeartbeats 1000000
namespace Go.Proofs.YtamejbkifpjhiaaGreatDoor
open Go.Ab Go.RowKit
set_option maxRecDepth 10000
attribute [local irreducible] Awp yH jH jw Red ja Go.Ab.Fin qZ Rz vn jr jp ResOk j3 jC yC jA
theorem KB (s:qP):jE (s ++ [47]) = jE s ++ [s]:=by
 have h1:=JS s
 have hp:=List.length_pos_iff.2 (xB s)
 apply List.ext_getElem
 ·rw [yO,List.length_append,yO,h1,List.length_append];simp;omega
 ·intro i h2 h3
  rw [vH h2]
  rw [yO,h1,List.length_append] at h2
  simp only [List.length_cons,List.length_nil] at h2
  rw [h1,List.take_append_of_le_length (by omega)]
  rw [List.getElem_append]
  split
  ·rename_i h4
   rw [vH h4]
  ·rename_i h4
   rw [yO] at h4
   have:i + 1 = (qu s).length:=by omega
   rw [this,List.take_length,y2]
   simp
theorem KA {c:UInt8} (h:¬ c = 47) (s:qP):jE (s ++ [c]) = jE s:=by
 have h1:=YK h s
 have hp:=List.length_pos_iff.2 (xB s)
 have hl:(qu (s ++ [c])).length = (qu s).length:=by rw [h1,List.length_append,List.length_dropLast];simp;omega
 apply List.ext_getElem
 ·rw [yO,yO,hl]
 ·intro i h2 h3
  rw [vH h2,vH h3]
  rw [yO] at h3
  rw [h1,List.take_append_of_le_length (by rw [List.length_dropLast];omega),List.dropLast_eq_take,List.take_take,Nat.min_eq_left (by omega)]
theorem WV {p:qP} {i:Nat} (h:i < p.length):jE (p.take (i + 1)) = if p[i] = 47 then jE (p.take i) ++ [p.take i] else jE (p.take i):=by
 rw [List.take_succ_eq_append_getElem h]
 split
 ·rename_i e;rw [e,KB]
 ·rename_i e;rw [KA e]
theorem qaZ (p:qP):(jE p).length ≤ p.length:=by
 rw [yO,wK]
 have:=List.count_le_length (a:=(47:UInt8)) (l:=p)
 omega
theorem qa5 {p:qP} (h:qH p = 0) : ∀ c,c ∈ p → c.toNat < 128:=by
 have h1:=(xD.1 h).1
 intro c hc
 have key : ∀ (l:List qP),(∀ n,n ∈ l → ∀ c,c ∈ n → c.toNat < 128) → ∀ c,c ∈ yV l → c.toNat < 128:=by
  intro l
  induction l with
  | nil=>intro _ c hc;cases hc
  | cons n l ih =>
    intro h c hc
    cases l with
    | nil=>exact h n (by simp) c hc
    | cons m l =>
      rw [zn (by simp)] at hc
      rcases List.mem_append.1 hc with h2|h2
      ·exact h n (by simp) c h2
      ·rcases List.mem_cons.1 h2 with rfl|h2
       ·decide
       ·exact ih (fun n' hn'=>h n' (by simp [hn'])) c h2
 rw [← y2 p] at hc
 refine key _ (fun n hn c hc=>?_) c hc
 have h2:=(Qs.1 (h1 n hn)).2.2.2.2.2.2 c hc
 simp [Zl] at h2
 omega
theorem qcc (p:qP) (hp:qH p = 0):qZ C.P 117 [.v (str p)] [] (.os 0 0 (jE p).length) [.own false 1 ((jE p).map jn)]:=by
 have hpl:=qQ hp
 have hasc:=qa5 hp
 refine qc Tryz.func117 rfl _ Tryz.ntmps117 (Nat.le_of_ble_eq_true rfl) _ Tryz.results117 0 rfl rfl ?_
 repeat' (first|refine qn ?_|(first|(apply xe;apply Kk;(case hx=>rfl);(case hT=>rfl);(case hs=>rfl);(case hN=>exact nle rfl)))|((first|refine xsC ?_ ?_);all_goals (intro hc;have hp:=hc;try simp at hp;try (exfalso;omega)))|refine qX ?_ ?_)
 all_goals try (exfalso;omega)
 refine Awp.red (ye 3 1 rfl (Nat.zero_le _)) ?_
 (refine Awp.red (qB (τ:=⟨[(0,.v (str p)),(3,.os 1 0 0),(7,.op 0 0 0)],[(0,.mp (.sit p 0)),(1,.own false 1 [])],2⟩) [(0,0),(1,1)] rfl ?gts2 ?ghs2) ?_;(case gts2=>(repeat (first|exact qg|refine qo ?_|refine yg ?_|refine xM ?_|refine zi ?_|refine xN ?_ ?_|refine qY ?_ ?_));all_goals (first|rfl|trace_state));(case ghs2=>(repeat' (first|exact qj|refine jx ?_|refine zy ?_|refine x2 ?_ ?_ ?_|refine ve ?_ ?_|refine yY ?_ ?_|refine xh ?_ ?_ ?_ ?_|refine q6 ?_ ?_|exact ql|apply qd|exact qk rfl|(apply qt;(first|exact qN rfl|exact .inr (List.mem_cons_self ..)|exact .inr (List.mem_cons_of_mem _ (List.mem_cons_self ..))|exact .inr (List.mem_cons_of_mem _ (List.mem_cons_of_mem _ (List.mem_cons_self ..)))|exact .inr (List.mem_cons_of_mem _ (List.mem_cons_of_mem _ (List.mem_cons_of_mem _ (List.mem_cons_self ..))))))|refine ju ?_|refine xi ?_ rfl|with_reducible exact List.Perm.refl _));all_goals (first|rfl|trace_state)))
 refine qV (fun n σ => ∃ i:Nat,i ≤ p.length ∧ n = p.length - i ∧ (True) ∧ σ = ⟨[(0,.v (str p)),(3,.os 1 0 (jE (p.take i)).length),(7,.op 0 0 0)],[(0,.mp (.sit p i)),(1,.own false 1 ((jE (p.take i)).map jn))],2⟩) p.length ⟨0,Nat.zero_le _,rfl,trivial,rfl⟩ ?_
 rintro n σ ⟨i,hi,rfl, -,rfl⟩
 have hfew:(jE (p.take i)).length ≤ p.length:=by have:=qaZ (p.take i);rw [List.length_take] at this;omega
 by_cases hlt:i < p.length
 ·have hs:=WV hlt
  have ha:=hasc p[i] (List.getElem_mem _)
  have hpt:(p.drop 0).take i = p.take i:=rfl
  generalize hPI:jE (p.take i) = PI at *
  generalize hPJ:jE (p.take (i + 1)) = PJ at *
  have hc47:(p[i].toNat:Int) = 47 ↔ p[i] = 47:=by
   constructor
   ·intro h;exact UInt8.toNat.inj (by show p[i].toNat = 47;omega)
   ·intro h;rw [h];rfl
  by_cases h47:p[i] = 47
  ·rw [if_pos h47] at hs
   have h47':=hc47.2 h47
   repeat' (first|refine qn ?_|(first|(apply Jd;apply XM;(case hi=>rfl);(case hm=>rfl);(case hp=>exact hlt);(case ha=>exact ha);(case hN=>exact nle rfl))|(refine qfY ?_)|(refine jL ?_)|(refine yi ?_))|((first|refine xsC ?_ ?_);all_goals (intro hc;have hp:=hc;try simp at hp;try (exfalso;omega)))|refine qX ?_ ?_)
   all_goals try (exfalso;first|omega|contradiction)
   refine ⟨p.length - (i + 1),_,by omega,qB (τ:=⟨[(0,.v (str p)),(3,.os 1 0 (jE (p.take (i + 1))).length),(7,.op 0 0 0)],[(0,.mp (.sit p (i + 1))),(1,.own false 1 ((jE (p.take (i + 1))).map jn))],2⟩) [(0,0),(2,1)] rfl ?gts ?ghs,i + 1,by omega,rfl,trivial,rfl⟩;(case gts=>(repeat (first|exact qg|refine qo ?_|refine yg ?_|refine xM ?_|refine zi ?_|refine xN ?_ ?_|refine qY ?_ ?_));all_goals (first|rfl|(rw [hPJ,hs];done)|(rw [hPJ,hs];first|rfl|(simp [jn];done)|(simp [jn,yZ];done)|(rw [List.map_append,yZ];rfl))|trace_state));(case ghs=>(repeat' (first|exact qj|refine jx ?_|refine zy ?_|refine x2 ?_ ?_ ?_|refine ve ?_ ?_|refine yY ?_ ?_|refine xh ?_ ?_ ?_ ?_|refine q6 ?_ ?_|exact ql|apply qd|exact qk rfl|(apply qt;(first|exact qN rfl|exact .inr (List.mem_cons_self ..)|exact .inr (List.mem_cons_of_mem _ (List.mem_cons_self ..))|exact .inr (List.mem_cons_of_mem _ (List.mem_cons_of_mem _ (List.mem_cons_self ..)))|exact .inr (List.mem_cons_of_mem _ (List.mem_cons_of_mem _ (List.mem_cons_of_mem _ (List.mem_cons_self ..))))))|refine ju ?_|refine xi ?_ rfl|with_reducible exact List.Perm.refl _));all_goals (first|rfl|(rw [hPJ,hs];done)|(rw [hPJ,hs];first|rfl|(simp [jn];done)|(simp [jn,yZ];done)|(rw [List.map_append,yZ];rfl))|trace_state))
  ·rw [if_neg h47] at hs
   have h47' : ¬ (p[i].toNat:Int) = 47:=fun h=>h47 (hc47.1 h)
   repeat' (first|refine qn ?_|(first|(apply Jd;apply XM;(case hi=>rfl);(case hm=>rfl);(case hp=>exact hlt);(case ha=>exact ha);(case hN=>exact nle rfl))|(refine qfY ?_)|(refine jL ?_)|(refine yi ?_))|((first|refine xsC ?_ ?_);all_goals (intro hc;have hp:=hc;try simp at hp;try (exfalso;omega)))|refine qX ?_ ?_)
   all_goals try (exfalso;first|omega|contradiction)
   refine ⟨p.length - (i + 1),_,by omega,qB (τ:=⟨[(0,.v (str p)),(3,.os 1 0 (jE (p.take (i + 1))).length),(7,.op 0 0 0)],[(0,.mp (.sit p (i + 1))),(1,.own false 1 ((jE (p.take (i + 1))).map jn))],2⟩) [(0,0),(1,1)] rfl ?gts ?ghs,i + 1,by omega,rfl,trivial,rfl⟩;(case gts=>(repeat (first|exact qg|refine qo ?_|refine yg ?_|refine xM ?_|refine zi ?_|refine xN ?_ ?_|refine qY ?_ ?_));all_goals (first|rfl|(rw [hPJ,hs];done)|(rw [hPJ,hs];first|rfl|(simp [jn];done)|(simp [jn,yZ];done)|(rw [List.map_append,yZ];rfl))|trace_state));(case ghs=>(repeat' (first|exact qj|refine jx ?_|refine zy ?_|refine x2 ?_ ?_ ?_|refine ve ?_ ?_|refine yY ?_ ?_|refine xh ?_ ?_ ?_ ?_|refine q6 ?_ ?_|exact ql|apply qd|exact qk rfl|(apply qt;(first|exact qN rfl|exact .inr (List.mem_cons_self ..)|exact .inr (List.mem_cons_of_mem _ (List.mem_cons_self ..))|exact .inr (List.mem_cons_of_mem _ (List.mem_cons_of_mem _ (List.mem_cons_self ..)))|exact .inr (List.mem_cons_of_mem _ (List.mem_cons_of_mem _ (List.mem_cons_of_mem _ (List.mem_cons_self ..))))))|refine ju ?_|refine xi ?_ rfl|with_reducible exact List.Perm.refl _));all_goals (first|rfl|(rw [hPJ,hs];done)|(rw [hPJ,hs];first|rfl|(simp [jn];done)|(simp [jn,yZ];done)|(rw [List.map_append,yZ];rfl))|trace_state))
 obtain rfl:i = p.length:=by omega
 rw [List.take_length] at *
 repeat' (first|refine qn ?_|(first|(apply qi;apply Wr;(case hi=>rfl);(case hm=>rfl);(case hp=>exact Nat.le_refl _);(case hN=>exact nle rfl)))|((first|refine xsC ?_ ?_);all_goals (intro hc;have hp:=hc;try simp at hp;try (exfalso;omega)))|refine qX ?_ ?_)
 all_goals try (exfalso;omega)
 (apply jM (rs:=[.tmp 2]) [(1,0)] 1;(case hr=>(repeat (first|exact js|(apply jt;rfl)|(apply jl;rfl;rfl;rfl;rfl;rfl))));(case hL=>rfl);(case hh=>(repeat' (first|exact qj|refine jx ?_|refine zy ?_|refine x2 ?_ ?_ ?_|refine ve ?_ ?_|refine yY ?_ ?_|refine xh ?_ ?_ ?_ ?_|refine q6 ?_ ?_|exact ql|apply qd|exact qk rfl|(apply qt;(first|exact qN rfl|exact .inr (List.mem_cons_self ..)|exact .inr (List.mem_cons_of_mem _ (List.mem_cons_self ..))|exact .inr (List.mem_cons_of_mem _ (List.mem_cons_of_mem _ (List.mem_cons_self ..)))|exact .inr (List.mem_cons_of_mem _ (List.mem_cons_of_mem _ (List.mem_cons_of_mem _ (List.mem_cons_self ..))))))|refine ju ?_|refine xi ?_ rfl|with_reducible exact List.Perm.refl _));all_goals (first|rfl|trace_state));(case hi=>exact rfl);(case hz=>first|rfl|(simp [yh,AV.ren,AV.ren.renL,jF,qS,jD];done)|(simp [yh,AV.ren,AV.ren.renL,jF,qS,jD, *];done)|trace_state))
end Go.Proofs.YtamejbkifpjhiaaGreatDoor
set_option linter.unusedSimpArgs false
set_option linter.unnecessarySimpa false
set_option linter.unusedVariables false
set_option maxHeartbeats 1000000
namespace Go.Proofs.YtamejbkifpjhiaaGreatDoor
open Go.Ab Go.RowKit
set_option maxRecDepth 10000
attribute [local irreducible] Awp yH jH jw Red ja Go.Ab.Fin qZ Rz vn jr jp ResOk j3 jC yC jA
def Cpy.row (c:Cpy):List AV:=[.v (str c.path),.v (str c.at_)]
def vm (c k:Nat):List AV:=[.mp 1,.mp 2,.mp 3,.mp 4,.os c 0 k]
def H6 (B M T O:List Ent) (cs:List Cpy):List HB:=[.own false 5 [vm 5 cs.length],.mp (qr B),.mp (qr M),.mp (qr T),.mp (qr O),.own false 2 (cs.map Cpy.row)]
theorem qcO {b x y:Thg} {G:Thg × Thg → Prop} (h1:x = y → G (x,noT)) (h2:¬ x = y → x = b → G (y,noT)) (h3:¬ x = y → ¬ x = b → y = b → G (x,noT)) (h4:¬ x = y → ¬ x = b → ¬ y = b → x.kind = 1 → G (x,y))
  (h5:¬ x = y → ¬ x = b → ¬ y = b → ¬ x.kind = 1 → y.kind = 1 → G (y,x)) (h6:¬ x = y → ¬ x = b → ¬ y = b → ¬ x.kind = 1 → ¬ y.kind = 1 → x.kind = 2 → y.kind = 2 → G (y,x))
  (h7:¬ x = y → ¬ x = b → ¬ y = b → ¬ x.kind = 1 → ¬ y.kind = 1 → x.kind = 2 → ¬ y.kind = 2 → G (x,noT)) (h8:¬ x = y → ¬ x = b → ¬ y = b → ¬ x.kind = 1 → ¬ y.kind = 1 → ¬ x.kind = 2 → G (y,noT)):G (JL b x y):=by
 unfold JL
 by_cases k1:x = y
 ·rw [if_pos k1];exact h1 k1
 rw [if_neg k1]
 by_cases k2:x = b
 ·rw [if_pos k2];exact h2 k1 k2
 rw [if_neg k2]
 by_cases k3:y = b
 ·rw [if_pos k3];exact h3 k1 k2 k3
 rw [if_neg k3]
 by_cases k4:x.kind = 1
 ·rw [if_pos k4];exact h4 k1 k2 k3 k4
 rw [if_neg k4]
 by_cases k5:y.kind = 1
 ·rw [if_pos k5];exact h5 k1 k2 k3 k4 k5
 rw [if_neg k5]
 by_cases k6:x.kind = 2
 ·by_cases k7:y.kind = 2
  ·rw [if_pos ⟨k6,k7⟩];exact h6 k1 k2 k3 k4 k5 k6 k7
  ·rw [if_neg (fun h=>k7 h.2),if_pos k6];exact h7 k1 k2 k3 k4 k5 k6 k7
 ·rw [if_neg (fun h=>k6 h.1),if_neg k6];exact h8 k1 k2 k3 k4 k5 k6
set_option maxHeartbeats 4000000 in
theorem qgL (B M T O:List Ent) (cs:List Cpy) (p:qP):qZ C6.P 114 [.op 0 0 0,.v (str p)] (H6 B M T O cs) (.tup [xI (x3 B M T p).1,xI (x3 B M T p).2]) (H6 B M T O cs):=by
 have g1:=vM B p
 have g2:=vM M p
 have g3:=vM T p
 unfold x3
 generalize stT B p = b at *
 generalize stT M p = x at *
 generalize stT T p = y at *
 refine qcO (b:=b) (x:=x) (y:=y) (G:=fun r=>qZ C6.P 114 [.op 0 0 0,.v (str p)] (H6 B M T O cs) (.tup [xI r.1,xI r.2]) (H6 B M T O cs)) ?_ ?_ ?_ ?_ ?_ ?_ ?_ ?_
 ·intro k0
  have d0:decide (x = y) = true:=by simpa using k0
  refine qc (C:=C6) Tryz.func114 rfl _ Tryz.ntmps114 (Nat.le_of_ble_eq_true rfl) _ Tryz.results114 6 rfl rfl ?_
  repeat' (first|refine qn ?_|(first|(apply qi;apply jP;(case hm=>rfl);(case hn=>rfl);(case hk=>rfl);(case hT=>rfl);(case he=>rfl);(case hK=>rfl);(case hks=>rfl);(case hz=>exact ji);(case hzv=>exact jQ);(case hx=>exact g1);(case hN=>exact nle rfl))|(apply qi;apply jP;(case hm=>rfl);(case hn=>rfl);(case hk=>rfl);(case hT=>rfl);(case he=>rfl);(case hK=>rfl);(case hks=>rfl);(case hz=>exact ji);(case hzv=>exact jQ);(case hx=>exact g2);(case hN=>exact nle rfl))|(apply qi;apply jP;(case hm=>rfl);(case hn=>rfl);(case hk=>rfl);(case hT=>rfl);(case he=>rfl);(case hK=>rfl);(case hks=>rfl);(case hz=>exact ji);(case hzv=>exact jQ);(case hx=>exact g3);(case hN=>exact nle rfl))|(apply qi;apply xY;rfl;rfl;exact vU;exact xR _ _;(first|exact .inl ⟨rfl,rfl⟩|exact .inr ⟨rfl,rfl⟩);exact nle rfl))|((first|refine qf ?_ ?_|refine qe ?_ ?_|refine xsC ?_ ?_);all_goals (intro hc;have hp:=hc;try simp at hp;try (exfalso;omega)))|refine qX ?_ ?_)
  (apply jM (rs:=[.cell 4 163,.cell 5 163]) [] 6;(case hr=>(repeat (first|exact js|(apply jt;rfl)|(apply jl;rfl;rfl;rfl;rfl;rfl))));(case hL=>rfl);(case hh=>(repeat' (first|exact qj|refine jx ?_|refine zy ?_|refine x2 ?_ ?_ ?_|refine ve ?_ ?_|refine yY ?_ ?_|refine xh ?_ ?_ ?_ ?_|refine q6 ?_ ?_|exact ql|apply qd|exact qk rfl|(apply qt;(first|exact qN rfl|exact .inr (List.mem_cons_self ..)|exact .inr (List.mem_cons_of_mem _ (List.mem_cons_self ..))|exact .inr (List.mem_cons_of_mem _ (List.mem_cons_of_mem _ (List.mem_cons_self ..)))|exact .inr (List.mem_cons_of_mem _ (List.mem_cons_of_mem _ (List.mem_cons_of_mem _ (List.mem_cons_self ..))))))|refine ju ?_|refine xi ?_ rfl|with_reducible exact List.Perm.refl _));all_goals (first|exact qh _|rfl|exact List.Perm.refl _|trace_state));(case hi=>exact rfl);(case hz=>first|rfl|(simp [yh,AV.ren,AV.ren.renL,jF,qS,jD];done)|(simp [yh,AV.ren,AV.ren.renL,jF,qS,jD, *];done)|trace_state))
 ·intro k0 k1
  have d0:decide (x = y) = false:=by simpa using k0
  have d1:decide (x = b) = true:=by simpa using k1
  refine qc (C:=C6) Tryz.func114 rfl _ Tryz.ntmps114 (Nat.le_of_ble_eq_true rfl) _ Tryz.results114 6 rfl rfl ?_
  repeat' (first|refine qn ?_|(first|(apply qi;apply jP;(case hm=>rfl);(case hn=>rfl);(case hk=>rfl);(case hT=>rfl);(case he=>rfl);(case hK=>rfl);(case hks=>rfl);(case hz=>exact ji);(case hzv=>exact jQ);(case hx=>exact g1);(case hN=>exact nle rfl))|(apply qi;apply jP;(case hm=>rfl);(case hn=>rfl);(case hk=>rfl);(case hT=>rfl);(case he=>rfl);(case hK=>rfl);(case hks=>rfl);(case hz=>exact ji);(case hzv=>exact jQ);(case hx=>exact g2);(case hN=>exact nle rfl))|(apply qi;apply jP;(case hm=>rfl);(case hn=>rfl);(case hk=>rfl);(case hT=>rfl);(case he=>rfl);(case hK=>rfl);(case hks=>rfl);(case hz=>exact ji);(case hzv=>exact jQ);(case hx=>exact g3);(case hN=>exact nle rfl))|(apply qi;apply xY;rfl;rfl;exact vU;exact xR _ _;(first|exact .inl ⟨rfl,rfl⟩|exact .inr ⟨rfl,rfl⟩);exact nle rfl))|((first|refine qf ?_ ?_|refine qe ?_ ?_|refine xsC ?_ ?_);all_goals (intro hc;have hp:=hc;try simp at hp;try (exfalso;omega)))|refine qX ?_ ?_)
  (apply jM (rs:=[.cell 4 163,.cell 5 163]) [] 6;(case hr=>(repeat (first|exact js|(apply jt;rfl)|(apply jl;rfl;rfl;rfl;rfl;rfl))));(case hL=>rfl);(case hh=>(repeat' (first|exact qj|refine jx ?_|refine zy ?_|refine x2 ?_ ?_ ?_|refine ve ?_ ?_|refine yY ?_ ?_|refine xh ?_ ?_ ?_ ?_|refine q6 ?_ ?_|exact ql|apply qd|exact qk rfl|(apply qt;(first|exact qN rfl|exact .inr (List.mem_cons_self ..)|exact .inr (List.mem_cons_of_mem _ (List.mem_cons_self ..))|exact .inr (List.mem_cons_of_mem _ (List.mem_cons_of_mem _ (List.mem_cons_self ..)))|exact .inr (List.mem_cons_of_mem _ (List.mem_cons_of_mem _ (List.mem_cons_of_mem _ (List.mem_cons_self ..))))))|refine ju ?_|refine xi ?_ rfl|with_reducible exact List.Perm.refl _));all_goals (first|exact qh _|rfl|exact List.Perm.refl _|trace_state));(case hi=>exact rfl);(case hz=>first|rfl|(simp [yh,AV.ren,AV.ren.renL,jF,qS,jD];done)|(simp [yh,AV.ren,AV.ren.renL,jF,qS,jD, *];done)|trace_state))
 ·intro k0 k1 k2
  have d0:decide (x = y) = false:=by simpa using k0
  have d1:decide (x = b) = false:=by simpa using k1
  have d2:decide (y = b) = true:=by simpa using k2
  refine qc (C:=C6) Tryz.func114 rfl _ Tryz.ntmps114 (Nat.le_of_ble_eq_true rfl) _ Tryz.results114 6 rfl rfl ?_
  repeat' (first|refine qn ?_|(first|(apply qi;apply jP;(case hm=>rfl);(case hn=>rfl);(case hk=>rfl);(case hT=>rfl);(case he=>rfl);(case hK=>rfl);(case hks=>rfl);(case hz=>exact ji);(case hzv=>exact jQ);(case hx=>exact g1);(case hN=>exact nle rfl))|(apply qi;apply jP;(case hm=>rfl);(case hn=>rfl);(case hk=>rfl);(case hT=>rfl);(case he=>rfl);(case hK=>rfl);(case hks=>rfl);(case hz=>exact ji);(case hzv=>exact jQ);(case hx=>exact g2);(case hN=>exact nle rfl))|(apply qi;apply jP;(case hm=>rfl);(case hn=>rfl);(case hk=>rfl);(case hT=>rfl);(case he=>rfl);(case hK=>rfl);(case hks=>rfl);(case hz=>exact ji);(case hzv=>exact jQ);(case hx=>exact g3);(case hN=>exact nle rfl))|(apply qi;apply xY;rfl;rfl;exact vU;exact xR _ _;(first|exact .inl ⟨rfl,rfl⟩|exact .inr ⟨rfl,rfl⟩);exact nle rfl))|((first|refine qf ?_ ?_|refine qe ?_ ?_|refine xsC ?_ ?_);all_goals (intro hc;have hp:=hc;try simp at hp;try (exfalso;omega)))|refine qX ?_ ?_)
  (apply jM (rs:=[.cell 4 163,.cell 5 163]) [] 6;(case hr=>(repeat (first|exact js|(apply jt;rfl)|(apply jl;rfl;rfl;rfl;rfl;rfl))));(case hL=>rfl);(case hh=>(repeat' (first|exact qj|refine jx ?_|refine zy ?_|refine x2 ?_ ?_ ?_|refine ve ?_ ?_|refine yY ?_ ?_|refine xh ?_ ?_ ?_ ?_|refine q6 ?_ ?_|exact ql|apply qd|exact qk rfl|(apply qt;(first|exact qN rfl|exact .inr (List.mem_cons_self ..)|exact .inr (List.mem_cons_of_mem _ (List.mem_cons_self ..))|exact .inr (List.mem_cons_of_mem _ (List.mem_cons_of_mem _ (List.mem_cons_self ..)))|exact .inr (List.mem_cons_of_mem _ (List.mem_cons_of_mem _ (List.mem_cons_of_mem _ (List.mem_cons_self ..))))))|refine ju ?_|refine xi ?_ rfl|with_reducible exact List.Perm.refl _));all_goals (first|exact qh _|rfl|exact List.Perm.refl _|trace_state));(case hi=>exact rfl);(case hz=>first|rfl|(simp [yh,AV.ren,AV.ren.renL,jF,qS,jD];done)|(simp [yh,AV.ren,AV.ren.renL,jF,qS,jD, *];done)|trace_state))
 ·intro k0 k1 k2 k3
  have d0:decide (x = y) = false:=by simpa using k0
  have d1:decide (x = b) = false:=by simpa using k1
  have d2:decide (y = b) = false:=by simpa using k2
  have d3:decide (x.kind = 1) = true:=by simpa using k3
  refine qc (C:=C6) Tryz.func114 rfl _ Tryz.ntmps114 (Nat.le_of_ble_eq_true rfl) _ Tryz.results114 6 rfl rfl ?_
  repeat' (first|refine qn ?_|(first|(apply qi;apply jP;(case hm=>rfl);(case hn=>rfl);(case hk=>rfl);(case hT=>rfl);(case he=>rfl);(case hK=>rfl);(case hks=>rfl);(case hz=>exact ji);(case hzv=>exact jQ);(case hx=>exact g1);(case hN=>exact nle rfl))|(apply qi;apply jP;(case hm=>rfl);(case hn=>rfl);(case hk=>rfl);(case hT=>rfl);(case he=>rfl);(case hK=>rfl);(case hks=>rfl);(case hz=>exact ji);(case hzv=>exact jQ);(case hx=>exact g2);(case hN=>exact nle rfl))|(apply qi;apply jP;(case hm=>rfl);(case hn=>rfl);(case hk=>rfl);(case hT=>rfl);(case he=>rfl);(case hK=>rfl);(case hks=>rfl);(case hz=>exact ji);(case hzv=>exact jQ);(case hx=>exact g3);(case hN=>exact nle rfl))|(apply qi;apply xY;rfl;rfl;exact vU;exact xR _ _;(first|exact .inl ⟨rfl,rfl⟩|exact .inr ⟨rfl,rfl⟩);exact nle rfl))|((first|refine qf ?_ ?_|refine qe ?_ ?_|refine xsC ?_ ?_);all_goals (intro hc;have hp:=hc;try simp at hp;try (exfalso;omega)))|refine qX ?_ ?_)
  (apply jM (rs:=[.cell 4 163,.cell 5 163]) [] 6;(case hr=>(repeat (first|exact js|(apply jt;rfl)|(apply jl;rfl;rfl;rfl;rfl;rfl))));(case hL=>rfl);(case hh=>(repeat' (first|exact qj|refine jx ?_|refine zy ?_|refine x2 ?_ ?_ ?_|refine ve ?_ ?_|refine yY ?_ ?_|refine xh ?_ ?_ ?_ ?_|refine q6 ?_ ?_|exact ql|apply qd|exact qk rfl|(apply qt;(first|exact qN rfl|exact .inr (List.mem_cons_self ..)|exact .inr (List.mem_cons_of_mem _ (List.mem_cons_self ..))|exact .inr (List.mem_cons_of_mem _ (List.mem_cons_of_mem _ (List.mem_cons_self ..)))|exact .inr (List.mem_cons_of_mem _ (List.mem_cons_of_mem _ (List.mem_cons_of_mem _ (List.mem_cons_self ..))))))|refine ju ?_|refine xi ?_ rfl|with_reducible exact List.Perm.refl _));all_goals (first|exact qh _|rfl|exact List.Perm.refl _|trace_state));(case hi=>exact rfl);(case hz=>first|rfl|(simp [yh,AV.ren,AV.ren.renL,jF,qS,jD];done)|(simp [yh,AV.ren,AV.ren.renL,jF,qS,jD, *];done)|trace_state))
 ·intro k0 k1 k2 k3 k4
  have d0:decide (x = y) = false:=by simpa using k0
  have d1:decide (x = b) = false:=by simpa using k1
  have d2:decide (y = b) = false:=by simpa using k2
  have d3:decide (x.kind = 1) = false:=by simpa using k3
  have d4:decide (y.kind = 1) = true:=by simpa using k4
  refine qc (C:=C6) Tryz.func114 rfl _ Tryz.ntmps114 (Nat.le_of_ble_eq_true rfl) _ Tryz.results114 6 rfl rfl ?_
  repeat' (first|refine qn ?_|(first|(apply qi;apply jP;(case hm=>rfl);(case hn=>rfl);(case hk=>rfl);(case hT=>rfl);(case he=>rfl);(case hK=>rfl);(case hks=>rfl);(case hz=>exact ji);(case hzv=>exact jQ);(case hx=>exact g1);(case hN=>exact nle rfl))|(apply qi;apply jP;(case hm=>rfl);(case hn=>rfl);(case hk=>rfl);(case hT=>rfl);(case he=>rfl);(case hK=>rfl);(case hks=>rfl);(case hz=>exact ji);(case hzv=>exact jQ);(case hx=>exact g2);(case hN=>exact nle rfl))|(apply qi;apply jP;(case hm=>rfl);(case hn=>rfl);(case hk=>rfl);(case hT=>rfl);(case he=>rfl);(case hK=>rfl);(case hks=>rfl);(case hz=>exact ji);(case hzv=>exact jQ);(case hx=>exact g3);(case hN=>exact nle rfl))|(apply qi;apply xY;rfl;rfl;exact vU;exact xR _ _;(first|exact .inl ⟨rfl,rfl⟩|exact .inr ⟨rfl,rfl⟩);exact nle rfl))|((first|refine qf ?_ ?_|refine qe ?_ ?_|refine xsC ?_ ?_);all_goals (intro hc;have hp:=hc;try simp at hp;try (exfalso;omega)))|refine qX ?_ ?_)
  (apply jM (rs:=[.cell 4 163,.cell 5 163]) [] 6;(case hr=>(repeat (first|exact js|(apply jt;rfl)|(apply jl;rfl;rfl;rfl;rfl;rfl))));(case hL=>rfl);(case hh=>(repeat' (first|exact qj|refine jx ?_|refine zy ?_|refine x2 ?_ ?_ ?_|refine ve ?_ ?_|refine yY ?_ ?_|refine xh ?_ ?_ ?_ ?_|refine q6 ?_ ?_|exact ql|apply qd|exact qk rfl|(apply qt;(first|exact qN rfl|exact .inr (List.mem_cons_self ..)|exact .inr (List.mem_cons_of_mem _ (List.mem_cons_self ..))|exact .inr (List.mem_cons_of_mem _ (List.mem_cons_of_mem _ (List.mem_cons_self ..)))|exact .inr (List.mem_cons_of_mem _ (List.mem_cons_of_mem _ (List.mem_cons_of_mem _ (List.mem_cons_self ..))))))|refine ju ?_|refine xi ?_ rfl|with_reducible exact List.Perm.refl _));all_goals (first|exact qh _|rfl|exact List.Perm.refl _|trace_state));(case hi=>exact rfl);(case hz=>first|rfl|(simp [yh,AV.ren,AV.ren.renL,jF,qS,jD];done)|(simp [yh,AV.ren,AV.ren.renL,jF,qS,jD, *];done)|trace_state))
 ·intro k0 k1 k2 k3 k4 k5 k6
  have d0:decide (x = y) = false:=by simpa using k0
  have d1:decide (x = b) = false:=by simpa using k1
  have d2:decide (y = b) = false:=by simpa using k2
  have d3:decide (x.kind = 1) = false:=by simpa using k3
  have d4:decide (y.kind = 1) = false:=by simpa using k4
  have d5:decide (x.kind = 2) = true:=by simpa using k5
  have d6:decide (y.kind = 2) = true:=by simpa using k6
  refine qc (C:=C6) Tryz.func114 rfl _ Tryz.ntmps114 (Nat.le_of_ble_eq_true rfl) _ Tryz.results114 6 rfl rfl ?_
  repeat' (first|refine qn ?_|(first|(apply qi;apply jP;(case hm=>rfl);(case hn=>rfl);(case hk=>rfl);(case hT=>rfl);(case he=>rfl);(case hK=>rfl);(case hks=>rfl);(case hz=>exact ji);(case hzv=>exact jQ);(case hx=>exact g1);(case hN=>exact nle rfl))|(apply qi;apply jP;(case hm=>rfl);(case hn=>rfl);(case hk=>rfl);(case hT=>rfl);(case he=>rfl);(case hK=>rfl);(case hks=>rfl);(case hz=>exact ji);(case hzv=>exact jQ);(case hx=>exact g2);(case hN=>exact nle rfl))|(apply qi;apply jP;(case hm=>rfl);(case hn=>rfl);(case hk=>rfl);(case hT=>rfl);(case he=>rfl);(case hK=>rfl);(case hks=>rfl);(case hz=>exact ji);(case hzv=>exact jQ);(case hx=>exact g3);(case hN=>exact nle rfl))|(apply qi;apply xY;rfl;rfl;exact vU;exact xR _ _;(first|exact .inl ⟨rfl,rfl⟩|exact .inr ⟨rfl,rfl⟩);exact nle rfl))|((first|refine qf ?_ ?_|refine qe ?_ ?_|refine xsC ?_ ?_);all_goals (intro hc;have hp:=hc;try simp at hp;try (exfalso;omega)))|refine qX ?_ ?_)
  (apply jM (rs:=[.cell 4 163,.cell 5 163]) [] 6;(case hr=>(repeat (first|exact js|(apply jt;rfl)|(apply jl;rfl;rfl;rfl;rfl;rfl))));(case hL=>rfl);(case hh=>(repeat' (first|exact qj|refine jx ?_|refine zy ?_|refine x2 ?_ ?_ ?_|refine ve ?_ ?_|refine yY ?_ ?_|refine xh ?_ ?_ ?_ ?_|refine q6 ?_ ?_|exact ql|apply qd|exact qk rfl|(apply qt;(first|exact qN rfl|exact .inr (List.mem_cons_self ..)|exact .inr (List.mem_cons_of_mem _ (List.mem_cons_self ..))|exact .inr (List.mem_cons_of_mem _ (List.mem_cons_of_mem _ (List.mem_cons_self ..)))|exact .inr (List.mem_cons_of_mem _ (List.mem_cons_of_mem _ (List.mem_cons_of_mem _ (List.mem_cons_self ..))))))|refine ju ?_|refine xi ?_ rfl|with_reducible exact List.Perm.refl _));all_goals (first|exact qh _|rfl|exact List.Perm.refl _|trace_state));(case hi=>exact rfl);(case hz=>first|rfl|(simp [yh,AV.ren,AV.ren.renL,jF,qS,jD];done)|(simp [yh,AV.ren,AV.ren.renL,jF,qS,jD, *];done)|trace_state))
 ·intro k0 k1 k2 k3 k4 k5 k6
  have d0:decide (x = y) = false:=by simpa using k0
  have d1:decide (x = b) = false:=by simpa using k1
  have d2:decide (y = b) = false:=by simpa using k2
  have d3:decide (x.kind = 1) = false:=by simpa using k3
  have d4:decide (y.kind = 1) = false:=by simpa using k4
  have d5:decide (x.kind = 2) = true:=by simpa using k5
  have d6:decide (y.kind = 2) = false:=by simpa using k6
  refine qc (C:=C6) Tryz.func114 rfl _ Tryz.ntmps114 (Nat.le_of_ble_eq_true rfl) _ Tryz.results114 6 rfl rfl ?_
  repeat' (first|refine qn ?_|(first|(apply qi;apply jP;(case hm=>rfl);(case hn=>rfl);(case hk=>rfl);(case hT=>rfl);(case he=>rfl);(case hK=>rfl);(case hks=>rfl);(case hz=>exact ji);(case hzv=>exact jQ);(case hx=>exact g1);(case hN=>exact nle rfl))|(apply qi;apply jP;(case hm=>rfl);(case hn=>rfl);(case hk=>rfl);(case hT=>rfl);(case he=>rfl);(case hK=>rfl);(case hks=>rfl);(case hz=>exact ji);(case hzv=>exact jQ);(case hx=>exact g2);(case hN=>exact nle rfl))|(apply qi;apply jP;(case hm=>rfl);(case hn=>rfl);(case hk=>rfl);(case hT=>rfl);(case he=>rfl);(case hK=>rfl);(case hks=>rfl);(case hz=>exact ji);(case hzv=>exact jQ);(case hx=>exact g3);(case hN=>exact nle rfl))|(apply qi;apply xY;rfl;rfl;exact vU;exact xR _ _;(first|exact .inl ⟨rfl,rfl⟩|exact .inr ⟨rfl,rfl⟩);exact nle rfl))|((first|refine qf ?_ ?_|refine qe ?_ ?_|refine xsC ?_ ?_);all_goals (intro hc;have hp:=hc;try simp at hp;try (exfalso;omega)))|refine qX ?_ ?_)
  (apply jM (rs:=[.cell 4 163,.cell 5 163]) [] 6;(case hr=>(repeat (first|exact js|(apply jt;rfl)|(apply jl;rfl;rfl;rfl;rfl;rfl))));(case hL=>rfl);(case hh=>(repeat' (first|exact qj|refine jx ?_|refine zy ?_|refine x2 ?_ ?_ ?_|refine ve ?_ ?_|refine yY ?_ ?_|refine xh ?_ ?_ ?_ ?_|refine q6 ?_ ?_|exact ql|apply qd|exact qk rfl|(apply qt;(first|exact qN rfl|exact .inr (List.mem_cons_self ..)|exact .inr (List.mem_cons_of_mem _ (List.mem_cons_self ..))|exact .inr (List.mem_cons_of_mem _ (List.mem_cons_of_mem _ (List.mem_cons_self ..)))|exact .inr (List.mem_cons_of_mem _ (List.mem_cons_of_mem _ (List.mem_cons_of_mem _ (List.mem_cons_self ..))))))|refine ju ?_|refine xi ?_ rfl|with_reducible exact List.Perm.refl _));all_goals (first|exact qh _|rfl|exact List.Perm.refl _|trace_state));(case hi=>exact rfl);(case hz=>first|rfl|(simp [yh,AV.ren,AV.ren.renL,jF,qS,jD];done)|(simp [yh,AV.ren,AV.ren.renL,jF,qS,jD, *];done)|trace_state))
 ·intro k0 k1 k2 k3 k4 k5
  have d0:decide (x = y) = false:=by simpa using k0
  have d1:decide (x = b) = false:=by simpa using k1
  have d2:decide (y = b) = false:=by simpa using k2
  have d3:decide (x.kind = 1) = false:=by simpa using k3
  have d4:decide (y.kind = 1) = false:=by simpa using k4
  have d5:decide (x.kind = 2) = false:=by simpa using k5
  refine qc (C:=C6) Tryz.func114 rfl _ Tryz.ntmps114 (Nat.le_of_ble_eq_true rfl) _ Tryz.results114 6 rfl rfl ?_
  repeat' (first|refine qn ?_|(first|(apply qi;apply jP;(case hm=>rfl);(case hn=>rfl);(case hk=>rfl);(case hT=>rfl);(case he=>rfl);(case hK=>rfl);(case hks=>rfl);(case hz=>exact ji);(case hzv=>exact jQ);(case hx=>exact g1);(case hN=>exact nle rfl))|(apply qi;apply jP;(case hm=>rfl);(case hn=>rfl);(case hk=>rfl);(case hT=>rfl);(case he=>rfl);(case hK=>rfl);(case hks=>rfl);(case hz=>exact ji);(case hzv=>exact jQ);(case hx=>exact g2);(case hN=>exact nle rfl))|(apply qi;apply jP;(case hm=>rfl);(case hn=>rfl);(case hk=>rfl);(case hT=>rfl);(case he=>rfl);(case hK=>rfl);(case hks=>rfl);(case hz=>exact ji);(case hzv=>exact jQ);(case hx=>exact g3);(case hN=>exact nle rfl))|(apply qi;apply xY;rfl;rfl;exact vU;exact xR _ _;(first|exact .inl ⟨rfl,rfl⟩|exact .inr ⟨rfl,rfl⟩);exact nle rfl))|((first|refine qf ?_ ?_|refine qe ?_ ?_|refine xsC ?_ ?_);all_goals (intro hc;have hp:=hc;try simp at hp;try (exfalso;omega)))|refine qX ?_ ?_)
  (apply jM (rs:=[.cell 4 163,.cell 5 163]) [] 6;(case hr=>(repeat (first|exact js|(apply jt;rfl)|(apply jl;rfl;rfl;rfl;rfl;rfl))));(case hL=>rfl);(case hh=>(repeat' (first|exact qj|refine jx ?_|refine zy ?_|refine x2 ?_ ?_ ?_|refine ve ?_ ?_|refine yY ?_ ?_|refine xh ?_ ?_ ?_ ?_|refine q6 ?_ ?_|exact ql|apply qd|exact qk rfl|(apply qt;(first|exact qN rfl|exact .inr (List.mem_cons_self ..)|exact .inr (List.mem_cons_of_mem _ (List.mem_cons_self ..))|exact .inr (List.mem_cons_of_mem _ (List.mem_cons_of_mem _ (List.mem_cons_self ..)))|exact .inr (List.mem_cons_of_mem _ (List.mem_cons_of_mem _ (List.mem_cons_of_mem _ (List.mem_cons_self ..))))))|refine ju ?_|refine xi ?_ rfl|with_reducible exact List.Perm.refl _));all_goals (first|exact qh _|rfl|exact List.Perm.refl _|trace_state));(case hi=>exact rfl);(case hz=>first|rfl|(simp [yh,AV.ren,AV.ren.renL,jF,qS,jD];done)|(simp [yh,AV.ren,AV.ren.renL,jF,qS,jD, *];done)|trace_state))
end Go.Proofs.YtamejbkifpjhiaaGreatDoor
set_option linter.unusedSimpArgs false
set_option linter.unnecessarySimpa false
set_option linter.unusedVariables false
set_option maxHeartbeats 1000000
namespace Go.Proofs.YtamejbkifpjhiaaGreatDoor
open Go.Ab Go.RowKit
set_option maxRecDepth 10000
attribute [local irreducible] Awp yH jH jw Red ja Go.Ab.Fin qZ Rz vn jr jp ResOk j3 jC yC jA
def H7 (B M T O:List Ent) (cs:List Cpy):List HB:=[.own false 5 [vm 6 cs.length],.mp (qr B),.mp (qr M),.mp (qr T),.mp (qr O),.dead,.own false 2 (cs.map Cpy.row)]
theorem k8 {t:List Ent} {p:qP}:(stT t p).kind = 0 ↔ j0 t p = false:=by
 rw [KL,Q7]
 cases qW t p<;>simp
theorem XJ {m t o:List Ent} {p:qP} {k n:Nat}:xX m t o p (k + 1) n = if vC p (n:Int) = 0 then (if JQ m t o (yI p (n:Int)) = true then some (yI p (n:Int)) else xX m t o p k (n + 1)) else none:=rfl
theorem XH {p:qP} {n:Nat} (hp:qH p = 0) (h1:1 ≤ n) (h2:n ≤ 99):vg p (n:Int) = vC p (n:Int):=by
 unfold vg
 rw [if_pos hp,if_neg (by omega)]
theorem Vr (p:qP) (n:Int):vC p n = 0 ∨ vC p n = 2:=by
 unfold vC
 split
 ·exact .inr rfl
 ·split
  ·exact .inr rfl
  ·exact .inl rfl
set_option maxHeartbeats 8000000 in
theorem VS (B M T O:List Ent) (cs:List Cpy) (p x:qP) (hp:qH p = 0) (hR:xX M T O p 99 1 = none) (hc:cs.length ≤ 1000000):qZ C6.P 116 [.op 0 0 0,.v (str p),xI ⟨2,x⟩] (H6 B M T O cs) (.v (.bool false)) (H6 B M T O cs):=by
 have hpl:=qQ hp
 refine qc (C:=C6) Tryz.func116 rfl _ Tryz.ntmps116 (Nat.le_of_ble_eq_true rfl) _ Tryz.results116 6 rfl rfl ?_
 repeat' (first|refine qn ?_|(first|fail)|((first|refine qf ?_ ?_|refine qe ?_ ?_|refine xsC ?_ ?_);all_goals (intro hc;have hp:=hc;try simp at hp;try (exfalso;omega)))|refine qX ?_ ?_)
 all_goals try (exfalso;omega)
 (refine Awp.red (qB (τ:=⟨[(0,.op 0 0 0),(1,.v (str p)),(5,.op 6 0 0),(7,.v (.int .i64 (1:Int)))],[(0,.own false 5 [vm 5 cs.length]),(1,.mp (qr B)),(2,.mp (qr M)),(3,.mp (qr T)),(4,.mp (qr O)),(5,.own false 2 (cs.map Cpy.row)),(6,.own false 2 [[.v (.int .i64 2),.v (str x)]])],7⟩) [(6,6)] rfl ?gts2 ?ghs2) ?_;(case gts2=>(repeat (first|exact qg|refine qo ?_|refine yg ?_|refine xM ?_|refine zi ?_|refine xN ?_ ?_|refine qY ?_ ?_));all_goals (first|exact qh _|rfl|trace_state));(case ghs2=>(repeat' (first|exact qj|refine jx ?_|refine zy ?_|refine x2 ?_ ?_ ?_|refine ve ?_ ?_|refine yY ?_ ?_|refine xh ?_ ?_ ?_ ?_|refine q6 ?_ ?_|exact ql|apply qd|exact qk rfl|(apply qt;(first|exact qN rfl|exact .inr (List.mem_cons_self ..)|exact .inr (List.mem_cons_of_mem _ (List.mem_cons_self ..))|exact .inr (List.mem_cons_of_mem _ (List.mem_cons_of_mem _ (List.mem_cons_self ..)))|exact .inr (List.mem_cons_of_mem _ (List.mem_cons_of_mem _ (List.mem_cons_of_mem _ (List.mem_cons_self ..))))))|refine ju ?_|refine xi ?_ rfl|with_reducible exact List.Perm.refl _));all_goals (first|exact qh _|rfl|trace_state)))
 refine qV (fun n σ => ∃ i:Nat,i ≤ 99 ∧ n = 99 - i ∧ xX M T O p (99 - i) (i + 1) = none ∧ σ = ⟨[(0,.op 0 0 0),(1,.v (str p)),(5,.op 6 0 0),(7,.v (.int .i64 ((i:Int) + 1)))],[(0,.own false 5 [vm 5 cs.length]),(1,.mp (qr B)),(2,.mp (qr M)),(3,.mp (qr T)),(4,.mp (qr O)),(5,.own false 2 (cs.map Cpy.row)),(6,.own false 2 [[.v (.int .i64 2),.v (str x)]])],7⟩) 99 ⟨0,by omega,rfl,hR,rfl⟩ ?_
 rintro n σ ⟨i,hi,rfl,hsofar,rfl⟩
 by_cases hlt:i < 99
 ·rw [show 99 - i = (99 - (i + 1)) + 1 from by omega,XJ] at hsofar
  have has:=qby p ((i:Int) + 1) (by omega)
  have he:=XH (n:=i + 1) hp (by omega) (by omega)
  rw [show ((i + 1:Nat):Int) = (i:Int) + 1 from by omega] at he hsofar
  rw [he] at has
  have htwo:=Vr p ((i:Int) + 1)
  generalize vC p ((i:Int) + 1) = E at *
  generalize yI p ((i:Int) + 1) = Q at *
  have g1:=vM M Q
  have g2:=vM T Q
  have g3:=vM O Q
  have k1 := @k8 M Q
  have k2 := @k8 T Q
  have k3 := @k8 O Q
  have hfr:JQ M T O Q = (!j0 M Q && !j0 T Q && !j0 O Q):=rfl
  generalize stT M Q = a at *
  generalize stT T Q = b at *
  generalize stT O Q = c at *
  generalize j0 M Q = A at *
  generalize j0 T Q = B2 at *
  generalize j0 O Q = D at *
  rcases htwo with rfl|rfl
  ·rw [if_pos rfl] at hsofar
   have hns:¬ JQ M T O Q = true:=fun h=>by rw [if_pos h] at hsofar;cases hsofar
   rw [if_neg hns] at hsofar
   rw [hfr] at hns
   repeat' (first|refine qn ?_|(first|refine jv Tryz.func146 (has ..) ?_|(apply qi;apply jP;(case hm=>rfl);(case hn=>rfl);(case hk=>rfl);(case hT=>rfl);(case he=>rfl);(case hK=>rfl);(case hks=>rfl);(case hz=>exact ji);(case hzv=>exact jQ);(case hx=>exact g1);(case hN=>exact nle rfl))|(apply qi;apply jP;(case hm=>rfl);(case hn=>rfl);(case hk=>rfl);(case hT=>rfl);(case he=>rfl);(case hK=>rfl);(case hks=>rfl);(case hz=>exact ji);(case hzv=>exact jQ);(case hx=>exact g2);(case hN=>exact nle rfl))|(apply qi;apply jP;(case hm=>rfl);(case hn=>rfl);(case hk=>rfl);(case hT=>rfl);(case he=>rfl);(case hK=>rfl);(case hks=>rfl);(case hz=>exact ji);(case hzv=>exact jQ);(case hx=>exact g3);(case hN=>exact nle rfl)))|((first|refine qf ?_ ?_|refine qe ?_ ?_|refine xsC ?_ ?_);all_goals (intro hc;have hp:=hc;try simp at hp;try (exfalso;omega)))|refine qX ?_ ?_)
   all_goals try (exfalso;first|omega|contradiction|(simp_all;done))
   all_goals (refine ⟨99 - (i + 1),_,by omega,qB (τ:=⟨[(0,.op 0 0 0),(1,.v (str p)),(5,.op 6 0 0),(7,.v (.int .i64 (((i + 1:Nat):Int) + 1)))],[(0,.own false 5 [vm 5 cs.length]),(1,.mp (qr B)),(2,.mp (qr M)),(3,.mp (qr T)),(4,.mp (qr O)),(5,.own false 2 (cs.map Cpy.row)),(6,.own false 2 [[.v (.int .i64 2),.v (str x)]])],7⟩) [(6,6)] rfl ?gts ?ghs,i + 1,by omega,rfl,hsofar,rfl⟩;(case gts=>(repeat (first|exact qg|refine qo ?_|refine yg ?_|refine xM ?_|refine zi ?_|refine xN ?_ ?_|refine qY ?_ ?_));all_goals (first|exact qh _|rfl|(congr 2;omega)|(congr 1;congr 1;omega)|trace_state));(case ghs=>(repeat' (first|exact qj|refine jx ?_|refine zy ?_|refine x2 ?_ ?_ ?_|refine ve ?_ ?_|refine yY ?_ ?_|refine xh ?_ ?_ ?_ ?_|refine q6 ?_ ?_|exact ql|apply qd|exact qk rfl|(apply qt;(first|exact qN rfl|exact .inr (List.mem_cons_self ..)|exact .inr (List.mem_cons_of_mem _ (List.mem_cons_self ..))|exact .inr (List.mem_cons_of_mem _ (List.mem_cons_of_mem _ (List.mem_cons_self ..)))|exact .inr (List.mem_cons_of_mem _ (List.mem_cons_of_mem _ (List.mem_cons_of_mem _ (List.mem_cons_self ..))))))|refine ju ?_|refine xi ?_ rfl|with_reducible exact List.Perm.refl _));all_goals (first|exact qh _|rfl|(congr 2;omega)|(congr 1;congr 1;omega)|trace_state)))
  ·repeat' (first|refine qn ?_|(first|refine jv Tryz.func146 (has ..) ?_)|((first|refine qf ?_ ?_|refine qe ?_ ?_|refine xsC ?_ ?_);all_goals (intro hc;have hp:=hc;try simp at hp;try (exfalso;omega)))|refine qX ?_ ?_)
   all_goals try (exfalso;first|omega|contradiction)
   all_goals ((apply jM (rs:=[.tmp 6]) [] 6;(case hr=>(repeat (first|exact js|(apply jt;rfl)|(apply jl;rfl;rfl;rfl;rfl;rfl))));(case hL=>rfl);(case hh=>(repeat' (first|exact qj|refine jx ?_|refine zy ?_|refine x2 ?_ ?_ ?_|refine ve ?_ ?_|refine yY ?_ ?_|refine xh ?_ ?_ ?_ ?_|refine q6 ?_ ?_|exact ql|apply qd|exact qk rfl|(apply qt;(first|exact qN rfl|exact .inr (List.mem_cons_self ..)|exact .inr (List.mem_cons_of_mem _ (List.mem_cons_self ..))|exact .inr (List.mem_cons_of_mem _ (List.mem_cons_of_mem _ (List.mem_cons_self ..)))|exact .inr (List.mem_cons_of_mem _ (List.mem_cons_of_mem _ (List.mem_cons_of_mem _ (List.mem_cons_self ..))))))|refine ju ?_|refine xi ?_ rfl|with_reducible exact List.Perm.refl _));all_goals (first|exact qh _|rfl|trace_state));(case hi=>exact rfl);(case hz=>first|rfl|(simp [yh,AV.ren,AV.ren.renL,jF,qS,jD];done)|(simp [yh,AV.ren,AV.ren.renL,jF,qS,jD, *];done)|trace_state)))
 ·obtain rfl:i = 99:=by omega
  repeat' (first|refine qn ?_|(first|fail)|((first|refine qf ?_ ?_|refine qe ?_ ?_|refine xsC ?_ ?_);all_goals (intro hc;have hp:=hc;try simp at hp;try (exfalso;omega)))|refine qX ?_ ?_)
  all_goals try (exfalso;omega)
  all_goals ((apply jM (rs:=[.tmp 6]) [] 6;(case hr=>(repeat (first|exact js|(apply jt;rfl)|(apply jl;rfl;rfl;rfl;rfl;rfl))));(case hL=>rfl);(case hh=>(repeat' (first|exact qj|refine jx ?_|refine zy ?_|refine x2 ?_ ?_ ?_|refine ve ?_ ?_|refine yY ?_ ?_|refine xh ?_ ?_ ?_ ?_|refine q6 ?_ ?_|exact ql|apply qd|exact qk rfl|(apply qt;(first|exact qN rfl|exact .inr (List.mem_cons_self ..)|exact .inr (List.mem_cons_of_mem _ (List.mem_cons_self ..))|exact .inr (List.mem_cons_of_mem _ (List.mem_cons_of_mem _ (List.mem_cons_self ..)))|exact .inr (List.mem_cons_of_mem _ (List.mem_cons_of_mem _ (List.mem_cons_of_mem _ (List.mem_cons_self ..))))))|refine ju ?_|refine xi ?_ rfl|with_reducible exact List.Perm.refl _));all_goals (first|exact qh _|rfl|trace_state));(case hi=>exact rfl);(case hz=>first|rfl|(simp [yh,AV.ren,AV.ren.renL,jF,qS,jD];done)|(simp [yh,AV.ren,AV.ren.renL,jF,qS,jD, *];done)|trace_state)))
set_option maxHeartbeats 8000000 in
theorem XS (B M T O:List Ent) (cs:List Cpy) (p x q:qP) (hp:qH p = 0) (hR:xX M T O p 99 1 = some q) (hO:qU jf O = true) (hc:cs.length ≤ 1000000):qZ C6.P 116 [.op 0 0 0,.v (str p),xI ⟨2,x⟩] (H6 B M T O cs) (.v (.bool true)) (H7 B M T (jR O ⟨q,false,x,1⟩) (cs ++ [⟨p,q⟩])):=by
 have hpl:=qQ hp
 refine qc (C:=C6) Tryz.func116 rfl _ Tryz.ntmps116 (Nat.le_of_ble_eq_true rfl) _ Tryz.results116 6 rfl rfl ?_
 repeat' (first|refine qn ?_|(first|fail)|((first|refine qf ?_ ?_|refine qe ?_ ?_|refine xsC ?_ ?_);all_goals (intro hc;have hp:=hc;try simp at hp;try (exfalso;omega)))|refine qX ?_ ?_)
 all_goals try (exfalso;omega)
 (refine Awp.red (qB (τ:=⟨[(0,.op 0 0 0),(1,.v (str p)),(5,.op 6 0 0),(7,.v (.int .i64 (1:Int)))],[(0,.own false 5 [vm 5 cs.length]),(1,.mp (qr B)),(2,.mp (qr M)),(3,.mp (qr T)),(4,.mp (qr O)),(5,.own false 2 (cs.map Cpy.row)),(6,.own false 2 [[.v (.int .i64 2),.v (str x)]])],7⟩) [(6,6)] rfl ?gts2 ?ghs2) ?_;(case gts2=>(repeat (first|exact qg|refine qo ?_|refine yg ?_|refine xM ?_|refine zi ?_|refine xN ?_ ?_|refine qY ?_ ?_));all_goals (first|exact qh _|rfl|trace_state));(case ghs2=>(repeat' (first|exact qj|refine jx ?_|refine zy ?_|refine x2 ?_ ?_ ?_|refine ve ?_ ?_|refine yY ?_ ?_|refine xh ?_ ?_ ?_ ?_|refine q6 ?_ ?_|exact ql|apply qd|exact qk rfl|(apply qt;(first|exact qN rfl|exact .inr (List.mem_cons_self ..)|exact .inr (List.mem_cons_of_mem _ (List.mem_cons_self ..))|exact .inr (List.mem_cons_of_mem _ (List.mem_cons_of_mem _ (List.mem_cons_self ..)))|exact .inr (List.mem_cons_of_mem _ (List.mem_cons_of_mem _ (List.mem_cons_of_mem _ (List.mem_cons_self ..))))))|refine ju ?_|refine xi ?_ rfl|with_reducible exact List.Perm.refl _));all_goals (first|exact qh _|rfl|trace_state)))
 refine qV (fun n σ => ∃ i:Nat,i ≤ 99 ∧ n = 99 - i ∧ xX M T O p (99 - i) (i + 1) = some q ∧ σ = ⟨[(0,.op 0 0 0),(1,.v (str p)),(5,.op 6 0 0),(7,.v (.int .i64 ((i:Int) + 1)))],[(0,.own false 5 [vm 5 cs.length]),(1,.mp (qr B)),(2,.mp (qr M)),(3,.mp (qr T)),(4,.mp (qr O)),(5,.own false 2 (cs.map Cpy.row)),(6,.own false 2 [[.v (.int .i64 2),.v (str x)]])],7⟩) 99 ⟨0,by omega,rfl,hR,rfl⟩ ?_
 rintro n σ ⟨i,hi,rfl,hsofar,rfl⟩
 by_cases hlt:i < 99
 ·rw [show 99 - i = (99 - (i + 1)) + 1 from by omega,XJ] at hsofar
  have has:=qby p ((i:Int) + 1) (by omega)
  have he:=XH (n:=i + 1) hp (by omega) (by omega)
  rw [show ((i + 1:Nat):Int) = (i:Int) + 1 from by omega] at he hsofar
  rw [he] at has
  have htwo:=Vr p ((i:Int) + 1)
  generalize vC p ((i:Int) + 1) = E at *
  generalize yI p ((i:Int) + 1) = Q at *
  have g1:=vM M Q
  have g2:=vM T Q
  have g3:=vM O Q
  have k1 := @k8 M Q
  have k2 := @k8 T Q
  have k3 := @k8 O Q
  have hfr:JQ M T O Q = (!j0 M Q && !j0 T Q && !j0 O Q):=rfl
  generalize stT M Q = a at *
  generalize stT T Q = b at *
  generalize stT O Q = c at *
  generalize j0 M Q = A at *
  generalize j0 T Q = B2 at *
  generalize j0 O Q = D at *
  rcases htwo with rfl|rfl
  ·rw [if_pos rfl] at hsofar
   by_cases hns:JQ M T O Q = true
   ·rw [if_pos hns] at hsofar
    injection hsofar with hsofar
    subst hsofar
    rw [hfr] at hns
    have d1:decide (a.kind = 0) = true:=by simp_all
    have d2:decide (b.kind = 0) = true:=by simp_all
    have d3:decide (c.kind = 0) = true:=by simp_all
    have hpu:=Zb (e:=⟨Q,false,x,1⟩) hO
    repeat' (first|refine qn ?_|(first|refine jv Tryz.func146 (has ..) ?_|(apply qi;apply jP;(case hm=>rfl);(case hn=>rfl);(case hk=>rfl);(case hT=>rfl);(case he=>rfl);(case hK=>rfl);(case hks=>rfl);(case hz=>exact ji);(case hzv=>exact jQ);(case hx=>exact g1);(case hN=>exact nle rfl))|(apply qi;apply jP;(case hm=>rfl);(case hn=>rfl);(case hk=>rfl);(case hT=>rfl);(case he=>rfl);(case hK=>rfl);(case hks=>rfl);(case hz=>exact ji);(case hzv=>exact jQ);(case hx=>exact g2);(case hN=>exact nle rfl))|(apply qi;apply jP;(case hm=>rfl);(case hn=>rfl);(case hk=>rfl);(case hT=>rfl);(case he=>rfl);(case hK=>rfl);(case hks=>rfl);(case hz=>exact ji);(case hzv=>exact jQ);(case hx=>exact g3);(case hN=>exact nle rfl))|(apply yL;apply xx;rfl;rfl;rfl;rfl;rfl;rfl;rfl;rfl)|(refine jL ?_)|(refine yi ?_))|((first|refine qf ?_ ?_|refine qe ?_ ?_|refine xsC ?_ ?_);all_goals (intro hc;have hp:=hc;try simp at hp;try (exfalso;omega)))|refine qX ?_ ?_)
    all_goals try (exfalso;first|omega|contradiction)
    all_goals ((apply jM (rs:=[.tmp 6]) [(7,6)] 7;(case hr=>(repeat (first|exact js|(apply jt;rfl)|(apply jl;rfl;rfl;rfl;rfl;rfl))));(case hL=>rfl);(case hh=>(repeat' (first|exact qj|refine jx ?_|refine zy ?_|refine x2 ?_ ?_ ?_|refine ve ?_ ?_|refine yY ?_ ?_|refine xh ?_ ?_ ?_ ?_|refine q6 ?_ ?_|exact ql|apply qd|exact qk rfl|(apply qt;(first|exact qN rfl|exact .inr (List.mem_cons_self ..)|exact .inr (List.mem_cons_of_mem _ (List.mem_cons_self ..))|exact .inr (List.mem_cons_of_mem _ (List.mem_cons_of_mem _ (List.mem_cons_self ..)))|exact .inr (List.mem_cons_of_mem _ (List.mem_cons_of_mem _ (List.mem_cons_of_mem _ (List.mem_cons_self ..))))))|refine ju ?_|refine xi ?_ rfl|with_reducible exact List.Perm.refl _));all_goals (first|exact qh _|exact hpu|rfl|(rw [List.map_append,yZ];rfl)|(simp [yZ];done)|trace_state));(case hi=>exact rfl);(case hz=>first|rfl|(simp [yh,AV.ren,AV.ren.renL,jF,qS,jD];done)|(simp [yh,AV.ren,AV.ren.renL,jF,qS,jD, *];done)|trace_state)))
   ·rw [if_neg hns] at hsofar
    rw [hfr] at hns
    repeat' (first|refine qn ?_|(first|refine jv Tryz.func146 (has ..) ?_|(apply qi;apply jP;(case hm=>rfl);(case hn=>rfl);(case hk=>rfl);(case hT=>rfl);(case he=>rfl);(case hK=>rfl);(case hks=>rfl);(case hz=>exact ji);(case hzv=>exact jQ);(case hx=>exact g1);(case hN=>exact nle rfl))|(apply qi;apply jP;(case hm=>rfl);(case hn=>rfl);(case hk=>rfl);(case hT=>rfl);(case he=>rfl);(case hK=>rfl);(case hks=>rfl);(case hz=>exact ji);(case hzv=>exact jQ);(case hx=>exact g2);(case hN=>exact nle rfl))|(apply qi;apply jP;(case hm=>rfl);(case hn=>rfl);(case hk=>rfl);(case hT=>rfl);(case he=>rfl);(case hK=>rfl);(case hks=>rfl);(case hz=>exact ji);(case hzv=>exact jQ);(case hx=>exact g3);(case hN=>exact nle rfl))|(apply yL;apply xx;rfl;rfl;rfl;rfl;rfl;rfl;rfl;rfl)|(refine jL ?_)|(refine yi ?_))|((first|refine qf ?_ ?_|refine qe ?_ ?_|refine xsC ?_ ?_);all_goals (intro hc;have hp:=hc;try simp at hp;try (exfalso;omega)))|refine qX ?_ ?_)
    all_goals try (exfalso;first|omega|contradiction|(simp_all;done))
    all_goals (refine ⟨99 - (i + 1),_,by omega,qB (τ:=⟨[(0,.op 0 0 0),(1,.v (str p)),(5,.op 6 0 0),(7,.v (.int .i64 (((i + 1:Nat):Int) + 1)))],[(0,.own false 5 [vm 5 cs.length]),(1,.mp (qr B)),(2,.mp (qr M)),(3,.mp (qr T)),(4,.mp (qr O)),(5,.own false 2 (cs.map Cpy.row)),(6,.own false 2 [[.v (.int .i64 2),.v (str x)]])],7⟩) [(6,6)] rfl ?gts ?ghs,i + 1,by omega,rfl,hsofar,rfl⟩;(case gts=>(repeat (first|exact qg|refine qo ?_|refine yg ?_|refine xM ?_|refine zi ?_|refine xN ?_ ?_|refine qY ?_ ?_));all_goals (first|exact qh _|rfl|(congr 2;omega)|(congr 1;congr 1;omega)|trace_state));(case ghs=>(repeat' (first|exact qj|refine jx ?_|refine zy ?_|refine x2 ?_ ?_ ?_|refine ve ?_ ?_|refine yY ?_ ?_|refine xh ?_ ?_ ?_ ?_|refine q6 ?_ ?_|exact ql|apply qd|exact qk rfl|(apply qt;(first|exact qN rfl|exact .inr (List.mem_cons_self ..)|exact .inr (List.mem_cons_of_mem _ (List.mem_cons_self ..))|exact .inr (List.mem_cons_of_mem _ (List.mem_cons_of_mem _ (List.mem_cons_self ..)))|exact .inr (List.mem_cons_of_mem _ (List.mem_cons_of_mem _ (List.mem_cons_of_mem _ (List.mem_cons_self ..))))))|refine ju ?_|refine xi ?_ rfl|with_reducible exact List.Perm.refl _));all_goals (first|exact qh _|rfl|(congr 2;omega)|(congr 1;congr 1;omega)|trace_state)))
  ·rw [if_neg (by decide)] at hsofar;cases hsofar
 ·obtain rfl:i = 99:=by omega
  cases hsofar
end Go.Proofs.YtamejbkifpjhiaaGreatDoor
set_option linter.unusedSimpArgs false
set_option linter.unnecessarySimpa false
set_option linter.unusedVariables false
namespace Go.Proofs.YtamejbkifpjhiaaGreatDoor
open Go.Ab Go.RowKit
set_option maxRecDepth 10000
attribute [local irreducible] Awp yH jH jw Red ja Go.Ab.Fin qZ Rz vn jr jp ResOk j3 jC yC jA
def vK (l:List (qP × qP)):List (List UInt8 × AV):=l.map fun g=>(g.1,xI ⟨2,g.2⟩)
theorem qp (l:List (qP × qP)) : ∀ e,e ∈ vK l → e.2.pure = true:=fun e he=>by
 obtain ⟨x,_,rfl⟩:=List.mem_map.1 he;rfl
theorem J2 (l:List (qP × qP)):(vK l).map (·.1) = l.map (·.1):=by unfold vK;rw [List.map_map];rfl
theorem VH {b m t:List Ent} {P:List qP} {i:Nat} (h:i < P.length):yK b m t (P.take (i + 1)) = yK b m t (P.take i) ++ (if (x3 b m t P[i]).2.kind = 2 then [(P[i],(x3 b m t P[i]).2.text)] else []):=by
 unfold yK
 rw [List.take_succ_eq_append_getElem h,List.filterMap_append]
 congr 1
 by_cases hk:(x3 b m t P[i]).2.kind = 2<;>simp [hk]
theorem qcx {b m t:List Ent} {P:List qP} : ∀ g,g ∈ yK b m t P → g.1 ∈ P:=fun g hg=>by
 obtain ⟨p,h1,h2⟩:=List.mem_filterMap.1 hg
 split at h2
 ·injection h2 with h2;subst h2;exact h1
 ·cases h2
theorem ZQ {b m t:List Ent} {P:List qP} {i:Nat} (h:i < P.length):xK b m t (P.take (i + 1)) = wy (xK b m t (P.take i)) P[i] (x3 b m t P[i]).1:=by
 unfold xK
 rw [List.take_succ_eq_append_getElem h,List.foldl_append];rfl
theorem qd6 {b m t:List Ent} {P:List qP} (hP:P.Nodup) {i:Nat} (h:i < P.length):P[i] ∉ (yK b m t (P.take i)).map (·.1):=fun hm=>by
 obtain ⟨g,hg,he⟩:=List.mem_map.1 hm
 have h1:=qcx g hg
 rw [he] at h1
 obtain ⟨j,hj,h2⟩:=List.getElem_of_mem h1
 rw [List.getElem_take] at h2
 have hj' : j < i:=by simp at hj;omega
 have:=(List.getElem_inj (h₀:=by omega) (h₁:=h) hP (i:=j) (j:=i)).1 h2
 omega
theorem qfv {b m t:List Ent} {P:List qP} (hP:P.Nodup) {i:Nat} (h:i < P.length):qW (xK b m t (P.take i)) P[i] = none:=by
 have:=(JF b m t (P:=P.take i) (o:=[]) rfl).2 P[i]
 show qW (List.foldl _ [] _) _ = _
 rw [this,if_neg]
 ·rfl
 ·rintro ⟨hm,_⟩
  obtain ⟨j,hj,h2⟩:=List.getElem_of_mem hm
  rw [List.getElem_take] at h2
  have hj' : j < i:=by simp at hj;omega
  have:=(List.getElem_inj (h₀:=by omega) (h₁:=h) hP (i:=j) (j:=i)).1 h2
  omega
theorem qc4 {o:List Ent} {p:qP} {x:Thg} (h:qU jf o = true) (hg:kP x) (hn:qW o p = none):(if x.kind = 0 then xJ (qr o) p else xb (qr o) p (xI x)).Perm (qr (wy o p x)):=by
 unfold wy
 split
 ·rw [kE]
  rw [v2]
  intro hm
  obtain ⟨e,he,hp⟩:=List.mem_map.1 hm
  exact xG.1 hn e he hp
 ·rename_i h0
  exact qc3 h hg h0
theorem qc5 (l:List (List UInt8 × AV)) (p:qP) (x:Thg) (hp : ∀ e,e ∈ l → e.2.pure = true) : ∀ e,e ∈ (if x.kind = 0 then xJ l p else xb l p (xI x)) → e.2.pure = true:=by
 split
 ·intro e he;exact hp e (List.mem_filter.1 he).1
 ·intro e he
  unfold xb at he
  split at he
  ·rcases List.mem_or_eq_of_mem_set he with h|rfl
   ·exact hp e h
   ·rfl
  ·rcases List.mem_append.1 he with h|h
   ·exact hp e h
   ·rw [List.mem_singleton.1 h];rfl
noncomputable def C5:Cx := { C with nh:=5 }
def H5 (B M T:List Ent):List HB:=[.own false 5 [[.mp 1,.mp 2,.mp 3,.mp 4,.sl true []]],.mp (qr B),.mp (qr M),.mp (qr T),.mp (qr [])]
def ka (b m t:List Ent):Nat → List qP
 | 0 => []
 | 1=>(b.map Ent.path).foldl zE []
 | 2=>(m.map Ent.path).foldl zE ((b.map Ent.path).foldl zE [])
 | _=>(t.map Ent.path).foldl zE ((m.map Ent.path).foldl zE ((b.map Ent.path).foldl zE []))
theorem Xl (b m t:List Ent):ka b m t 3 = ze b m t:=by
 unfold ka ze
 rw [List.map_append,List.map_append,List.foldl_append,List.foldl_append]
 rfl
theorem wY : ∀ (L l:List qP),(L.foldl zE l).length ≤ L.length + l.length
 | [],l=>by simp
 | a :: L,l=>by
   have h1:=wY L (zE l a)
   have h2:(zE l a).length ≤ l.length + 1:=by
    unfold zE
    split
    ·omega
    ·have h3:=(List.takeWhile_sublist (fun x=>Op.bytesLess x a) (l:=l)).length_le
     have h4:(l.takeWhile (fun x=>Op.bytesLess x a) ++ l.dropWhile (fun x=>Op.bytesLess x a)).length = l.length:=by rw [List.takeWhile_append_dropWhile]
     rw [List.length_append] at h4
     rw [List.length_append,List.length_cons, ← h4]
     exact Nat.le_of_eq (by rw [Nat.add_assoc])
   simp only [List.foldl_cons,List.length_cons]
   omega
theorem xh {L:List (Nat × Nat)} {nh:Nat} {σ:St} {n n' : Nat} {ex ex' : Bool} {k:Nat} {r1 r2 r3 s1 s2 s3:List AV} {l:List (Nat × HB)} (h1:jC L nh r1 s1) (h2:jC L nh r2 s2) (h3:jC L nh r3 s3) (hl:vp L nh σ l) (hm:Maps L nh n n':=by (first|exact qN rfl|exact .inr (List.mem_cons_self ..)|exact .inr (List.mem_cons_of_mem _ (List.mem_cons_self ..))|exact .inr (List.mem_cons_of_mem _ (List.mem_cons_of_mem _ (List.mem_cons_self ..)))|exact .inr (List.mem_cons_of_mem _ (List.mem_cons_of_mem _ (List.mem_cons_of_mem _ (List.mem_cons_self ..)))))) (hx:jg σ.hs n = .own ex k [r1,r2,r3]:=by rfl) (he:ex' = true → ex = true:=by first|exact id|exact nofun):vp L nh σ ((n',.own ex' k [s1,s2,s3]) :: l) :=
 w3 hm hx he (vx h1 (vx h2 (vx h3 zU))) hl
end Go.Proofs.YtamejbkifpjhiaaGreatDoor
set_option linter.unusedSimpArgs false
set_option linter.unnecessarySimpa false
set_option linter.unusedVariables false
namespace Go.Ab
theorem Zk {G G' : Prop} (k:G') (h:Hold G' → G:=by intro key;(first|(apply qi;first|(apply X9;(conv=>lhs;whnf);exact nle rfl)|(apply Ju;(conv=>lhs;whnf);exact nle rfl)|(apply z6;rfl;(conv=>lhs;whnf);exact nle rfl)|(apply zC;rfl;(conv=>lhs;whnf);exact nle rfl)|(apply X8;rfl;rfl;rfl;exact nle rfl)|(apply zu;rfl;rfl;rfl;rfl;exact nofun;exact nle rfl)|(apply zH;rfl;rfl;rfl;rfl;exact nofun;exact nle rfl)|(apply zI;rfl;rfl;rfl;(first|rfl|assumption|(apply jj;assumption)|(apply jj;apply jj;assumption));rfl;rfl;exact nle rfl)|(apply zY;rfl;rfl;(first|rfl|assumption|(apply jj;assumption)|(apply jj;apply jj;assumption));rfl;rfl;exact nle rfl)|(apply zZ;rfl;rfl;rfl;rfl;rfl;rfl;exact nle rfl)|(apply kz;rfl;rfl;rfl;(first|rfl|assumption|(apply jj;assumption)|(apply jj;apply jj;assumption));(conv=>lhs;whnf);exact nle rfl)|(apply wg;rfl;rfl;(first|rfl|assumption|(apply jj;assumption)|(apply jj;apply jj;assumption));(conv=>lhs;whnf);exact nle rfl)|(apply Vb;rfl;rfl;rfl;exact nle rfl)|(apply Jw;rfl;rfl;rfl;exact nle rfl)|(apply Qn;rfl;rfl;rfl;exact nle rfl)|(apply Qm;rfl;rfl;rfl;exact nle rfl)|(apply v7;rfl;rfl;rfl;rfl;rfl;(first|rfl|assumption|(apply jj;assumption)|(apply jj;apply jj;assumption));rfl;exact nle rfl)|(apply x9;rfl;rfl;rfl;rfl;(first|rfl|assumption|(apply jj;assumption)|(apply jj;apply jj;assumption));exact nle rfl)|(apply Vc;rfl;rfl;omega;exact nle rfl)|(apply Va;rfl;rfl;omega;exact nle rfl)|(apply VA;rfl;rfl;omega;omega;exact nle rfl)|(apply VE;rfl;rfl;omega;omega;exact nle rfl)|(apply Kj;rfl;exact nle rfl)|(apply Ql;rfl;(conv=>lhs;whnf);exact nle rfl)|(apply Yu;rfl;rfl;rfl;rfl;(conv=>lhs;whnf);exact nle rfl)|(apply wG (b':=true);rfl;assumption;(conv=>lhs;whnf);exact nle rfl)|(apply wG (b':=false);rfl;assumption;(conv=>lhs;whnf);exact nle rfl)|(apply X7;exact nle rfl)|(apply z2;rfl;exact nle rfl)|(apply z1;rfl;exact nle rfl)|(apply Yr;rfl;rfl;rfl;(conv=>lhs;whnf);exact nle rfl)|(apply wi;rfl;rfl;rfl;rfl;(conv=>lhs;whnf);exact nle rfl)|(apply vV;rfl;rfl;(first|omega|(simp<;>fail)|(simp only [List.length_cons,List.length_nil,List.length_map];omega)|(simp;omega));exact nle rfl))|(apply xe;first|(apply Yq;rfl;exact nle rfl)|(apply Kh;rfl;exact nle rfl))|(apply yL;apply Yx;rfl;rfl;rfl;(first|rfl|assumption|(apply jj;assumption)|(apply jj;apply jj;assumption));rfl;rfl;exact nle rfl)|apply Jb|(apply Vj;exact nle rfl;refine ⟨?_,?_⟩;first|exact fun h=>absurd h Bool.false_ne_true|(intro _;kernel_rfl))|(apply YO;rfl;rfl;exact nle rfl)|(apply YN;rfl;rfl;exact nle rfl)|(apply JE;rfl;rfl;exact nle rfl)|(apply JD;rfl;rfl;exact nle rfl)|(apply kW;rfl;rfl;exact nle rfl)|(apply Vk;rfl;rfl;assumption;exact nle rfl)|(apply YM;rfl;rfl;assumption;exact nle rfl)|(apply YL;rfl;rfl;assumption;exact nle rfl)|apply Yk|refine y1 ?_|(apply Qi;rfl)|(apply Qh;rfl)|(apply JY;rfl;assumption)|(apply JX;rfl;assumption)|apply Y6|apply Vu|apply Vt|apply Kd);exact key.out):G:=h ⟨k⟩
end Go.Ab
namespace Go.Proofs.YtamejbkifpjhiaaGreatDoor
open Go.Ab Go.RowKit
set_option maxRecDepth 10000
theorem qcz {l:List (qP × qP)} {p x:qP} (h:p ∉ l.map (·.1)):xb (vK l) p (xI ⟨2,x⟩) = vK (l ++ [(p,x)]):=by
 rw [VT (by rw [J2];exact h)]
 unfold vK
 rw [List.map_append]
 rfl
theorem qcy {l:List (qP × qP)} (h:(l.map (·.1)).Nodup) {g:qP × qP} (hg:g ∈ l):(vF (vK l) g.1).getD (xI noT) = xI ⟨2,g.2⟩:=by
 have:vF (vK l) g.1 = some (xI ⟨2,g.2⟩):=(Qw (by rw [J2];exact h)).2 (List.mem_map.2 ⟨g,hg,rfl⟩)
 rw [this]
 rfl
theorem YD (b m t:List Ent) : ∀ P:List qP,((yK b m t P).map (·.1)).Sublist P
 | [] => .slnil
 | p :: P=>by
   unfold yK
   rw [List.filterMap_cons]
   split
   ·exact (YD b m t P).cons p
   ·rename_i y hy
    split at hy
    ·injection hy with hy;subst hy
     exact (YD b m t P).cons_cons p
    ·cases hy
theorem qd7 {b m t:List Ent} {P:List qP} (h:Qa P):Qa ((yK b m t P).map (·.1)):=List.Pairwise.sublist (YD b m t P) h
theorem YC (b m t:List Ent) (P:List qP):(yK b m t P).length ≤ P.length:=by
 have:=(YD b m t P).length_le
 rwa [List.length_map] at this
theorem Wy {m t:List Ent} {G:List (qP × qP)} {i:Nat} (h:i < G.length) (s:MS):Vd m t (G.drop i) s = match zg m t s G[i].1 G[i].2 with|none=>none|some s'=>Vd m t (G.drop (i + 1)) s':=by
 rw [List.drop_eq_getElem_cons h];rfl
theorem wC {m t:List Ent} {s:MS} {p x:qP} (h:xX m t s.out p 99 1 = none):zg m t s p x = none:=by
 unfold zg;rw [h]
theorem wD {m t:List Ent} {s:MS} {p x q:qP} (h:xX m t s.out p 99 1 = some q):zg m t s p x = some ⟨jR s.out ⟨q,false,x,1⟩,s.cps ++ [⟨p,q⟩]⟩:=by
 unfold zg;rw [h]
theorem WR {b m t:List Ent} (hb:Right b) (hm:Right m) (ht:Right t) (P:List qP):qU jf (xK b m t P) = true:=(JF b m t (P:=P) (o:=[]) rfl).1
theorem qd8 (b m t:List Ent) (p:qP):kP (x3 b m t p).1 ∧ kP (x3 b m t p).2:=WO (ku m p) (ku t p)
theorem XU {s:List UInt8} {x:AV} : ∀ {l:List (List UInt8 × AV)},vF l s = some x → xb l s x = l
 | [],h=>by simp [vF] at h
 | e :: l,h=>by
   rw [Q9]
   by_cases he:e.1 = s
   ·rw [if_pos he]
    unfold vF at h
    rw [List.find?_cons,show (e.1 == s) = true from by simpa using he] at h
    simp at h
    subst he
    rw [← h]
   ·rw [if_neg he,XU]
    unfold vF at h ⊢
    rw [List.find?_cons,show (e.1 == s) = false from by simpa using he] at h
    exact h
theorem qc2 {o:List Ent} {q:qP} (h:(stT o q).kind = 1):xb (qr o) q (xI ⟨1,[]⟩) = qr o:=by
 apply XU
 rw [ZX]
 obtain ⟨x,hx,hf⟩:=qeC.1 h
 rw [hx]
 show some (xI (xS x)) = _
 unfold xS
 rw [if_pos hf]
theorem WS {m t:List Ent} {s:MS} {q:qP} (h:(stT s.out q).kind = 1):YQ m t s q = some s:=by unfold YQ;rw [if_pos h]
theorem ZR {m t:List Ent} {s:MS} {q:qP} (h1:¬ (stT s.out q).kind = 1) (h2:¬ (stT s.out q).kind = 2):YQ m t s q = some ⟨jR s.out ⟨q,true,[],1⟩,s.cps⟩:=by unfold YQ;rw [if_neg h1,if_neg h2]
theorem WT {m t:List Ent} {s:MS} {q:qP} (h:(stT s.out q).kind = 2):YQ m t s q = zg m t ⟨jR s.out ⟨q,true,[],1⟩,s.cps⟩ q (stT s.out q).text:=by unfold YQ;rw [if_neg (by rw [h];decide),if_pos h]
theorem V2 {m t:List Ent} {q:qP} {l:List qP} {s:MS}:kn m t (q :: l) s = match YQ m t s q with|none=>none|some s'=>kn m t l s':=rfl
theorem YP (b m t:List Ent) : ∀ (P:List qP) (o:List Ent),(P.foldl (fun o p=>wy o p (x3 b m t p).1) o).length ≤ o.length + P.length
 | [],o=>Nat.le_refl _
 | p :: P,o=>by
   have h1:=YP b m t P (wy o p (x3 b m t p).1)
   have h2:(wy o p (x3 b m t p).1).length ≤ o.length + 1:=by
    unfold wy
    split
    ·omega
    ·exact wv _ _
   simp only [List.foldl_cons,List.length_cons]
   omega
theorem Kn {m t:List Ent} : ∀ {l:List (qP × qP)} {s s' : MS},Vd m t l s = some s' → s'.out.length ≤ s.out.length + l.length
 | [],s,s',h=>by injection h with h;subst h;exact Nat.le_refl _
 | g :: l,s,s',h=>by
   unfold Vd at h
   split at h
   ·cases h
   ·rename_i s1 h1
    have h2:=Kn h
    unfold zg at h1
    split at h1
    ·cases h1
    ·rename_i q _
     injection h1 with h1;subst h1
     have h3:=wv s.out ⟨q,false,g.2,1⟩
     simp only [List.length_cons] at h2 ⊢
     omega
theorem V3 {p:qP} (hp:qH p = 0):(jE p).length ≤ 80:=by
 rw [yO]
 have:=xV p
 have:=qQ hp
 omega
noncomputable def tl:Nat → Code → Code
 | 0,c=>c
 | n + 1,.seq _ b=>tl n b
 | _,c=>c
noncomputable def Xr:Code:=match Tryz.f65.body with|some c=>c|none => .skip
def H8 (B M T:List Ent) (s:MS):List HB:=[.own false 5 [vm 5 s.cps.length],.mp (qr B),.mp (qr M),.mp (qr T),.mp (qr s.out),.own false 2 (s.cps.map Cpy.row)]
def H8o (B M T:List Ent):Option MS → List HB
 | none => [.dead,.dead,.dead,.dead,.dead]
 | some s=>H8 B M T s
theorem V7 {L:List (Nat × Nat)} {nh:Nat} {l l' : List (List UInt8 × AV)} (hp:l.Perm l') (h : ∀ e,e ∈ l' → e.2.pure = true):vq L nh (.mp (.map l)) (.mp (.map l')):=by
 obtain ⟨m,h1,h2,h3⟩:=qb (L:=L) (nh:=nh) h
 exact ⟨m,by first|exact hp.trans h1|exact h1.trans hp|exact h1.trans hp.symm|exact hp.symm.trans h1,h2,h3⟩
theorem kh {L:List (Nat × Nat)} {σ:St} {n n' c c' k:Nat} {ex ex' : Bool} {l:List (Nat × HB)} (hl:vp L 5 σ l) (hm:Maps L 5 n n':=by (first|exact qN rfl|exact .inr (List.mem_cons_self ..)|exact .inr (List.mem_cons_of_mem _ (List.mem_cons_self ..))|exact .inr (List.mem_cons_of_mem _ (List.mem_cons_of_mem _ (List.mem_cons_self ..)))|exact .inr (List.mem_cons_of_mem _ (List.mem_cons_of_mem _ (List.mem_cons_of_mem _ (List.mem_cons_self ..)))))) (hc:Maps L 5 c c':=by (first|exact qN rfl|exact .inr (List.mem_cons_self ..)|exact .inr (List.mem_cons_of_mem _ (List.mem_cons_self ..))|exact .inr (List.mem_cons_of_mem _ (List.mem_cons_of_mem _ (List.mem_cons_self ..)))|exact .inr (List.mem_cons_of_mem _ (List.mem_cons_of_mem _ (List.mem_cons_of_mem _ (List.mem_cons_self ..)))))) (hx:jg σ.hs n = .own ex 5 [vm c k]:=by rfl) (he:ex' = true → ex = true:=by first|exact id|exact nofun):vp L 5 σ ((n',.own ex' 5 [vm c' k]) :: l) :=
 w3 hm hx he (vx (qd (qt (qN rfl)) (qd (qt (qN rfl)) (qd (qt (qN rfl)) (qd (qt (qN rfl)) (qd (qz hc) ql))))) zU) hl
end Go.Proofs.YtamejbkifpjhiaaGreatDoor
