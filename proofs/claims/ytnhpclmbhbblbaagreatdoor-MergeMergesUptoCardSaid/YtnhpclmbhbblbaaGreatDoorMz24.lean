import Derived.Test.YtnhpclmbhbblbaaGreatDoorMz22
import Derived.Test.YtnhpclmbhbblbaaGreatDoorMz23
import Derived.Test.YtnhpclmbhbblbaaGreatDoorMz14
import Derived.Shelf.AbstractIn
set_option linter.unusedSimpArgs false
set_option linter.unnecessarySimpa false
set_option linter.unusedVariables false
namespace Go.Proofs
open Go.RowKit Go.Maps Go.Sort Go.Shelf
theorem Tryz.sortsT (m:Nat):AnyZ.SortsIn Tryz.prog Tryz.sortedT_ren Fence.wide m :=
 ⟨fun blk off cap ss W hH hblk hsz=>callsIn_wide.2 (AnyM.slices_Sort_string Tryz.sortT blk off cap ss W hH hblk hsz),
  fun p cap W=>callsIn_wide.2 (AnyM.slices_Sort_string_none Tryz.sortT p cap W)⟩
set_option maxHeartbeats 1000000 in
theorem Tryz.paths_raw {H:Type} (b nn:Nat) (D0:DataW H) (R:Value → Option (DataW H × List MemPlace)) (w:World) (hown:w.ownsMap Tryz.prog 9 R b nn D0) (hmax:Maps.size D0 ≤ maxLen) (hbytes:Maps.size D0 * 16 ≤ 140737488355328) :
  Calls Tryz.prog 25 #[.map (some b)] w fun e w' => ∃ (v:Value) (ss:List (List UInt8)),e = .returned v ∧ ss.Perm (strKeys D0) ∧
   w'.ownsRow w.heap.size 9 1 v ss.length ((ss.mergeSort (fun x y=>decide (x ≤ y))).map encStr) ∧ (v = .slice none 0 0 ↔ ss = []) ∧ Below w.heap.size w w':=by
 refine (callsIn_wide (n:=6)).1 ?_
 have hbl:=hown.lt
 have hseq:SeqGives Fence.wide 2 Tryz.prog 91 #[.pointer (some ⟨w.heap.size,0,none⟩)] encStr (fun ss=>ss.Perm (strKeys D0)) (Maps.size D0) (w.alloc (.cells #[.map (some b)] 52)) :=
  AnyZ.keys_gives (ρ:=Tryz.keysT_ren) { Tryz.keysT with } Fence.wide _ trivial rfl (by omega) w.heap.size b nn D0 _ (by simp) (by simp) (by
   obtain ⟨es,clock,hb,Ft,hs,hD⟩:=hown
   exact ⟨es,clock,(Below.heap_alloc _ _ b hbl).trans hb,Ft,hs,hD⟩)
 have cK : ∀ mb W,CallsIn Fence.wide 5 Tryz.prog 62 #[.map mb] W fun e w'=>e = .returned (.func (.func 91) #[] #[.pointer (some ⟨W.heap.size,0,none⟩)]) ∧ w' = W.alloc (.cells #[.map mb] 52):=fun mb W=>AnyZ.keys_in Tryz.keysT Fence.wide 5 trivial rfl mb W
 have cS:=AnyZ.sorted_in Tryz.sortedT Fence.wide 5 trivial trivial trivial trivial rfl (by omega) (Tryz.sortsT _) (enters_of Tryz.func90 (by kernel_rfl) rfl) 91 #[.pointer (some ⟨w.heap.size,0,none⟩)] trivial (enters_of Tryz.func91 (by kernel_rfl) rfl) _ _ hmax hbytes _ hseq
 change CallsIn _ _ Tryz.prog 61 _ _ _ at cS
 have hfK:Fence.wide.fn 62:=trivial
 have hfS:Fence.wide.fn 61:=trivial
 refine callsIn_of_wp Tryz.func25 rfl trivial ?_ rfl
 simp only [Tryz.ntmps25,List.size_toArray,List.length_cons,List.length_nil,Nat.reduceAdd,Nat.reduceSub,Array.replicate_succ,Array.replicate_zero,List.push_toArray,List.append_toArray,List.nil_append,List.cons_append]
 gi_wp2_with (first
  | (gi_at_call 62;refine (cK _ _).mono ?_;rintro e w' ⟨rfl,rfl⟩)
  | (gi_at_call 61;refine cS.mono ?_;rintro e w' ⟨v,ss,rfl,hS,hrow,hnil,hb⟩))
 go_ret
 exact ⟨v,ss,rfl,hS,ownsRow_base_a hrow (by simp),hnil,((Below.refl _ w).alloc (Nat.le_refl _) _).trans (hb.mono (by simp))⟩
end Go.Proofs
namespace Go.Proofs.YtnhpclmbhbblbaaGreatDoor
open Go.Ab Go.RowKit
set_option maxRecDepth 10000
attribute [local irreducible] Awp j4 jw js Red qU Go.Ab.Fin q6 Rz x6 jp jo ResOk jJ ju yb jx
theorem Yf : ∀ {a b:List UInt8},(a ≤ b) ↔ ¬ Op.bytesLess b a = true:=by
 have key : ∀ (a b:List UInt8),Op.bytesLess a b = true ↔ a < b:=by
  intro a
  induction a with
  | nil=>intro b;cases b<;>simp [Op.bytesLess]
  | cons x a ih =>
    intro b
    cases b with
    | nil=>simp [Op.bytesLess]
    | cons y b =>
      simp only [Op.bytesLess,Bool.or_eq_true,Bool.and_eq_true,decide_eq_true_eq,beq_iff_eq,List.cons_lt_cons_iff,ih]
 intro a b
 rw [key,List.not_lt]
theorem Zy {l:List qJ} (hn:l.Nodup):zL (l.mergeSort leB):=by
 have h1:=List.pairwise_mergeSort (le:=leB) (fun a b c hab hbc=>by
  simp only [decide_eq_true_eq,Yf] at *
  intro h
  rcases zG b c with h2|h2|h2
  ·exact hab (vX h2.1 h)
  ·rw [h2.1] at hab;exact hab h
  ·exact hbc h2.1) (fun a b=>by
  simp only [Bool.or_eq_true,decide_eq_true_eq,Yf]
  rcases zG a b with h2|h2|h2
  ·exact .inl (by simp [h2.2.1])
  ·exact .inl (by simp [h2.2.2])
  ·exact .inr (by simp [h2.2.1])) l
 have h2:=(List.mergeSort_perm l leB).nodup_iff.2 hn
 refine (h1.and h2).imp fun {a b} ⟨h3,h4⟩=>?_
 simp only [decide_eq_true_eq,Yf] at h3
 rcases zG a b with h5|h5|h5
 ·exact h5.1
 ·exact absurd h5.1 h4
 ·exact absurd h5.1 h3
theorem KK {l s:List qJ} (hn:l.Nodup) (hs:zL s) (hm : ∀ x,x ∈ l ↔ x ∈ s):l.mergeSort leB = s :=
 Vs (Zy hn) hs fun x=>by rw [(List.mergeSort_perm l leB).mem_iff,hm]
theorem xP {s:List qJ} (h:zL s):s.Nodup:=h.imp fun {a b} hab e=>by rw [e,vG] at hab;cases hab
theorem YO {t:List Ent} (h:qY jn t = true):zL (t.map Ent.path):=by
 unfold zL;rw [List.pairwise_map];exact yP.1 h
theorem Js (l:List (List UInt8 × AV)) (s:List qJ) (hs:zL s) (hp:(l.map (·.1)).Perm s) (hl:s.length ≤ 1000000) (hk : ∀ x,x ∈ s → x.length ≤ 1000000) :
  q6 C1.P 25 [.mp 0] [.mp l] (.os 1 0 s.length) [.mp l,.own false 1 (s.map q2)]:=by
 have hlen:l.length = s.length:=by rw [← hp.length_eq,List.length_map]
 have h:=ZA (P:=C1.P) (f:=25) (k:=9) Tryz.underlying9 (l:=l) (by omega) (fun x hx=>hk x.1 (hp.mem_iff.1 (List.mem_map.2 ⟨x,hx,rfl⟩))) (fun b nn D0 w h1 h2 h3=>Tryz.paths_raw b nn D0 xa w h1 h2 h3)
 rw [KK (hp.nodup_iff.2 (xP hs)) hs (fun x=>hp.mem_iff),hlen] at h
 exact h
end Go.Proofs.YtnhpclmbhbblbaaGreatDoor
set_option linter.unusedSimpArgs false
set_option linter.unnecessarySimpa false
set_option linter.unusedVariables false
set_option maxHeartbeats 1000000
namespace Go.Proofs.YtnhpclmbhbblbaaGreatDoor
open Go.Ab Go.RowKit
set_option maxRecDepth 10000
attribute [local irreducible] Awp j4 jw js Red qU Go.Ab.Fin q6 Rz x6 jp jo ResOk jJ ju yb jx
theorem XA (s:qJ):je (s ++ [47]) = je s ++ [s]:=by
 have h1:=wu s
 have hp:=List.length_pos_iff.2 (yI s)
 apply List.ext_getElem
 ·rw [jP,List.length_append,jP,h1,List.length_append];simp;omega
 ·intro i h2 h3
  rw [xC h2]
  rw [jP,h1,List.length_append] at h2
  simp only [List.length_cons,List.length_nil] at h2
  rw [h1,List.take_append_of_le_length (by omega)]
  rw [List.getElem_append]
  split
  ·rename_i h4
   rw [xC h4]
  ·rename_i h4
   rw [jP] at h4
   have:i + 1 = (qn s).length:=by omega
   rw [this,List.take_length,yl]
   simp
theorem Xo {c:UInt8} (h:¬ c = 47) (s:qJ):je (s ++ [c]) = je s:=by
 have h1:=Qd h s
 have hp:=List.length_pos_iff.2 (yI s)
 have hl:(qn (s ++ [c])).length = (qn s).length:=by rw [h1,List.length_append,List.length_dropLast];simp;omega
 apply List.ext_getElem
 ·rw [jP,jP,hl]
 ·intro i h2 h3
  rw [xC h2,xC h3]
  rw [jP] at h3
  rw [h1,List.take_append_of_le_length (by rw [List.length_dropLast];omega),List.dropLast_eq_take,List.take_take,Nat.min_eq_left (by omega)]
theorem Vt {p:qJ} {i:Nat} (h:i < p.length):je (p.take (i + 1)) = if p[i] = 47 then je (p.take i) ++ [p.take i] else je (p.take i):=by
 rw [List.take_succ_eq_append_getElem h]
 split
 ·rename_i e;rw [e,XA]
 ·rename_i e;rw [Xo e]
theorem ZK (p:qJ):(je p).length ≤ p.length:=by
 rw [jP,zx]
 have:=List.count_le_length (a:=(47:UInt8)) (l:=p)
 omega
theorem V8 {p:qJ} (h:qE p = 0) : ∀ c,c ∈ p → c.toNat < 128:=by
 have h1:=(yo.1 h).1
 intro c hc
 have key : ∀ (l:List qJ),(∀ n,n ∈ l → ∀ c,c ∈ n → c.toNat < 128) → ∀ c,c ∈ jQ l → c.toNat < 128:=by
  intro l
  induction l with
  | nil=>intro _ c hc;cases hc
  | cons n l ih =>
    intro h c hc
    cases l with
    | nil=>exact h n (by simp) c hc
    | cons m l =>
      rw [x5 (by simp)] at hc
      rcases List.mem_append.1 hc with h2|h2
      ·exact h n (by simp) c h2
      ·rcases List.mem_cons.1 h2 with rfl|h2
       ·decide
       ·exact ih (fun n' hn'=>h n' (by simp [hn'])) c h2
 rw [← yl p] at hc
 refine key _ (fun n hn c hc=>?_) c hc
 have h2:=(kq.1 (h1 n hn)).2.2.2.2.2.2 c hc
 simp [YC] at h2
 omega
theorem Wg (p:qJ) (hp:qE p = 0):q6 C.P 60 [.v (str p)] [] (.os 0 0 (je p).length) [.own false 1 ((je p).map q2)]:=by
 have hpl:=jD hp
 have hasc:=V8 hp
 refine qh Tryz.func60 rfl _ Tryz.ntmps60 (Nat.le_of_ble_eq_true rfl) _ Tryz.results60 0 rfl rfl ?_
 repeat' (first|refine qA ?_|(first|(apply y2;apply XY;(case hx=>rfl);(case hT=>rfl);(case hs=>rfl);(case hN=>exact nle rfl)))|((first|refine jg ?_ ?_);all_goals (intro hc;have hp:=hc;try simp at hp;try (exfalso;omega)))|refine jh ?_ ?_)
 all_goals try (exfalso;omega)
 refine Awp.red (we 3 1 rfl (Nat.zero_le _)) ?_
 (refine Awp.red (qL (τ:=⟨[(0,.v (str p)),(3,.os 1 0 0),(7,.op 0 0 0)],[(0,.mp (.sit p 0)),(1,.own false 1 [])],2⟩) [(0,0),(1,1)] rfl ?gts2 ?ghs2) ?_;(case gts2=>(repeat (first|exact qi|refine qz ?_|refine xb ?_|refine yF ?_|refine xY ?_|refine yG ?_ ?_|refine ji ?_ ?_));all_goals (first|rfl|trace_state));(case ghs2=>(repeat' (first|exact qq|refine q4 ?_|refine vd ?_|refine yU ?_ ?_ ?_|refine y8 ?_ ?_|refine jW ?_ ?_|refine j9 ?_ ?_ ?_ ?_|refine jC ?_ ?_|exact qg|apply qb|exact qf rfl|(apply qr;(first|exact qH rfl|exact .inr (List.mem_cons_self ..)|exact .inr (List.mem_cons_of_mem _ (List.mem_cons_self ..))|exact .inr (List.mem_cons_of_mem _ (List.mem_cons_of_mem _ (List.mem_cons_self ..)))|exact .inr (List.mem_cons_of_mem _ (List.mem_cons_of_mem _ (List.mem_cons_of_mem _ (List.mem_cons_self ..))))))|refine q3 ?_|refine yc ?_ rfl|with_reducible exact List.Perm.refl _));all_goals (first|rfl|trace_state)))
 refine jf (fun n σ => ∃ i:Nat,i ≤ p.length ∧ n = p.length - i ∧ (True) ∧ σ = ⟨[(0,.v (str p)),(3,.os 1 0 (je (p.take i)).length),(7,.op 0 0 0)],[(0,.mp (.sit p i)),(1,.own false 1 ((je (p.take i)).map q2))],2⟩) p.length ⟨0,Nat.zero_le _,rfl,trivial,rfl⟩ ?_
 rintro n σ ⟨i,hi,rfl, -,rfl⟩
 have hfew:(je (p.take i)).length ≤ p.length:=by have:=ZK (p.take i);rw [List.length_take] at this;omega
 by_cases hlt:i < p.length
 ·have hs:=Vt hlt
  have ha:=hasc p[i] (List.getElem_mem _)
  have hpt:(p.drop 0).take i = p.take i:=rfl
  generalize hPI:je (p.take i) = PI at *
  generalize hPJ:je (p.take (i + 1)) = PJ at *
  have hc47:(p[i].toNat:Int) = 47 ↔ p[i] = 47:=by
   constructor
   ·intro h;exact UInt8.toNat.inj (by show p[i].toNat = 47;omega)
   ·intro h;rw [h];rfl
  by_cases h47:p[i] = 47
  ·rw [if_pos h47] at hs
   have h47':=hc47.2 h47
   repeat' (first|refine qA ?_|(first|(apply VJ;apply QZ;(case hi=>rfl);(case hm=>rfl);(case hp=>exact hlt);(case ha=>exact ha);(case hN=>exact nle rfl))|(refine qbv ?_)|(refine yh ?_)|(refine yX ?_))|((first|refine jg ?_ ?_);all_goals (intro hc;have hp:=hc;try simp at hp;try (exfalso;omega)))|refine jh ?_ ?_)
   all_goals try (exfalso;first|omega|contradiction)
   refine ⟨p.length - (i + 1),_,by omega,qL (τ:=⟨[(0,.v (str p)),(3,.os 1 0 (je (p.take (i + 1))).length),(7,.op 0 0 0)],[(0,.mp (.sit p (i + 1))),(1,.own false 1 ((je (p.take (i + 1))).map q2))],2⟩) [(0,0),(2,1)] rfl ?gts ?ghs,i + 1,by omega,rfl,trivial,rfl⟩;(case gts=>(repeat (first|exact qi|refine qz ?_|refine xb ?_|refine yF ?_|refine xY ?_|refine yG ?_ ?_|refine ji ?_ ?_));all_goals (first|rfl|(rw [hPJ,hs];done)|(rw [hPJ,hs];first|rfl|(simp [q2];done)|(simp [q2,j0];done)|(rw [List.map_append,j0];rfl))|trace_state));(case ghs=>(repeat' (first|exact qq|refine q4 ?_|refine vd ?_|refine yU ?_ ?_ ?_|refine y8 ?_ ?_|refine jW ?_ ?_|refine j9 ?_ ?_ ?_ ?_|refine jC ?_ ?_|exact qg|apply qb|exact qf rfl|(apply qr;(first|exact qH rfl|exact .inr (List.mem_cons_self ..)|exact .inr (List.mem_cons_of_mem _ (List.mem_cons_self ..))|exact .inr (List.mem_cons_of_mem _ (List.mem_cons_of_mem _ (List.mem_cons_self ..)))|exact .inr (List.mem_cons_of_mem _ (List.mem_cons_of_mem _ (List.mem_cons_of_mem _ (List.mem_cons_self ..))))))|refine q3 ?_|refine yc ?_ rfl|with_reducible exact List.Perm.refl _));all_goals (first|rfl|(rw [hPJ,hs];done)|(rw [hPJ,hs];first|rfl|(simp [q2];done)|(simp [q2,j0];done)|(rw [List.map_append,j0];rfl))|trace_state))
  ·rw [if_neg h47] at hs
   have h47' : ¬ (p[i].toNat:Int) = 47:=fun h=>h47 (hc47.1 h)
   repeat' (first|refine qA ?_|(first|(apply VJ;apply QZ;(case hi=>rfl);(case hm=>rfl);(case hp=>exact hlt);(case ha=>exact ha);(case hN=>exact nle rfl))|(refine qbv ?_)|(refine yh ?_)|(refine yX ?_))|((first|refine jg ?_ ?_);all_goals (intro hc;have hp:=hc;try simp at hp;try (exfalso;omega)))|refine jh ?_ ?_)
   all_goals try (exfalso;first|omega|contradiction)
   refine ⟨p.length - (i + 1),_,by omega,qL (τ:=⟨[(0,.v (str p)),(3,.os 1 0 (je (p.take (i + 1))).length),(7,.op 0 0 0)],[(0,.mp (.sit p (i + 1))),(1,.own false 1 ((je (p.take (i + 1))).map q2))],2⟩) [(0,0),(1,1)] rfl ?gts ?ghs,i + 1,by omega,rfl,trivial,rfl⟩;(case gts=>(repeat (first|exact qi|refine qz ?_|refine xb ?_|refine yF ?_|refine xY ?_|refine yG ?_ ?_|refine ji ?_ ?_));all_goals (first|rfl|(rw [hPJ,hs];done)|(rw [hPJ,hs];first|rfl|(simp [q2];done)|(simp [q2,j0];done)|(rw [List.map_append,j0];rfl))|trace_state));(case ghs=>(repeat' (first|exact qq|refine q4 ?_|refine vd ?_|refine yU ?_ ?_ ?_|refine y8 ?_ ?_|refine jW ?_ ?_|refine j9 ?_ ?_ ?_ ?_|refine jC ?_ ?_|exact qg|apply qb|exact qf rfl|(apply qr;(first|exact qH rfl|exact .inr (List.mem_cons_self ..)|exact .inr (List.mem_cons_of_mem _ (List.mem_cons_self ..))|exact .inr (List.mem_cons_of_mem _ (List.mem_cons_of_mem _ (List.mem_cons_self ..)))|exact .inr (List.mem_cons_of_mem _ (List.mem_cons_of_mem _ (List.mem_cons_of_mem _ (List.mem_cons_self ..))))))|refine q3 ?_|refine yc ?_ rfl|with_reducible exact List.Perm.refl _));all_goals (first|rfl|(rw [hPJ,hs];done)|(rw [hPJ,hs];first|rfl|(simp [q2];done)|(simp [q2,j0];done)|(rw [List.map_append,j0];rfl))|trace_state))
 obtain rfl:i = p.length:=by omega
 rw [List.take_length] at *
 repeat' (first|refine qA ?_|(first|(apply qd;apply Vy;(case hi=>rfl);(case hm=>rfl);(case hp=>exact Nat.le_refl _);(case hN=>exact nle rfl)))|((first|refine jg ?_ ?_);all_goals (intro hc;have hp:=hc;try simp at hp;try (exfalso;omega)))|refine jh ?_ ?_)
 all_goals try (exfalso;omega)
 (apply jA (rs:=[.tmp 2]) [(1,0)] 1;(case hr=>(repeat (first|exact jm|(apply jl;rfl)|(apply q9;rfl;rfl;rfl;rfl;rfl))));(case hL=>rfl);(case hh=>(repeat' (first|exact qq|refine q4 ?_|refine vd ?_|refine yU ?_ ?_ ?_|refine y8 ?_ ?_|refine jW ?_ ?_|refine j9 ?_ ?_ ?_ ?_|refine jC ?_ ?_|exact qg|apply qb|exact qf rfl|(apply qr;(first|exact qH rfl|exact .inr (List.mem_cons_self ..)|exact .inr (List.mem_cons_of_mem _ (List.mem_cons_self ..))|exact .inr (List.mem_cons_of_mem _ (List.mem_cons_of_mem _ (List.mem_cons_self ..)))|exact .inr (List.mem_cons_of_mem _ (List.mem_cons_of_mem _ (List.mem_cons_of_mem _ (List.mem_cons_self ..))))))|refine q3 ?_|refine yc ?_ rfl|with_reducible exact List.Perm.refl _));all_goals (first|rfl|trace_state));(case hi=>exact rfl);(case hz=>first|rfl|(simp [j1,AV.ren,AV.ren.renL,jz,qN,jy];done)|(simp [j1,AV.ren,AV.ren.renL,jz,qN,jy, *];done)|trace_state))
end Go.Proofs.YtnhpclmbhbblbaaGreatDoor
set_option linter.unusedSimpArgs false
set_option linter.unnecessarySimpa false
set_option linter.unusedVariables false
set_option maxHeartbeats 1000000
namespace Go.Proofs.YtnhpclmbhbblbaaGreatDoor
open Go.Ab Go.RowKit
set_option maxRecDepth 10000
attribute [local irreducible] Awp j4 jw js Red qU Go.Ab.Fin q6 Rz x6 jp jo ResOk jJ ju yb jx
def Cpy.row (c:Cpy):List AV:=[.v (str c.path),.v (str c.at_)]
def xg (c k:Nat):List AV:=[.mp 1,.mp 2,.mp 3,.mp 4,.os c 0 k]
def H6 (B M T O:List Ent) (cs:List Cpy):List HB:=[.own false 5 [xg 5 cs.length],.mp (qm B),.mp (qm M),.mp (qm T),.mp (qm O),.own false 2 (cs.map Cpy.row)]
theorem Wm {b x y:Thg} {G:Thg × Thg → Prop} (h1:x = y → G (x,noT)) (h2:¬ x = y → x = b → G (y,noT)) (h3:¬ x = y → ¬ x = b → y = b → G (x,noT)) (h4:¬ x = y → ¬ x = b → ¬ y = b → x.kind = 1 → G (x,y))
  (h5:¬ x = y → ¬ x = b → ¬ y = b → ¬ x.kind = 1 → y.kind = 1 → G (y,x)) (h6:¬ x = y → ¬ x = b → ¬ y = b → ¬ x.kind = 1 → ¬ y.kind = 1 → x.kind = 2 → y.kind = 2 → G (y,x))
  (h7:¬ x = y → ¬ x = b → ¬ y = b → ¬ x.kind = 1 → ¬ y.kind = 1 → x.kind = 2 → ¬ y.kind = 2 → G (x,noT)) (h8:¬ x = y → ¬ x = b → ¬ y = b → ¬ x.kind = 1 → ¬ y.kind = 1 → ¬ x.kind = 2 → G (y,noT)):G (wo b x y):=by
 unfold wo
 by_cases k1:x = y
 ·rw [if_pos k1];exact h1 k1
 rw [if_neg k1]
 by_cases k2:x = b
 ·rw [if_pos k2];exact h2 k1 k2
 rw [if_neg k2]
 by_cases k3:y = b
 ·rw [if_pos k3];exact h3 k1 k2 k3
 rw [if_neg k3]
 by_cases k4:x.kind = 1
 ·rw [if_pos k4];exact h4 k1 k2 k3 k4
 rw [if_neg k4]
 by_cases k5:y.kind = 1
 ·rw [if_pos k5];exact h5 k1 k2 k3 k4 k5
 rw [if_neg k5]
 by_cases k6:x.kind = 2
 ·by_cases k7:y.kind = 2
  ·rw [if_pos ⟨k6,k7⟩];exact h6 k1 k2 k3 k4 k5 k6 k7
  ·rw [if_neg (fun h=>k7 h.2),if_pos k6];exact h7 k1 k2 k3 k4 k5 k6 k7
 ·rw [if_neg (fun h=>k6 h.1),if_neg k6];exact h8 k1 k2 k3 k4 k5 k6
set_option maxHeartbeats 4000000 in
theorem qb6 (B M T O:List Ent) (cs:List Cpy) (p:qJ):q6 C6.P 57 [.op 0 0 0,.v (str p)] (H6 B M T O cs) (.tup [yA (yW B M T p).1,yA (yW B M T p).2]) (H6 B M T O cs):=by
 have g1:=xG B p
 have g2:=xG M p
 have g3:=xG T p
 unfold yW
 generalize stT B p = b at *
 generalize stT M p = x at *
 generalize stT T p = y at *
 refine Wm (b:=b) (x:=x) (y:=y) (G:=fun r=>q6 C6.P 57 [.op 0 0 0,.v (str p)] (H6 B M T O cs) (.tup [yA r.1,yA r.2]) (H6 B M T O cs)) ?_ ?_ ?_ ?_ ?_ ?_ ?_ ?_
 ·intro k0
  have d0:decide (x = y) = true:=by simpa using k0
  refine qh (C:=C6) Tryz.func57 rfl _ Tryz.ntmps57 (Nat.le_of_ble_eq_true rfl) _ Tryz.results57 6 rfl rfl ?_
  repeat' (first|refine qA ?_|(first|(apply qd;apply jq;(case hm=>rfl);(case hn=>rfl);(case hk=>rfl);(case hT=>rfl);(case he=>rfl);(case hK=>rfl);(case hks=>rfl);(case hz=>exact qR);(case hzv=>exact jr);(case hx=>exact g1);(case hN=>exact nle rfl))|(apply qd;apply jq;(case hm=>rfl);(case hn=>rfl);(case hk=>rfl);(case hT=>rfl);(case he=>rfl);(case hK=>rfl);(case hks=>rfl);(case hz=>exact qR);(case hzv=>exact jr);(case hx=>exact g2);(case hN=>exact nle rfl))|(apply qd;apply jq;(case hm=>rfl);(case hn=>rfl);(case hk=>rfl);(case hT=>rfl);(case he=>rfl);(case hK=>rfl);(case hks=>rfl);(case hz=>exact qR);(case hzv=>exact jr);(case hx=>exact g3);(case hN=>exact nle rfl))|(apply qd;apply yQ;rfl;rfl;exact xO;exact yK _ _;(first|exact .inl ⟨rfl,rfl⟩|exact .inr ⟨rfl,rfl⟩);exact nle rfl))|((first|refine qk ?_ ?_|refine ql ?_ ?_|refine jg ?_ ?_);all_goals (intro hc;have hp:=hc;try simp at hp;try (exfalso;omega)))|refine jh ?_ ?_)
  (apply jA (rs:=[.cell 4 99,.cell 5 99]) [] 6;(case hr=>(repeat (first|exact jm|(apply jl;rfl)|(apply q9;rfl;rfl;rfl;rfl;rfl))));(case hL=>rfl);(case hh=>(repeat' (first|exact qq|refine q4 ?_|refine vd ?_|refine yU ?_ ?_ ?_|refine y8 ?_ ?_|refine jW ?_ ?_|refine j9 ?_ ?_ ?_ ?_|refine jC ?_ ?_|exact qg|apply qb|exact qf rfl|(apply qr;(first|exact qH rfl|exact .inr (List.mem_cons_self ..)|exact .inr (List.mem_cons_of_mem _ (List.mem_cons_self ..))|exact .inr (List.mem_cons_of_mem _ (List.mem_cons_of_mem _ (List.mem_cons_self ..)))|exact .inr (List.mem_cons_of_mem _ (List.mem_cons_of_mem _ (List.mem_cons_of_mem _ (List.mem_cons_self ..))))))|refine q3 ?_|refine yc ?_ rfl|with_reducible exact List.Perm.refl _));all_goals (first|exact qc _|rfl|exact List.Perm.refl _|trace_state));(case hi=>exact rfl);(case hz=>first|rfl|(simp [j1,AV.ren,AV.ren.renL,jz,qN,jy];done)|(simp [j1,AV.ren,AV.ren.renL,jz,qN,jy, *];done)|trace_state))
 ·intro k0 k1
  have d0:decide (x = y) = false:=by simpa using k0
  have d1:decide (x = b) = true:=by simpa using k1
  refine qh (C:=C6) Tryz.func57 rfl _ Tryz.ntmps57 (Nat.le_of_ble_eq_true rfl) _ Tryz.results57 6 rfl rfl ?_
  repeat' (first|refine qA ?_|(first|(apply qd;apply jq;(case hm=>rfl);(case hn=>rfl);(case hk=>rfl);(case hT=>rfl);(case he=>rfl);(case hK=>rfl);(case hks=>rfl);(case hz=>exact qR);(case hzv=>exact jr);(case hx=>exact g1);(case hN=>exact nle rfl))|(apply qd;apply jq;(case hm=>rfl);(case hn=>rfl);(case hk=>rfl);(case hT=>rfl);(case he=>rfl);(case hK=>rfl);(case hks=>rfl);(case hz=>exact qR);(case hzv=>exact jr);(case hx=>exact g2);(case hN=>exact nle rfl))|(apply qd;apply jq;(case hm=>rfl);(case hn=>rfl);(case hk=>rfl);(case hT=>rfl);(case he=>rfl);(case hK=>rfl);(case hks=>rfl);(case hz=>exact qR);(case hzv=>exact jr);(case hx=>exact g3);(case hN=>exact nle rfl))|(apply qd;apply yQ;rfl;rfl;exact xO;exact yK _ _;(first|exact .inl ⟨rfl,rfl⟩|exact .inr ⟨rfl,rfl⟩);exact nle rfl))|((first|refine qk ?_ ?_|refine ql ?_ ?_|refine jg ?_ ?_);all_goals (intro hc;have hp:=hc;try simp at hp;try (exfalso;omega)))|refine jh ?_ ?_)
  (apply jA (rs:=[.cell 4 99,.cell 5 99]) [] 6;(case hr=>(repeat (first|exact jm|(apply jl;rfl)|(apply q9;rfl;rfl;rfl;rfl;rfl))));(case hL=>rfl);(case hh=>(repeat' (first|exact qq|refine q4 ?_|refine vd ?_|refine yU ?_ ?_ ?_|refine y8 ?_ ?_|refine jW ?_ ?_|refine j9 ?_ ?_ ?_ ?_|refine jC ?_ ?_|exact qg|apply qb|exact qf rfl|(apply qr;(first|exact qH rfl|exact .inr (List.mem_cons_self ..)|exact .inr (List.mem_cons_of_mem _ (List.mem_cons_self ..))|exact .inr (List.mem_cons_of_mem _ (List.mem_cons_of_mem _ (List.mem_cons_self ..)))|exact .inr (List.mem_cons_of_mem _ (List.mem_cons_of_mem _ (List.mem_cons_of_mem _ (List.mem_cons_self ..))))))|refine q3 ?_|refine yc ?_ rfl|with_reducible exact List.Perm.refl _));all_goals (first|exact qc _|rfl|exact List.Perm.refl _|trace_state));(case hi=>exact rfl);(case hz=>first|rfl|(simp [j1,AV.ren,AV.ren.renL,jz,qN,jy];done)|(simp [j1,AV.ren,AV.ren.renL,jz,qN,jy, *];done)|trace_state))
 ·intro k0 k1 k2
  have d0:decide (x = y) = false:=by simpa using k0
  have d1:decide (x = b) = false:=by simpa using k1
  have d2:decide (y = b) = true:=by simpa using k2
  refine qh (C:=C6) Tryz.func57 rfl _ Tryz.ntmps57 (Nat.le_of_ble_eq_true rfl) _ Tryz.results57 6 rfl rfl ?_
  repeat' (first|refine qA ?_|(first|(apply qd;apply jq;(case hm=>rfl);(case hn=>rfl);(case hk=>rfl);(case hT=>rfl);(case he=>rfl);(case hK=>rfl);(case hks=>rfl);(case hz=>exact qR);(case hzv=>exact jr);(case hx=>exact g1);(case hN=>exact nle rfl))|(apply qd;apply jq;(case hm=>rfl);(case hn=>rfl);(case hk=>rfl);(case hT=>rfl);(case he=>rfl);(case hK=>rfl);(case hks=>rfl);(case hz=>exact qR);(case hzv=>exact jr);(case hx=>exact g2);(case hN=>exact nle rfl))|(apply qd;apply jq;(case hm=>rfl);(case hn=>rfl);(case hk=>rfl);(case hT=>rfl);(case he=>rfl);(case hK=>rfl);(case hks=>rfl);(case hz=>exact qR);(case hzv=>exact jr);(case hx=>exact g3);(case hN=>exact nle rfl))|(apply qd;apply yQ;rfl;rfl;exact xO;exact yK _ _;(first|exact .inl ⟨rfl,rfl⟩|exact .inr ⟨rfl,rfl⟩);exact nle rfl))|((first|refine qk ?_ ?_|refine ql ?_ ?_|refine jg ?_ ?_);all_goals (intro hc;have hp:=hc;try simp at hp;try (exfalso;omega)))|refine jh ?_ ?_)
  (apply jA (rs:=[.cell 4 99,.cell 5 99]) [] 6;(case hr=>(repeat (first|exact jm|(apply jl;rfl)|(apply q9;rfl;rfl;rfl;rfl;rfl))));(case hL=>rfl);(case hh=>(repeat' (first|exact qq|refine q4 ?_|refine vd ?_|refine yU ?_ ?_ ?_|refine y8 ?_ ?_|refine jW ?_ ?_|refine j9 ?_ ?_ ?_ ?_|refine jC ?_ ?_|exact qg|apply qb|exact qf rfl|(apply qr;(first|exact qH rfl|exact .inr (List.mem_cons_self ..)|exact .inr (List.mem_cons_of_mem _ (List.mem_cons_self ..))|exact .inr (List.mem_cons_of_mem _ (List.mem_cons_of_mem _ (List.mem_cons_self ..)))|exact .inr (List.mem_cons_of_mem _ (List.mem_cons_of_mem _ (List.mem_cons_of_mem _ (List.mem_cons_self ..))))))|refine q3 ?_|refine yc ?_ rfl|with_reducible exact List.Perm.refl _));all_goals (first|exact qc _|rfl|exact List.Perm.refl _|trace_state));(case hi=>exact rfl);(case hz=>first|rfl|(simp [j1,AV.ren,AV.ren.renL,jz,qN,jy];done)|(simp [j1,AV.ren,AV.ren.renL,jz,qN,jy, *];done)|trace_state))
 ·intro k0 k1 k2 k3
  have d0:decide (x = y) = false:=by simpa using k0
  have d1:decide (x = b) = false:=by simpa using k1
  have d2:decide (y = b) = false:=by simpa using k2
  have d3:decide (x.kind = 1) = true:=by simpa using k3
  refine qh (C:=C6) Tryz.func57 rfl _ Tryz.ntmps57 (Nat.le_of_ble_eq_true rfl) _ Tryz.results57 6 rfl rfl ?_
  repeat' (first|refine qA ?_|(first|(apply qd;apply jq;(case hm=>rfl);(case hn=>rfl);(case hk=>rfl);(case hT=>rfl);(case he=>rfl);(case hK=>rfl);(case hks=>rfl);(case hz=>exact qR);(case hzv=>exact jr);(case hx=>exact g1);(case hN=>exact nle rfl))|(apply qd;apply jq;(case hm=>rfl);(case hn=>rfl);(case hk=>rfl);(case hT=>rfl);(case he=>rfl);(case hK=>rfl);(case hks=>rfl);(case hz=>exact qR);(case hzv=>exact jr);(case hx=>exact g2);(case hN=>exact nle rfl))|(apply qd;apply jq;(case hm=>rfl);(case hn=>rfl);(case hk=>rfl);(case hT=>rfl);(case he=>rfl);(case hK=>rfl);(case hks=>rfl);(case hz=>exact qR);(case hzv=>exact jr);(case hx=>exact g3);(case hN=>exact nle rfl))|(apply qd;apply yQ;rfl;rfl;exact xO;exact yK _ _;(first|exact .inl ⟨rfl,rfl⟩|exact .inr ⟨rfl,rfl⟩);exact nle rfl))|((first|refine qk ?_ ?_|refine ql ?_ ?_|refine jg ?_ ?_);all_goals (intro hc;have hp:=hc;try simp at hp;try (exfalso;omega)))|refine jh ?_ ?_)
  (apply jA (rs:=[.cell 4 99,.cell 5 99]) [] 6;(case hr=>(repeat (first|exact jm|(apply jl;rfl)|(apply q9;rfl;rfl;rfl;rfl;rfl))));(case hL=>rfl);(case hh=>(repeat' (first|exact qq|refine q4 ?_|refine vd ?_|refine yU ?_ ?_ ?_|refine y8 ?_ ?_|refine jW ?_ ?_|refine j9 ?_ ?_ ?_ ?_|refine jC ?_ ?_|exact qg|apply qb|exact qf rfl|(apply qr;(first|exact qH rfl|exact .inr (List.mem_cons_self ..)|exact .inr (List.mem_cons_of_mem _ (List.mem_cons_self ..))|exact .inr (List.mem_cons_of_mem _ (List.mem_cons_of_mem _ (List.mem_cons_self ..)))|exact .inr (List.mem_cons_of_mem _ (List.mem_cons_of_mem _ (List.mem_cons_of_mem _ (List.mem_cons_self ..))))))|refine q3 ?_|refine yc ?_ rfl|with_reducible exact List.Perm.refl _));all_goals (first|exact qc _|rfl|exact List.Perm.refl _|trace_state));(case hi=>exact rfl);(case hz=>first|rfl|(simp [j1,AV.ren,AV.ren.renL,jz,qN,jy];done)|(simp [j1,AV.ren,AV.ren.renL,jz,qN,jy, *];done)|trace_state))
 ·intro k0 k1 k2 k3 k4
  have d0:decide (x = y) = false:=by simpa using k0
  have d1:decide (x = b) = false:=by simpa using k1
  have d2:decide (y = b) = false:=by simpa using k2
  have d3:decide (x.kind = 1) = false:=by simpa using k3
  have d4:decide (y.kind = 1) = true:=by simpa using k4
  refine qh (C:=C6) Tryz.func57 rfl _ Tryz.ntmps57 (Nat.le_of_ble_eq_true rfl) _ Tryz.results57 6 rfl rfl ?_
  repeat' (first|refine qA ?_|(first|(apply qd;apply jq;(case hm=>rfl);(case hn=>rfl);(case hk=>rfl);(case hT=>rfl);(case he=>rfl);(case hK=>rfl);(case hks=>rfl);(case hz=>exact qR);(case hzv=>exact jr);(case hx=>exact g1);(case hN=>exact nle rfl))|(apply qd;apply jq;(case hm=>rfl);(case hn=>rfl);(case hk=>rfl);(case hT=>rfl);(case he=>rfl);(case hK=>rfl);(case hks=>rfl);(case hz=>exact qR);(case hzv=>exact jr);(case hx=>exact g2);(case hN=>exact nle rfl))|(apply qd;apply jq;(case hm=>rfl);(case hn=>rfl);(case hk=>rfl);(case hT=>rfl);(case he=>rfl);(case hK=>rfl);(case hks=>rfl);(case hz=>exact qR);(case hzv=>exact jr);(case hx=>exact g3);(case hN=>exact nle rfl))|(apply qd;apply yQ;rfl;rfl;exact xO;exact yK _ _;(first|exact .inl ⟨rfl,rfl⟩|exact .inr ⟨rfl,rfl⟩);exact nle rfl))|((first|refine qk ?_ ?_|refine ql ?_ ?_|refine jg ?_ ?_);all_goals (intro hc;have hp:=hc;try simp at hp;try (exfalso;omega)))|refine jh ?_ ?_)
  (apply jA (rs:=[.cell 4 99,.cell 5 99]) [] 6;(case hr=>(repeat (first|exact jm|(apply jl;rfl)|(apply q9;rfl;rfl;rfl;rfl;rfl))));(case hL=>rfl);(case hh=>(repeat' (first|exact qq|refine q4 ?_|refine vd ?_|refine yU ?_ ?_ ?_|refine y8 ?_ ?_|refine jW ?_ ?_|refine j9 ?_ ?_ ?_ ?_|refine jC ?_ ?_|exact qg|apply qb|exact qf rfl|(apply qr;(first|exact qH rfl|exact .inr (List.mem_cons_self ..)|exact .inr (List.mem_cons_of_mem _ (List.mem_cons_self ..))|exact .inr (List.mem_cons_of_mem _ (List.mem_cons_of_mem _ (List.mem_cons_self ..)))|exact .inr (List.mem_cons_of_mem _ (List.mem_cons_of_mem _ (List.mem_cons_of_mem _ (List.mem_cons_self ..))))))|refine q3 ?_|refine yc ?_ rfl|with_reducible exact List.Perm.refl _));all_goals (first|exact qc _|rfl|exact List.Perm.refl _|trace_state));(case hi=>exact rfl);(case hz=>first|rfl|(simp [j1,AV.ren,AV.ren.renL,jz,qN,jy];done)|(simp [j1,AV.ren,AV.ren.renL,jz,qN,jy, *];done)|trace_state))
 ·intro k0 k1 k2 k3 k4 k5 k6
  have d0:decide (x = y) = false:=by simpa using k0
  have d1:decide (x = b) = false:=by simpa using k1
  have d2:decide (y = b) = false:=by simpa using k2
  have d3:decide (x.kind = 1) = false:=by simpa using k3
  have d4:decide (y.kind = 1) = false:=by simpa using k4
  have d5:decide (x.kind = 2) = true:=by simpa using k5
  have d6:decide (y.kind = 2) = true:=by simpa using k6
  refine qh (C:=C6) Tryz.func57 rfl _ Tryz.ntmps57 (Nat.le_of_ble_eq_true rfl) _ Tryz.results57 6 rfl rfl ?_
  repeat' (first|refine qA ?_|(first|(apply qd;apply jq;(case hm=>rfl);(case hn=>rfl);(case hk=>rfl);(case hT=>rfl);(case he=>rfl);(case hK=>rfl);(case hks=>rfl);(case hz=>exact qR);(case hzv=>exact jr);(case hx=>exact g1);(case hN=>exact nle rfl))|(apply qd;apply jq;(case hm=>rfl);(case hn=>rfl);(case hk=>rfl);(case hT=>rfl);(case he=>rfl);(case hK=>rfl);(case hks=>rfl);(case hz=>exact qR);(case hzv=>exact jr);(case hx=>exact g2);(case hN=>exact nle rfl))|(apply qd;apply jq;(case hm=>rfl);(case hn=>rfl);(case hk=>rfl);(case hT=>rfl);(case he=>rfl);(case hK=>rfl);(case hks=>rfl);(case hz=>exact qR);(case hzv=>exact jr);(case hx=>exact g3);(case hN=>exact nle rfl))|(apply qd;apply yQ;rfl;rfl;exact xO;exact yK _ _;(first|exact .inl ⟨rfl,rfl⟩|exact .inr ⟨rfl,rfl⟩);exact nle rfl))|((first|refine qk ?_ ?_|refine ql ?_ ?_|refine jg ?_ ?_);all_goals (intro hc;have hp:=hc;try simp at hp;try (exfalso;omega)))|refine jh ?_ ?_)
  (apply jA (rs:=[.cell 4 99,.cell 5 99]) [] 6;(case hr=>(repeat (first|exact jm|(apply jl;rfl)|(apply q9;rfl;rfl;rfl;rfl;rfl))));(case hL=>rfl);(case hh=>(repeat' (first|exact qq|refine q4 ?_|refine vd ?_|refine yU ?_ ?_ ?_|refine y8 ?_ ?_|refine jW ?_ ?_|refine j9 ?_ ?_ ?_ ?_|refine jC ?_ ?_|exact qg|apply qb|exact qf rfl|(apply qr;(first|exact qH rfl|exact .inr (List.mem_cons_self ..)|exact .inr (List.mem_cons_of_mem _ (List.mem_cons_self ..))|exact .inr (List.mem_cons_of_mem _ (List.mem_cons_of_mem _ (List.mem_cons_self ..)))|exact .inr (List.mem_cons_of_mem _ (List.mem_cons_of_mem _ (List.mem_cons_of_mem _ (List.mem_cons_self ..))))))|refine q3 ?_|refine yc ?_ rfl|with_reducible exact List.Perm.refl _));all_goals (first|exact qc _|rfl|exact List.Perm.refl _|trace_state));(case hi=>exact rfl);(case hz=>first|rfl|(simp [j1,AV.ren,AV.ren.renL,jz,qN,jy];done)|(simp [j1,AV.ren,AV.ren.renL,jz,qN,jy, *];done)|trace_state))
 ·intro k0 k1 k2 k3 k4 k5 k6
  have d0:decide (x = y) = false:=by simpa using k0
  have d1:decide (x = b) = false:=by simpa using k1
  have d2:decide (y = b) = false:=by simpa using k2
  have d3:decide (x.kind = 1) = false:=by simpa using k3
  have d4:decide (y.kind = 1) = false:=by simpa using k4
  have d5:decide (x.kind = 2) = true:=by simpa using k5
  have d6:decide (y.kind = 2) = false:=by simpa using k6
  refine qh (C:=C6) Tryz.func57 rfl _ Tryz.ntmps57 (Nat.le_of_ble_eq_true rfl) _ Tryz.results57 6 rfl rfl ?_
  repeat' (first|refine qA ?_|(first|(apply qd;apply jq;(case hm=>rfl);(case hn=>rfl);(case hk=>rfl);(case hT=>rfl);(case he=>rfl);(case hK=>rfl);(case hks=>rfl);(case hz=>exact qR);(case hzv=>exact jr);(case hx=>exact g1);(case hN=>exact nle rfl))|(apply qd;apply jq;(case hm=>rfl);(case hn=>rfl);(case hk=>rfl);(case hT=>rfl);(case he=>rfl);(case hK=>rfl);(case hks=>rfl);(case hz=>exact qR);(case hzv=>exact jr);(case hx=>exact g2);(case hN=>exact nle rfl))|(apply qd;apply jq;(case hm=>rfl);(case hn=>rfl);(case hk=>rfl);(case hT=>rfl);(case he=>rfl);(case hK=>rfl);(case hks=>rfl);(case hz=>exact qR);(case hzv=>exact jr);(case hx=>exact g3);(case hN=>exact nle rfl))|(apply qd;apply yQ;rfl;rfl;exact xO;exact yK _ _;(first|exact .inl ⟨rfl,rfl⟩|exact .inr ⟨rfl,rfl⟩);exact nle rfl))|((first|refine qk ?_ ?_|refine ql ?_ ?_|refine jg ?_ ?_);all_goals (intro hc;have hp:=hc;try simp at hp;try (exfalso;omega)))|refine jh ?_ ?_)
  (apply jA (rs:=[.cell 4 99,.cell 5 99]) [] 6;(case hr=>(repeat (first|exact jm|(apply jl;rfl)|(apply q9;rfl;rfl;rfl;rfl;rfl))));(case hL=>rfl);(case hh=>(repeat' (first|exact qq|refine q4 ?_|refine vd ?_|refine yU ?_ ?_ ?_|refine y8 ?_ ?_|refine jW ?_ ?_|refine j9 ?_ ?_ ?_ ?_|refine jC ?_ ?_|exact qg|apply qb|exact qf rfl|(apply qr;(first|exact qH rfl|exact .inr (List.mem_cons_self ..)|exact .inr (List.mem_cons_of_mem _ (List.mem_cons_self ..))|exact .inr (List.mem_cons_of_mem _ (List.mem_cons_of_mem _ (List.mem_cons_self ..)))|exact .inr (List.mem_cons_of_mem _ (List.mem_cons_of_mem _ (List.mem_cons_of_mem _ (List.mem_cons_self ..))))))|refine q3 ?_|refine yc ?_ rfl|with_reducible exact List.Perm.refl _));all_goals (first|exact qc _|rfl|exact List.Perm.refl _|trace_state));(case hi=>exact rfl);(case hz=>first|rfl|(simp [j1,AV.ren,AV.ren.renL,jz,qN,jy];done)|(simp [j1,AV.ren,AV.ren.renL,jz,qN,jy, *];done)|trace_state))
 ·intro k0 k1 k2 k3 k4 k5
  have d0:decide (x = y) = false:=by simpa using k0
  have d1:decide (x = b) = false:=by simpa using k1
  have d2:decide (y = b) = false:=by simpa using k2
  have d3:decide (x.kind = 1) = false:=by simpa using k3
  have d4:decide (y.kind = 1) = false:=by simpa using k4
  have d5:decide (x.kind = 2) = false:=by simpa using k5
  refine qh (C:=C6) Tryz.func57 rfl _ Tryz.ntmps57 (Nat.le_of_ble_eq_true rfl) _ Tryz.results57 6 rfl rfl ?_
  repeat' (first|refine qA ?_|(first|(apply qd;apply jq;(case hm=>rfl);(case hn=>rfl);(case hk=>rfl);(case hT=>rfl);(case he=>rfl);(case hK=>rfl);(case hks=>rfl);(case hz=>exact qR);(case hzv=>exact jr);(case hx=>exact g1);(case hN=>exact nle rfl))|(apply qd;apply jq;(case hm=>rfl);(case hn=>rfl);(case hk=>rfl);(case hT=>rfl);(case he=>rfl);(case hK=>rfl);(case hks=>rfl);(case hz=>exact qR);(case hzv=>exact jr);(case hx=>exact g2);(case hN=>exact nle rfl))|(apply qd;apply jq;(case hm=>rfl);(case hn=>rfl);(case hk=>rfl);(case hT=>rfl);(case he=>rfl);(case hK=>rfl);(case hks=>rfl);(case hz=>exact qR);(case hzv=>exact jr);(case hx=>exact g3);(case hN=>exact nle rfl))|(apply qd;apply yQ;rfl;rfl;exact xO;exact yK _ _;(first|exact .inl ⟨rfl,rfl⟩|exact .inr ⟨rfl,rfl⟩);exact nle rfl))|((first|refine qk ?_ ?_|refine ql ?_ ?_|refine jg ?_ ?_);all_goals (intro hc;have hp:=hc;try simp at hp;try (exfalso;omega)))|refine jh ?_ ?_)
  (apply jA (rs:=[.cell 4 99,.cell 5 99]) [] 6;(case hr=>(repeat (first|exact jm|(apply jl;rfl)|(apply q9;rfl;rfl;rfl;rfl;rfl))));(case hL=>rfl);(case hh=>(repeat' (first|exact qq|refine q4 ?_|refine vd ?_|refine yU ?_ ?_ ?_|refine y8 ?_ ?_|refine jW ?_ ?_|refine j9 ?_ ?_ ?_ ?_|refine jC ?_ ?_|exact qg|apply qb|exact qf rfl|(apply qr;(first|exact qH rfl|exact .inr (List.mem_cons_self ..)|exact .inr (List.mem_cons_of_mem _ (List.mem_cons_self ..))|exact .inr (List.mem_cons_of_mem _ (List.mem_cons_of_mem _ (List.mem_cons_self ..)))|exact .inr (List.mem_cons_of_mem _ (List.mem_cons_of_mem _ (List.mem_cons_of_mem _ (List.mem_cons_self ..))))))|refine q3 ?_|refine yc ?_ rfl|with_reducible exact List.Perm.refl _));all_goals (first|exact qc _|rfl|exact List.Perm.refl _|trace_state));(case hi=>exact rfl);(case hz=>first|rfl|(simp [j1,AV.ren,AV.ren.renL,jz,qN,jy];done)|(simp [j1,AV.ren,AV.ren.renL,jz,qN,jy, *];done)|trace_state))
end Go.Proofs.YtnhpclmbhbblbaaGreatDoor
set_option linter.unusedSimpArgs false
set_option linter.unnecessarySimpa false
set_option linter.unusedVariables false
set_option maxHeartbeats 1000000
namespace Go.Proofs.YtnhpclmbhbblbaaGreatDoor
open Go.Ab Go.RowKit
set_option maxRecDepth 10000
attribute [local irreducible] Awp j4 jw js Red qU Go.Ab.Fin q6 Rz x6 jp jo ResOk jJ ju yb jx
def H7 (B M T O:List Ent) (cs:List Cpy):List HB:=[.own false 5 [xg 6 cs.length],.mp (qm B),.mp (qm M),.mp (qm T),.mp (qm O),.dead,.own false 2 (cs.map Cpy.row)]
theorem ze {t:List Ent} {p:qJ}:(stT t p).kind = 0 ↔ yJ t p = false:=by
 rw [Xm,Yz]
 cases q5 t p<;>simp
theorem Jn {m t o:List Ent} {p:qJ} {k n:Nat}:yS m t o p (k + 1) n = if xw p (n:Int) = 0 then (if wy m t o (jK p (n:Int)) = true then some (jK p (n:Int)) else yS m t o p k (n + 1)) else none:=rfl
theorem Jh {p:qJ} {n:Nat} (hp:qE p = 0) (h1:1 ≤ n) (h2:n ≤ 99):xd p (n:Int) = xw p (n:Int):=by
 unfold xd
 rw [if_pos hp,if_neg (by omega)]
theorem Yu (p:qJ) (n:Int):xw p n = 0 ∨ xw p n = 2:=by
 unfold xw
 split
 ·exact .inr rfl
 ·split
  ·exact .inr rfl
  ·exact .inl rfl
set_option maxHeartbeats 8000000 in
theorem Yv (B M T O:List Ent) (cs:List Cpy) (p x:qJ) (hp:qE p = 0) (hR:yS M T O p 99 1 = none) (hc:cs.length ≤ 1000000):q6 C6.P 59 [.op 0 0 0,.v (str p),yA ⟨2,x⟩] (H6 B M T O cs) (.v (.bool false)) (H6 B M T O cs):=by
 have hpl:=jD hp
 refine qh (C:=C6) Tryz.func59 rfl _ Tryz.ntmps59 (Nat.le_of_ble_eq_true rfl) _ Tryz.results59 6 rfl rfl ?_
 repeat' (first|refine qA ?_|(first|fail)|((first|refine qk ?_ ?_|refine ql ?_ ?_|refine jg ?_ ?_);all_goals (intro hc;have hp:=hc;try simp at hp;try (exfalso;omega)))|refine jh ?_ ?_)
 all_goals try (exfalso;omega)
 (refine Awp.red (qL (τ:=⟨[(0,.op 0 0 0),(1,.v (str p)),(5,.op 6 0 0),(7,.v (.int .i64 (1:Int)))],[(0,.own false 5 [xg 5 cs.length]),(1,.mp (qm B)),(2,.mp (qm M)),(3,.mp (qm T)),(4,.mp (qm O)),(5,.own false 2 (cs.map Cpy.row)),(6,.own false 2 [[.v (.int .i64 2),.v (str x)]])],7⟩) [(6,6)] rfl ?gts2 ?ghs2) ?_;(case gts2=>(repeat (first|exact qi|refine qz ?_|refine xb ?_|refine yF ?_|refine xY ?_|refine yG ?_ ?_|refine ji ?_ ?_));all_goals (first|exact qc _|rfl|trace_state));(case ghs2=>(repeat' (first|exact qq|refine q4 ?_|refine vd ?_|refine yU ?_ ?_ ?_|refine y8 ?_ ?_|refine jW ?_ ?_|refine j9 ?_ ?_ ?_ ?_|refine jC ?_ ?_|exact qg|apply qb|exact qf rfl|(apply qr;(first|exact qH rfl|exact .inr (List.mem_cons_self ..)|exact .inr (List.mem_cons_of_mem _ (List.mem_cons_self ..))|exact .inr (List.mem_cons_of_mem _ (List.mem_cons_of_mem _ (List.mem_cons_self ..)))|exact .inr (List.mem_cons_of_mem _ (List.mem_cons_of_mem _ (List.mem_cons_of_mem _ (List.mem_cons_self ..))))))|refine q3 ?_|refine yc ?_ rfl|with_reducible exact List.Perm.refl _));all_goals (first|exact qc _|rfl|trace_state)))
 refine jf (fun n σ => ∃ i:Nat,i ≤ 99 ∧ n = 99 - i ∧ yS M T O p (99 - i) (i + 1) = none ∧ σ = ⟨[(0,.op 0 0 0),(1,.v (str p)),(5,.op 6 0 0),(7,.v (.int .i64 ((i:Int) + 1)))],[(0,.own false 5 [xg 5 cs.length]),(1,.mp (qm B)),(2,.mp (qm M)),(3,.mp (qm T)),(4,.mp (qm O)),(5,.own false 2 (cs.map Cpy.row)),(6,.own false 2 [[.v (.int .i64 2),.v (str x)]])],7⟩) 99 ⟨0,by omega,rfl,hR,rfl⟩ ?_
 rintro n σ ⟨i,hi,rfl,hsofar,rfl⟩
 by_cases hlt:i < 99
 ·rw [show 99 - i = (99 - (i + 1)) + 1 from by omega,Jn] at hsofar
  have has:=Z2 p ((i:Int) + 1) (by omega)
  have he:=Jh (n:=i + 1) hp (by omega) (by omega)
  rw [show ((i + 1:Nat):Int) = (i:Int) + 1 from by omega] at he hsofar
  rw [he] at has
  have htwo:=Yu p ((i:Int) + 1)
  generalize xw p ((i:Int) + 1) = E at *
  generalize jK p ((i:Int) + 1) = Q at *
  have g1:=xG M Q
  have g2:=xG T Q
  have g3:=xG O Q
  have k1 := @ze M Q
  have k2 := @ze T Q
  have k3 := @ze O Q
  have hfr:wy M T O Q = (!yJ M Q && !yJ T Q && !yJ O Q):=rfl
  generalize stT M Q = a at *
  generalize stT T Q = b at *
  generalize stT O Q = c at *
  generalize yJ M Q = A at *
  generalize yJ T Q = B2 at *
  generalize yJ O Q = D at *
  rcases htwo with rfl|rfl
  ·rw [if_pos rfl] at hsofar
   have hns:¬ wy M T O Q = true:=fun h=>by rw [if_pos h] at hsofar;cases hsofar
   rw [if_neg hns] at hsofar
   rw [hfr] at hns
   repeat' (first|refine qA ?_|(first|refine jM Tryz.func88 (has ..) ?_|(apply qd;apply jq;(case hm=>rfl);(case hn=>rfl);(case hk=>rfl);(case hT=>rfl);(case he=>rfl);(case hK=>rfl);(case hks=>rfl);(case hz=>exact qR);(case hzv=>exact jr);(case hx=>exact g1);(case hN=>exact nle rfl))|(apply qd;apply jq;(case hm=>rfl);(case hn=>rfl);(case hk=>rfl);(case hT=>rfl);(case he=>rfl);(case hK=>rfl);(case hks=>rfl);(case hz=>exact qR);(case hzv=>exact jr);(case hx=>exact g2);(case hN=>exact nle rfl))|(apply qd;apply jq;(case hm=>rfl);(case hn=>rfl);(case hk=>rfl);(case hT=>rfl);(case he=>rfl);(case hK=>rfl);(case hks=>rfl);(case hz=>exact qR);(case hzv=>exact jr);(case hx=>exact g3);(case hN=>exact nle rfl)))|((first|refine qk ?_ ?_|refine ql ?_ ?_|refine jg ?_ ?_);all_goals (intro hc;have hp:=hc;try simp at hp;try (exfalso;omega)))|refine jh ?_ ?_)
   all_goals try (exfalso;first|omega|contradiction|(simp_all;done))
   all_goals (refine ⟨99 - (i + 1),_,by omega,qL (τ:=⟨[(0,.op 0 0 0),(1,.v (str p)),(5,.op 6 0 0),(7,.v (.int .i64 (((i + 1:Nat):Int) + 1)))],[(0,.own false 5 [xg 5 cs.length]),(1,.mp (qm B)),(2,.mp (qm M)),(3,.mp (qm T)),(4,.mp (qm O)),(5,.own false 2 (cs.map Cpy.row)),(6,.own false 2 [[.v (.int .i64 2),.v (str x)]])],7⟩) [(6,6)] rfl ?gts ?ghs,i + 1,by omega,rfl,hsofar,rfl⟩;(case gts=>(repeat (first|exact qi|refine qz ?_|refine xb ?_|refine yF ?_|refine xY ?_|refine yG ?_ ?_|refine ji ?_ ?_));all_goals (first|exact qc _|rfl|(congr 2;omega)|(congr 1;congr 1;omega)|trace_state));(case ghs=>(repeat' (first|exact qq|refine q4 ?_|refine vd ?_|refine yU ?_ ?_ ?_|refine y8 ?_ ?_|refine jW ?_ ?_|refine j9 ?_ ?_ ?_ ?_|refine jC ?_ ?_|exact qg|apply qb|exact qf rfl|(apply qr;(first|exact qH rfl|exact .inr (List.mem_cons_self ..)|exact .inr (List.mem_cons_of_mem _ (List.mem_cons_self ..))|exact .inr (List.mem_cons_of_mem _ (List.mem_cons_of_mem _ (List.mem_cons_self ..)))|exact .inr (List.mem_cons_of_mem _ (List.mem_cons_of_mem _ (List.mem_cons_of_mem _ (List.mem_cons_self ..))))))|refine q3 ?_|refine yc ?_ rfl|with_reducible exact List.Perm.refl _));all_goals (first|exact qc _|rfl|(congr 2;omega)|(congr 1;congr 1;omega)|trace_state)))
  ·repeat' (first|refine qA ?_|(first|refine jM Tryz.func88 (has ..) ?_)|((first|refine qk ?_ ?_|refine ql ?_ ?_|refine jg ?_ ?_);all_goals (intro hc;have hp:=hc;try simp at hp;try (exfalso;omega)))|refine jh ?_ ?_)
   all_goals try (exfalso;first|omega|contradiction)
   all_goals ((apply jA (rs:=[.tmp 6]) [] 6;(case hr=>(repeat (first|exact jm|(apply jl;rfl)|(apply q9;rfl;rfl;rfl;rfl;rfl))));(case hL=>rfl);(case hh=>(repeat' (first|exact qq|refine q4 ?_|refine vd ?_|refine yU ?_ ?_ ?_|refine y8 ?_ ?_|refine jW ?_ ?_|refine j9 ?_ ?_ ?_ ?_|refine jC ?_ ?_|exact qg|apply qb|exact qf rfl|(apply qr;(first|exact qH rfl|exact .inr (List.mem_cons_self ..)|exact .inr (List.mem_cons_of_mem _ (List.mem_cons_self ..))|exact .inr (List.mem_cons_of_mem _ (List.mem_cons_of_mem _ (List.mem_cons_self ..)))|exact .inr (List.mem_cons_of_mem _ (List.mem_cons_of_mem _ (List.mem_cons_of_mem _ (List.mem_cons_self ..))))))|refine q3 ?_|refine yc ?_ rfl|with_reducible exact List.Perm.refl _));all_goals (first|exact qc _|rfl|trace_state));(case hi=>exact rfl);(case hz=>first|rfl|(simp [j1,AV.ren,AV.ren.renL,jz,qN,jy];done)|(simp [j1,AV.ren,AV.ren.renL,jz,qN,jy, *];done)|trace_state)))
 ·obtain rfl:i = 99:=by omega
  repeat' (first|refine qA ?_|(first|fail)|((first|refine qk ?_ ?_|refine ql ?_ ?_|refine jg ?_ ?_);all_goals (intro hc;have hp:=hc;try simp at hp;try (exfalso;omega)))|refine jh ?_ ?_)
  all_goals try (exfalso;omega)
  all_goals ((apply jA (rs:=[.tmp 6]) [] 6;(case hr=>(repeat (first|exact jm|(apply jl;rfl)|(apply q9;rfl;rfl;rfl;rfl;rfl))));(case hL=>rfl);(case hh=>(repeat' (first|exact qq|refine q4 ?_|refine vd ?_|refine yU ?_ ?_ ?_|refine y8 ?_ ?_|refine jW ?_ ?_|refine j9 ?_ ?_ ?_ ?_|refine jC ?_ ?_|exact qg|apply qb|exact qf rfl|(apply qr;(first|exact qH rfl|exact .inr (List.mem_cons_self ..)|exact .inr (List.mem_cons_of_mem _ (List.mem_cons_self ..))|exact .inr (List.mem_cons_of_mem _ (List.mem_cons_of_mem _ (List.mem_cons_self ..)))|exact .inr (List.mem_cons_of_mem _ (List.mem_cons_of_mem _ (List.mem_cons_of_mem _ (List.mem_cons_self ..))))))|refine q3 ?_|refine yc ?_ rfl|with_reducible exact List.Perm.refl _));all_goals (first|exact qc _|rfl|trace_state));(case hi=>exact rfl);(case hz=>first|rfl|(simp [j1,AV.ren,AV.ren.renL,jz,qN,jy];done)|(simp [j1,AV.ren,AV.ren.renL,jz,qN,jy, *];done)|trace_state)))
set_option maxHeartbeats 8000000 in
theorem Q6 (B M T O:List Ent) (cs:List Cpy) (p x q:qJ) (hp:qE p = 0) (hR:yS M T O p 99 1 = some q) (hO:qY jn O = true) (hc:cs.length ≤ 1000000):q6 C6.P 59 [.op 0 0 0,.v (str p),yA ⟨2,x⟩] (H6 B M T O cs) (.v (.bool true)) (H7 B M T (jX O ⟨q,false,x,1⟩) (cs ++ [⟨p,q⟩])):=by
 have hpl:=jD hp
 refine qh (C:=C6) Tryz.func59 rfl _ Tryz.ntmps59 (Nat.le_of_ble_eq_true rfl) _ Tryz.results59 6 rfl rfl ?_
 repeat' (first|refine qA ?_|(first|fail)|((first|refine qk ?_ ?_|refine ql ?_ ?_|refine jg ?_ ?_);all_goals (intro hc;have hp:=hc;try simp at hp;try (exfalso;omega)))|refine jh ?_ ?_)
 all_goals try (exfalso;omega)
 (refine Awp.red (qL (τ:=⟨[(0,.op 0 0 0),(1,.v (str p)),(5,.op 6 0 0),(7,.v (.int .i64 (1:Int)))],[(0,.own false 5 [xg 5 cs.length]),(1,.mp (qm B)),(2,.mp (qm M)),(3,.mp (qm T)),(4,.mp (qm O)),(5,.own false 2 (cs.map Cpy.row)),(6,.own false 2 [[.v (.int .i64 2),.v (str x)]])],7⟩) [(6,6)] rfl ?gts2 ?ghs2) ?_;(case gts2=>(repeat (first|exact qi|refine qz ?_|refine xb ?_|refine yF ?_|refine xY ?_|refine yG ?_ ?_|refine ji ?_ ?_));all_goals (first|exact qc _|rfl|trace_state));(case ghs2=>(repeat' (first|exact qq|refine q4 ?_|refine vd ?_|refine yU ?_ ?_ ?_|refine y8 ?_ ?_|refine jW ?_ ?_|refine j9 ?_ ?_ ?_ ?_|refine jC ?_ ?_|exact qg|apply qb|exact qf rfl|(apply qr;(first|exact qH rfl|exact .inr (List.mem_cons_self ..)|exact .inr (List.mem_cons_of_mem _ (List.mem_cons_self ..))|exact .inr (List.mem_cons_of_mem _ (List.mem_cons_of_mem _ (List.mem_cons_self ..)))|exact .inr (List.mem_cons_of_mem _ (List.mem_cons_of_mem _ (List.mem_cons_of_mem _ (List.mem_cons_self ..))))))|refine q3 ?_|refine yc ?_ rfl|with_reducible exact List.Perm.refl _));all_goals (first|exact qc _|rfl|trace_state)))
 refine jf (fun n σ => ∃ i:Nat,i ≤ 99 ∧ n = 99 - i ∧ yS M T O p (99 - i) (i + 1) = some q ∧ σ = ⟨[(0,.op 0 0 0),(1,.v (str p)),(5,.op 6 0 0),(7,.v (.int .i64 ((i:Int) + 1)))],[(0,.own false 5 [xg 5 cs.length]),(1,.mp (qm B)),(2,.mp (qm M)),(3,.mp (qm T)),(4,.mp (qm O)),(5,.own false 2 (cs.map Cpy.row)),(6,.own false 2 [[.v (.int .i64 2),.v (str x)]])],7⟩) 99 ⟨0,by omega,rfl,hR,rfl⟩ ?_
 rintro n σ ⟨i,hi,rfl,hsofar,rfl⟩
 by_cases hlt:i < 99
 ·rw [show 99 - i = (99 - (i + 1)) + 1 from by omega,Jn] at hsofar
  have has:=Z2 p ((i:Int) + 1) (by omega)
  have he:=Jh (n:=i + 1) hp (by omega) (by omega)
  rw [show ((i + 1:Nat):Int) = (i:Int) + 1 from by omega] at he hsofar
  rw [he] at has
  have htwo:=Yu p ((i:Int) + 1)
  generalize xw p ((i:Int) + 1) = E at *
  generalize jK p ((i:Int) + 1) = Q at *
  have g1:=xG M Q
  have g2:=xG T Q
  have g3:=xG O Q
  have k1 := @ze M Q
  have k2 := @ze T Q
  have k3 := @ze O Q
  have hfr:wy M T O Q = (!yJ M Q && !yJ T Q && !yJ O Q):=rfl
  generalize stT M Q = a at *
  generalize stT T Q = b at *
  generalize stT O Q = c at *
  generalize yJ M Q = A at *
  generalize yJ T Q = B2 at *
  generalize yJ O Q = D at *
  rcases htwo with rfl|rfl
  ·rw [if_pos rfl] at hsofar
   by_cases hns:wy M T O Q = true
   ·rw [if_pos hns] at hsofar
    injection hsofar with hsofar
    subst hsofar
    rw [hfr] at hns
    have d1:decide (a.kind = 0) = true:=by simp_all
    have d2:decide (b.kind = 0) = true:=by simp_all
    have d3:decide (c.kind = 0) = true:=by simp_all
    have hpu:=J2 (e:=⟨Q,false,x,1⟩) hO
    repeat' (first|refine qA ?_|(first|refine jM Tryz.func88 (has ..) ?_|(apply qd;apply jq;(case hm=>rfl);(case hn=>rfl);(case hk=>rfl);(case hT=>rfl);(case he=>rfl);(case hK=>rfl);(case hks=>rfl);(case hz=>exact qR);(case hzv=>exact jr);(case hx=>exact g1);(case hN=>exact nle rfl))|(apply qd;apply jq;(case hm=>rfl);(case hn=>rfl);(case hk=>rfl);(case hT=>rfl);(case he=>rfl);(case hK=>rfl);(case hks=>rfl);(case hz=>exact qR);(case hzv=>exact jr);(case hx=>exact g2);(case hN=>exact nle rfl))|(apply qd;apply jq;(case hm=>rfl);(case hn=>rfl);(case hk=>rfl);(case hT=>rfl);(case he=>rfl);(case hK=>rfl);(case hks=>rfl);(case hz=>exact qR);(case hzv=>exact jr);(case hx=>exact g3);(case hN=>exact nle rfl))|(apply jS;apply yr;rfl;rfl;rfl;rfl;rfl;rfl;rfl;rfl)|(refine yh ?_)|(refine yX ?_))|((first|refine qk ?_ ?_|refine ql ?_ ?_|refine jg ?_ ?_);all_goals (intro hc;have hp:=hc;try simp at hp;try (exfalso;omega)))|refine jh ?_ ?_)
    all_goals try (exfalso;first|omega|contradiction)
    all_goals ((apply jA (rs:=[.tmp 6]) [(7,6)] 7;(case hr=>(repeat (first|exact jm|(apply jl;rfl)|(apply q9;rfl;rfl;rfl;rfl;rfl))));(case hL=>rfl);(case hh=>(repeat' (first|exact qq|refine q4 ?_|refine vd ?_|refine yU ?_ ?_ ?_|refine y8 ?_ ?_|refine jW ?_ ?_|refine j9 ?_ ?_ ?_ ?_|refine jC ?_ ?_|exact qg|apply qb|exact qf rfl|(apply qr;(first|exact qH rfl|exact .inr (List.mem_cons_self ..)|exact .inr (List.mem_cons_of_mem _ (List.mem_cons_self ..))|exact .inr (List.mem_cons_of_mem _ (List.mem_cons_of_mem _ (List.mem_cons_self ..)))|exact .inr (List.mem_cons_of_mem _ (List.mem_cons_of_mem _ (List.mem_cons_of_mem _ (List.mem_cons_self ..))))))|refine q3 ?_|refine yc ?_ rfl|with_reducible exact List.Perm.refl _));all_goals (first|exact qc _|exact hpu|rfl|(rw [List.map_append,j0];rfl)|(simp [j0];done)|trace_state));(case hi=>exact rfl);(case hz=>first|rfl|(simp [j1,AV.ren,AV.ren.renL,jz,qN,jy];done)|(simp [j1,AV.ren,AV.ren.renL,jz,qN,jy, *];done)|trace_state)))
   ·rw [if_neg hns] at hsofar
    rw [hfr] at hns
    repeat' (first|refine qA ?_|(first|refine jM Tryz.func88 (has ..) ?_|(apply qd;apply jq;(case hm=>rfl);(case hn=>rfl);(case hk=>rfl);(case hT=>rfl);(case he=>rfl);(case hK=>rfl);(case hks=>rfl);(case hz=>exact qR);(case hzv=>exact jr);(case hx=>exact g1);(case hN=>exact nle rfl))|(apply qd;apply jq;(case hm=>rfl);(case hn=>rfl);(case hk=>rfl);(case hT=>rfl);(case he=>rfl);(case hK=>rfl);(case hks=>rfl);(case hz=>exact qR);(case hzv=>exact jr);(case hx=>exact g2);(case hN=>exact nle rfl))|(apply qd;apply jq;(case hm=>rfl);(case hn=>rfl);(case hk=>rfl);(case hT=>rfl);(case he=>rfl);(case hK=>rfl);(case hks=>rfl);(case hz=>exact qR);(case hzv=>exact jr);(case hx=>exact g3);(case hN=>exact nle rfl))|(apply jS;apply yr;rfl;rfl;rfl;rfl;rfl;rfl;rfl;rfl)|(refine yh ?_)|(refine yX ?_))|((first|refine qk ?_ ?_|refine ql ?_ ?_|refine jg ?_ ?_);all_goals (intro hc;have hp:=hc;try simp at hp;try (exfalso;omega)))|refine jh ?_ ?_)
    all_goals try (exfalso;first|omega|contradiction|(simp_all;done))
    all_goals (refine ⟨99 - (i + 1),_,by omega,qL (τ:=⟨[(0,.op 0 0 0),(1,.v (str p)),(5,.op 6 0 0),(7,.v (.int .i64 (((i + 1:Nat):Int) + 1)))],[(0,.own false 5 [xg 5 cs.length]),(1,.mp (qm B)),(2,.mp (qm M)),(3,.mp (qm T)),(4,.mp (qm O)),(5,.own false 2 (cs.map Cpy.row)),(6,.own false 2 [[.v (.int .i64 2),.v (str x)]])],7⟩) [(6,6)] rfl ?gts ?ghs,i + 1,by omega,rfl,hsofar,rfl⟩;(case gts=>(repeat (first|exact qi|refine qz ?_|refine xb ?_|refine yF ?_|refine xY ?_|refine yG ?_ ?_|refine ji ?_ ?_));all_goals (first|exact qc _|rfl|(congr 2;omega)|(congr 1;congr 1;omega)|trace_state));(case ghs=>(repeat' (first|exact qq|refine q4 ?_|refine vd ?_|refine yU ?_ ?_ ?_|refine y8 ?_ ?_|refine jW ?_ ?_|refine j9 ?_ ?_ ?_ ?_|refine jC ?_ ?_|exact qg|apply qb|exact qf rfl|(apply qr;(first|exact qH rfl|exact .inr (List.mem_cons_self ..)|exact .inr (List.mem_cons_of_mem _ (List.mem_cons_self ..))|exact .inr (List.mem_cons_of_mem _ (List.mem_cons_of_mem _ (List.mem_cons_self ..)))|exact .inr (List.mem_cons_of_mem _ (List.mem_cons_of_mem _ (List.mem_cons_of_mem _ (List.mem_cons_self ..))))))|refine q3 ?_|refine yc ?_ rfl|with_reducible exact List.Perm.refl _));all_goals (first|exact qc _|rfl|(congr 2;omega)|(congr 1;congr 1;omega)|trace_state)))
  ·rw [if_neg (by decide)] at hsofar;cases hsofar
 ·obtain rfl:i = 99:=by omega
  cases hsofar
end Go.Proofs.YtnhpclmbhbblbaaGreatDoor
set_option linter.unusedSimpArgs false
set_option linter.unnecessarySimpa false
set_option linter.unusedVariables false
namespace Go.Proofs.YtnhpclmbhbblbaaGreatDoor
open Go.Ab Go.RowKit
set_option maxRecDepth 10000
attribute [local irreducible] Awp j4 jw js Red qU Go.Ab.Fin q6 Rz x6 jp jo ResOk jJ ju yb jx
def xF (l:List (qJ × qJ)):List (List UInt8 × AV):=l.map fun g=>(g.1,yA ⟨2,g.2⟩)
theorem qo (l:List (qJ × qJ)) : ∀ e,e ∈ xF l → e.2.pure = true:=fun e he=>by
 obtain ⟨x,_,rfl⟩:=List.mem_map.1 he;rfl
theorem wQ (l:List (qJ × qJ)):(xF l).map (·.1) = l.map (·.1):=by unfold xF;rw [List.map_map];rfl
theorem Yp {b m t:List Ent} {P:List qJ} {i:Nat} (h:i < P.length):jO b m t (P.take (i + 1)) = jO b m t (P.take i) ++ (if (yW b m t P[i]).2.kind = 2 then [(P[i],(yW b m t P[i]).2.text)] else []):=by
 unfold jO
 rw [List.take_succ_eq_append_getElem h,List.filterMap_append]
 congr 1
 by_cases hk:(yW b m t P[i]).2.kind = 2<;>simp [hk]
theorem KF {b m t:List Ent} {P:List qJ} : ∀ g,g ∈ jO b m t P → g.1 ∈ P:=fun g hg=>by
 obtain ⟨p,h1,h2⟩:=List.mem_filterMap.1 hg
 split at h2
 ·injection h2 with h2;subst h2;exact h1
 ·cases h2
theorem Xb {b m t:List Ent} {P:List qJ} {i:Nat} (h:i < P.length):yC b m t (P.take (i + 1)) = zo (yC b m t (P.take i)) P[i] (yW b m t P[i]).1:=by
 unfold yC
 rw [List.take_succ_eq_append_getElem h,List.foldl_append];rfl
theorem Wq {b m t:List Ent} {P:List qJ} (hP:P.Nodup) {i:Nat} (h:i < P.length):P[i] ∉ (jO b m t (P.take i)).map (·.1):=fun hm=>by
 obtain ⟨g,hg,he⟩:=List.mem_map.1 hm
 have h1:=KF g hg
 rw [he] at h1
 obtain ⟨j,hj,h2⟩:=List.getElem_of_mem h1
 rw [List.getElem_take] at h2
 have hj' : j < i:=by simp at hj;omega
 have:=(List.getElem_inj (h₀:=by omega) (h₁:=h) hP (i:=j) (j:=i)).1 h2
 omega
theorem qa8 {b m t:List Ent} {P:List qJ} (hP:P.Nodup) {i:Nat} (h:i < P.length):q5 (yC b m t (P.take i)) P[i] = none:=by
 have:=(k9 b m t (P:=P.take i) (o:=[]) rfl).2 P[i]
 show q5 (List.foldl _ [] _) _ = _
 rw [this,if_neg]
 ·rfl
 ·rintro ⟨hm,_⟩
  obtain ⟨j,hj,h2⟩:=List.getElem_of_mem hm
  rw [List.getElem_take] at h2
  have hj' : j < i:=by simp at hj;omega
  have:=(List.getElem_inj (h₀:=by omega) (h₁:=h) hP (i:=j) (j:=i)).1 h2
  omega
theorem Wc {o:List Ent} {p:qJ} {x:Thg} (h:qY jn o = true) (hg:v7 x) (hn:q5 o p = none):(if x.kind = 0 then yB (qm o) p else j7 (qm o) p (yA x)).Perm (qm (zo o p x)):=by
 unfold zo
 split
 ·rw [vQ]
  rw [x7]
  intro hm
  obtain ⟨e,he,hp⟩:=List.mem_map.1 hm
  exact wc.1 hn e he hp
 ·rename_i h0
  exact KZ h hg h0
theorem KM (l:List (List UInt8 × AV)) (p:qJ) (x:Thg) (hp : ∀ e,e ∈ l → e.2.pure = true) : ∀ e,e ∈ (if x.kind = 0 then yB l p else j7 l p (yA x)) → e.2.pure = true:=by
 split
 ·intro e he;exact hp e (List.mem_filter.1 he).1
 ·intro e he
  unfold j7 at he
  split at he
  ·rcases List.mem_or_eq_of_mem_set he with h|rfl
   ·exact hp e h
   ·rfl
  ·rcases List.mem_append.1 he with h|h
   ·exact hp e h
   ·rw [List.mem_singleton.1 h];rfl
noncomputable def C5:Cx := { C with nh:=5 }
def H5 (B M T:List Ent):List HB:=[.own false 5 [[.mp 1,.mp 2,.mp 3,.mp 4,.sl true []]],.mp (qm B),.mp (qm M),.mp (qm T),.mp (qm [])]
def vB (b m t:List Ent):Nat → List qJ
 | 0 => []
 | 1=>(b.map Ent.path).foldl vf []
 | 2=>(m.map Ent.path).foldl vf ((b.map Ent.path).foldl vf [])
 | _=>(t.map Ent.path).foldl vf ((m.map Ent.path).foldl vf ((b.map Ent.path).foldl vf []))
theorem QR (b m t:List Ent):vB b m t 3 = xX b m t:=by
 unfold vB xX
 rw [List.map_append,List.map_append,List.foldl_append,List.foldl_append]
 rfl
theorem zM : ∀ (L l:List qJ),(L.foldl vf l).length ≤ L.length + l.length
 | [],l=>by simp
 | a :: L,l=>by
   have h1:=zM L (vf l a)
   have h2:(vf l a).length ≤ l.length + 1:=by
    unfold vf
    split
    ·omega
    ·have h3:=(List.takeWhile_sublist (fun x=>Op.bytesLess x a) (l:=l)).length_le
     have h4:(l.takeWhile (fun x=>Op.bytesLess x a) ++ l.dropWhile (fun x=>Op.bytesLess x a)).length = l.length:=by rw [List.takeWhile_append_dropWhile]
     rw [List.length_append] at h4
     rw [List.length_append,List.length_cons, ← h4]
     exact Nat.le_of_eq (by rw [Nat.add_assoc])
   simp only [List.foldl_cons,List.length_cons]
   omega
theorem j9 {L:List (Nat × Nat)} {nh:Nat} {σ:St} {n n' : Nat} {ex ex' : Bool} {k:Nat} {r1 r2 r3 s1 s2 s3:List AV} {l:List (Nat × HB)} (h1:ju L nh r1 s1) (h2:ju L nh r2 s2) (h3:ju L nh r3 s3) (hl:xr L nh σ l) (hm:Maps L nh n n':=by (first|exact qH rfl|exact .inr (List.mem_cons_self ..)|exact .inr (List.mem_cons_of_mem _ (List.mem_cons_self ..))|exact .inr (List.mem_cons_of_mem _ (List.mem_cons_of_mem _ (List.mem_cons_self ..)))|exact .inr (List.mem_cons_of_mem _ (List.mem_cons_of_mem _ (List.mem_cons_of_mem _ (List.mem_cons_self ..)))))) (hx:ja σ.hs n = .own ex k [r1,r2,r3]:=by rfl) (he:ex' = true → ex = true:=by first|exact id|exact nofun):xr L nh σ ((n',.own ex' k [s1,s2,s3]) :: l) :=
 zK hm hx he (xn h1 (xn h2 (xn h3 vv))) hl
end Go.Proofs.YtnhpclmbhbblbaaGreatDoor
