import Derived.Test.YtnhpclmbhbblbaaGreatDoorMz29
import Derived.Test.YtnhpclmbhbblbaaGreatDoorMz30
import Derived.Test.YtnhpclmbhbblbaaGreatDoorMz15
import Derived.Shelf.AbstractIn
set_option linter.unusedSimpArgs false
set_option linter.unnecessarySimpa false
set_option linter.unusedVariables false
namespace Go.Proofs
open Go.RowKit Go.Maps Go.Sort Go.Shelf
theorem Tryz.sortsT (m:Nat):AnyZ.SortsIn Tryz.prog Tryz.sortedT_ren Fence.wide m :=
 ⟨fun blk off cap ss W hH hblk hsz=>callsIn_wide.2 (AnyM.slices_Sort_string Tryz.sortT blk off cap ss W hH hblk hsz),
  fun p cap W=>callsIn_wide.2 (AnyM.slices_Sort_string_none Tryz.sortT p cap W)⟩
set_option maxHeartbeats 1000000 in
theorem Tryz.paths_raw {H:Type} (b nn:Nat) (D0:DataW H) (R:Value → Option (DataW H × List MemPlace)) (w:World) (hown:w.ownsMap Tryz.prog 9 R b nn D0) (hmax:Maps.size D0 ≤ maxLen) (hbytes:Maps.size D0 * 16 ≤ 140737488355328) :
  Calls Tryz.prog 25 #[.map (some b)] w fun e w' => ∃ (v:Value) (ss:List (List UInt8)),e = .returned v ∧ ss.Perm (strKeys D0) ∧
   w'.ownsRow w.heap.size 9 1 v ss.length ((ss.mergeSort (fun x y=>decide (x ≤ y))).map encStr) ∧ (v = .slice none 0 0 ↔ ss = []) ∧ Below w.heap.size w w':=by
 refine (callsIn_wide (n:=6)).1 ?_
 have hbl:=hown.lt
 have hseq:SeqGives Fence.wide 2 Tryz.prog 91 #[.pointer (some ⟨w.heap.size,0,none⟩)] encStr (fun ss=>ss.Perm (strKeys D0)) (Maps.size D0) (w.alloc (.cells #[.map (some b)] 52)) :=
  AnyZ.keys_gives (ρ:=Tryz.keysT_ren) { Tryz.keysT with } Fence.wide _ trivial rfl (by omega) w.heap.size b nn D0 _ (by simp) (by simp) (by
   obtain ⟨es,clock,hb,Ft,hs,hD⟩:=hown
   exact ⟨es,clock,(Below.heap_alloc _ _ b hbl).trans hb,Ft,hs,hD⟩)
 have cK : ∀ mb W,CallsIn Fence.wide 5 Tryz.prog 62 #[.map mb] W fun e w'=>e = .returned (.func (.func 91) #[] #[.pointer (some ⟨W.heap.size,0,none⟩)]) ∧ w' = W.alloc (.cells #[.map mb] 52):=fun mb W=>AnyZ.keys_in Tryz.keysT Fence.wide 5 trivial rfl mb W
 have cS:=AnyZ.sorted_in Tryz.sortedT Fence.wide 5 trivial trivial trivial trivial rfl (by omega) (Tryz.sortsT _) (enters_of Tryz.func90 (by kernel_rfl) rfl) 91 #[.pointer (some ⟨w.heap.size,0,none⟩)] trivial (enters_of Tryz.func91 (by kernel_rfl) rfl) _ _ hmax hbytes _ hseq
 change CallsIn _ _ Tryz.prog 61 _ _ _ at cS
 have hfK:Fence.wide.fn 62:=trivial
 have hfS:Fence.wide.fn 61:=trivial
 refine callsIn_of_wp Tryz.func25 rfl trivial ?_ rfl
 simp only [Tryz.ntmps25,List.size_toArray,List.length_cons,List.length_nil,Nat.reduceAdd,Nat.reduceSub,Array.replicate_succ,Array.replicate_zero,List.push_toArray,List.append_toArray,List.nil_append,List.cons_append]
 gi_wp2_with (first
  | (gi_at_call 62;refine (cK _ _).mono ?_;rintro e w' ⟨rfl,rfl⟩)
  | (gi_at_call 61;refine cS.mono ?_;rintro e w' ⟨v,ss,rfl,hS,hrow,hnil,hb⟩))
 go_ret
 exact ⟨v,ss,rfl,hS,ownsRow_base_a hrow (by simp),hnil,((Below.refl _ w).alloc (Nat.le_refl _) _).trans (hb.mono (by simp))⟩
end Go.Proofs
namespace Go.Proofs.YtnhpclmbhbblbaaGreatDoor
open Go.Ab Go.RowKit
set_option maxRecDepth 10000
attribute [local irreducible] Awp yl jE jl Red qX Go.Ab.Fin qW Rz vl jj ji ResOk jV jz yb jv
theorem VY : ∀ {a b:List UInt8},(a ≤ b) ↔ ¬ Op.bytesLess b a = true:=by
 have key : ∀ (a b:List UInt8),Op.bytesLess a b = true ↔ a < b:=by
  intro a
  induction a with
  | nil=>intro b;cases b<;>simp [Op.bytesLess]
  | cons x a ih =>
    intro b
    cases b with
    | nil=>simp [Op.bytesLess]
    | cons y b =>
      simp only [Op.bytesLess,Bool.or_eq_true,Bool.and_eq_true,decide_eq_true_eq,beq_iff_eq,List.cons_lt_cons_iff,ih]
 intro a b
 rw [key,List.not_lt]
theorem qbm {l:List qQ} (hn:l.Nodup):Ql (l.mergeSort leB):=by
 have h1:=List.pairwise_mergeSort (le:=leB) (fun a b c hab hbc=>by
  simp only [decide_eq_true_eq,VY] at *
  intro h
  rcases w4 b c with h2|h2|h2
  ·exact hab (ky h2.1 h)
  ·rw [h2.1] at hab;exact hab h
  ·exact hbc h2.1) (fun a b=>by
  simp only [Bool.or_eq_true,decide_eq_true_eq,VY]
  rcases w4 a b with h2|h2|h2
  ·exact .inl (by simp [h2.2.1])
  ·exact .inl (by simp [h2.2.2])
  ·exact .inr (by simp [h2.2.1])) l
 have h2:=(List.mergeSort_perm l leB).nodup_iff.2 hn
 refine (h1.and h2).imp fun {a b} ⟨h3,h4⟩=>?_
 simp only [decide_eq_true_eq,VY] at h3
 rcases w4 a b with h5|h5|h5
 ·exact h5.1
 ·exact absurd h5.1 h4
 ·exact absurd h5.1 h3
theorem qc5 {l s:List qQ} (hn:l.Nodup) (hs:Ql s) (hm : ∀ x,x ∈ l ↔ x ∈ s):l.mergeSort leB = s :=
 qap (qbm hn) hs fun x=>by rw [(List.mergeSort_perm l leB).mem_iff,hm]
theorem vY {s:List qQ} (h:Ql s):s.Nodup:=h.imp fun {a b} hab e=>by rw [e,zj] at hab;cases hab
theorem Kf {t:List Ent} (h:q4 jr t = true):Ql (t.map Ent.path):=by
 unfold Ql;rw [List.pairwise_map];exact xB.1 h
theorem X6 (l:List (List UInt8 × AV)) (s:List qQ) (hs:Ql s) (hp:(l.map (·.1)).Perm s) (hl:s.length ≤ 1000000) (hk : ∀ x,x ∈ s → x.length ≤ 1000000) :
  qW C1.P 25 [.mp 0] [.mp l] (.os 1 0 s.length) [.mp l,.own false 1 (s.map jo)]:=by
 have hlen:l.length = s.length:=by rw [← hp.length_eq,List.length_map]
 have h:=qaK (P:=C1.P) (f:=25) (k:=9) Tryz.underlying9 (l:=l) (by omega) (fun x hx=>hk x.1 (hp.mem_iff.1 (List.mem_map.2 ⟨x,hx,rfl⟩))) (fun b nn D0 w h1 h2 h3=>Tryz.paths_raw b nn D0 vb w h1 h2 h3)
 rw [qc5 (hp.nodup_iff.2 (vY hs)) hs (fun x=>hp.mem_iff),hlen] at h
 exact h
end Go.Proofs.YtnhpclmbhbblbaaGreatDoor
set_option linter.unusedSimpArgs false
set_option linter.unnecessarySimpa false
set_option linter.unusedVariables false
set_option maxHeartbeats 1000000
namespace Go.Proofs.YtnhpclmbhbblbaaGreatDoor
open Go.Ab Go.RowKit
set_option maxRecDepth 10000
attribute [local irreducible] Awp yl jE jl Red qX Go.Ab.Fin qW Rz vl jj ji ResOk jV jz yb jv
theorem KO (s:qQ):jC (s ++ [47]) = jC s ++ [s]:=by
 have h1:=JY s
 have hp:=List.length_pos_iff.2 (xo s)
 apply List.ext_getElem
 ·rw [yz,List.length_append,yz,h1,List.length_append];simp;omega
 ·intro i h2 h3
  rw [vD h2]
  rw [yz,h1,List.length_append] at h2
  simp only [List.length_cons,List.length_nil] at h2
  rw [h1,List.take_append_of_le_length (by omega)]
  rw [List.getElem_append]
  split
  ·rename_i h4
   rw [vD h4]
  ·rename_i h4
   rw [yz] at h4
   have:i + 1 = (qo s).length:=by omega
   rw [this,List.take_length,yQ]
   simp
theorem KN {c:UInt8} (h:¬ c = 47) (s:qQ):jC (s ++ [c]) = jC s:=by
 have h1:=YQ h s
 have hp:=List.length_pos_iff.2 (xo s)
 have hl:(qo (s ++ [c])).length = (qo s).length:=by rw [h1,List.length_append,List.length_dropLast];simp;omega
 apply List.ext_getElem
 ·rw [yz,yz,hl]
 ·intro i h2 h3
  rw [vD h2,vD h3]
  rw [yz] at h3
  rw [h1,List.take_append_of_le_length (by rw [List.length_dropLast];omega),List.dropLast_eq_take,List.take_take,Nat.min_eq_left (by omega)]
theorem qac {p:qQ} {i:Nat} (h:i < p.length):jC (p.take (i + 1)) = if p[i] = 47 then jC (p.take i) ++ [p.take i] else jC (p.take i):=by
 rw [List.take_succ_eq_append_getElem h]
 split
 ·rename_i e;rw [e,KO]
 ·rename_i e;rw [KN e]
theorem qba (p:qQ):(jC p).length ≤ p.length:=by
 rw [yz,wW]
 have:=List.count_le_length (a:=(47:UInt8)) (l:=p)
 omega
theorem qbc {p:qQ} (h:qy p = 0) : ∀ c,c ∈ p → c.toNat < 128:=by
 have h1:=(xy.1 h).1
 intro c hc
 have key : ∀ (l:List qQ),(∀ n,n ∈ l → ∀ c,c ∈ n → c.toNat < 128) → ∀ c,c ∈ yF l → c.toNat < 128:=by
  intro l
  induction l with
  | nil=>intro _ c hc;cases hc
  | cons n l ih =>
    intro h c hc
    cases l with
    | nil=>exact h n (by simp) c hc
    | cons m l =>
      rw [zm (by simp)] at hc
      rcases List.mem_append.1 hc with h2|h2
      ·exact h n (by simp) c h2
      ·rcases List.mem_cons.1 h2 with rfl|h2
       ·decide
       ·exact ih (fun n' hn'=>h n' (by simp [hn'])) c h2
 rw [← yQ p] at hc
 refine key _ (fun n hn c hc=>?_) c hc
 have h2:=(QG.1 (h1 n hn)).2.2.2.2.2.2 c hc
 simp [Zs] at h2
 omega
theorem qca (p:qQ) (hp:qy p = 0):qW C.P 60 [.v (str p)] [] (.os 0 0 (jC p).length) [.own false 1 ((jC p).map jo)]:=by
 have hpl:=qV hp
 have hasc:=qbc hp
 refine qa Tryz.func60 rfl _ Tryz.ntmps60 (Nat.le_of_ble_eq_true rfl) _ Tryz.results60 0 rfl rfl ?_
 repeat' (first|refine qm ?_|(first|(apply xq;apply KA;(case hx=>rfl);(case hT=>rfl);(case hs=>rfl);(case hN=>exact nle rfl)))|((first|refine xsC ?_ ?_);all_goals (intro hc;have hp:=hc;try simp at hp;try (exfalso;omega)))|refine qO ?_ ?_)
 all_goals try (exfalso;omega)
 refine Awp.red (vX 3 1 rfl (Nat.zero_le _)) ?_
 (refine Awp.red (qC (τ:=⟨[(0,.v (str p)),(3,.os 1 0 0),(7,.op 0 0 0)],[(0,.mp (.sit p 0)),(1,.own false 1 [])],2⟩) [(0,0),(1,1)] rfl ?gts2 ?ghs2) ?_;(case gts2=>(repeat (first|exact qg|refine qn ?_|refine ye ?_|refine xr ?_|refine ze ?_|refine xw ?_ ?_|refine qS ?_ ?_));all_goals (first|rfl|trace_state));(case ghs2=>(repeat' (first|exact qj|refine jt ?_|refine zz ?_|refine xY ?_ ?_ ?_|refine vh ?_ ?_|refine yH ?_ ?_|refine y9 ?_ ?_ ?_ ?_|refine q9 ?_ ?_|exact ql|apply qh|exact qk rfl|(apply qw;(first|exact qJ rfl|exact .inr (List.mem_cons_self ..)|exact .inr (List.mem_cons_of_mem _ (List.mem_cons_self ..))|exact .inr (List.mem_cons_of_mem _ (List.mem_cons_of_mem _ (List.mem_cons_self ..)))|exact .inr (List.mem_cons_of_mem _ (List.mem_cons_of_mem _ (List.mem_cons_of_mem _ (List.mem_cons_self ..))))))|refine jn ?_|refine yR ?_ rfl|with_reducible exact List.Perm.refl _));all_goals (first|rfl|trace_state)))
 refine qP (fun n σ => ∃ i:Nat,i ≤ p.length ∧ n = p.length - i ∧ (True) ∧ σ = ⟨[(0,.v (str p)),(3,.os 1 0 (jC (p.take i)).length),(7,.op 0 0 0)],[(0,.mp (.sit p i)),(1,.own false 1 ((jC (p.take i)).map jo))],2⟩) p.length ⟨0,Nat.zero_le _,rfl,trivial,rfl⟩ ?_
 rintro n σ ⟨i,hi,rfl, -,rfl⟩
 have hfew:(jC (p.take i)).length ≤ p.length:=by have:=qba (p.take i);rw [List.length_take] at this;omega
 by_cases hlt:i < p.length
 ·have hs:=qac hlt
  have ha:=hasc p[i] (List.getElem_mem _)
  have hpt:(p.drop 0).take i = p.take i:=rfl
  generalize hPI:jC (p.take i) = PI at *
  generalize hPJ:jC (p.take (i + 1)) = PJ at *
  have hc47:(p[i].toNat:Int) = 47 ↔ p[i] = 47:=by
   constructor
   ·intro h;exact UInt8.toNat.inj (by show p[i].toNat = 47;omega)
   ·intro h;rw [h];rfl
  by_cases h47:p[i] = 47
  ·rw [if_pos h47] at hs
   have h47':=hc47.2 h47
   repeat' (first|refine qm ?_|(first|(apply Jh;apply XM;(case hi=>rfl);(case hm=>rfl);(case hp=>exact hlt);(case ha=>exact ha);(case hN=>exact nle rfl))|(refine qga ?_)|(refine jM ?_)|(refine yg ?_))|((first|refine xsC ?_ ?_);all_goals (intro hc;have hp:=hc;try simp at hp;try (exfalso;omega)))|refine qO ?_ ?_)
   all_goals try (exfalso;first|omega|contradiction)
   refine ⟨p.length - (i + 1),_,by omega,qC (τ:=⟨[(0,.v (str p)),(3,.os 1 0 (jC (p.take (i + 1))).length),(7,.op 0 0 0)],[(0,.mp (.sit p (i + 1))),(1,.own false 1 ((jC (p.take (i + 1))).map jo))],2⟩) [(0,0),(2,1)] rfl ?gts ?ghs,i + 1,by omega,rfl,trivial,rfl⟩;(case gts=>(repeat (first|exact qg|refine qn ?_|refine ye ?_|refine xr ?_|refine ze ?_|refine xw ?_ ?_|refine qS ?_ ?_));all_goals (first|rfl|(rw [hPJ,hs];done)|(rw [hPJ,hs];first|rfl|(simp [jo];done)|(simp [jo,yN];done)|(rw [List.map_append,yN];rfl))|trace_state));(case ghs=>(repeat' (first|exact qj|refine jt ?_|refine zz ?_|refine xY ?_ ?_ ?_|refine vh ?_ ?_|refine yH ?_ ?_|refine y9 ?_ ?_ ?_ ?_|refine q9 ?_ ?_|exact ql|apply qh|exact qk rfl|(apply qw;(first|exact qJ rfl|exact .inr (List.mem_cons_self ..)|exact .inr (List.mem_cons_of_mem _ (List.mem_cons_self ..))|exact .inr (List.mem_cons_of_mem _ (List.mem_cons_of_mem _ (List.mem_cons_self ..)))|exact .inr (List.mem_cons_of_mem _ (List.mem_cons_of_mem _ (List.mem_cons_of_mem _ (List.mem_cons_self ..))))))|refine jn ?_|refine yR ?_ rfl|with_reducible exact List.Perm.refl _));all_goals (first|rfl|(rw [hPJ,hs];done)|(rw [hPJ,hs];first|rfl|(simp [jo];done)|(simp [jo,yN];done)|(rw [List.map_append,yN];rfl))|trace_state))
  ·rw [if_neg h47] at hs
   have h47' : ¬ (p[i].toNat:Int) = 47:=fun h=>h47 (hc47.1 h)
   repeat' (first|refine qm ?_|(first|(apply Jh;apply XM;(case hi=>rfl);(case hm=>rfl);(case hp=>exact hlt);(case ha=>exact ha);(case hN=>exact nle rfl))|(refine qga ?_)|(refine jM ?_)|(refine yg ?_))|((first|refine xsC ?_ ?_);all_goals (intro hc;have hp:=hc;try simp at hp;try (exfalso;omega)))|refine qO ?_ ?_)
   all_goals try (exfalso;first|omega|contradiction)
   refine ⟨p.length - (i + 1),_,by omega,qC (τ:=⟨[(0,.v (str p)),(3,.os 1 0 (jC (p.take (i + 1))).length),(7,.op 0 0 0)],[(0,.mp (.sit p (i + 1))),(1,.own false 1 ((jC (p.take (i + 1))).map jo))],2⟩) [(0,0),(1,1)] rfl ?gts ?ghs,i + 1,by omega,rfl,trivial,rfl⟩;(case gts=>(repeat (first|exact qg|refine qn ?_|refine ye ?_|refine xr ?_|refine ze ?_|refine xw ?_ ?_|refine qS ?_ ?_));all_goals (first|rfl|(rw [hPJ,hs];done)|(rw [hPJ,hs];first|rfl|(simp [jo];done)|(simp [jo,yN];done)|(rw [List.map_append,yN];rfl))|trace_state));(case ghs=>(repeat' (first|exact qj|refine jt ?_|refine zz ?_|refine xY ?_ ?_ ?_|refine vh ?_ ?_|refine yH ?_ ?_|refine y9 ?_ ?_ ?_ ?_|refine q9 ?_ ?_|exact ql|apply qh|exact qk rfl|(apply qw;(first|exact qJ rfl|exact .inr (List.mem_cons_self ..)|exact .inr (List.mem_cons_of_mem _ (List.mem_cons_self ..))|exact .inr (List.mem_cons_of_mem _ (List.mem_cons_of_mem _ (List.mem_cons_self ..)))|exact .inr (List.mem_cons_of_mem _ (List.mem_cons_of_mem _ (List.mem_cons_of_mem _ (List.mem_cons_self ..))))))|refine jn ?_|refine yR ?_ rfl|with_reducible exact List.Perm.refl _));all_goals (first|rfl|(rw [hPJ,hs];done)|(rw [hPJ,hs];first|rfl|(simp [jo];done)|(simp [jo,yN];done)|(rw [List.map_append,yN];rfl))|trace_state))
 obtain rfl:i = p.length:=by omega
 rw [List.take_length] at *
 repeat' (first|refine qm ?_|(first|(apply qf;apply WF;(case hi=>rfl);(case hm=>rfl);(case hp=>exact Nat.le_refl _);(case hN=>exact nle rfl)))|((first|refine xsC ?_ ?_);all_goals (intro hc;have hp:=hc;try simp at hp;try (exfalso;omega)))|refine qO ?_ ?_)
 all_goals try (exfalso;omega)
 (apply jH (rs:=[.tmp 2]) [(1,0)] 1;(case hr=>(repeat (first|exact jp|(apply jq;rfl)|(apply jg;rfl;rfl;rfl;rfl;rfl))));(case hL=>rfl);(case hh=>(repeat' (first|exact qj|refine jt ?_|refine zz ?_|refine xY ?_ ?_ ?_|refine vh ?_ ?_|refine yH ?_ ?_|refine y9 ?_ ?_ ?_ ?_|refine q9 ?_ ?_|exact ql|apply qh|exact qk rfl|(apply qw;(first|exact qJ rfl|exact .inr (List.mem_cons_self ..)|exact .inr (List.mem_cons_of_mem _ (List.mem_cons_self ..))|exact .inr (List.mem_cons_of_mem _ (List.mem_cons_of_mem _ (List.mem_cons_self ..)))|exact .inr (List.mem_cons_of_mem _ (List.mem_cons_of_mem _ (List.mem_cons_of_mem _ (List.mem_cons_self ..))))))|refine jn ?_|refine yR ?_ rfl|with_reducible exact List.Perm.refl _));all_goals (first|rfl|trace_state));(case hi=>exact rfl);(case hz=>first|rfl|(simp [j6,AV.ren,AV.ren.renL,jD,qR,jA];done)|(simp [j6,AV.ren,AV.ren.renL,jD,qR,jA, *];done)|trace_state))
end Go.Proofs.YtnhpclmbhbblbaaGreatDoor
set_option linter.unusedSimpArgs false
set_option linter.unnecessarySimpa false
set_option linter.unusedVariables false
set_option maxHeartbeats 1000000
namespace Go.Proofs.YtnhpclmbhbblbaaGreatDoor
open Go.Ab Go.RowKit
set_option maxRecDepth 10000
attribute [local irreducible] Awp yl jE jl Red qX Go.Ab.Fin qW Rz vl jj ji ResOk jV jz yb jv
def Cpy.row (c:Cpy):List AV:=[.v (str c.path),.v (str c.at_)]
def vm (c k:Nat):List AV:=[.mp 1,.mp 2,.mp 3,.mp 4,.os c 0 k]
def H6 (B M T O:List Ent) (cs:List Cpy):List HB:=[.own false 5 [vm 5 cs.length],.mp (qq B),.mp (qq M),.mp (qq T),.mp (qq O),.own false 2 (cs.map Cpy.row)]
theorem qcO {b x y:Thg} {G:Thg × Thg → Prop} (h1:x = y → G (x,noT)) (h2:¬ x = y → x = b → G (y,noT)) (h3:¬ x = y → ¬ x = b → y = b → G (x,noT)) (h4:¬ x = y → ¬ x = b → ¬ y = b → x.kind = 1 → G (x,y))
  (h5:¬ x = y → ¬ x = b → ¬ y = b → ¬ x.kind = 1 → y.kind = 1 → G (y,x)) (h6:¬ x = y → ¬ x = b → ¬ y = b → ¬ x.kind = 1 → ¬ y.kind = 1 → x.kind = 2 → y.kind = 2 → G (y,x))
  (h7:¬ x = y → ¬ x = b → ¬ y = b → ¬ x.kind = 1 → ¬ y.kind = 1 → x.kind = 2 → ¬ y.kind = 2 → G (x,noT)) (h8:¬ x = y → ¬ x = b → ¬ y = b → ¬ x.kind = 1 → ¬ y.kind = 1 → ¬ x.kind = 2 → G (y,noT)):G (JQ b x y):=by
 unfold JQ
 by_cases k1:x = y
 ·rw [if_pos k1];exact h1 k1
 rw [if_neg k1]
 by_cases k2:x = b
 ·rw [if_pos k2];exact h2 k1 k2
 rw [if_neg k2]
 by_cases k3:y = b
 ·rw [if_pos k3];exact h3 k1 k2 k3
 rw [if_neg k3]
 by_cases k4:x.kind = 1
 ·rw [if_pos k4];exact h4 k1 k2 k3 k4
 rw [if_neg k4]
 by_cases k5:y.kind = 1
 ·rw [if_pos k5];exact h5 k1 k2 k3 k4 k5
 rw [if_neg k5]
 by_cases k6:x.kind = 2
 ·by_cases k7:y.kind = 2
  ·rw [if_pos ⟨k6,k7⟩];exact h6 k1 k2 k3 k4 k5 k6 k7
  ·rw [if_neg (fun h=>k7 h.2),if_pos k6];exact h7 k1 k2 k3 k4 k5 k6 k7
 ·rw [if_neg (fun h=>k6 h.1),if_neg k6];exact h8 k1 k2 k3 k4 k5 k6
set_option maxHeartbeats 4000000 in
theorem qgZ (B M T O:List Ent) (cs:List Cpy) (p:qQ):qW C6.P 57 [.op 0 0 0,.v (str p)] (H6 B M T O cs) (.tup [xF (xZ B M T p).1,xF (xZ B M T p).2]) (H6 B M T O cs):=by
 have g1:=vK B p
 have g2:=vK M p
 have g3:=vK T p
 unfold xZ
 generalize stT B p = b at *
 generalize stT M p = x at *
 generalize stT T p = y at *
 refine qcO (b:=b) (x:=x) (y:=y) (G:=fun r=>qW C6.P 57 [.op 0 0 0,.v (str p)] (H6 B M T O cs) (.tup [xF r.1,xF r.2]) (H6 B M T O cs)) ?_ ?_ ?_ ?_ ?_ ?_ ?_ ?_
 ·intro k0
  have d0:decide (x = y) = true:=by simpa using k0
  refine qa (C:=C6) Tryz.func57 rfl _ Tryz.ntmps57 (Nat.le_of_ble_eq_true rfl) _ Tryz.results57 6 rfl rfl ?_
  repeat' (first|refine qm ?_|(first|(apply qf;apply jI;(case hm=>rfl);(case hn=>rfl);(case hk=>rfl);(case hT=>rfl);(case he=>rfl);(case hK=>rfl);(case hks=>rfl);(case hz=>exact jb);(case hzv=>exact jK);(case hx=>exact g1);(case hN=>exact nle rfl))|(apply qf;apply jI;(case hm=>rfl);(case hn=>rfl);(case hk=>rfl);(case hT=>rfl);(case he=>rfl);(case hK=>rfl);(case hks=>rfl);(case hz=>exact jb);(case hzv=>exact jK);(case hx=>exact g2);(case hN=>exact nle rfl))|(apply qf;apply jI;(case hm=>rfl);(case hn=>rfl);(case hk=>rfl);(case hT=>rfl);(case he=>rfl);(case hK=>rfl);(case hks=>rfl);(case hz=>exact jb);(case hzv=>exact jK);(case hx=>exact g3);(case hN=>exact nle rfl))|(apply qf;apply xJ;rfl;rfl;exact vT;exact xN _ _;(first|exact .inl ⟨rfl,rfl⟩|exact .inr ⟨rfl,rfl⟩);exact nle rfl))|((first|refine qd ?_ ?_|refine qc ?_ ?_|refine xsC ?_ ?_);all_goals (intro hc;have hp:=hc;try simp at hp;try (exfalso;omega)))|refine qO ?_ ?_)
  (apply jH (rs:=[.cell 4 99,.cell 5 99]) [] 6;(case hr=>(repeat (first|exact jp|(apply jq;rfl)|(apply jg;rfl;rfl;rfl;rfl;rfl))));(case hL=>rfl);(case hh=>(repeat' (first|exact qj|refine jt ?_|refine zz ?_|refine xY ?_ ?_ ?_|refine vh ?_ ?_|refine yH ?_ ?_|refine y9 ?_ ?_ ?_ ?_|refine q9 ?_ ?_|exact ql|apply qh|exact qk rfl|(apply qw;(first|exact qJ rfl|exact .inr (List.mem_cons_self ..)|exact .inr (List.mem_cons_of_mem _ (List.mem_cons_self ..))|exact .inr (List.mem_cons_of_mem _ (List.mem_cons_of_mem _ (List.mem_cons_self ..)))|exact .inr (List.mem_cons_of_mem _ (List.mem_cons_of_mem _ (List.mem_cons_of_mem _ (List.mem_cons_self ..))))))|refine jn ?_|refine yR ?_ rfl|with_reducible exact List.Perm.refl _));all_goals (first|exact qi _|rfl|exact List.Perm.refl _|trace_state));(case hi=>exact rfl);(case hz=>first|rfl|(simp [j6,AV.ren,AV.ren.renL,jD,qR,jA];done)|(simp [j6,AV.ren,AV.ren.renL,jD,qR,jA, *];done)|trace_state))
 ·intro k0 k1
  have d0:decide (x = y) = false:=by simpa using k0
  have d1:decide (x = b) = true:=by simpa using k1
  refine qa (C:=C6) Tryz.func57 rfl _ Tryz.ntmps57 (Nat.le_of_ble_eq_true rfl) _ Tryz.results57 6 rfl rfl ?_
  repeat' (first|refine qm ?_|(first|(apply qf;apply jI;(case hm=>rfl);(case hn=>rfl);(case hk=>rfl);(case hT=>rfl);(case he=>rfl);(case hK=>rfl);(case hks=>rfl);(case hz=>exact jb);(case hzv=>exact jK);(case hx=>exact g1);(case hN=>exact nle rfl))|(apply qf;apply jI;(case hm=>rfl);(case hn=>rfl);(case hk=>rfl);(case hT=>rfl);(case he=>rfl);(case hK=>rfl);(case hks=>rfl);(case hz=>exact jb);(case hzv=>exact jK);(case hx=>exact g2);(case hN=>exact nle rfl))|(apply qf;apply jI;(case hm=>rfl);(case hn=>rfl);(case hk=>rfl);(case hT=>rfl);(case he=>rfl);(case hK=>rfl);(case hks=>rfl);(case hz=>exact jb);(case hzv=>exact jK);(case hx=>exact g3);(case hN=>exact nle rfl))|(apply qf;apply xJ;rfl;rfl;exact vT;exact xN _ _;(first|exact .inl ⟨rfl,rfl⟩|exact .inr ⟨rfl,rfl⟩);exact nle rfl))|((first|refine qd ?_ ?_|refine qc ?_ ?_|refine xsC ?_ ?_);all_goals (intro hc;have hp:=hc;try simp at hp;try (exfalso;omega)))|refine qO ?_ ?_)
  (apply jH (rs:=[.cell 4 99,.cell 5 99]) [] 6;(case hr=>(repeat (first|exact jp|(apply jq;rfl)|(apply jg;rfl;rfl;rfl;rfl;rfl))));(case hL=>rfl);(case hh=>(repeat' (first|exact qj|refine jt ?_|refine zz ?_|refine xY ?_ ?_ ?_|refine vh ?_ ?_|refine yH ?_ ?_|refine y9 ?_ ?_ ?_ ?_|refine q9 ?_ ?_|exact ql|apply qh|exact qk rfl|(apply qw;(first|exact qJ rfl|exact .inr (List.mem_cons_self ..)|exact .inr (List.mem_cons_of_mem _ (List.mem_cons_self ..))|exact .inr (List.mem_cons_of_mem _ (List.mem_cons_of_mem _ (List.mem_cons_self ..)))|exact .inr (List.mem_cons_of_mem _ (List.mem_cons_of_mem _ (List.mem_cons_of_mem _ (List.mem_cons_self ..))))))|refine jn ?_|refine yR ?_ rfl|with_reducible exact List.Perm.refl _));all_goals (first|exact qi _|rfl|exact List.Perm.refl _|trace_state));(case hi=>exact rfl);(case hz=>first|rfl|(simp [j6,AV.ren,AV.ren.renL,jD,qR,jA];done)|(simp [j6,AV.ren,AV.ren.renL,jD,qR,jA, *];done)|trace_state))
 ·intro k0 k1 k2
  have d0:decide (x = y) = false:=by simpa using k0
  have d1:decide (x = b) = false:=by simpa using k1
  have d2:decide (y = b) = true:=by simpa using k2
  refine qa (C:=C6) Tryz.func57 rfl _ Tryz.ntmps57 (Nat.le_of_ble_eq_true rfl) _ Tryz.results57 6 rfl rfl ?_
  repeat' (first|refine qm ?_|(first|(apply qf;apply jI;(case hm=>rfl);(case hn=>rfl);(case hk=>rfl);(case hT=>rfl);(case he=>rfl);(case hK=>rfl);(case hks=>rfl);(case hz=>exact jb);(case hzv=>exact jK);(case hx=>exact g1);(case hN=>exact nle rfl))|(apply qf;apply jI;(case hm=>rfl);(case hn=>rfl);(case hk=>rfl);(case hT=>rfl);(case he=>rfl);(case hK=>rfl);(case hks=>rfl);(case hz=>exact jb);(case hzv=>exact jK);(case hx=>exact g2);(case hN=>exact nle rfl))|(apply qf;apply jI;(case hm=>rfl);(case hn=>rfl);(case hk=>rfl);(case hT=>rfl);(case he=>rfl);(case hK=>rfl);(case hks=>rfl);(case hz=>exact jb);(case hzv=>exact jK);(case hx=>exact g3);(case hN=>exact nle rfl))|(apply qf;apply xJ;rfl;rfl;exact vT;exact xN _ _;(first|exact .inl ⟨rfl,rfl⟩|exact .inr ⟨rfl,rfl⟩);exact nle rfl))|((first|refine qd ?_ ?_|refine qc ?_ ?_|refine xsC ?_ ?_);all_goals (intro hc;have hp:=hc;try simp at hp;try (exfalso;omega)))|refine qO ?_ ?_)
  (apply jH (rs:=[.cell 4 99,.cell 5 99]) [] 6;(case hr=>(repeat (first|exact jp|(apply jq;rfl)|(apply jg;rfl;rfl;rfl;rfl;rfl))));(case hL=>rfl);(case hh=>(repeat' (first|exact qj|refine jt ?_|refine zz ?_|refine xY ?_ ?_ ?_|refine vh ?_ ?_|refine yH ?_ ?_|refine y9 ?_ ?_ ?_ ?_|refine q9 ?_ ?_|exact ql|apply qh|exact qk rfl|(apply qw;(first|exact qJ rfl|exact .inr (List.mem_cons_self ..)|exact .inr (List.mem_cons_of_mem _ (List.mem_cons_self ..))|exact .inr (List.mem_cons_of_mem _ (List.mem_cons_of_mem _ (List.mem_cons_self ..)))|exact .inr (List.mem_cons_of_mem _ (List.mem_cons_of_mem _ (List.mem_cons_of_mem _ (List.mem_cons_self ..))))))|refine jn ?_|refine yR ?_ rfl|with_reducible exact List.Perm.refl _));all_goals (first|exact qi _|rfl|exact List.Perm.refl _|trace_state));(case hi=>exact rfl);(case hz=>first|rfl|(simp [j6,AV.ren,AV.ren.renL,jD,qR,jA];done)|(simp [j6,AV.ren,AV.ren.renL,jD,qR,jA, *];done)|trace_state))
 ·intro k0 k1 k2 k3
  have d0:decide (x = y) = false:=by simpa using k0
  have d1:decide (x = b) = false:=by simpa using k1
  have d2:decide (y = b) = false:=by simpa using k2
  have d3:decide (x.kind = 1) = true:=by simpa using k3
  refine qa (C:=C6) Tryz.func57 rfl _ Tryz.ntmps57 (Nat.le_of_ble_eq_true rfl) _ Tryz.results57 6 rfl rfl ?_
  repeat' (first|refine qm ?_|(first|(apply qf;apply jI;(case hm=>rfl);(case hn=>rfl);(case hk=>rfl);(case hT=>rfl);(case he=>rfl);(case hK=>rfl);(case hks=>rfl);(case hz=>exact jb);(case hzv=>exact jK);(case hx=>exact g1);(case hN=>exact nle rfl))|(apply qf;apply jI;(case hm=>rfl);(case hn=>rfl);(case hk=>rfl);(case hT=>rfl);(case he=>rfl);(case hK=>rfl);(case hks=>rfl);(case hz=>exact jb);(case hzv=>exact jK);(case hx=>exact g2);(case hN=>exact nle rfl))|(apply qf;apply jI;(case hm=>rfl);(case hn=>rfl);(case hk=>rfl);(case hT=>rfl);(case he=>rfl);(case hK=>rfl);(case hks=>rfl);(case hz=>exact jb);(case hzv=>exact jK);(case hx=>exact g3);(case hN=>exact nle rfl))|(apply qf;apply xJ;rfl;rfl;exact vT;exact xN _ _;(first|exact .inl ⟨rfl,rfl⟩|exact .inr ⟨rfl,rfl⟩);exact nle rfl))|((first|refine qd ?_ ?_|refine qc ?_ ?_|refine xsC ?_ ?_);all_goals (intro hc;have hp:=hc;try simp at hp;try (exfalso;omega)))|refine qO ?_ ?_)
  (apply jH (rs:=[.cell 4 99,.cell 5 99]) [] 6;(case hr=>(repeat (first|exact jp|(apply jq;rfl)|(apply jg;rfl;rfl;rfl;rfl;rfl))));(case hL=>rfl);(case hh=>(repeat' (first|exact qj|refine jt ?_|refine zz ?_|refine xY ?_ ?_ ?_|refine vh ?_ ?_|refine yH ?_ ?_|refine y9 ?_ ?_ ?_ ?_|refine q9 ?_ ?_|exact ql|apply qh|exact qk rfl|(apply qw;(first|exact qJ rfl|exact .inr (List.mem_cons_self ..)|exact .inr (List.mem_cons_of_mem _ (List.mem_cons_self ..))|exact .inr (List.mem_cons_of_mem _ (List.mem_cons_of_mem _ (List.mem_cons_self ..)))|exact .inr (List.mem_cons_of_mem _ (List.mem_cons_of_mem _ (List.mem_cons_of_mem _ (List.mem_cons_self ..))))))|refine jn ?_|refine yR ?_ rfl|with_reducible exact List.Perm.refl _));all_goals (first|exact qi _|rfl|exact List.Perm.refl _|trace_state));(case hi=>exact rfl);(case hz=>first|rfl|(simp [j6,AV.ren,AV.ren.renL,jD,qR,jA];done)|(simp [j6,AV.ren,AV.ren.renL,jD,qR,jA, *];done)|trace_state))
 ·intro k0 k1 k2 k3 k4
  have d0:decide (x = y) = false:=by simpa using k0
  have d1:decide (x = b) = false:=by simpa using k1
  have d2:decide (y = b) = false:=by simpa using k2
  have d3:decide (x.kind = 1) = false:=by simpa using k3
  have d4:decide (y.kind = 1) = true:=by simpa using k4
  refine qa (C:=C6) Tryz.func57 rfl _ Tryz.ntmps57 (Nat.le_of_ble_eq_true rfl) _ Tryz.results57 6 rfl rfl ?_
  repeat' (first|refine qm ?_|(first|(apply qf;apply jI;(case hm=>rfl);(case hn=>rfl);(case hk=>rfl);(case hT=>rfl);(case he=>rfl);(case hK=>rfl);(case hks=>rfl);(case hz=>exact jb);(case hzv=>exact jK);(case hx=>exact g1);(case hN=>exact nle rfl))|(apply qf;apply jI;(case hm=>rfl);(case hn=>rfl);(case hk=>rfl);(case hT=>rfl);(case he=>rfl);(case hK=>rfl);(case hks=>rfl);(case hz=>exact jb);(case hzv=>exact jK);(case hx=>exact g2);(case hN=>exact nle rfl))|(apply qf;apply jI;(case hm=>rfl);(case hn=>rfl);(case hk=>rfl);(case hT=>rfl);(case he=>rfl);(case hK=>rfl);(case hks=>rfl);(case hz=>exact jb);(case hzv=>exact jK);(case hx=>exact g3);(case hN=>exact nle rfl))|(apply qf;apply xJ;rfl;rfl;exact vT;exact xN _ _;(first|exact .inl ⟨rfl,rfl⟩|exact .inr ⟨rfl,rfl⟩);exact nle rfl))|((first|refine qd ?_ ?_|refine qc ?_ ?_|refine xsC ?_ ?_);all_goals (intro hc;have hp:=hc;try simp at hp;try (exfalso;omega)))|refine qO ?_ ?_)
  (apply jH (rs:=[.cell 4 99,.cell 5 99]) [] 6;(case hr=>(repeat (first|exact jp|(apply jq;rfl)|(apply jg;rfl;rfl;rfl;rfl;rfl))));(case hL=>rfl);(case hh=>(repeat' (first|exact qj|refine jt ?_|refine zz ?_|refine xY ?_ ?_ ?_|refine vh ?_ ?_|refine yH ?_ ?_|refine y9 ?_ ?_ ?_ ?_|refine q9 ?_ ?_|exact ql|apply qh|exact qk rfl|(apply qw;(first|exact qJ rfl|exact .inr (List.mem_cons_self ..)|exact .inr (List.mem_cons_of_mem _ (List.mem_cons_self ..))|exact .inr (List.mem_cons_of_mem _ (List.mem_cons_of_mem _ (List.mem_cons_self ..)))|exact .inr (List.mem_cons_of_mem _ (List.mem_cons_of_mem _ (List.mem_cons_of_mem _ (List.mem_cons_self ..))))))|refine jn ?_|refine yR ?_ rfl|with_reducible exact List.Perm.refl _));all_goals (first|exact qi _|rfl|exact List.Perm.refl _|trace_state));(case hi=>exact rfl);(case hz=>first|rfl|(simp [j6,AV.ren,AV.ren.renL,jD,qR,jA];done)|(simp [j6,AV.ren,AV.ren.renL,jD,qR,jA, *];done)|trace_state))
 ·intro k0 k1 k2 k3 k4 k5 k6
  have d0:decide (x = y) = false:=by simpa using k0
  have d1:decide (x = b) = false:=by simpa using k1
  have d2:decide (y = b) = false:=by simpa using k2
  have d3:decide (x.kind = 1) = false:=by simpa using k3
  have d4:decide (y.kind = 1) = false:=by simpa using k4
  have d5:decide (x.kind = 2) = true:=by simpa using k5
  have d6:decide (y.kind = 2) = true:=by simpa using k6
  refine qa (C:=C6) Tryz.func57 rfl _ Tryz.ntmps57 (Nat.le_of_ble_eq_true rfl) _ Tryz.results57 6 rfl rfl ?_
  repeat' (first|refine qm ?_|(first|(apply qf;apply jI;(case hm=>rfl);(case hn=>rfl);(case hk=>rfl);(case hT=>rfl);(case he=>rfl);(case hK=>rfl);(case hks=>rfl);(case hz=>exact jb);(case hzv=>exact jK);(case hx=>exact g1);(case hN=>exact nle rfl))|(apply qf;apply jI;(case hm=>rfl);(case hn=>rfl);(case hk=>rfl);(case hT=>rfl);(case he=>rfl);(case hK=>rfl);(case hks=>rfl);(case hz=>exact jb);(case hzv=>exact jK);(case hx=>exact g2);(case hN=>exact nle rfl))|(apply qf;apply jI;(case hm=>rfl);(case hn=>rfl);(case hk=>rfl);(case hT=>rfl);(case he=>rfl);(case hK=>rfl);(case hks=>rfl);(case hz=>exact jb);(case hzv=>exact jK);(case hx=>exact g3);(case hN=>exact nle rfl))|(apply qf;apply xJ;rfl;rfl;exact vT;exact xN _ _;(first|exact .inl ⟨rfl,rfl⟩|exact .inr ⟨rfl,rfl⟩);exact nle rfl))|((first|refine qd ?_ ?_|refine qc ?_ ?_|refine xsC ?_ ?_);all_goals (intro hc;have hp:=hc;try simp at hp;try (exfalso;omega)))|refine qO ?_ ?_)
  (apply jH (rs:=[.cell 4 99,.cell 5 99]) [] 6;(case hr=>(repeat (first|exact jp|(apply jq;rfl)|(apply jg;rfl;rfl;rfl;rfl;rfl))));(case hL=>rfl);(case hh=>(repeat' (first|exact qj|refine jt ?_|refine zz ?_|refine xY ?_ ?_ ?_|refine vh ?_ ?_|refine yH ?_ ?_|refine y9 ?_ ?_ ?_ ?_|refine q9 ?_ ?_|exact ql|apply qh|exact qk rfl|(apply qw;(first|exact qJ rfl|exact .inr (List.mem_cons_self ..)|exact .inr (List.mem_cons_of_mem _ (List.mem_cons_self ..))|exact .inr (List.mem_cons_of_mem _ (List.mem_cons_of_mem _ (List.mem_cons_self ..)))|exact .inr (List.mem_cons_of_mem _ (List.mem_cons_of_mem _ (List.mem_cons_of_mem _ (List.mem_cons_self ..))))))|refine jn ?_|refine yR ?_ rfl|with_reducible exact List.Perm.refl _));all_goals (first|exact qi _|rfl|exact List.Perm.refl _|trace_state));(case hi=>exact rfl);(case hz=>first|rfl|(simp [j6,AV.ren,AV.ren.renL,jD,qR,jA];done)|(simp [j6,AV.ren,AV.ren.renL,jD,qR,jA, *];done)|trace_state))
 ·intro k0 k1 k2 k3 k4 k5 k6
  have d0:decide (x = y) = false:=by simpa using k0
  have d1:decide (x = b) = false:=by simpa using k1
  have d2:decide (y = b) = false:=by simpa using k2
  have d3:decide (x.kind = 1) = false:=by simpa using k3
  have d4:decide (y.kind = 1) = false:=by simpa using k4
  have d5:decide (x.kind = 2) = true:=by simpa using k5
  have d6:decide (y.kind = 2) = false:=by simpa using k6
  refine qa (C:=C6) Tryz.func57 rfl _ Tryz.ntmps57 (Nat.le_of_ble_eq_true rfl) _ Tryz.results57 6 rfl rfl ?_
  repeat' (first|refine qm ?_|(first|(apply qf;apply jI;(case hm=>rfl);(case hn=>rfl);(case hk=>rfl);(case hT=>rfl);(case he=>rfl);(case hK=>rfl);(case hks=>rfl);(case hz=>exact jb);(case hzv=>exact jK);(case hx=>exact g1);(case hN=>exact nle rfl))|(apply qf;apply jI;(case hm=>rfl);(case hn=>rfl);(case hk=>rfl);(case hT=>rfl);(case he=>rfl);(case hK=>rfl);(case hks=>rfl);(case hz=>exact jb);(case hzv=>exact jK);(case hx=>exact g2);(case hN=>exact nle rfl))|(apply qf;apply jI;(case hm=>rfl);(case hn=>rfl);(case hk=>rfl);(case hT=>rfl);(case he=>rfl);(case hK=>rfl);(case hks=>rfl);(case hz=>exact jb);(case hzv=>exact jK);(case hx=>exact g3);(case hN=>exact nle rfl))|(apply qf;apply xJ;rfl;rfl;exact vT;exact xN _ _;(first|exact .inl ⟨rfl,rfl⟩|exact .inr ⟨rfl,rfl⟩);exact nle rfl))|((first|refine qd ?_ ?_|refine qc ?_ ?_|refine xsC ?_ ?_);all_goals (intro hc;have hp:=hc;try simp at hp;try (exfalso;omega)))|refine qO ?_ ?_)
  (apply jH (rs:=[.cell 4 99,.cell 5 99]) [] 6;(case hr=>(repeat (first|exact jp|(apply jq;rfl)|(apply jg;rfl;rfl;rfl;rfl;rfl))));(case hL=>rfl);(case hh=>(repeat' (first|exact qj|refine jt ?_|refine zz ?_|refine xY ?_ ?_ ?_|refine vh ?_ ?_|refine yH ?_ ?_|refine y9 ?_ ?_ ?_ ?_|refine q9 ?_ ?_|exact ql|apply qh|exact qk rfl|(apply qw;(first|exact qJ rfl|exact .inr (List.mem_cons_self ..)|exact .inr (List.mem_cons_of_mem _ (List.mem_cons_self ..))|exact .inr (List.mem_cons_of_mem _ (List.mem_cons_of_mem _ (List.mem_cons_self ..)))|exact .inr (List.mem_cons_of_mem _ (List.mem_cons_of_mem _ (List.mem_cons_of_mem _ (List.mem_cons_self ..))))))|refine jn ?_|refine yR ?_ rfl|with_reducible exact List.Perm.refl _));all_goals (first|exact qi _|rfl|exact List.Perm.refl _|trace_state));(case hi=>exact rfl);(case hz=>first|rfl|(simp [j6,AV.ren,AV.ren.renL,jD,qR,jA];done)|(simp [j6,AV.ren,AV.ren.renL,jD,qR,jA, *];done)|trace_state))
 ·intro k0 k1 k2 k3 k4 k5
  have d0:decide (x = y) = false:=by simpa using k0
  have d1:decide (x = b) = false:=by simpa using k1
  have d2:decide (y = b) = false:=by simpa using k2
  have d3:decide (x.kind = 1) = false:=by simpa using k3
  have d4:decide (y.kind = 1) = false:=by simpa using k4
  have d5:decide (x.kind = 2) = false:=by simpa using k5
  refine qa (C:=C6) Tryz.func57 rfl _ Tryz.ntmps57 (Nat.le_of_ble_eq_true rfl) _ Tryz.results57 6 rfl rfl ?_
  repeat' (first|refine qm ?_|(first|(apply qf;apply jI;(case hm=>rfl);(case hn=>rfl);(case hk=>rfl);(case hT=>rfl);(case he=>rfl);(case hK=>rfl);(case hks=>rfl);(case hz=>exact jb);(case hzv=>exact jK);(case hx=>exact g1);(case hN=>exact nle rfl))|(apply qf;apply jI;(case hm=>rfl);(case hn=>rfl);(case hk=>rfl);(case hT=>rfl);(case he=>rfl);(case hK=>rfl);(case hks=>rfl);(case hz=>exact jb);(case hzv=>exact jK);(case hx=>exact g2);(case hN=>exact nle rfl))|(apply qf;apply jI;(case hm=>rfl);(case hn=>rfl);(case hk=>rfl);(case hT=>rfl);(case he=>rfl);(case hK=>rfl);(case hks=>rfl);(case hz=>exact jb);(case hzv=>exact jK);(case hx=>exact g3);(case hN=>exact nle rfl))|(apply qf;apply xJ;rfl;rfl;exact vT;exact xN _ _;(first|exact .inl ⟨rfl,rfl⟩|exact .inr ⟨rfl,rfl⟩);exact nle rfl))|((first|refine qd ?_ ?_|refine qc ?_ ?_|refine xsC ?_ ?_);all_goals (intro hc;have hp:=hc;try simp at hp;try (exfalso;omega)))|refine qO ?_ ?_)
  (apply jH (rs:=[.cell 4 99,.cell 5 99]) [] 6;(case hr=>(repeat (first|exact jp|(apply jq;rfl)|(apply jg;rfl;rfl;rfl;rfl;rfl))));(case hL=>rfl);(case hh=>(repeat' (first|exact qj|refine jt ?_|refine zz ?_|refine xY ?_ ?_ ?_|refine vh ?_ ?_|refine yH ?_ ?_|refine y9 ?_ ?_ ?_ ?_|refine q9 ?_ ?_|exact ql|apply qh|exact qk rfl|(apply qw;(first|exact qJ rfl|exact .inr (List.mem_cons_self ..)|exact .inr (List.mem_cons_of_mem _ (List.mem_cons_self ..))|exact .inr (List.mem_cons_of_mem _ (List.mem_cons_of_mem _ (List.mem_cons_self ..)))|exact .inr (List.mem_cons_of_mem _ (List.mem_cons_of_mem _ (List.mem_cons_of_mem _ (List.mem_cons_self ..))))))|refine jn ?_|refine yR ?_ rfl|with_reducible exact List.Perm.refl _));all_goals (first|exact qi _|rfl|exact List.Perm.refl _|trace_state));(case hi=>exact rfl);(case hz=>first|rfl|(simp [j6,AV.ren,AV.ren.renL,jD,qR,jA];done)|(simp [j6,AV.ren,AV.ren.renL,jD,qR,jA, *];done)|trace_state))
end Go.Proofs.YtnhpclmbhbblbaaGreatDoor
set_option linter.unusedSimpArgs false
set_option linter.unnecessarySimpa false
set_option linter.unusedVariables false
set_option maxHeartbeats 1000000
namespace Go.Proofs.YtnhpclmbhbblbaaGreatDoor
open Go.Ab Go.RowKit
set_option maxRecDepth 10000
attribute [local irreducible] Awp yl jE jl Red qX Go.Ab.Fin qW Rz vl jj ji ResOk jV jz yb jv
def H7 (B M T O:List Ent) (cs:List Cpy):List HB:=[.own false 5 [vm 6 cs.length],.mp (qq B),.mp (qq M),.mp (qq T),.mp (qq O),.dead,.own false 2 (cs.map Cpy.row)]
theorem wg {t:List Ent} {p:qQ}:(stT t p).kind = 0 ↔ jW t p = false:=by
 rw [KZ,V0]
 cases q7 t p<;>simp
theorem XJ {m t o:List Ent} {p:qQ} {k n:Nat}:xS m t o p (k + 1) n = if vz p (n:Int) = 0 then (if JW m t o (yr p (n:Int)) = true then some (yr p (n:Int)) else xS m t o p k (n + 1)) else none:=rfl
theorem XH {p:qQ} {n:Nat} (hp:qy p = 0) (h1:1 ≤ n) (h2:n ≤ 99):vi p (n:Int) = vz p (n:Int):=by
 unfold vi
 rw [if_pos hp,if_neg (by omega)]
theorem VC (p:qQ) (n:Int):vz p n = 0 ∨ vz p n = 2:=by
 unfold vz
 split
 ·exact .inr rfl
 ·split
  ·exact .inr rfl
  ·exact .inl rfl
set_option maxHeartbeats 8000000 in
theorem V2 (B M T O:List Ent) (cs:List Cpy) (p x:qQ) (hp:qy p = 0) (hR:xS M T O p 99 1 = none) (hc:cs.length ≤ 1000000):qW C6.P 59 [.op 0 0 0,.v (str p),xF ⟨2,x⟩] (H6 B M T O cs) (.v (.bool false)) (H6 B M T O cs):=by
 have hpl:=qV hp
 refine qa (C:=C6) Tryz.func59 rfl _ Tryz.ntmps59 (Nat.le_of_ble_eq_true rfl) _ Tryz.results59 6 rfl rfl ?_
 repeat' (first|refine qm ?_|(first|fail)|((first|refine qd ?_ ?_|refine qc ?_ ?_|refine xsC ?_ ?_);all_goals (intro hc;have hp:=hc;try simp at hp;try (exfalso;omega)))|refine qO ?_ ?_)
 all_goals try (exfalso;omega)
 (refine Awp.red (qC (τ:=⟨[(0,.op 0 0 0),(1,.v (str p)),(5,.op 6 0 0),(7,.v (.int .i64 (1:Int)))],[(0,.own false 5 [vm 5 cs.length]),(1,.mp (qq B)),(2,.mp (qq M)),(3,.mp (qq T)),(4,.mp (qq O)),(5,.own false 2 (cs.map Cpy.row)),(6,.own false 2 [[.v (.int .i64 2),.v (str x)]])],7⟩) [(6,6)] rfl ?gts2 ?ghs2) ?_;(case gts2=>(repeat (first|exact qg|refine qn ?_|refine ye ?_|refine xr ?_|refine ze ?_|refine xw ?_ ?_|refine qS ?_ ?_));all_goals (first|exact qi _|rfl|trace_state));(case ghs2=>(repeat' (first|exact qj|refine jt ?_|refine zz ?_|refine xY ?_ ?_ ?_|refine vh ?_ ?_|refine yH ?_ ?_|refine y9 ?_ ?_ ?_ ?_|refine q9 ?_ ?_|exact ql|apply qh|exact qk rfl|(apply qw;(first|exact qJ rfl|exact .inr (List.mem_cons_self ..)|exact .inr (List.mem_cons_of_mem _ (List.mem_cons_self ..))|exact .inr (List.mem_cons_of_mem _ (List.mem_cons_of_mem _ (List.mem_cons_self ..)))|exact .inr (List.mem_cons_of_mem _ (List.mem_cons_of_mem _ (List.mem_cons_of_mem _ (List.mem_cons_self ..))))))|refine jn ?_|refine yR ?_ rfl|with_reducible exact List.Perm.refl _));all_goals (first|exact qi _|rfl|trace_state)))
 refine qP (fun n σ => ∃ i:Nat,i ≤ 99 ∧ n = 99 - i ∧ xS M T O p (99 - i) (i + 1) = none ∧ σ = ⟨[(0,.op 0 0 0),(1,.v (str p)),(5,.op 6 0 0),(7,.v (.int .i64 ((i:Int) + 1)))],[(0,.own false 5 [vm 5 cs.length]),(1,.mp (qq B)),(2,.mp (qq M)),(3,.mp (qq T)),(4,.mp (qq O)),(5,.own false 2 (cs.map Cpy.row)),(6,.own false 2 [[.v (.int .i64 2),.v (str x)]])],7⟩) 99 ⟨0,by omega,rfl,hR,rfl⟩ ?_
 rintro n σ ⟨i,hi,rfl,hsofar,rfl⟩
 by_cases hlt:i < 99
 ·rw [show 99 - i = (99 - (i + 1)) + 1 from by omega,XJ] at hsofar
  have has:=qbx p ((i:Int) + 1) (by omega)
  have he:=XH (n:=i + 1) hp (by omega) (by omega)
  rw [show ((i + 1:Nat):Int) = (i:Int) + 1 from by omega] at he hsofar
  rw [he] at has
  have htwo:=VC p ((i:Int) + 1)
  generalize vz p ((i:Int) + 1) = E at *
  generalize yr p ((i:Int) + 1) = Q at *
  have g1:=vK M Q
  have g2:=vK T Q
  have g3:=vK O Q
  have k1 := @wg M Q
  have k2 := @wg T Q
  have k3 := @wg O Q
  have hfr:JW M T O Q = (!jW M Q && !jW T Q && !jW O Q):=rfl
  generalize stT M Q = a at *
  generalize stT T Q = b at *
  generalize stT O Q = c at *
  generalize jW M Q = A at *
  generalize jW T Q = B2 at *
  generalize jW O Q = D at *
  rcases htwo with rfl|rfl
  ·rw [if_pos rfl] at hsofar
   have hns:¬ JW M T O Q = true:=fun h=>by rw [if_pos h] at hsofar;cases hsofar
   rw [if_neg hns] at hsofar
   rw [hfr] at hns
   repeat' (first|refine qm ?_|(first|refine jc Tryz.func88 (has ..) ?_|(apply qf;apply jI;(case hm=>rfl);(case hn=>rfl);(case hk=>rfl);(case hT=>rfl);(case he=>rfl);(case hK=>rfl);(case hks=>rfl);(case hz=>exact jb);(case hzv=>exact jK);(case hx=>exact g1);(case hN=>exact nle rfl))|(apply qf;apply jI;(case hm=>rfl);(case hn=>rfl);(case hk=>rfl);(case hT=>rfl);(case he=>rfl);(case hK=>rfl);(case hks=>rfl);(case hz=>exact jb);(case hzv=>exact jK);(case hx=>exact g2);(case hN=>exact nle rfl))|(apply qf;apply jI;(case hm=>rfl);(case hn=>rfl);(case hk=>rfl);(case hT=>rfl);(case he=>rfl);(case hK=>rfl);(case hks=>rfl);(case hz=>exact jb);(case hzv=>exact jK);(case hx=>exact g3);(case hN=>exact nle rfl)))|((first|refine qd ?_ ?_|refine qc ?_ ?_|refine xsC ?_ ?_);all_goals (intro hc;have hp:=hc;try simp at hp;try (exfalso;omega)))|refine qO ?_ ?_)
   all_goals try (exfalso;first|omega|contradiction|(simp_all;done))
   all_goals (refine ⟨99 - (i + 1),_,by omega,qC (τ:=⟨[(0,.op 0 0 0),(1,.v (str p)),(5,.op 6 0 0),(7,.v (.int .i64 (((i + 1:Nat):Int) + 1)))],[(0,.own false 5 [vm 5 cs.length]),(1,.mp (qq B)),(2,.mp (qq M)),(3,.mp (qq T)),(4,.mp (qq O)),(5,.own false 2 (cs.map Cpy.row)),(6,.own false 2 [[.v (.int .i64 2),.v (str x)]])],7⟩) [(6,6)] rfl ?gts ?ghs,i + 1,by omega,rfl,hsofar,rfl⟩;(case gts=>(repeat (first|exact qg|refine qn ?_|refine ye ?_|refine xr ?_|refine ze ?_|refine xw ?_ ?_|refine qS ?_ ?_));all_goals (first|exact qi _|rfl|(congr 2;omega)|(congr 1;congr 1;omega)|trace_state));(case ghs=>(repeat' (first|exact qj|refine jt ?_|refine zz ?_|refine xY ?_ ?_ ?_|refine vh ?_ ?_|refine yH ?_ ?_|refine y9 ?_ ?_ ?_ ?_|refine q9 ?_ ?_|exact ql|apply qh|exact qk rfl|(apply qw;(first|exact qJ rfl|exact .inr (List.mem_cons_self ..)|exact .inr (List.mem_cons_of_mem _ (List.mem_cons_self ..))|exact .inr (List.mem_cons_of_mem _ (List.mem_cons_of_mem _ (List.mem_cons_self ..)))|exact .inr (List.mem_cons_of_mem _ (List.mem_cons_of_mem _ (List.mem_cons_of_mem _ (List.mem_cons_self ..))))))|refine jn ?_|refine yR ?_ rfl|with_reducible exact List.Perm.refl _));all_goals (first|exact qi _|rfl|(congr 2;omega)|(congr 1;congr 1;omega)|trace_state)))
  ·repeat' (first|refine qm ?_|(first|refine jc Tryz.func88 (has ..) ?_)|((first|refine qd ?_ ?_|refine qc ?_ ?_|refine xsC ?_ ?_);all_goals (intro hc;have hp:=hc;try simp at hp;try (exfalso;omega)))|refine qO ?_ ?_)
   all_goals try (exfalso;first|omega|contradiction)
   all_goals ((apply jH (rs:=[.tmp 6]) [] 6;(case hr=>(repeat (first|exact jp|(apply jq;rfl)|(apply jg;rfl;rfl;rfl;rfl;rfl))));(case hL=>rfl);(case hh=>(repeat' (first|exact qj|refine jt ?_|refine zz ?_|refine xY ?_ ?_ ?_|refine vh ?_ ?_|refine yH ?_ ?_|refine y9 ?_ ?_ ?_ ?_|refine q9 ?_ ?_|exact ql|apply qh|exact qk rfl|(apply qw;(first|exact qJ rfl|exact .inr (List.mem_cons_self ..)|exact .inr (List.mem_cons_of_mem _ (List.mem_cons_self ..))|exact .inr (List.mem_cons_of_mem _ (List.mem_cons_of_mem _ (List.mem_cons_self ..)))|exact .inr (List.mem_cons_of_mem _ (List.mem_cons_of_mem _ (List.mem_cons_of_mem _ (List.mem_cons_self ..))))))|refine jn ?_|refine yR ?_ rfl|with_reducible exact List.Perm.refl _));all_goals (first|exact qi _|rfl|trace_state));(case hi=>exact rfl);(case hz=>first|rfl|(simp [j6,AV.ren,AV.ren.renL,jD,qR,jA];done)|(simp [j6,AV.ren,AV.ren.renL,jD,qR,jA, *];done)|trace_state)))
 ·obtain rfl:i = 99:=by omega
  repeat' (first|refine qm ?_|(first|fail)|((first|refine qd ?_ ?_|refine qc ?_ ?_|refine xsC ?_ ?_);all_goals (intro hc;have hp:=hc;try simp at hp;try (exfalso;omega)))|refine qO ?_ ?_)
  all_goals try (exfalso;omega)
  all_goals ((apply jH (rs:=[.tmp 6]) [] 6;(case hr=>(repeat (first|exact jp|(apply jq;rfl)|(apply jg;rfl;rfl;rfl;rfl;rfl))));(case hL=>rfl);(case hh=>(repeat' (first|exact qj|refine jt ?_|refine zz ?_|refine xY ?_ ?_ ?_|refine vh ?_ ?_|refine yH ?_ ?_|refine y9 ?_ ?_ ?_ ?_|refine q9 ?_ ?_|exact ql|apply qh|exact qk rfl|(apply qw;(first|exact qJ rfl|exact .inr (List.mem_cons_self ..)|exact .inr (List.mem_cons_of_mem _ (List.mem_cons_self ..))|exact .inr (List.mem_cons_of_mem _ (List.mem_cons_of_mem _ (List.mem_cons_self ..)))|exact .inr (List.mem_cons_of_mem _ (List.mem_cons_of_mem _ (List.mem_cons_of_mem _ (List.mem_cons_self ..))))))|refine jn ?_|refine yR ?_ rfl|with_reducible exact List.Perm.refl _));all_goals (first|exact qi _|rfl|trace_state));(case hi=>exact rfl);(case hz=>first|rfl|(simp [j6,AV.ren,AV.ren.renL,jD,qR,jA];done)|(simp [j6,AV.ren,AV.ren.renL,jD,qR,jA, *];done)|trace_state)))
set_option maxHeartbeats 8000000 in
theorem XR (B M T O:List Ent) (cs:List Cpy) (p x q:qQ) (hp:qy p = 0) (hR:xS M T O p 99 1 = some q) (hO:q4 jr O = true) (hc:cs.length ≤ 1000000):qW C6.P 59 [.op 0 0 0,.v (str p),xF ⟨2,x⟩] (H6 B M T O cs) (.v (.bool true)) (H7 B M T (jN O ⟨q,false,x,1⟩) (cs ++ [⟨p,q⟩])):=by
 have hpl:=qV hp
 refine qa (C:=C6) Tryz.func59 rfl _ Tryz.ntmps59 (Nat.le_of_ble_eq_true rfl) _ Tryz.results59 6 rfl rfl ?_
 repeat' (first|refine qm ?_|(first|fail)|((first|refine qd ?_ ?_|refine qc ?_ ?_|refine xsC ?_ ?_);all_goals (intro hc;have hp:=hc;try simp at hp;try (exfalso;omega)))|refine qO ?_ ?_)
 all_goals try (exfalso;omega)
 (refine Awp.red (qC (τ:=⟨[(0,.op 0 0 0),(1,.v (str p)),(5,.op 6 0 0),(7,.v (.int .i64 (1:Int)))],[(0,.own false 5 [vm 5 cs.length]),(1,.mp (qq B)),(2,.mp (qq M)),(3,.mp (qq T)),(4,.mp (qq O)),(5,.own false 2 (cs.map Cpy.row)),(6,.own false 2 [[.v (.int .i64 2),.v (str x)]])],7⟩) [(6,6)] rfl ?gts2 ?ghs2) ?_;(case gts2=>(repeat (first|exact qg|refine qn ?_|refine ye ?_|refine xr ?_|refine ze ?_|refine xw ?_ ?_|refine qS ?_ ?_));all_goals (first|exact qi _|rfl|trace_state));(case ghs2=>(repeat' (first|exact qj|refine jt ?_|refine zz ?_|refine xY ?_ ?_ ?_|refine vh ?_ ?_|refine yH ?_ ?_|refine y9 ?_ ?_ ?_ ?_|refine q9 ?_ ?_|exact ql|apply qh|exact qk rfl|(apply qw;(first|exact qJ rfl|exact .inr (List.mem_cons_self ..)|exact .inr (List.mem_cons_of_mem _ (List.mem_cons_self ..))|exact .inr (List.mem_cons_of_mem _ (List.mem_cons_of_mem _ (List.mem_cons_self ..)))|exact .inr (List.mem_cons_of_mem _ (List.mem_cons_of_mem _ (List.mem_cons_of_mem _ (List.mem_cons_self ..))))))|refine jn ?_|refine yR ?_ rfl|with_reducible exact List.Perm.refl _));all_goals (first|exact qi _|rfl|trace_state)))
 refine qP (fun n σ => ∃ i:Nat,i ≤ 99 ∧ n = 99 - i ∧ xS M T O p (99 - i) (i + 1) = some q ∧ σ = ⟨[(0,.op 0 0 0),(1,.v (str p)),(5,.op 6 0 0),(7,.v (.int .i64 ((i:Int) + 1)))],[(0,.own false 5 [vm 5 cs.length]),(1,.mp (qq B)),(2,.mp (qq M)),(3,.mp (qq T)),(4,.mp (qq O)),(5,.own false 2 (cs.map Cpy.row)),(6,.own false 2 [[.v (.int .i64 2),.v (str x)]])],7⟩) 99 ⟨0,by omega,rfl,hR,rfl⟩ ?_
 rintro n σ ⟨i,hi,rfl,hsofar,rfl⟩
 by_cases hlt:i < 99
 ·rw [show 99 - i = (99 - (i + 1)) + 1 from by omega,XJ] at hsofar
  have has:=qbx p ((i:Int) + 1) (by omega)
  have he:=XH (n:=i + 1) hp (by omega) (by omega)
  rw [show ((i + 1:Nat):Int) = (i:Int) + 1 from by omega] at he hsofar
  rw [he] at has
  have htwo:=VC p ((i:Int) + 1)
  generalize vz p ((i:Int) + 1) = E at *
  generalize yr p ((i:Int) + 1) = Q at *
  have g1:=vK M Q
  have g2:=vK T Q
  have g3:=vK O Q
  have k1 := @wg M Q
  have k2 := @wg T Q
  have k3 := @wg O Q
  have hfr:JW M T O Q = (!jW M Q && !jW T Q && !jW O Q):=rfl
  generalize stT M Q = a at *
  generalize stT T Q = b at *
  generalize stT O Q = c at *
  generalize jW M Q = A at *
  generalize jW T Q = B2 at *
  generalize jW O Q = D at *
  rcases htwo with rfl|rfl
  ·rw [if_pos rfl] at hsofar
   by_cases hns:JW M T O Q = true
   ·rw [if_pos hns] at hsofar
    injection hsofar with hsofar
    subst hsofar
    rw [hfr] at hns
    have d1:decide (a.kind = 0) = true:=by simp_all
    have d2:decide (b.kind = 0) = true:=by simp_all
    have d3:decide (c.kind = 0) = true:=by simp_all
    have hpu:=Zj (e:=⟨Q,false,x,1⟩) hO
    repeat' (first|refine qm ?_|(first|refine jc Tryz.func88 (has ..) ?_|(apply qf;apply jI;(case hm=>rfl);(case hn=>rfl);(case hk=>rfl);(case hT=>rfl);(case he=>rfl);(case hK=>rfl);(case hks=>rfl);(case hz=>exact jb);(case hzv=>exact jK);(case hx=>exact g1);(case hN=>exact nle rfl))|(apply qf;apply jI;(case hm=>rfl);(case hn=>rfl);(case hk=>rfl);(case hT=>rfl);(case he=>rfl);(case hK=>rfl);(case hks=>rfl);(case hz=>exact jb);(case hzv=>exact jK);(case hx=>exact g2);(case hN=>exact nle rfl))|(apply qf;apply jI;(case hm=>rfl);(case hn=>rfl);(case hk=>rfl);(case hT=>rfl);(case he=>rfl);(case hK=>rfl);(case hks=>rfl);(case hz=>exact jb);(case hzv=>exact jK);(case hx=>exact g3);(case hN=>exact nle rfl))|(apply yy;apply xj;rfl;rfl;rfl;rfl;rfl;rfl;rfl;rfl)|(refine jM ?_)|(refine yg ?_))|((first|refine qd ?_ ?_|refine qc ?_ ?_|refine xsC ?_ ?_);all_goals (intro hc;have hp:=hc;try simp at hp;try (exfalso;omega)))|refine qO ?_ ?_)
    all_goals try (exfalso;first|omega|contradiction)
    all_goals ((apply jH (rs:=[.tmp 6]) [(7,6)] 7;(case hr=>(repeat (first|exact jp|(apply jq;rfl)|(apply jg;rfl;rfl;rfl;rfl;rfl))));(case hL=>rfl);(case hh=>(repeat' (first|exact qj|refine jt ?_|refine zz ?_|refine xY ?_ ?_ ?_|refine vh ?_ ?_|refine yH ?_ ?_|refine y9 ?_ ?_ ?_ ?_|refine q9 ?_ ?_|exact ql|apply qh|exact qk rfl|(apply qw;(first|exact qJ rfl|exact .inr (List.mem_cons_self ..)|exact .inr (List.mem_cons_of_mem _ (List.mem_cons_self ..))|exact .inr (List.mem_cons_of_mem _ (List.mem_cons_of_mem _ (List.mem_cons_self ..)))|exact .inr (List.mem_cons_of_mem _ (List.mem_cons_of_mem _ (List.mem_cons_of_mem _ (List.mem_cons_self ..))))))|refine jn ?_|refine yR ?_ rfl|with_reducible exact List.Perm.refl _));all_goals (first|exact qi _|exact hpu|rfl|(rw [List.map_append,yN];rfl)|(simp [yN];done)|trace_state));(case hi=>exact rfl);(case hz=>first|rfl|(simp [j6,AV.ren,AV.ren.renL,jD,qR,jA];done)|(simp [j6,AV.ren,AV.ren.renL,jD,qR,jA, *];done)|trace_state)))
   ·rw [if_neg hns] at hsofar
    rw [hfr] at hns
    repeat' (first|refine qm ?_|(first|refine jc Tryz.func88 (has ..) ?_|(apply qf;apply jI;(case hm=>rfl);(case hn=>rfl);(case hk=>rfl);(case hT=>rfl);(case he=>rfl);(case hK=>rfl);(case hks=>rfl);(case hz=>exact jb);(case hzv=>exact jK);(case hx=>exact g1);(case hN=>exact nle rfl))|(apply qf;apply jI;(case hm=>rfl);(case hn=>rfl);(case hk=>rfl);(case hT=>rfl);(case he=>rfl);(case hK=>rfl);(case hks=>rfl);(case hz=>exact jb);(case hzv=>exact jK);(case hx=>exact g2);(case hN=>exact nle rfl))|(apply qf;apply jI;(case hm=>rfl);(case hn=>rfl);(case hk=>rfl);(case hT=>rfl);(case he=>rfl);(case hK=>rfl);(case hks=>rfl);(case hz=>exact jb);(case hzv=>exact jK);(case hx=>exact g3);(case hN=>exact nle rfl))|(apply yy;apply xj;rfl;rfl;rfl;rfl;rfl;rfl;rfl;rfl)|(refine jM ?_)|(refine yg ?_))|((first|refine qd ?_ ?_|refine qc ?_ ?_|refine xsC ?_ ?_);all_goals (intro hc;have hp:=hc;try simp at hp;try (exfalso;omega)))|refine qO ?_ ?_)
    all_goals try (exfalso;first|omega|contradiction|(simp_all;done))
    all_goals (refine ⟨99 - (i + 1),_,by omega,qC (τ:=⟨[(0,.op 0 0 0),(1,.v (str p)),(5,.op 6 0 0),(7,.v (.int .i64 (((i + 1:Nat):Int) + 1)))],[(0,.own false 5 [vm 5 cs.length]),(1,.mp (qq B)),(2,.mp (qq M)),(3,.mp (qq T)),(4,.mp (qq O)),(5,.own false 2 (cs.map Cpy.row)),(6,.own false 2 [[.v (.int .i64 2),.v (str x)]])],7⟩) [(6,6)] rfl ?gts ?ghs,i + 1,by omega,rfl,hsofar,rfl⟩;(case gts=>(repeat (first|exact qg|refine qn ?_|refine ye ?_|refine xr ?_|refine ze ?_|refine xw ?_ ?_|refine qS ?_ ?_));all_goals (first|exact qi _|rfl|(congr 2;omega)|(congr 1;congr 1;omega)|trace_state));(case ghs=>(repeat' (first|exact qj|refine jt ?_|refine zz ?_|refine xY ?_ ?_ ?_|refine vh ?_ ?_|refine yH ?_ ?_|refine y9 ?_ ?_ ?_ ?_|refine q9 ?_ ?_|exact ql|apply qh|exact qk rfl|(apply qw;(first|exact qJ rfl|exact .inr (List.mem_cons_self ..)|exact .inr (List.mem_cons_of_mem _ (List.mem_cons_self ..))|exact .inr (List.mem_cons_of_mem _ (List.mem_cons_of_mem _ (List.mem_cons_self ..)))|exact .inr (List.mem_cons_of_mem _ (List.mem_cons_of_mem _ (List.mem_cons_of_mem _ (List.mem_cons_self ..))))))|refine jn ?_|refine yR ?_ rfl|with_reducible exact List.Perm.refl _));all_goals (first|exact qi _|rfl|(congr 2;omega)|(congr 1;congr 1;omega)|trace_state)))
  ·rw [if_neg (by decide)] at hsofar;cases hsofar
 ·obtain rfl:i = 99:=by omega
  cases hsofar
end Go.Proofs.YtnhpclmbhbblbaaGreatDoor
set_option linter.unusedSimpArgs false
set_option linter.unnecessarySimpa false
set_option linter.unusedVariables false
namespace Go.Proofs.YtnhpclmbhbblbaaGreatDoor
open Go.Ab Go.RowKit
set_option maxRecDepth 10000
attribute [local irreducible] Awp yl jE jl Red qX Go.Ab.Fin qW Rz vl jj ji ResOk jV jz yb jv
def vG (l:List (qQ × qQ)):List (List UInt8 × AV):=l.map fun g=>(g.1,xF ⟨2,g.2⟩)
theorem qr (l:List (qQ × qQ)) : ∀ e,e ∈ vG l → e.2.pure = true:=fun e he=>by
 obtain ⟨x,_,rfl⟩:=List.mem_map.1 he;rfl
theorem Ya (l:List (qQ × qQ)):(vG l).map (·.1) = l.map (·.1):=by unfold vG;rw [List.map_map];rfl
theorem VR {b m t:List Ent} {P:List qQ} {i:Nat} (h:i < P.length):yx b m t (P.take (i + 1)) = yx b m t (P.take i) ++ (if (xZ b m t P[i]).2.kind = 2 then [(P[i],(xZ b m t P[i]).2.text)] else []):=by
 unfold yx
 rw [List.take_succ_eq_append_getElem h,List.filterMap_append]
 congr 1
 by_cases hk:(xZ b m t P[i]).2.kind = 2<;>simp [hk]
theorem qcs {b m t:List Ent} {P:List qQ} : ∀ g,g ∈ yx b m t P → g.1 ∈ P:=fun g hg=>by
 obtain ⟨p,h1,h2⟩:=List.mem_filterMap.1 hg
 split at h2
 ·injection h2 with h2;subst h2;exact h1
 ·cases h2
theorem Z8 {b m t:List Ent} {P:List qQ} {i:Nat} (h:i < P.length):xH b m t (P.take (i + 1)) = wJ (xH b m t (P.take i)) P[i] (xZ b m t P[i]).1:=by
 unfold xH
 rw [List.take_succ_eq_append_getElem h,List.foldl_append];rfl
theorem qd4 {b m t:List Ent} {P:List qQ} (hP:P.Nodup) {i:Nat} (h:i < P.length):P[i] ∉ (yx b m t (P.take i)).map (·.1):=fun hm=>by
 obtain ⟨g,hg,he⟩:=List.mem_map.1 hm
 have h1:=qcs g hg
 rw [he] at h1
 obtain ⟨j,hj,h2⟩:=List.getElem_of_mem h1
 rw [List.getElem_take] at h2
 have hj' : j < i:=by simp at hj;omega
 have:=(List.getElem_inj (h₀:=by omega) (h₁:=h) hP (i:=j) (j:=i)).1 h2
 omega
theorem qfH {b m t:List Ent} {P:List qQ} (hP:P.Nodup) {i:Nat} (h:i < P.length):q7 (xH b m t (P.take i)) P[i] = none:=by
 have:=(JJ b m t (P:=P.take i) (o:=[]) rfl).2 P[i]
 show q7 (List.foldl _ [] _) _ = _
 rw [this,if_neg]
 ·rfl
 ·rintro ⟨hm,_⟩
  obtain ⟨j,hj,h2⟩:=List.getElem_of_mem hm
  rw [List.getElem_take] at h2
  have hj' : j < i:=by simp at hj;omega
  have:=(List.getElem_inj (h₀:=by omega) (h₁:=h) hP (i:=j) (j:=i)).1 h2
  omega
theorem qc3 {o:List Ent} {p:qQ} {x:Thg} (h:q4 jr o = true) (hg:kP x) (hn:q7 o p = none):(if x.kind = 0 then xG (qq o) p else yY (qq o) p (xF x)).Perm (qq (wJ o p x)):=by
 unfold wJ
 split
 ·rw [kE]
  rw [zq]
  intro hm
  obtain ⟨e,he,hp⟩:=List.mem_map.1 hm
  exact za.1 hn e he hp
 ·rename_i h0
  exact qc2 h hg h0
theorem qc4 (l:List (List UInt8 × AV)) (p:qQ) (x:Thg) (hp : ∀ e,e ∈ l → e.2.pure = true) : ∀ e,e ∈ (if x.kind = 0 then xG l p else yY l p (xF x)) → e.2.pure = true:=by
 split
 ·intro e he;exact hp e (List.mem_filter.1 he).1
 ·intro e he
  unfold yY at he
  split at he
  ·rcases List.mem_or_eq_of_mem_set he with h|rfl
   ·exact hp e h
   ·rfl
  ·rcases List.mem_append.1 he with h|h
   ·exact hp e h
   ·rw [List.mem_singleton.1 h];rfl
noncomputable def C5:Cx := { C with nh:=5 }
def H5 (B M T:List Ent):List HB:=[.own false 5 [[.mp 1,.mp 2,.mp 3,.mp 4,.sl true []]],.mp (qq B),.mp (qq M),.mp (qq T),.mp (qq [])]
def ke (b m t:List Ent):Nat → List qQ
 | 0 => []
 | 1=>(b.map Ent.path).foldl zE []
 | 2=>(m.map Ent.path).foldl zE ((b.map Ent.path).foldl zE [])
 | _=>(t.map Ent.path).foldl zE ((m.map Ent.path).foldl zE ((b.map Ent.path).foldl zE []))
theorem Xv (b m t:List Ent):ke b m t 3 = zb b m t:=by
 unfold ke zb
 rw [List.map_append,List.map_append,List.foldl_append,List.foldl_append]
 rfl
theorem Qd : ∀ (L l:List qQ),(L.foldl zE l).length ≤ L.length + l.length
 | [],l=>by simp
 | a :: L,l=>by
   have h1:=Qd L (zE l a)
   have h2:(zE l a).length ≤ l.length + 1:=by
    unfold zE
    split
    ·omega
    ·have h3:=(List.takeWhile_sublist (fun x=>Op.bytesLess x a) (l:=l)).length_le
     have h4:(l.takeWhile (fun x=>Op.bytesLess x a) ++ l.dropWhile (fun x=>Op.bytesLess x a)).length = l.length:=by rw [List.takeWhile_append_dropWhile]
     rw [List.length_append] at h4
     rw [List.length_append,List.length_cons, ← h4]
     exact Nat.le_of_eq (by rw [Nat.add_assoc])
   simp only [List.foldl_cons,List.length_cons]
   omega
theorem y9 {L:List (Nat × Nat)} {nh:Nat} {σ:St} {n n' : Nat} {ex ex' : Bool} {k:Nat} {r1 r2 r3 s1 s2 s3:List AV} {l:List (Nat × HB)} (h1:jz L nh r1 s1) (h2:jz L nh r2 s2) (h3:jz L nh r3 s3) (hl:vp L nh σ l) (hm:Maps L nh n n':=by (first|exact qJ rfl|exact .inr (List.mem_cons_self ..)|exact .inr (List.mem_cons_of_mem _ (List.mem_cons_self ..))|exact .inr (List.mem_cons_of_mem _ (List.mem_cons_of_mem _ (List.mem_cons_self ..)))|exact .inr (List.mem_cons_of_mem _ (List.mem_cons_of_mem _ (List.mem_cons_of_mem _ (List.mem_cons_self ..)))))) (hx:ja σ.hs n = .own ex k [r1,r2,r3]:=by rfl) (he:ex' = true → ex = true:=by first|exact id|exact nofun):vp L nh σ ((n',.own ex' k [s1,s2,s3]) :: l) :=
 Qf hm hx he (vv h1 (vv h2 (vv h3 zT))) hl
end Go.Proofs.YtnhpclmbhbblbaaGreatDoor
