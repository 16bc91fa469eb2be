import Derived.Test.YtnhpclmbhbblbaaGreatDoorMz17
import Derived.Test.YtnhpclmbhbblbaaGreatDoorMz18
import Derived.Test.YtnhpclmbhbblbaaGreatDoorMz13
import Derived.Shelf.AbstractIn
set_option linter.unusedSimpArgs false
set_option linter.unnecessarySimpa false
set_option linter.unusedVariables false
namespace Go.Proofs
open Go.RowKit Go.Maps Go.Sort Go.Shelf
theorem Tryz.sortsT (m:Nat):AnyZ.SortsIn Tryz.prog Tryz.sortedT_ren Fence.wide m :=
 ⟨fun blk off cap ss W hH hblk hsz=>callsIn_wide.2 (AnyM.slices_Sort_string Tryz.sortT blk off cap ss W hH hblk hsz),
  fun p cap W=>callsIn_wide.2 (AnyM.slices_Sort_string_none Tryz.sortT p cap W)⟩
set_option maxHeartbeats 1000000 in
theorem Tryz.paths_raw {H:Type} (b nn:Nat) (D0:DataW H) (R:Value → Option (DataW H × List MemPlace)) (w:World) (hown:w.ownsMap Tryz.prog 9 R b nn D0) (hmax:Maps.size D0 ≤ maxLen) (hbytes:Maps.size D0 * 16 ≤ 140737488355328) :
  Calls Tryz.prog 25 #[.map (some b)] w fun e w' => ∃ (v:Value) (ss:List (List UInt8)),e = .returned v ∧ ss.Perm (strKeys D0) ∧
   w'.ownsRow w.heap.size 9 1 v ss.length ((ss.mergeSort (fun x y=>decide (x ≤ y))).map encStr) ∧ (v = .slice none 0 0 ↔ ss = []) ∧ Below w.heap.size w w':=by
 refine (callsIn_wide (n:=6)).1 ?_
 have hbl:=hown.lt
 have hseq:SeqGives Fence.wide 2 Tryz.prog 91 #[.pointer (some ⟨w.heap.size,0,none⟩)] encStr (fun ss=>ss.Perm (strKeys D0)) (Maps.size D0) (w.alloc (.cells #[.map (some b)] 52)) :=
  AnyZ.keys_gives (ρ:=Tryz.keysT_ren) { Tryz.keysT with } Fence.wide _ trivial rfl (by omega) w.heap.size b nn D0 _ (by simp) (by simp) (by
   obtain ⟨es,clock,hb,Ft,hs,hD⟩:=hown
   exact ⟨es,clock,(Below.heap_alloc _ _ b hbl).trans hb,Ft,hs,hD⟩)
 have cK : ∀ mb W,CallsIn Fence.wide 5 Tryz.prog 62 #[.map mb] W fun e w'=>e = .returned (.func (.func 91) #[] #[.pointer (some ⟨W.heap.size,0,none⟩)]) ∧ w' = W.alloc (.cells #[.map mb] 52):=fun mb W=>AnyZ.keys_in Tryz.keysT Fence.wide 5 trivial rfl mb W
 have cS:=AnyZ.sorted_in Tryz.sortedT Fence.wide 5 trivial trivial trivial trivial rfl (by omega) (Tryz.sortsT _) (enters_of Tryz.func90 (by kernel_rfl) rfl) 91 #[.pointer (some ⟨w.heap.size,0,none⟩)] trivial (enters_of Tryz.func91 (by kernel_rfl) rfl) _ _ hmax hbytes _ hseq
 change CallsIn _ _ Tryz.prog 61 _ _ _ at cS
 have hfK:Fence.wide.fn 62:=trivial
 have hfS:Fence.wide.fn 61:=trivial
 refine callsIn_of_wp Tryz.func25 rfl trivial ?_ rfl
 simp only [Tryz.ntmps25,List.size_toArray,List.length_cons,List.length_nil,Nat.reduceAdd,Nat.reduceSub,Array.replicate_succ,Array.replicate_zero,List.push_toArray,List.append_toArray,List.nil_append,List.cons_append]
 gi_wp2_with (first
  | (gi_at_call 62;refine (cK _ _).mono ?_;rintro e w' ⟨rfl,rfl⟩)
  | (gi_at_call 61;refine cS.mono ?_;rintro e w' ⟨v,ss,rfl,hS,hrow,hnil,hb⟩))
 go_ret
 exact ⟨v,ss,rfl,hS,ownsRow_base_a hrow (by simp),hnil,((Below.refl _ w).alloc (Nat.le_refl _) _).trans (hb.mono (by simp))⟩
end Go.Proofs
namespace Go.Proofs.YtnhpclmbhbblbaaGreatDoor
open Go.Ab Go.RowKit
set_option maxRecDepth 10000
attribute [local irreducible] Awp jW jh jn Red qD Go.Ab.Fin qI Rz x4 ji jf ResOk jQ jq yl jg
theorem J7 : ∀ {a b:List UInt8},(a ≤ b) ↔ ¬ Op.bytesLess b a = true:=by
 have key : ∀ (a b:List UInt8),Op.bytesLess a b = true ↔ a < b:=by
  intro a
  induction a with
  | nil=>intro b;cases b<;>simp [Op.bytesLess]
  | cons x a ih =>
    intro b
    cases b with
    | nil=>simp [Op.bytesLess]
    | cons y b =>
      simp only [Op.bytesLess,Bool.or_eq_true,Bool.and_eq_true,decide_eq_true_eq,beq_iff_eq,List.cons_lt_cons_iff,ih]
 intro a b
 rw [key,List.not_lt]
theorem ZG {l:List qx} (hn:l.Nodup):zO (l.mergeSort leB):=by
 have h1:=List.pairwise_mergeSort (le:=leB) (fun a b c hab hbc=>by
  simp only [decide_eq_true_eq,J7] at *
  intro h
  rcases zw b c with h2|h2|h2
  ·exact hab (vr h2.1 h)
  ·rw [h2.1] at hab;exact hab h
  ·exact hbc h2.1) (fun a b=>by
  simp only [Bool.or_eq_true,decide_eq_true_eq,J7]
  rcases zw a b with h2|h2|h2
  ·exact .inl (by simp [h2.2.1])
  ·exact .inl (by simp [h2.2.2])
  ·exact .inr (by simp [h2.2.1])) l
 have h2:=(List.mergeSort_perm l leB).nodup_iff.2 hn
 refine (h1.and h2).imp fun {a b} ⟨h3,h4⟩=>?_
 simp only [decide_eq_true_eq,J7] at h3
 rcases zw a b with h5|h5|h5
 ·exact h5.1
 ·exact absurd h5.1 h4
 ·exact absurd h5.1 h3
theorem KW {l s:List qx} (hn:l.Nodup) (hs:zO s) (hm : ∀ x,x ∈ l ↔ x ∈ s):l.mergeSort leB = s :=
 VS (ZG hn) hs fun x=>by rw [(List.mergeSort_perm l leB).mem_iff,hm]
theorem xj {s:List qx} (h:zO s):s.Nodup:=h.imp fun {a b} hab e=>by rw [e,vV] at hab;cases hab
theorem Y7 {t:List Ent} (h:qS jj t = true):zO (t.map Ent.path):=by
 unfold zO;rw [List.pairwise_map];exact yB.1 h
theorem Je (l:List (List UInt8 × AV)) (s:List qx) (hs:zO s) (hp:(l.map (·.1)).Perm s) (hl:s.length ≤ 1000000) (hk : ∀ x,x ∈ s → x.length ≤ 1000000) :
  qI C1.P 25 [.mp 0] [.mp l] (.os 1 0 s.length) [.mp l,.own false 1 (s.map jy)]:=by
 have hlen:l.length = s.length:=by rw [← hp.length_eq,List.length_map]
 have h:=Za (P:=C1.P) (f:=25) (k:=9) Tryz.underlying9 (l:=l) (by omega) (fun x hx=>hk x.1 (hp.mem_iff.1 (List.mem_map.2 ⟨x,hx,rfl⟩))) (fun b nn D0 w h1 h2 h3=>Tryz.paths_raw b nn D0 yI w h1 h2 h3)
 rw [KW (hp.nodup_iff.2 (xj hs)) hs (fun x=>hp.mem_iff),hlen] at h
 exact h
end Go.Proofs.YtnhpclmbhbblbaaGreatDoor
set_option linter.unusedSimpArgs false
set_option linter.unnecessarySimpa false
set_option linter.unusedVariables false
set_option maxHeartbeats 1000000
namespace Go.Proofs.YtnhpclmbhbblbaaGreatDoor
open Go.Ab Go.RowKit
set_option maxRecDepth 10000
attribute [local irreducible] Awp jW jh jn Red qD Go.Ab.Fin qI Rz x4 ji jf ResOk jQ jq yl jg
theorem XK (s:qx):q0 (s ++ [47]) = q0 s ++ [s]:=by
 have h1:=YF s
 have hp:=List.length_pos_iff.2 (yc s)
 apply List.ext_getElem
 ·rw [jH,List.length_append,jH,h1,List.length_append];simp;omega
 ·intro i h2 h3
  rw [xh h2]
  rw [jH,h1,List.length_append] at h2
  simp only [List.length_cons,List.length_nil] at h2
  rw [h1,List.take_append_of_le_length (by omega)]
  rw [List.getElem_append]
  split
  ·rename_i h4
   rw [xh h4]
  ·rename_i h4
   rw [jH] at h4
   have:i + 1 = (qg s).length:=by omega
   rw [this,List.take_length,jL]
   simp
theorem XJ {c:UInt8} (h:¬ c = 47) (s:qx):q0 (s ++ [c]) = q0 s:=by
 have h1:=XE h s
 have hp:=List.length_pos_iff.2 (yc s)
 have hl:(qg (s ++ [c])).length = (qg s).length:=by rw [h1,List.length_append,List.length_dropLast];simp;omega
 apply List.ext_getElem
 ·rw [jH,jH,hl]
 ·intro i h2 h3
  rw [xh h2,xh h3]
  rw [jH] at h3
  rw [h1,List.take_append_of_le_length (by rw [List.length_dropLast];omega),List.dropLast_eq_take,List.take_take,Nat.min_eq_left (by omega)]
theorem VI {p:qx} {i:Nat} (h:i < p.length):q0 (p.take (i + 1)) = if p[i] = 47 then q0 (p.take i) ++ [p.take i] else q0 (p.take i):=by
 rw [List.take_succ_eq_append_getElem h]
 split
 ·rename_i e;rw [e,XK]
 ·rename_i e;rw [XJ e]
theorem Zy (p:qx):(q0 p).length ≤ p.length:=by
 rw [jH,kI]
 have:=List.count_le_length (a:=(47:UInt8)) (l:=p)
 omega
theorem ZA {p:qx} (h:qn p = 0) : ∀ c,c ∈ p → c.toNat < 128:=by
 have h1:=(j4.1 h).1
 intro c hc
 have key : ∀ (l:List qx),(∀ n,n ∈ l → ∀ c,c ∈ n → c.toNat < 128) → ∀ c,c ∈ xi l → c.toNat < 128:=by
  intro l
  induction l with
  | nil=>intro _ c hc;cases hc
  | cons n l ih =>
    intro h c hc
    cases l with
    | nil=>exact h n (by simp) c hc
    | cons m l =>
      rw [xJ (by simp)] at hc
      rcases List.mem_append.1 hc with h2|h2
      ·exact h n (by simp) c h2
      ·rcases List.mem_cons.1 h2 with rfl|h2
       ·decide
       ·exact ih (fun n' hn'=>h n' (by simp [hn'])) c h2
 rw [← jL p] at hc
 refine key _ (fun n hn c hc=>?_) c hc
 have h2:=(ke.1 (h1 n hn)).2.2.2.2.2.2 c hc
 simp [KH] at h2
 omega
theorem Ke (p:qx) (hp:qn p = 0):qI C.P 60 [.v (str p)] [] (.os 0 0 (q0 p).length) [.own false 1 ((q0 p).map jy)]:=by
 have hpl:=q9 hp
 have hasc:=ZA hp
 refine qa Tryz.func60 rfl _ Tryz.ntmps60 (Nat.le_of_ble_eq_true rfl) _ Tryz.results60 0 rfl rfl ?_
 repeat' (first|refine qu ?_|(first|(apply yJ;apply Xr;(case hx=>rfl);(case hT=>rfl);(case hs=>rfl);(case hN=>exact nle rfl)))|((first|refine xsC ?_ ?_);all_goals (intro hc;have hp:=hc;try simp at hp;try (exfalso;omega)))|refine jc ?_ ?_)
 all_goals try (exfalso;omega)
 refine Awp.red (Qo 3 1 rfl (Nat.zero_le _)) ?_
 (refine Awp.red (qN (τ:=⟨[(0,.v (str p)),(3,.os 1 0 0),(7,.op 0 0 0)],[(0,.mp (.sit p 0)),(1,.own false 1 [])],2⟩) [(0,0),(1,1)] rfl ?gts2 ?ghs2) ?_;(case gts2=>(repeat (first|exact qp|refine qE ?_|refine yq ?_|refine j1 ?_|refine xg ?_|refine j3 ?_ ?_|refine ju ?_ ?_));all_goals (first|rfl|trace_state));(case ghs2=>(repeat' (first|exact qh|refine jv ?_|refine x5 ?_|refine yo ?_ ?_ ?_|refine yE ?_ ?_|refine jZ ?_ ?_|refine jS ?_ ?_ ?_ ?_|refine q7 ?_ ?_|exact qm|apply qf|exact ql rfl|(apply qt;(first|exact qq rfl|exact .inr (List.mem_cons_self ..)|exact .inr (List.mem_cons_of_mem _ (List.mem_cons_self ..))|exact .inr (List.mem_cons_of_mem _ (List.mem_cons_of_mem _ (List.mem_cons_self ..)))|exact .inr (List.mem_cons_of_mem _ (List.mem_cons_of_mem _ (List.mem_cons_of_mem _ (List.mem_cons_self ..))))))|refine qX ?_|refine jT ?_ rfl|with_reducible exact List.Perm.refl _));all_goals (first|rfl|trace_state)))
 refine jr (fun n σ => ∃ i:Nat,i ≤ p.length ∧ n = p.length - i ∧ (True) ∧ σ = ⟨[(0,.v (str p)),(3,.os 1 0 (q0 (p.take i)).length),(7,.op 0 0 0)],[(0,.mp (.sit p i)),(1,.own false 1 ((q0 (p.take i)).map jy))],2⟩) p.length ⟨0,Nat.zero_le _,rfl,trivial,rfl⟩ ?_
 rintro n σ ⟨i,hi,rfl, -,rfl⟩
 have hfew:(q0 (p.take i)).length ≤ p.length:=by have:=Zy (p.take i);rw [List.length_take] at this;omega
 by_cases hlt:i < p.length
 ·have hs:=VI hlt
  have ha:=hasc p[i] (List.getElem_mem _)
  have hpt:(p.drop 0).take i = p.take i:=rfl
  generalize hPI:q0 (p.take i) = PI at *
  generalize hPJ:q0 (p.take (i + 1)) = PJ at *
  have hc47:(p[i].toNat:Int) = 47 ↔ p[i] = 47:=by
   constructor
   ·intro h;exact UInt8.toNat.inj (by show p[i].toNat = 47;omega)
   ·intro h;rw [h];rfl
  by_cases h47:p[i] = 47
  ·rw [if_pos h47] at hs
   have h47':=hc47.2 h47
   repeat' (first|refine qu ?_|(first|(apply kK;apply QZ;(case hi=>rfl);(case hm=>rfl);(case hp=>exact hlt);(case ha=>exact ha);(case hN=>exact nle rfl))|(refine qbc ?_)|(refine yu ?_)|(refine v2 ?_))|((first|refine xsC ?_ ?_);all_goals (intro hc;have hp:=hc;try simp at hp;try (exfalso;omega)))|refine jc ?_ ?_)
   all_goals try (exfalso;first|omega|contradiction)
   refine ⟨p.length - (i + 1),_,by omega,qN (τ:=⟨[(0,.v (str p)),(3,.os 1 0 (q0 (p.take (i + 1))).length),(7,.op 0 0 0)],[(0,.mp (.sit p (i + 1))),(1,.own false 1 ((q0 (p.take (i + 1))).map jy))],2⟩) [(0,0),(2,1)] rfl ?gts ?ghs,i + 1,by omega,rfl,trivial,rfl⟩;(case gts=>(repeat (first|exact qp|refine qE ?_|refine yq ?_|refine j1 ?_|refine xg ?_|refine j3 ?_ ?_|refine ju ?_ ?_));all_goals (first|rfl|(rw [hPJ,hs];done)|(rw [hPJ,hs];first|rfl|(simp [jy];done)|(simp [jy,jJ];done)|(rw [List.map_append,jJ];rfl))|trace_state));(case ghs=>(repeat' (first|exact qh|refine jv ?_|refine x5 ?_|refine yo ?_ ?_ ?_|refine yE ?_ ?_|refine jZ ?_ ?_|refine jS ?_ ?_ ?_ ?_|refine q7 ?_ ?_|exact qm|apply qf|exact ql rfl|(apply qt;(first|exact qq rfl|exact .inr (List.mem_cons_self ..)|exact .inr (List.mem_cons_of_mem _ (List.mem_cons_self ..))|exact .inr (List.mem_cons_of_mem _ (List.mem_cons_of_mem _ (List.mem_cons_self ..)))|exact .inr (List.mem_cons_of_mem _ (List.mem_cons_of_mem _ (List.mem_cons_of_mem _ (List.mem_cons_self ..))))))|refine qX ?_|refine jT ?_ rfl|with_reducible exact List.Perm.refl _));all_goals (first|rfl|(rw [hPJ,hs];done)|(rw [hPJ,hs];first|rfl|(simp [jy];done)|(simp [jy,jJ];done)|(rw [List.map_append,jJ];rfl))|trace_state))
  ·rw [if_neg h47] at hs
   have h47' : ¬ (p[i].toNat:Int) = 47:=fun h=>h47 (hc47.1 h)
   repeat' (first|refine qu ?_|(first|(apply kK;apply QZ;(case hi=>rfl);(case hm=>rfl);(case hp=>exact hlt);(case ha=>exact ha);(case hN=>exact nle rfl))|(refine qbc ?_)|(refine yu ?_)|(refine v2 ?_))|((first|refine xsC ?_ ?_);all_goals (intro hc;have hp:=hc;try simp at hp;try (exfalso;omega)))|refine jc ?_ ?_)
   all_goals try (exfalso;first|omega|contradiction)
   refine ⟨p.length - (i + 1),_,by omega,qN (τ:=⟨[(0,.v (str p)),(3,.os 1 0 (q0 (p.take (i + 1))).length),(7,.op 0 0 0)],[(0,.mp (.sit p (i + 1))),(1,.own false 1 ((q0 (p.take (i + 1))).map jy))],2⟩) [(0,0),(1,1)] rfl ?gts ?ghs,i + 1,by omega,rfl,trivial,rfl⟩;(case gts=>(repeat (first|exact qp|refine qE ?_|refine yq ?_|refine j1 ?_|refine xg ?_|refine j3 ?_ ?_|refine ju ?_ ?_));all_goals (first|rfl|(rw [hPJ,hs];done)|(rw [hPJ,hs];first|rfl|(simp [jy];done)|(simp [jy,jJ];done)|(rw [List.map_append,jJ];rfl))|trace_state));(case ghs=>(repeat' (first|exact qh|refine jv ?_|refine x5 ?_|refine yo ?_ ?_ ?_|refine yE ?_ ?_|refine jZ ?_ ?_|refine jS ?_ ?_ ?_ ?_|refine q7 ?_ ?_|exact qm|apply qf|exact ql rfl|(apply qt;(first|exact qq rfl|exact .inr (List.mem_cons_self ..)|exact .inr (List.mem_cons_of_mem _ (List.mem_cons_self ..))|exact .inr (List.mem_cons_of_mem _ (List.mem_cons_of_mem _ (List.mem_cons_self ..)))|exact .inr (List.mem_cons_of_mem _ (List.mem_cons_of_mem _ (List.mem_cons_of_mem _ (List.mem_cons_self ..))))))|refine qX ?_|refine jT ?_ rfl|with_reducible exact List.Perm.refl _));all_goals (first|rfl|(rw [hPJ,hs];done)|(rw [hPJ,hs];first|rfl|(simp [jy];done)|(simp [jy,jJ];done)|(rw [List.map_append,jJ];rfl))|trace_state))
 obtain rfl:i = p.length:=by omega
 rw [List.take_length] at *
 repeat' (first|refine qu ?_|(first|(apply qb;apply Vk;(case hi=>rfl);(case hm=>rfl);(case hp=>exact Nat.le_refl _);(case hN=>exact nle rfl)))|((first|refine xsC ?_ ?_);all_goals (intro hc;have hp:=hc;try simp at hp;try (exfalso;omega)))|refine jc ?_ ?_)
 all_goals try (exfalso;omega)
 (apply jb (rs:=[.tmp 2]) [(1,0)] 1;(case hr=>(repeat (first|exact qP|(apply qQ;rfl)|(apply qJ;rfl;rfl;rfl;rfl;rfl))));(case hL=>rfl);(case hh=>(repeat' (first|exact qh|refine jv ?_|refine x5 ?_|refine yo ?_ ?_ ?_|refine yE ?_ ?_|refine jZ ?_ ?_|refine jS ?_ ?_ ?_ ?_|refine q7 ?_ ?_|exact qm|apply qf|exact ql rfl|(apply qt;(first|exact qq rfl|exact .inr (List.mem_cons_self ..)|exact .inr (List.mem_cons_of_mem _ (List.mem_cons_self ..))|exact .inr (List.mem_cons_of_mem _ (List.mem_cons_of_mem _ (List.mem_cons_self ..)))|exact .inr (List.mem_cons_of_mem _ (List.mem_cons_of_mem _ (List.mem_cons_of_mem _ (List.mem_cons_self ..))))))|refine qX ?_|refine jT ?_ rfl|with_reducible exact List.Perm.refl _));all_goals (first|rfl|trace_state));(case hi=>exact rfl);(case hz=>first|rfl|(simp [jx,AV.ren,AV.ren.renL,q4,qr,qZ];done)|(simp [jx,AV.ren,AV.ren.renL,q4,qr,qZ, *];done)|trace_state))
end Go.Proofs.YtnhpclmbhbblbaaGreatDoor
set_option linter.unusedSimpArgs false
set_option linter.unnecessarySimpa false
set_option linter.unusedVariables false
set_option maxHeartbeats 1000000
namespace Go.Proofs.YtnhpclmbhbblbaaGreatDoor
open Go.Ab Go.RowKit
set_option maxRecDepth 10000
attribute [local irreducible] Awp jW jh jn Red qD Go.Ab.Fin qI Rz x4 ji jf ResOk jQ jq yl jg
def Cpy.row (c:Cpy):List AV:=[.v (str c.path),.v (str c.at_)]
def yN (c k:Nat):List AV:=[.mp 1,.mp 2,.mp 3,.mp 4,.os c 0 k]
def H6 (B M T O:List Ent) (cs:List Cpy):List HB:=[.own false 5 [yN 5 cs.length],.mp (qd B),.mp (qd M),.mp (qd T),.mp (qd O),.own false 2 (cs.map Cpy.row)]
theorem KI {b x y:Thg} {G:Thg × Thg → Prop} (h1:x = y → G (x,noT)) (h2:¬ x = y → x = b → G (y,noT)) (h3:¬ x = y → ¬ x = b → y = b → G (x,noT)) (h4:¬ x = y → ¬ x = b → ¬ y = b → x.kind = 1 → G (x,y))
  (h5:¬ x = y → ¬ x = b → ¬ y = b → ¬ x.kind = 1 → y.kind = 1 → G (y,x)) (h6:¬ x = y → ¬ x = b → ¬ y = b → ¬ x.kind = 1 → ¬ y.kind = 1 → x.kind = 2 → y.kind = 2 → G (y,x))
  (h7:¬ x = y → ¬ x = b → ¬ y = b → ¬ x.kind = 1 → ¬ y.kind = 1 → x.kind = 2 → ¬ y.kind = 2 → G (x,noT)) (h8:¬ x = y → ¬ x = b → ¬ y = b → ¬ x.kind = 1 → ¬ y.kind = 1 → ¬ x.kind = 2 → G (y,noT)):G (kv b x y):=by
 unfold kv
 by_cases k1:x = y
 ·rw [if_pos k1];exact h1 k1
 rw [if_neg k1]
 by_cases k2:x = b
 ·rw [if_pos k2];exact h2 k1 k2
 rw [if_neg k2]
 by_cases k3:y = b
 ·rw [if_pos k3];exact h3 k1 k2 k3
 rw [if_neg k3]
 by_cases k4:x.kind = 1
 ·rw [if_pos k4];exact h4 k1 k2 k3 k4
 rw [if_neg k4]
 by_cases k5:y.kind = 1
 ·rw [if_pos k5];exact h5 k1 k2 k3 k4 k5
 rw [if_neg k5]
 by_cases k6:x.kind = 2
 ·by_cases k7:y.kind = 2
  ·rw [if_pos ⟨k6,k7⟩];exact h6 k1 k2 k3 k4 k5 k6 k7
  ·rw [if_neg (fun h=>k7 h.2),if_pos k6];exact h7 k1 k2 k3 k4 k5 k6 k7
 ·rw [if_neg (fun h=>k6 h.1),if_neg k6];exact h8 k1 k2 k3 k4 k5 k6
set_option maxHeartbeats 4000000 in
theorem qbM (B M T O:List Ent) (cs:List Cpy) (p:qx):qI C6.P 57 [.op 0 0 0,.v (str p)] (H6 B M T O cs) (.tup [j6 (yj B M T p).1,j6 (yj B M T p).2]) (H6 B M T O cs):=by
 have g1:=y3 B p
 have g2:=y3 M p
 have g3:=y3 T p
 unfold yj
 generalize stT B p = b at *
 generalize stT M p = x at *
 generalize stT T p = y at *
 refine KI (b:=b) (x:=x) (y:=y) (G:=fun r=>qI C6.P 57 [.op 0 0 0,.v (str p)] (H6 B M T O cs) (.tup [j6 r.1,j6 r.2]) (H6 B M T O cs)) ?_ ?_ ?_ ?_ ?_ ?_ ?_ ?_
 ·intro k0
  have d0:decide (x = y) = true:=by simpa using k0
  refine qa (C:=C6) Tryz.func57 rfl _ Tryz.ntmps57 (Nat.le_of_ble_eq_true rfl) _ Tryz.results57 6 rfl rfl ?_
  repeat' (first|refine qu ?_|(first|(apply qb;apply q5;(case hm=>rfl);(case hn=>rfl);(case hk=>rfl);(case hT=>rfl);(case he=>rfl);(case hK=>rfl);(case hks=>rfl);(case hz=>exact qz);(case hzv=>exact q6);(case hx=>exact g1);(case hN=>exact nle rfl))|(apply qb;apply q5;(case hm=>rfl);(case hn=>rfl);(case hk=>rfl);(case hT=>rfl);(case he=>rfl);(case hK=>rfl);(case hks=>rfl);(case hz=>exact qz);(case hzv=>exact q6);(case hx=>exact g2);(case hN=>exact nle rfl))|(apply qb;apply q5;(case hm=>rfl);(case hn=>rfl);(case hk=>rfl);(case hT=>rfl);(case he=>rfl);(case hK=>rfl);(case hks=>rfl);(case hz=>exact qz);(case hzv=>exact q6);(case hx=>exact g3);(case hN=>exact nle rfl))|(apply qb;apply yG;rfl;rfl;exact y9;exact yg _ _;(first|exact .inl ⟨rfl,rfl⟩|exact .inr ⟨rfl,rfl⟩);exact nle rfl))|((first|refine qk ?_ ?_|refine qj ?_ ?_|refine xsC ?_ ?_);all_goals (intro hc;have hp:=hc;try simp at hp;try (exfalso;omega)))|refine jc ?_ ?_)
  (apply jb (rs:=[.cell 4 99,.cell 5 99]) [] 6;(case hr=>(repeat (first|exact qP|(apply qQ;rfl)|(apply qJ;rfl;rfl;rfl;rfl;rfl))));(case hL=>rfl);(case hh=>(repeat' (first|exact qh|refine jv ?_|refine x5 ?_|refine yo ?_ ?_ ?_|refine yE ?_ ?_|refine jZ ?_ ?_|refine jS ?_ ?_ ?_ ?_|refine q7 ?_ ?_|exact qm|apply qf|exact ql rfl|(apply qt;(first|exact qq rfl|exact .inr (List.mem_cons_self ..)|exact .inr (List.mem_cons_of_mem _ (List.mem_cons_self ..))|exact .inr (List.mem_cons_of_mem _ (List.mem_cons_of_mem _ (List.mem_cons_self ..)))|exact .inr (List.mem_cons_of_mem _ (List.mem_cons_of_mem _ (List.mem_cons_of_mem _ (List.mem_cons_self ..))))))|refine qX ?_|refine jT ?_ rfl|with_reducible exact List.Perm.refl _));all_goals (first|exact qc _|rfl|exact List.Perm.refl _|trace_state));(case hi=>exact rfl);(case hz=>first|rfl|(simp [jx,AV.ren,AV.ren.renL,q4,qr,qZ];done)|(simp [jx,AV.ren,AV.ren.renL,q4,qr,qZ, *];done)|trace_state))
 ·intro k0 k1
  have d0:decide (x = y) = false:=by simpa using k0
  have d1:decide (x = b) = true:=by simpa using k1
  refine qa (C:=C6) Tryz.func57 rfl _ Tryz.ntmps57 (Nat.le_of_ble_eq_true rfl) _ Tryz.results57 6 rfl rfl ?_
  repeat' (first|refine qu ?_|(first|(apply qb;apply q5;(case hm=>rfl);(case hn=>rfl);(case hk=>rfl);(case hT=>rfl);(case he=>rfl);(case hK=>rfl);(case hks=>rfl);(case hz=>exact qz);(case hzv=>exact q6);(case hx=>exact g1);(case hN=>exact nle rfl))|(apply qb;apply q5;(case hm=>rfl);(case hn=>rfl);(case hk=>rfl);(case hT=>rfl);(case he=>rfl);(case hK=>rfl);(case hks=>rfl);(case hz=>exact qz);(case hzv=>exact q6);(case hx=>exact g2);(case hN=>exact nle rfl))|(apply qb;apply q5;(case hm=>rfl);(case hn=>rfl);(case hk=>rfl);(case hT=>rfl);(case he=>rfl);(case hK=>rfl);(case hks=>rfl);(case hz=>exact qz);(case hzv=>exact q6);(case hx=>exact g3);(case hN=>exact nle rfl))|(apply qb;apply yG;rfl;rfl;exact y9;exact yg _ _;(first|exact .inl ⟨rfl,rfl⟩|exact .inr ⟨rfl,rfl⟩);exact nle rfl))|((first|refine qk ?_ ?_|refine qj ?_ ?_|refine xsC ?_ ?_);all_goals (intro hc;have hp:=hc;try simp at hp;try (exfalso;omega)))|refine jc ?_ ?_)
  (apply jb (rs:=[.cell 4 99,.cell 5 99]) [] 6;(case hr=>(repeat (first|exact qP|(apply qQ;rfl)|(apply qJ;rfl;rfl;rfl;rfl;rfl))));(case hL=>rfl);(case hh=>(repeat' (first|exact qh|refine jv ?_|refine x5 ?_|refine yo ?_ ?_ ?_|refine yE ?_ ?_|refine jZ ?_ ?_|refine jS ?_ ?_ ?_ ?_|refine q7 ?_ ?_|exact qm|apply qf|exact ql rfl|(apply qt;(first|exact qq rfl|exact .inr (List.mem_cons_self ..)|exact .inr (List.mem_cons_of_mem _ (List.mem_cons_self ..))|exact .inr (List.mem_cons_of_mem _ (List.mem_cons_of_mem _ (List.mem_cons_self ..)))|exact .inr (List.mem_cons_of_mem _ (List.mem_cons_of_mem _ (List.mem_cons_of_mem _ (List.mem_cons_self ..))))))|refine qX ?_|refine jT ?_ rfl|with_reducible exact List.Perm.refl _));all_goals (first|exact qc _|rfl|exact List.Perm.refl _|trace_state));(case hi=>exact rfl);(case hz=>first|rfl|(simp [jx,AV.ren,AV.ren.renL,q4,qr,qZ];done)|(simp [jx,AV.ren,AV.ren.renL,q4,qr,qZ, *];done)|trace_state))
 ·intro k0 k1 k2
  have d0:decide (x = y) = false:=by simpa using k0
  have d1:decide (x = b) = false:=by simpa using k1
  have d2:decide (y = b) = true:=by simpa using k2
  refine qa (C:=C6) Tryz.func57 rfl _ Tryz.ntmps57 (Nat.le_of_ble_eq_true rfl) _ Tryz.results57 6 rfl rfl ?_
  repeat' (first|refine qu ?_|(first|(apply qb;apply q5;(case hm=>rfl);(case hn=>rfl);(case hk=>rfl);(case hT=>rfl);(case he=>rfl);(case hK=>rfl);(case hks=>rfl);(case hz=>exact qz);(case hzv=>exact q6);(case hx=>exact g1);(case hN=>exact nle rfl))|(apply qb;apply q5;(case hm=>rfl);(case hn=>rfl);(case hk=>rfl);(case hT=>rfl);(case he=>rfl);(case hK=>rfl);(case hks=>rfl);(case hz=>exact qz);(case hzv=>exact q6);(case hx=>exact g2);(case hN=>exact nle rfl))|(apply qb;apply q5;(case hm=>rfl);(case hn=>rfl);(case hk=>rfl);(case hT=>rfl);(case he=>rfl);(case hK=>rfl);(case hks=>rfl);(case hz=>exact qz);(case hzv=>exact q6);(case hx=>exact g3);(case hN=>exact nle rfl))|(apply qb;apply yG;rfl;rfl;exact y9;exact yg _ _;(first|exact .inl ⟨rfl,rfl⟩|exact .inr ⟨rfl,rfl⟩);exact nle rfl))|((first|refine qk ?_ ?_|refine qj ?_ ?_|refine xsC ?_ ?_);all_goals (intro hc;have hp:=hc;try simp at hp;try (exfalso;omega)))|refine jc ?_ ?_)
  (apply jb (rs:=[.cell 4 99,.cell 5 99]) [] 6;(case hr=>(repeat (first|exact qP|(apply qQ;rfl)|(apply qJ;rfl;rfl;rfl;rfl;rfl))));(case hL=>rfl);(case hh=>(repeat' (first|exact qh|refine jv ?_|refine x5 ?_|refine yo ?_ ?_ ?_|refine yE ?_ ?_|refine jZ ?_ ?_|refine jS ?_ ?_ ?_ ?_|refine q7 ?_ ?_|exact qm|apply qf|exact ql rfl|(apply qt;(first|exact qq rfl|exact .inr (List.mem_cons_self ..)|exact .inr (List.mem_cons_of_mem _ (List.mem_cons_self ..))|exact .inr (List.mem_cons_of_mem _ (List.mem_cons_of_mem _ (List.mem_cons_self ..)))|exact .inr (List.mem_cons_of_mem _ (List.mem_cons_of_mem _ (List.mem_cons_of_mem _ (List.mem_cons_self ..))))))|refine qX ?_|refine jT ?_ rfl|with_reducible exact List.Perm.refl _));all_goals (first|exact qc _|rfl|exact List.Perm.refl _|trace_state));(case hi=>exact rfl);(case hz=>first|rfl|(simp [jx,AV.ren,AV.ren.renL,q4,qr,qZ];done)|(simp [jx,AV.ren,AV.ren.renL,q4,qr,qZ, *];done)|trace_state))
 ·intro k0 k1 k2 k3
  have d0:decide (x = y) = false:=by simpa using k0
  have d1:decide (x = b) = false:=by simpa using k1
  have d2:decide (y = b) = false:=by simpa using k2
  have d3:decide (x.kind = 1) = true:=by simpa using k3
  refine qa (C:=C6) Tryz.func57 rfl _ Tryz.ntmps57 (Nat.le_of_ble_eq_true rfl) _ Tryz.results57 6 rfl rfl ?_
  repeat' (first|refine qu ?_|(first|(apply qb;apply q5;(case hm=>rfl);(case hn=>rfl);(case hk=>rfl);(case hT=>rfl);(case he=>rfl);(case hK=>rfl);(case hks=>rfl);(case hz=>exact qz);(case hzv=>exact q6);(case hx=>exact g1);(case hN=>exact nle rfl))|(apply qb;apply q5;(case hm=>rfl);(case hn=>rfl);(case hk=>rfl);(case hT=>rfl);(case he=>rfl);(case hK=>rfl);(case hks=>rfl);(case hz=>exact qz);(case hzv=>exact q6);(case hx=>exact g2);(case hN=>exact nle rfl))|(apply qb;apply q5;(case hm=>rfl);(case hn=>rfl);(case hk=>rfl);(case hT=>rfl);(case he=>rfl);(case hK=>rfl);(case hks=>rfl);(case hz=>exact qz);(case hzv=>exact q6);(case hx=>exact g3);(case hN=>exact nle rfl))|(apply qb;apply yG;rfl;rfl;exact y9;exact yg _ _;(first|exact .inl ⟨rfl,rfl⟩|exact .inr ⟨rfl,rfl⟩);exact nle rfl))|((first|refine qk ?_ ?_|refine qj ?_ ?_|refine xsC ?_ ?_);all_goals (intro hc;have hp:=hc;try simp at hp;try (exfalso;omega)))|refine jc ?_ ?_)
  (apply jb (rs:=[.cell 4 99,.cell 5 99]) [] 6;(case hr=>(repeat (first|exact qP|(apply qQ;rfl)|(apply qJ;rfl;rfl;rfl;rfl;rfl))));(case hL=>rfl);(case hh=>(repeat' (first|exact qh|refine jv ?_|refine x5 ?_|refine yo ?_ ?_ ?_|refine yE ?_ ?_|refine jZ ?_ ?_|refine jS ?_ ?_ ?_ ?_|refine q7 ?_ ?_|exact qm|apply qf|exact ql rfl|(apply qt;(first|exact qq rfl|exact .inr (List.mem_cons_self ..)|exact .inr (List.mem_cons_of_mem _ (List.mem_cons_self ..))|exact .inr (List.mem_cons_of_mem _ (List.mem_cons_of_mem _ (List.mem_cons_self ..)))|exact .inr (List.mem_cons_of_mem _ (List.mem_cons_of_mem _ (List.mem_cons_of_mem _ (List.mem_cons_self ..))))))|refine qX ?_|refine jT ?_ rfl|with_reducible exact List.Perm.refl _));all_goals (first|exact qc _|rfl|exact List.Perm.refl _|trace_state));(case hi=>exact rfl);(case hz=>first|rfl|(simp [jx,AV.ren,AV.ren.renL,q4,qr,qZ];done)|(simp [jx,AV.ren,AV.ren.renL,q4,qr,qZ, *];done)|trace_state))
 ·intro k0 k1 k2 k3 k4
  have d0:decide (x = y) = false:=by simpa using k0
  have d1:decide (x = b) = false:=by simpa using k1
  have d2:decide (y = b) = false:=by simpa using k2
  have d3:decide (x.kind = 1) = false:=by simpa using k3
  have d4:decide (y.kind = 1) = true:=by simpa using k4
  refine qa (C:=C6) Tryz.func57 rfl _ Tryz.ntmps57 (Nat.le_of_ble_eq_true rfl) _ Tryz.results57 6 rfl rfl ?_
  repeat' (first|refine qu ?_|(first|(apply qb;apply q5;(case hm=>rfl);(case hn=>rfl);(case hk=>rfl);(case hT=>rfl);(case he=>rfl);(case hK=>rfl);(case hks=>rfl);(case hz=>exact qz);(case hzv=>exact q6);(case hx=>exact g1);(case hN=>exact nle rfl))|(apply qb;apply q5;(case hm=>rfl);(case hn=>rfl);(case hk=>rfl);(case hT=>rfl);(case he=>rfl);(case hK=>rfl);(case hks=>rfl);(case hz=>exact qz);(case hzv=>exact q6);(case hx=>exact g2);(case hN=>exact nle rfl))|(apply qb;apply q5;(case hm=>rfl);(case hn=>rfl);(case hk=>rfl);(case hT=>rfl);(case he=>rfl);(case hK=>rfl);(case hks=>rfl);(case hz=>exact qz);(case hzv=>exact q6);(case hx=>exact g3);(case hN=>exact nle rfl))|(apply qb;apply yG;rfl;rfl;exact y9;exact yg _ _;(first|exact .inl ⟨rfl,rfl⟩|exact .inr ⟨rfl,rfl⟩);exact nle rfl))|((first|refine qk ?_ ?_|refine qj ?_ ?_|refine xsC ?_ ?_);all_goals (intro hc;have hp:=hc;try simp at hp;try (exfalso;omega)))|refine jc ?_ ?_)
  (apply jb (rs:=[.cell 4 99,.cell 5 99]) [] 6;(case hr=>(repeat (first|exact qP|(apply qQ;rfl)|(apply qJ;rfl;rfl;rfl;rfl;rfl))));(case hL=>rfl);(case hh=>(repeat' (first|exact qh|refine jv ?_|refine x5 ?_|refine yo ?_ ?_ ?_|refine yE ?_ ?_|refine jZ ?_ ?_|refine jS ?_ ?_ ?_ ?_|refine q7 ?_ ?_|exact qm|apply qf|exact ql rfl|(apply qt;(first|exact qq rfl|exact .inr (List.mem_cons_self ..)|exact .inr (List.mem_cons_of_mem _ (List.mem_cons_self ..))|exact .inr (List.mem_cons_of_mem _ (List.mem_cons_of_mem _ (List.mem_cons_self ..)))|exact .inr (List.mem_cons_of_mem _ (List.mem_cons_of_mem _ (List.mem_cons_of_mem _ (List.mem_cons_self ..))))))|refine qX ?_|refine jT ?_ rfl|with_reducible exact List.Perm.refl _));all_goals (first|exact qc _|rfl|exact List.Perm.refl _|trace_state));(case hi=>exact rfl);(case hz=>first|rfl|(simp [jx,AV.ren,AV.ren.renL,q4,qr,qZ];done)|(simp [jx,AV.ren,AV.ren.renL,q4,qr,qZ, *];done)|trace_state))
 ·intro k0 k1 k2 k3 k4 k5 k6
  have d0:decide (x = y) = false:=by simpa using k0
  have d1:decide (x = b) = false:=by simpa using k1
  have d2:decide (y = b) = false:=by simpa using k2
  have d3:decide (x.kind = 1) = false:=by simpa using k3
  have d4:decide (y.kind = 1) = false:=by simpa using k4
  have d5:decide (x.kind = 2) = true:=by simpa using k5
  have d6:decide (y.kind = 2) = true:=by simpa using k6
  refine qa (C:=C6) Tryz.func57 rfl _ Tryz.ntmps57 (Nat.le_of_ble_eq_true rfl) _ Tryz.results57 6 rfl rfl ?_
  repeat' (first|refine qu ?_|(first|(apply qb;apply q5;(case hm=>rfl);(case hn=>rfl);(case hk=>rfl);(case hT=>rfl);(case he=>rfl);(case hK=>rfl);(case hks=>rfl);(case hz=>exact qz);(case hzv=>exact q6);(case hx=>exact g1);(case hN=>exact nle rfl))|(apply qb;apply q5;(case hm=>rfl);(case hn=>rfl);(case hk=>rfl);(case hT=>rfl);(case he=>rfl);(case hK=>rfl);(case hks=>rfl);(case hz=>exact qz);(case hzv=>exact q6);(case hx=>exact g2);(case hN=>exact nle rfl))|(apply qb;apply q5;(case hm=>rfl);(case hn=>rfl);(case hk=>rfl);(case hT=>rfl);(case he=>rfl);(case hK=>rfl);(case hks=>rfl);(case hz=>exact qz);(case hzv=>exact q6);(case hx=>exact g3);(case hN=>exact nle rfl))|(apply qb;apply yG;rfl;rfl;exact y9;exact yg _ _;(first|exact .inl ⟨rfl,rfl⟩|exact .inr ⟨rfl,rfl⟩);exact nle rfl))|((first|refine qk ?_ ?_|refine qj ?_ ?_|refine xsC ?_ ?_);all_goals (intro hc;have hp:=hc;try simp at hp;try (exfalso;omega)))|refine jc ?_ ?_)
  (apply jb (rs:=[.cell 4 99,.cell 5 99]) [] 6;(case hr=>(repeat (first|exact qP|(apply qQ;rfl)|(apply qJ;rfl;rfl;rfl;rfl;rfl))));(case hL=>rfl);(case hh=>(repeat' (first|exact qh|refine jv ?_|refine x5 ?_|refine yo ?_ ?_ ?_|refine yE ?_ ?_|refine jZ ?_ ?_|refine jS ?_ ?_ ?_ ?_|refine q7 ?_ ?_|exact qm|apply qf|exact ql rfl|(apply qt;(first|exact qq rfl|exact .inr (List.mem_cons_self ..)|exact .inr (List.mem_cons_of_mem _ (List.mem_cons_self ..))|exact .inr (List.mem_cons_of_mem _ (List.mem_cons_of_mem _ (List.mem_cons_self ..)))|exact .inr (List.mem_cons_of_mem _ (List.mem_cons_of_mem _ (List.mem_cons_of_mem _ (List.mem_cons_self ..))))))|refine qX ?_|refine jT ?_ rfl|with_reducible exact List.Perm.refl _));all_goals (first|exact qc _|rfl|exact List.Perm.refl _|trace_state));(case hi=>exact rfl);(case hz=>first|rfl|(simp [jx,AV.ren,AV.ren.renL,q4,qr,qZ];done)|(simp [jx,AV.ren,AV.ren.renL,q4,qr,qZ, *];done)|trace_state))
 ·intro k0 k1 k2 k3 k4 k5 k6
  have d0:decide (x = y) = false:=by simpa using k0
  have d1:decide (x = b) = false:=by simpa using k1
  have d2:decide (y = b) = false:=by simpa using k2
  have d3:decide (x.kind = 1) = false:=by simpa using k3
  have d4:decide (y.kind = 1) = false:=by simpa using k4
  have d5:decide (x.kind = 2) = true:=by simpa using k5
  have d6:decide (y.kind = 2) = false:=by simpa using k6
  refine qa (C:=C6) Tryz.func57 rfl _ Tryz.ntmps57 (Nat.le_of_ble_eq_true rfl) _ Tryz.results57 6 rfl rfl ?_
  repeat' (first|refine qu ?_|(first|(apply qb;apply q5;(case hm=>rfl);(case hn=>rfl);(case hk=>rfl);(case hT=>rfl);(case he=>rfl);(case hK=>rfl);(case hks=>rfl);(case hz=>exact qz);(case hzv=>exact q6);(case hx=>exact g1);(case hN=>exact nle rfl))|(apply qb;apply q5;(case hm=>rfl);(case hn=>rfl);(case hk=>rfl);(case hT=>rfl);(case he=>rfl);(case hK=>rfl);(case hks=>rfl);(case hz=>exact qz);(case hzv=>exact q6);(case hx=>exact g2);(case hN=>exact nle rfl))|(apply qb;apply q5;(case hm=>rfl);(case hn=>rfl);(case hk=>rfl);(case hT=>rfl);(case he=>rfl);(case hK=>rfl);(case hks=>rfl);(case hz=>exact qz);(case hzv=>exact q6);(case hx=>exact g3);(case hN=>exact nle rfl))|(apply qb;apply yG;rfl;rfl;exact y9;exact yg _ _;(first|exact .inl ⟨rfl,rfl⟩|exact .inr ⟨rfl,rfl⟩);exact nle rfl))|((first|refine qk ?_ ?_|refine qj ?_ ?_|refine xsC ?_ ?_);all_goals (intro hc;have hp:=hc;try simp at hp;try (exfalso;omega)))|refine jc ?_ ?_)
  (apply jb (rs:=[.cell 4 99,.cell 5 99]) [] 6;(case hr=>(repeat (first|exact qP|(apply qQ;rfl)|(apply qJ;rfl;rfl;rfl;rfl;rfl))));(case hL=>rfl);(case hh=>(repeat' (first|exact qh|refine jv ?_|refine x5 ?_|refine yo ?_ ?_ ?_|refine yE ?_ ?_|refine jZ ?_ ?_|refine jS ?_ ?_ ?_ ?_|refine q7 ?_ ?_|exact qm|apply qf|exact ql rfl|(apply qt;(first|exact qq rfl|exact .inr (List.mem_cons_self ..)|exact .inr (List.mem_cons_of_mem _ (List.mem_cons_self ..))|exact .inr (List.mem_cons_of_mem _ (List.mem_cons_of_mem _ (List.mem_cons_self ..)))|exact .inr (List.mem_cons_of_mem _ (List.mem_cons_of_mem _ (List.mem_cons_of_mem _ (List.mem_cons_self ..))))))|refine qX ?_|refine jT ?_ rfl|with_reducible exact List.Perm.refl _));all_goals (first|exact qc _|rfl|exact List.Perm.refl _|trace_state));(case hi=>exact rfl);(case hz=>first|rfl|(simp [jx,AV.ren,AV.ren.renL,q4,qr,qZ];done)|(simp [jx,AV.ren,AV.ren.renL,q4,qr,qZ, *];done)|trace_state))
 ·intro k0 k1 k2 k3 k4 k5
  have d0:decide (x = y) = false:=by simpa using k0
  have d1:decide (x = b) = false:=by simpa using k1
  have d2:decide (y = b) = false:=by simpa using k2
  have d3:decide (x.kind = 1) = false:=by simpa using k3
  have d4:decide (y.kind = 1) = false:=by simpa using k4
  have d5:decide (x.kind = 2) = false:=by simpa using k5
  refine qa (C:=C6) Tryz.func57 rfl _ Tryz.ntmps57 (Nat.le_of_ble_eq_true rfl) _ Tryz.results57 6 rfl rfl ?_
  repeat' (first|refine qu ?_|(first|(apply qb;apply q5;(case hm=>rfl);(case hn=>rfl);(case hk=>rfl);(case hT=>rfl);(case he=>rfl);(case hK=>rfl);(case hks=>rfl);(case hz=>exact qz);(case hzv=>exact q6);(case hx=>exact g1);(case hN=>exact nle rfl))|(apply qb;apply q5;(case hm=>rfl);(case hn=>rfl);(case hk=>rfl);(case hT=>rfl);(case he=>rfl);(case hK=>rfl);(case hks=>rfl);(case hz=>exact qz);(case hzv=>exact q6);(case hx=>exact g2);(case hN=>exact nle rfl))|(apply qb;apply q5;(case hm=>rfl);(case hn=>rfl);(case hk=>rfl);(case hT=>rfl);(case he=>rfl);(case hK=>rfl);(case hks=>rfl);(case hz=>exact qz);(case hzv=>exact q6);(case hx=>exact g3);(case hN=>exact nle rfl))|(apply qb;apply yG;rfl;rfl;exact y9;exact yg _ _;(first|exact .inl ⟨rfl,rfl⟩|exact .inr ⟨rfl,rfl⟩);exact nle rfl))|((first|refine qk ?_ ?_|refine qj ?_ ?_|refine xsC ?_ ?_);all_goals (intro hc;have hp:=hc;try simp at hp;try (exfalso;omega)))|refine jc ?_ ?_)
  (apply jb (rs:=[.cell 4 99,.cell 5 99]) [] 6;(case hr=>(repeat (first|exact qP|(apply qQ;rfl)|(apply qJ;rfl;rfl;rfl;rfl;rfl))));(case hL=>rfl);(case hh=>(repeat' (first|exact qh|refine jv ?_|refine x5 ?_|refine yo ?_ ?_ ?_|refine yE ?_ ?_|refine jZ ?_ ?_|refine jS ?_ ?_ ?_ ?_|refine q7 ?_ ?_|exact qm|apply qf|exact ql rfl|(apply qt;(first|exact qq rfl|exact .inr (List.mem_cons_self ..)|exact .inr (List.mem_cons_of_mem _ (List.mem_cons_self ..))|exact .inr (List.mem_cons_of_mem _ (List.mem_cons_of_mem _ (List.mem_cons_self ..)))|exact .inr (List.mem_cons_of_mem _ (List.mem_cons_of_mem _ (List.mem_cons_of_mem _ (List.mem_cons_self ..))))))|refine qX ?_|refine jT ?_ rfl|with_reducible exact List.Perm.refl _));all_goals (first|exact qc _|rfl|exact List.Perm.refl _|trace_state));(case hi=>exact rfl);(case hz=>first|rfl|(simp [jx,AV.ren,AV.ren.renL,q4,qr,qZ];done)|(simp [jx,AV.ren,AV.ren.renL,q4,qr,qZ, *];done)|trace_state))
end Go.Proofs.YtnhpclmbhbblbaaGreatDoor
set_option linter.unusedSimpArgs false
set_option linter.unnecessarySimpa false
set_option linter.unusedVariables false
set_option maxHeartbeats 1000000
namespace Go.Proofs.YtnhpclmbhbblbaaGreatDoor
open Go.Ab Go.RowKit
set_option maxRecDepth 10000
attribute [local irreducible] Awp jW jh jn Red qD Go.Ab.Fin qI Rz x4 ji jf ResOk jQ jq yl jg
def H7 (B M T O:List Ent) (cs:List Cpy):List HB:=[.own false 5 [yN 6 cs.length],.mp (qd B),.mp (qd M),.mp (qd T),.mp (qd O),.dead,.own false 2 (cs.map Cpy.row)]
theorem vO {t:List Ent} {p:qx}:(stT t p).kind = 0 ↔ j9 t p = false:=by
 rw [Qs,J8]
 cases qG t p<;>simp
theorem QT {m t o:List Ent} {p:qx} {k n:Nat}:xX m t o p (k + 1) n = if x7 p (n:Int) = 0 then (if JW m t o (xD p (n:Int)) = true then some (xD p (n:Int)) else xX m t o p k (n + 1)) else none:=rfl
theorem QR {p:qx} {n:Nat} (hp:qn p = 0) (h1:1 ≤ n) (h2:n ≤ 99):yF p (n:Int) = x7 p (n:Int):=by
 unfold yF
 rw [if_pos hp,if_neg (by omega)]
theorem JI (p:qx) (n:Int):x7 p n = 0 ∨ x7 p n = 2:=by
 unfold x7
 split
 ·exact .inr rfl
 ·split
  ·exact .inr rfl
  ·exact .inl rfl
set_option maxHeartbeats 8000000 in
theorem Ya (B M T O:List Ent) (cs:List Cpy) (p x:qx) (hp:qn p = 0) (hR:xX M T O p 99 1 = none) (hc:cs.length ≤ 1000000):qI C6.P 59 [.op 0 0 0,.v (str p),j6 ⟨2,x⟩] (H6 B M T O cs) (.v (.bool false)) (H6 B M T O cs):=by
 have hpl:=q9 hp
 refine qa (C:=C6) Tryz.func59 rfl _ Tryz.ntmps59 (Nat.le_of_ble_eq_true rfl) _ Tryz.results59 6 rfl rfl ?_
 repeat' (first|refine qu ?_|(first|fail)|((first|refine qk ?_ ?_|refine qj ?_ ?_|refine xsC ?_ ?_);all_goals (intro hc;have hp:=hc;try simp at hp;try (exfalso;omega)))|refine jc ?_ ?_)
 all_goals try (exfalso;omega)
 (refine Awp.red (qN (τ:=⟨[(0,.op 0 0 0),(1,.v (str p)),(5,.op 6 0 0),(7,.v (.int .i64 (1:Int)))],[(0,.own false 5 [yN 5 cs.length]),(1,.mp (qd B)),(2,.mp (qd M)),(3,.mp (qd T)),(4,.mp (qd O)),(5,.own false 2 (cs.map Cpy.row)),(6,.own false 2 [[.v (.int .i64 2),.v (str x)]])],7⟩) [(6,6)] rfl ?gts2 ?ghs2) ?_;(case gts2=>(repeat (first|exact qp|refine qE ?_|refine yq ?_|refine j1 ?_|refine xg ?_|refine j3 ?_ ?_|refine ju ?_ ?_));all_goals (first|exact qc _|rfl|trace_state));(case ghs2=>(repeat' (first|exact qh|refine jv ?_|refine x5 ?_|refine yo ?_ ?_ ?_|refine yE ?_ ?_|refine jZ ?_ ?_|refine jS ?_ ?_ ?_ ?_|refine q7 ?_ ?_|exact qm|apply qf|exact ql rfl|(apply qt;(first|exact qq rfl|exact .inr (List.mem_cons_self ..)|exact .inr (List.mem_cons_of_mem _ (List.mem_cons_self ..))|exact .inr (List.mem_cons_of_mem _ (List.mem_cons_of_mem _ (List.mem_cons_self ..)))|exact .inr (List.mem_cons_of_mem _ (List.mem_cons_of_mem _ (List.mem_cons_of_mem _ (List.mem_cons_self ..))))))|refine qX ?_|refine jT ?_ rfl|with_reducible exact List.Perm.refl _));all_goals (first|exact qc _|rfl|trace_state)))
 refine jr (fun n σ => ∃ i:Nat,i ≤ 99 ∧ n = 99 - i ∧ xX M T O p (99 - i) (i + 1) = none ∧ σ = ⟨[(0,.op 0 0 0),(1,.v (str p)),(5,.op 6 0 0),(7,.v (.int .i64 ((i:Int) + 1)))],[(0,.own false 5 [yN 5 cs.length]),(1,.mp (qd B)),(2,.mp (qd M)),(3,.mp (qd T)),(4,.mp (qd O)),(5,.own false 2 (cs.map Cpy.row)),(6,.own false 2 [[.v (.int .i64 2),.v (str x)]])],7⟩) 99 ⟨0,by omega,rfl,hR,rfl⟩ ?_
 rintro n σ ⟨i,hi,rfl,hsofar,rfl⟩
 by_cases hlt:i < 99
 ·rw [show 99 - i = (99 - (i + 1)) + 1 from by omega,QT] at hsofar
  have has:=ZN p ((i:Int) + 1) (by omega)
  have he:=QR (n:=i + 1) hp (by omega) (by omega)
  rw [show ((i + 1:Nat):Int) = (i:Int) + 1 from by omega] at he hsofar
  rw [he] at has
  have htwo:=JI p ((i:Int) + 1)
  generalize x7 p ((i:Int) + 1) = E at *
  generalize xD p ((i:Int) + 1) = Q at *
  have g1:=y3 M Q
  have g2:=y3 T Q
  have g3:=y3 O Q
  have k1 := @vO M Q
  have k2 := @vO T Q
  have k3 := @vO O Q
  have hfr:JW M T O Q = (!j9 M Q && !j9 T Q && !j9 O Q):=rfl
  generalize stT M Q = a at *
  generalize stT T Q = b at *
  generalize stT O Q = c at *
  generalize j9 M Q = A at *
  generalize j9 T Q = B2 at *
  generalize j9 O Q = D at *
  rcases htwo with rfl|rfl
  ·rw [if_pos rfl] at hsofar
   have hns:¬ JW M T O Q = true:=fun h=>by rw [if_pos h] at hsofar;cases hsofar
   rw [if_neg hns] at hsofar
   rw [hfr] at hns
   repeat' (first|refine qu ?_|(first|refine yY Tryz.func88 (has ..) ?_|(apply qb;apply q5;(case hm=>rfl);(case hn=>rfl);(case hk=>rfl);(case hT=>rfl);(case he=>rfl);(case hK=>rfl);(case hks=>rfl);(case hz=>exact qz);(case hzv=>exact q6);(case hx=>exact g1);(case hN=>exact nle rfl))|(apply qb;apply q5;(case hm=>rfl);(case hn=>rfl);(case hk=>rfl);(case hT=>rfl);(case he=>rfl);(case hK=>rfl);(case hks=>rfl);(case hz=>exact qz);(case hzv=>exact q6);(case hx=>exact g2);(case hN=>exact nle rfl))|(apply qb;apply q5;(case hm=>rfl);(case hn=>rfl);(case hk=>rfl);(case hT=>rfl);(case he=>rfl);(case hK=>rfl);(case hks=>rfl);(case hz=>exact qz);(case hzv=>exact q6);(case hx=>exact g3);(case hN=>exact nle rfl)))|((first|refine qk ?_ ?_|refine qj ?_ ?_|refine xsC ?_ ?_);all_goals (intro hc;have hp:=hc;try simp at hp;try (exfalso;omega)))|refine jc ?_ ?_)
   all_goals try (exfalso;first|omega|contradiction|(simp_all;done))
   all_goals (refine ⟨99 - (i + 1),_,by omega,qN (τ:=⟨[(0,.op 0 0 0),(1,.v (str p)),(5,.op 6 0 0),(7,.v (.int .i64 (((i + 1:Nat):Int) + 1)))],[(0,.own false 5 [yN 5 cs.length]),(1,.mp (qd B)),(2,.mp (qd M)),(3,.mp (qd T)),(4,.mp (qd O)),(5,.own false 2 (cs.map Cpy.row)),(6,.own false 2 [[.v (.int .i64 2),.v (str x)]])],7⟩) [(6,6)] rfl ?gts ?ghs,i + 1,by omega,rfl,hsofar,rfl⟩;(case gts=>(repeat (first|exact qp|refine qE ?_|refine yq ?_|refine j1 ?_|refine xg ?_|refine j3 ?_ ?_|refine ju ?_ ?_));all_goals (first|exact qc _|rfl|(congr 2;omega)|(congr 1;congr 1;omega)|trace_state));(case ghs=>(repeat' (first|exact qh|refine jv ?_|refine x5 ?_|refine yo ?_ ?_ ?_|refine yE ?_ ?_|refine jZ ?_ ?_|refine jS ?_ ?_ ?_ ?_|refine q7 ?_ ?_|exact qm|apply qf|exact ql rfl|(apply qt;(first|exact qq rfl|exact .inr (List.mem_cons_self ..)|exact .inr (List.mem_cons_of_mem _ (List.mem_cons_self ..))|exact .inr (List.mem_cons_of_mem _ (List.mem_cons_of_mem _ (List.mem_cons_self ..)))|exact .inr (List.mem_cons_of_mem _ (List.mem_cons_of_mem _ (List.mem_cons_of_mem _ (List.mem_cons_self ..))))))|refine qX ?_|refine jT ?_ rfl|with_reducible exact List.Perm.refl _));all_goals (first|exact qc _|rfl|(congr 2;omega)|(congr 1;congr 1;omega)|trace_state)))
  ·repeat' (first|refine qu ?_|(first|refine yY Tryz.func88 (has ..) ?_)|((first|refine qk ?_ ?_|refine qj ?_ ?_|refine xsC ?_ ?_);all_goals (intro hc;have hp:=hc;try simp at hp;try (exfalso;omega)))|refine jc ?_ ?_)
   all_goals try (exfalso;first|omega|contradiction)
   all_goals ((apply jb (rs:=[.tmp 6]) [] 6;(case hr=>(repeat (first|exact qP|(apply qQ;rfl)|(apply qJ;rfl;rfl;rfl;rfl;rfl))));(case hL=>rfl);(case hh=>(repeat' (first|exact qh|refine jv ?_|refine x5 ?_|refine yo ?_ ?_ ?_|refine yE ?_ ?_|refine jZ ?_ ?_|refine jS ?_ ?_ ?_ ?_|refine q7 ?_ ?_|exact qm|apply qf|exact ql rfl|(apply qt;(first|exact qq rfl|exact .inr (List.mem_cons_self ..)|exact .inr (List.mem_cons_of_mem _ (List.mem_cons_self ..))|exact .inr (List.mem_cons_of_mem _ (List.mem_cons_of_mem _ (List.mem_cons_self ..)))|exact .inr (List.mem_cons_of_mem _ (List.mem_cons_of_mem _ (List.mem_cons_of_mem _ (List.mem_cons_self ..))))))|refine qX ?_|refine jT ?_ rfl|with_reducible exact List.Perm.refl _));all_goals (first|exact qc _|rfl|trace_state));(case hi=>exact rfl);(case hz=>first|rfl|(simp [jx,AV.ren,AV.ren.renL,q4,qr,qZ];done)|(simp [jx,AV.ren,AV.ren.renL,q4,qr,qZ, *];done)|trace_state)))
 ·obtain rfl:i = 99:=by omega
  repeat' (first|refine qu ?_|(first|fail)|((first|refine qk ?_ ?_|refine qj ?_ ?_|refine xsC ?_ ?_);all_goals (intro hc;have hp:=hc;try simp at hp;try (exfalso;omega)))|refine jc ?_ ?_)
  all_goals try (exfalso;omega)
  all_goals ((apply jb (rs:=[.tmp 6]) [] 6;(case hr=>(repeat (first|exact qP|(apply qQ;rfl)|(apply qJ;rfl;rfl;rfl;rfl;rfl))));(case hL=>rfl);(case hh=>(repeat' (first|exact qh|refine jv ?_|refine x5 ?_|refine yo ?_ ?_ ?_|refine yE ?_ ?_|refine jZ ?_ ?_|refine jS ?_ ?_ ?_ ?_|refine q7 ?_ ?_|exact qm|apply qf|exact ql rfl|(apply qt;(first|exact qq rfl|exact .inr (List.mem_cons_self ..)|exact .inr (List.mem_cons_of_mem _ (List.mem_cons_self ..))|exact .inr (List.mem_cons_of_mem _ (List.mem_cons_of_mem _ (List.mem_cons_self ..)))|exact .inr (List.mem_cons_of_mem _ (List.mem_cons_of_mem _ (List.mem_cons_of_mem _ (List.mem_cons_self ..))))))|refine qX ?_|refine jT ?_ rfl|with_reducible exact List.Perm.refl _));all_goals (first|exact qc _|rfl|trace_state));(case hi=>exact rfl);(case hz=>first|rfl|(simp [jx,AV.ren,AV.ren.renL,q4,qr,qZ];done)|(simp [jx,AV.ren,AV.ren.renL,q4,qr,qZ, *];done)|trace_state)))
set_option maxHeartbeats 8000000 in
theorem Q5 (B M T O:List Ent) (cs:List Cpy) (p x q:qx) (hp:qn p = 0) (hR:xX M T O p 99 1 = some q) (hO:qS jj O = true) (hc:cs.length ≤ 1000000):qI C6.P 59 [.op 0 0 0,.v (str p),j6 ⟨2,x⟩] (H6 B M T O cs) (.v (.bool true)) (H7 B M T (js O ⟨q,false,x,1⟩) (cs ++ [⟨p,q⟩])):=by
 have hpl:=q9 hp
 refine qa (C:=C6) Tryz.func59 rfl _ Tryz.ntmps59 (Nat.le_of_ble_eq_true rfl) _ Tryz.results59 6 rfl rfl ?_
 repeat' (first|refine qu ?_|(first|fail)|((first|refine qk ?_ ?_|refine qj ?_ ?_|refine xsC ?_ ?_);all_goals (intro hc;have hp:=hc;try simp at hp;try (exfalso;omega)))|refine jc ?_ ?_)
 all_goals try (exfalso;omega)
 (refine Awp.red (qN (τ:=⟨[(0,.op 0 0 0),(1,.v (str p)),(5,.op 6 0 0),(7,.v (.int .i64 (1:Int)))],[(0,.own false 5 [yN 5 cs.length]),(1,.mp (qd B)),(2,.mp (qd M)),(3,.mp (qd T)),(4,.mp (qd O)),(5,.own false 2 (cs.map Cpy.row)),(6,.own false 2 [[.v (.int .i64 2),.v (str x)]])],7⟩) [(6,6)] rfl ?gts2 ?ghs2) ?_;(case gts2=>(repeat (first|exact qp|refine qE ?_|refine yq ?_|refine j1 ?_|refine xg ?_|refine j3 ?_ ?_|refine ju ?_ ?_));all_goals (first|exact qc _|rfl|trace_state));(case ghs2=>(repeat' (first|exact qh|refine jv ?_|refine x5 ?_|refine yo ?_ ?_ ?_|refine yE ?_ ?_|refine jZ ?_ ?_|refine jS ?_ ?_ ?_ ?_|refine q7 ?_ ?_|exact qm|apply qf|exact ql rfl|(apply qt;(first|exact qq rfl|exact .inr (List.mem_cons_self ..)|exact .inr (List.mem_cons_of_mem _ (List.mem_cons_self ..))|exact .inr (List.mem_cons_of_mem _ (List.mem_cons_of_mem _ (List.mem_cons_self ..)))|exact .inr (List.mem_cons_of_mem _ (List.mem_cons_of_mem _ (List.mem_cons_of_mem _ (List.mem_cons_self ..))))))|refine qX ?_|refine jT ?_ rfl|with_reducible exact List.Perm.refl _));all_goals (first|exact qc _|rfl|trace_state)))
 refine jr (fun n σ => ∃ i:Nat,i ≤ 99 ∧ n = 99 - i ∧ xX M T O p (99 - i) (i + 1) = some q ∧ σ = ⟨[(0,.op 0 0 0),(1,.v (str p)),(5,.op 6 0 0),(7,.v (.int .i64 ((i:Int) + 1)))],[(0,.own false 5 [yN 5 cs.length]),(1,.mp (qd B)),(2,.mp (qd M)),(3,.mp (qd T)),(4,.mp (qd O)),(5,.own false 2 (cs.map Cpy.row)),(6,.own false 2 [[.v (.int .i64 2),.v (str x)]])],7⟩) 99 ⟨0,by omega,rfl,hR,rfl⟩ ?_
 rintro n σ ⟨i,hi,rfl,hsofar,rfl⟩
 by_cases hlt:i < 99
 ·rw [show 99 - i = (99 - (i + 1)) + 1 from by omega,QT] at hsofar
  have has:=ZN p ((i:Int) + 1) (by omega)
  have he:=QR (n:=i + 1) hp (by omega) (by omega)
  rw [show ((i + 1:Nat):Int) = (i:Int) + 1 from by omega] at he hsofar
  rw [he] at has
  have htwo:=JI p ((i:Int) + 1)
  generalize x7 p ((i:Int) + 1) = E at *
  generalize xD p ((i:Int) + 1) = Q at *
  have g1:=y3 M Q
  have g2:=y3 T Q
  have g3:=y3 O Q
  have k1 := @vO M Q
  have k2 := @vO T Q
  have k3 := @vO O Q
  have hfr:JW M T O Q = (!j9 M Q && !j9 T Q && !j9 O Q):=rfl
  generalize stT M Q = a at *
  generalize stT T Q = b at *
  generalize stT O Q = c at *
  generalize j9 M Q = A at *
  generalize j9 T Q = B2 at *
  generalize j9 O Q = D at *
  rcases htwo with rfl|rfl
  ·rw [if_pos rfl] at hsofar
   by_cases hns:JW M T O Q = true
   ·rw [if_pos hns] at hsofar
    injection hsofar with hsofar
    subst hsofar
    rw [hfr] at hns
    have d1:decide (a.kind = 0) = true:=by simp_all
    have d2:decide (b.kind = 0) = true:=by simp_all
    have d3:decide (c.kind = 0) = true:=by simp_all
    have hpu:=Yo (e:=⟨Q,false,x,1⟩) hO
    repeat' (first|refine qu ?_|(first|refine yY Tryz.func88 (has ..) ?_|(apply qb;apply q5;(case hm=>rfl);(case hn=>rfl);(case hk=>rfl);(case hT=>rfl);(case he=>rfl);(case hK=>rfl);(case hks=>rfl);(case hz=>exact qz);(case hzv=>exact q6);(case hx=>exact g1);(case hN=>exact nle rfl))|(apply qb;apply q5;(case hm=>rfl);(case hn=>rfl);(case hk=>rfl);(case hT=>rfl);(case he=>rfl);(case hK=>rfl);(case hks=>rfl);(case hz=>exact qz);(case hzv=>exact q6);(case hx=>exact g2);(case hN=>exact nle rfl))|(apply qb;apply q5;(case hm=>rfl);(case hn=>rfl);(case hk=>rfl);(case hT=>rfl);(case he=>rfl);(case hK=>rfl);(case hks=>rfl);(case hz=>exact qz);(case hzv=>exact q6);(case hx=>exact g3);(case hN=>exact nle rfl))|(apply jD;apply j0;rfl;rfl;rfl;rfl;rfl;rfl;rfl;rfl)|(refine yu ?_)|(refine v2 ?_))|((first|refine qk ?_ ?_|refine qj ?_ ?_|refine xsC ?_ ?_);all_goals (intro hc;have hp:=hc;try simp at hp;try (exfalso;omega)))|refine jc ?_ ?_)
    all_goals try (exfalso;first|omega|contradiction)
    all_goals ((apply jb (rs:=[.tmp 6]) [(7,6)] 7;(case hr=>(repeat (first|exact qP|(apply qQ;rfl)|(apply qJ;rfl;rfl;rfl;rfl;rfl))));(case hL=>rfl);(case hh=>(repeat' (first|exact qh|refine jv ?_|refine x5 ?_|refine yo ?_ ?_ ?_|refine yE ?_ ?_|refine jZ ?_ ?_|refine jS ?_ ?_ ?_ ?_|refine q7 ?_ ?_|exact qm|apply qf|exact ql rfl|(apply qt;(first|exact qq rfl|exact .inr (List.mem_cons_self ..)|exact .inr (List.mem_cons_of_mem _ (List.mem_cons_self ..))|exact .inr (List.mem_cons_of_mem _ (List.mem_cons_of_mem _ (List.mem_cons_self ..)))|exact .inr (List.mem_cons_of_mem _ (List.mem_cons_of_mem _ (List.mem_cons_of_mem _ (List.mem_cons_self ..))))))|refine qX ?_|refine jT ?_ rfl|with_reducible exact List.Perm.refl _));all_goals (first|exact qc _|exact hpu|rfl|(rw [List.map_append,jJ];rfl)|(simp [jJ];done)|trace_state));(case hi=>exact rfl);(case hz=>first|rfl|(simp [jx,AV.ren,AV.ren.renL,q4,qr,qZ];done)|(simp [jx,AV.ren,AV.ren.renL,q4,qr,qZ, *];done)|trace_state)))
   ·rw [if_neg hns] at hsofar
    rw [hfr] at hns
    repeat' (first|refine qu ?_|(first|refine yY Tryz.func88 (has ..) ?_|(apply qb;apply q5;(case hm=>rfl);(case hn=>rfl);(case hk=>rfl);(case hT=>rfl);(case he=>rfl);(case hK=>rfl);(case hks=>rfl);(case hz=>exact qz);(case hzv=>exact q6);(case hx=>exact g1);(case hN=>exact nle rfl))|(apply qb;apply q5;(case hm=>rfl);(case hn=>rfl);(case hk=>rfl);(case hT=>rfl);(case he=>rfl);(case hK=>rfl);(case hks=>rfl);(case hz=>exact qz);(case hzv=>exact q6);(case hx=>exact g2);(case hN=>exact nle rfl))|(apply qb;apply q5;(case hm=>rfl);(case hn=>rfl);(case hk=>rfl);(case hT=>rfl);(case he=>rfl);(case hK=>rfl);(case hks=>rfl);(case hz=>exact qz);(case hzv=>exact q6);(case hx=>exact g3);(case hN=>exact nle rfl))|(apply jD;apply j0;rfl;rfl;rfl;rfl;rfl;rfl;rfl;rfl)|(refine yu ?_)|(refine v2 ?_))|((first|refine qk ?_ ?_|refine qj ?_ ?_|refine xsC ?_ ?_);all_goals (intro hc;have hp:=hc;try simp at hp;try (exfalso;omega)))|refine jc ?_ ?_)
    all_goals try (exfalso;first|omega|contradiction|(simp_all;done))
    all_goals (refine ⟨99 - (i + 1),_,by omega,qN (τ:=⟨[(0,.op 0 0 0),(1,.v (str p)),(5,.op 6 0 0),(7,.v (.int .i64 (((i + 1:Nat):Int) + 1)))],[(0,.own false 5 [yN 5 cs.length]),(1,.mp (qd B)),(2,.mp (qd M)),(3,.mp (qd T)),(4,.mp (qd O)),(5,.own false 2 (cs.map Cpy.row)),(6,.own false 2 [[.v (.int .i64 2),.v (str x)]])],7⟩) [(6,6)] rfl ?gts ?ghs,i + 1,by omega,rfl,hsofar,rfl⟩;(case gts=>(repeat (first|exact qp|refine qE ?_|refine yq ?_|refine j1 ?_|refine xg ?_|refine j3 ?_ ?_|refine ju ?_ ?_));all_goals (first|exact qc _|rfl|(congr 2;omega)|(congr 1;congr 1;omega)|trace_state));(case ghs=>(repeat' (first|exact qh|refine jv ?_|refine x5 ?_|refine yo ?_ ?_ ?_|refine yE ?_ ?_|refine jZ ?_ ?_|refine jS ?_ ?_ ?_ ?_|refine q7 ?_ ?_|exact qm|apply qf|exact ql rfl|(apply qt;(first|exact qq rfl|exact .inr (List.mem_cons_self ..)|exact .inr (List.mem_cons_of_mem _ (List.mem_cons_self ..))|exact .inr (List.mem_cons_of_mem _ (List.mem_cons_of_mem _ (List.mem_cons_self ..)))|exact .inr (List.mem_cons_of_mem _ (List.mem_cons_of_mem _ (List.mem_cons_of_mem _ (List.mem_cons_self ..))))))|refine qX ?_|refine jT ?_ rfl|with_reducible exact List.Perm.refl _));all_goals (first|exact qc _|rfl|(congr 2;omega)|(congr 1;congr 1;omega)|trace_state)))
  ·rw [if_neg (by decide)] at hsofar;cases hsofar
 ·obtain rfl:i = 99:=by omega
  cases hsofar
end Go.Proofs.YtnhpclmbhbblbaaGreatDoor
set_option linter.unusedSimpArgs false
set_option linter.unnecessarySimpa false
set_option linter.unusedVariables false
namespace Go.Proofs.YtnhpclmbhbblbaaGreatDoor
open Go.Ab Go.RowKit
set_option maxRecDepth 10000
attribute [local irreducible] Awp jW jh jn Red qD Go.Ab.Fin qI Rz x4 ji jf ResOk jQ jq yl jg
def y0 (l:List (qx × qx)):List (List UInt8 × AV):=l.map fun g=>(g.1,j6 ⟨2,g.2⟩)
theorem qv (l:List (qx × qx)) : ∀ e,e ∈ y0 l → e.2.pure = true:=fun e he=>by
 obtain ⟨x,_,rfl⟩:=List.mem_map.1 he;rfl
theorem wD (l:List (qx × qx)):(y0 l).map (·.1) = l.map (·.1):=by unfold y0;rw [List.map_map];rfl
theorem Zo {b m t:List Ent} {P:List qx} {i:Nat} (h:i < P.length):yy b m t (P.take (i + 1)) = yy b m t (P.take i) ++ (if (yj b m t P[i]).2.kind = 2 then [(P[i],(yj b m t P[i]).2.text)] else []):=by
 unfold yy
 rw [List.take_succ_eq_append_getElem h,List.filterMap_append]
 congr 1
 by_cases hk:(yj b m t P[i]).2.kind = 2<;>simp [hk]
theorem Kv {b m t:List Ent} {P:List qx} : ∀ g,g ∈ yy b m t P → g.1 ∈ P:=fun g hg=>by
 obtain ⟨p,h1,h2⟩:=List.mem_filterMap.1 hg
 split at h2
 ·injection h2 with h2;subst h2;exact h1
 ·cases h2
theorem KL {b m t:List Ent} {P:List qx} {i:Nat} (h:i < P.length):yK b m t (P.take (i + 1)) = wK (yK b m t (P.take i)) P[i] (yj b m t P[i]).1:=by
 unfold yK
 rw [List.take_succ_eq_append_getElem h,List.foldl_append];rfl
theorem WB {b m t:List Ent} {P:List qx} (hP:P.Nodup) {i:Nat} (h:i < P.length):P[i] ∉ (yy b m t (P.take i)).map (·.1):=fun hm=>by
 obtain ⟨g,hg,he⟩:=List.mem_map.1 hm
 have h1:=Kv g hg
 rw [he] at h1
 obtain ⟨j,hj,h2⟩:=List.getElem_of_mem h1
 rw [List.getElem_take] at h2
 have hj' : j < i:=by simp at hj;omega
 have:=(List.getElem_inj (h₀:=by omega) (h₁:=h) hP (i:=j) (j:=i)).1 h2
 omega
theorem qaY {b m t:List Ent} {P:List qx} (hP:P.Nodup) {i:Nat} (h:i < P.length):qG (yK b m t (P.take i)) P[i] = none:=by
 have:=(zM b m t (P:=P.take i) (o:=[]) rfl).2 P[i]
 show qG (List.foldl _ [] _) _ = _
 rw [this,if_neg]
 ·rfl
 ·rintro ⟨hm,_⟩
  obtain ⟨j,hj,h2⟩:=List.getElem_of_mem hm
  rw [List.getElem_take] at h2
  have hj' : j < i:=by simp at hj;omega
  have:=(List.getElem_inj (h₀:=by omega) (h₁:=h) hP (i:=j) (j:=i)).1 h2
  omega
theorem KU {o:List Ent} {p:qx} {x:Thg} (h:qS jj o = true) (hg:zh x) (hn:qG o p = none):(if x.kind = 0 then j7 (qd o) p else jR (qd o) p (j6 x)).Perm (qd (wK o p x)):=by
 unfold wK
 split
 ·rw [vz]
  rw [xK]
  intro hm
  obtain ⟨e,he,hp⟩:=List.mem_map.1 hm
  exact wi.1 hn e he hp
 ·rename_i h0
  exact KT h hg h0
theorem KV (l:List (List UInt8 × AV)) (p:qx) (x:Thg) (hp : ∀ e,e ∈ l → e.2.pure = true) : ∀ e,e ∈ (if x.kind = 0 then j7 l p else jR l p (j6 x)) → e.2.pure = true:=by
 split
 ·intro e he;exact hp e (List.mem_filter.1 he).1
 ·intro e he
  unfold jR at he
  split at he
  ·rcases List.mem_or_eq_of_mem_set he with h|rfl
   ·exact hp e h
   ·rfl
  ·rcases List.mem_append.1 he with h|h
   ·exact hp e h
   ·rw [List.mem_singleton.1 h];rfl
noncomputable def C5:Cx := { C with nh:=5 }
def H5 (B M T:List Ent):List HB:=[.own false 5 [[.mp 1,.mp 2,.mp 3,.mp 4,.sl true []]],.mp (qd B),.mp (qd M),.mp (qd T),.mp (qd [])]
def vj (b m t:List Ent):Nat → List qx
 | 0 => []
 | 1=>(b.map Ent.path).foldl vL []
 | 2=>(m.map Ent.path).foldl vL ((b.map Ent.path).foldl vL [])
 | _=>(t.map Ent.path).foldl vL ((m.map Ent.path).foldl vL ((b.map Ent.path).foldl vL []))
theorem QG (b m t:List Ent):vj b m t 3 = y4 b m t:=by
 unfold vj y4
 rw [List.map_append,List.map_append,List.foldl_append,List.foldl_append]
 rfl
theorem zG : ∀ (L l:List qx),(L.foldl vL l).length ≤ L.length + l.length
 | [],l=>by simp
 | a :: L,l=>by
   have h1:=zG L (vL l a)
   have h2:(vL l a).length ≤ l.length + 1:=by
    unfold vL
    split
    ·omega
    ·have h3:=(List.takeWhile_sublist (fun x=>Op.bytesLess x a) (l:=l)).length_le
     have h4:(l.takeWhile (fun x=>Op.bytesLess x a) ++ l.dropWhile (fun x=>Op.bytesLess x a)).length = l.length:=by rw [List.takeWhile_append_dropWhile]
     rw [List.length_append] at h4
     rw [List.length_append,List.length_cons, ← h4]
     exact Nat.le_of_eq (by rw [Nat.add_assoc])
   simp only [List.foldl_cons,List.length_cons]
   omega
theorem jS {L:List (Nat × Nat)} {nh:Nat} {σ:St} {n n' : Nat} {ex ex' : Bool} {k:Nat} {r1 r2 r3 s1 s2 s3:List AV} {l:List (Nat × HB)} (h1:jq L nh r1 s1) (h2:jq L nh r2 s2) (h3:jq L nh r3 s3) (hl:yO L nh σ l) (hm:Maps L nh n n':=by (first|exact qq rfl|exact .inr (List.mem_cons_self ..)|exact .inr (List.mem_cons_of_mem _ (List.mem_cons_self ..))|exact .inr (List.mem_cons_of_mem _ (List.mem_cons_of_mem _ (List.mem_cons_self ..)))|exact .inr (List.mem_cons_of_mem _ (List.mem_cons_of_mem _ (List.mem_cons_of_mem _ (List.mem_cons_self ..)))))) (hx:qB σ.hs n = .own ex k [r1,r2,r3]:=by rfl) (he:ex' = true → ex = true:=by first|exact id|exact nofun):yO L nh σ ((n',.own ex' k [s1,s2,s3]) :: l) :=
 zI hm hx he (yU h1 (yU h2 (yU h3 x3))) hl
end Go.Proofs.YtnhpclmbhbblbaaGreatDoor
set_option linter.unusedSimpArgs false
set_option linter.unnecessarySimpa false
set_option linter.unusedVariables false
namespace Go.Ab
theorem qaf {G G' : Prop} (k:G') (h:Hold G' → G:=by intro key;(first|(apply qb;first|(apply Ji;(conv=>lhs;whnf);exact nle rfl)|(apply wb;(conv=>lhs;whnf);exact nle rfl)|(apply vg;rfl;(conv=>lhs;whnf);exact nle rfl)|(apply xQ;rfl;(conv=>lhs;whnf);exact nle rfl)|(apply Jh;rfl;rfl;rfl;exact nle rfl)|(apply xM;rfl;rfl;rfl;rfl;exact nofun;exact nle rfl)|(apply xU;rfl;rfl;rfl;rfl;exact nofun;exact nle rfl)|(apply xW;rfl;rfl;rfl;(first|rfl|assumption|(apply qC;assumption)|(apply qC;apply qC;assumption));rfl;rfl;exact nle rfl)|(apply vc;rfl;rfl;(first|rfl|assumption|(apply qC;assumption)|(apply qC;apply qC;assumption));rfl;rfl;exact nle rfl)|(apply vd;rfl;rfl;rfl;rfl;rfl;rfl;exact nle rfl)|(apply vv;rfl;rfl;rfl;(first|rfl|assumption|(apply qC;assumption)|(apply qC;apply qC;assumption));(conv=>lhs;whnf);exact nle rfl)|(apply vW;rfl;rfl;(first|rfl|assumption|(apply qC;assumption)|(apply qC;apply qC;assumption));(conv=>lhs;whnf);exact nle rfl)|(apply Jk;rfl;rfl;rfl;exact nle rfl)|(apply wc;rfl;rfl;rfl;exact nle rfl)|(apply z6;rfl;rfl;rfl;exact nle rfl)|(apply zZ;rfl;rfl;rfl;exact nle rfl)|(apply xV;rfl;rfl;rfl;rfl;rfl;(first|rfl|assumption|(apply qC;assumption)|(apply qC;apply qC;assumption));rfl;exact nle rfl)|(apply vb;rfl;rfl;rfl;rfl;(first|rfl|assumption|(apply qC;assumption)|(apply qC;apply qC;assumption));exact nle rfl)|(apply Jl;rfl;rfl;omega;exact nle rfl)|(apply Jj;rfl;rfl;omega;exact nle rfl)|(apply JP;rfl;rfl;omega;omega;exact nle rfl)|(apply JT;rfl;rfl;omega;omega;exact nle rfl)|(apply Xq;rfl;exact nle rfl)|(apply zY;rfl;(conv=>lhs;whnf);exact nle rfl)|(apply wX;rfl;rfl;rfl;rfl;(conv=>lhs;whnf);exact nle rfl)|(apply zk (b':=true);rfl;assumption;(conv=>lhs;whnf);exact nle rfl)|(apply zk (b':=false);rfl;assumption;(conv=>lhs;whnf);exact nle rfl)|(apply Jg;exact nle rfl)|(apply vf;rfl;exact nle rfl)|(apply ve;rfl;exact nle rfl)|(apply wS;rfl;rfl;rfl;(conv=>lhs;whnf);exact nle rfl)|(apply vX;rfl;rfl;rfl;rfl;(conv=>lhs;whnf);exact nle rfl)|(apply zl;rfl;rfl;(first|omega|(simp<;>fail)|(simp only [List.length_cons,List.length_nil,List.length_map];omega)|(simp;omega));exact nle rfl))|(apply yJ;first|(apply wR;rfl;exact nle rfl)|(apply Xo;rfl;exact nle rfl))|(apply jD;apply w3;rfl;rfl;rfl;(first|rfl|assumption|(apply qC;assumption)|(apply qC;apply qC;assumption));rfl;rfl;exact nle rfl)|apply Qg|(apply Jr;exact nle rfl;refine ⟨?_,?_⟩;first|exact fun h=>absurd h Bool.false_ne_true|(intro _;kernel_rfl))|(apply Qk;rfl;rfl;exact nle rfl)|(apply Qj;rfl;rfl;exact nle rfl)|(apply wl;rfl;rfl;exact nle rfl)|(apply wk;rfl;rfl;exact nle rfl)|(apply vK;rfl;rfl;exact nle rfl)|(apply Js;rfl;rfl;assumption;exact nle rfl)|(apply Qi;rfl;rfl;assumption;exact nle rfl)|(apply Qh;rfl;rfl;assumption;exact nle rfl)|apply Jf|refine yW ?_|(apply zU;rfl)|(apply zT;rfl)|(apply wB;rfl;assumption)|(apply wA;rfl;assumption)|apply Qz|apply JL|apply JK|apply Xi);exact key.out):G:=h ⟨k⟩
end Go.Ab
namespace Go.Proofs.YtnhpclmbhbblbaaGreatDoor
open Go.Ab Go.RowKit
set_option maxRecDepth 10000
theorem Kx {l:List (qx × qx)} {p x:qx} (h:p ∉ l.map (·.1)):jR (y0 l) p (j6 ⟨2,x⟩) = y0 (l ++ [(p,x)]):=by
 rw [Yb (by rw [wD];exact h)]
 unfold y0
 rw [List.map_append]
 rfl
theorem Kw {l:List (qx × qx)} (h:(l.map (·.1)).Nodup) {g:qx × qx} (hg:g ∈ l):(yX (y0 l) g.1).getD (j6 noT) = j6 ⟨2,g.2⟩:=by
 have:yX (y0 l) g.1 = some (j6 ⟨2,g.2⟩):=(kh (by rw [wD];exact h)).2 (List.mem_map.2 ⟨g,hg,rfl⟩)
 rw [this]
 rfl
theorem w7 (b m t:List Ent) : ∀ P:List qx,((yy b m t P).map (·.1)).Sublist P
 | [] => .slnil
 | p :: P=>by
   unfold yy
   rw [List.filterMap_cons]
   split
   ·exact (w7 b m t P).cons p
   ·rename_i y hy
    split at hy
    ·injection hy with hy;subst hy
     exact (w7 b m t P).cons_cons p
    ·cases hy
theorem WC {b m t:List Ent} {P:List qx} (h:zO P):zO ((yy b m t P).map (·.1)):=List.Pairwise.sublist (w7 b m t P) h
theorem Vt (b m t:List Ent) (P:List qx):(yy b m t P).length ≤ P.length:=by
 have:=(w7 b m t P).length_le
 rwa [List.length_map] at this
theorem WA {m t:List Ent} {G:List (qx × qx)} {i:Nat} (h:i < G.length) (s:MS):Yw m t (G.drop i) s = match y8 m t s G[i].1 G[i].2 with|none=>none|some s'=>Yw m t (G.drop (i + 1)) s':=by
 rw [List.drop_eq_getElem_cons h];rfl
theorem QV {m t:List Ent} {s:MS} {p x:qx} (h:xX m t s.out p 99 1 = none):y8 m t s p x = none:=by
 unfold y8;rw [h]
theorem QW {m t:List Ent} {s:MS} {p x q:qx} (h:xX m t s.out p 99 1 = some q):y8 m t s p x = some ⟨js s.out ⟨q,false,x,1⟩,s.cps ++ [⟨p,q⟩]⟩:=by
 unfold y8;rw [h]
theorem WN {b m t:List Ent} (hb:Right b) (hm:Right m) (ht:Right t) (P:List qx):qS jj (yK b m t P) = true:=(zM b m t (P:=P) (o:=[]) rfl).1
theorem WD (b m t:List Ent) (p:qx):zh (yj b m t p).1 ∧ zh (yj b m t p).2:=VD (ka m p) (ka t p)
theorem Q7 {s:List UInt8} {x:AV} : ∀ {l:List (List UInt8 × AV)},yX l s = some x → jR l s x = l
 | [],h=>by simp [yX] at h
 | e :: l,h=>by
   rw [kF]
   by_cases he:e.1 = s
   ·rw [if_pos he]
    unfold yX at h
    rw [List.find?_cons,show (e.1 == s) = true from by simpa using he] at h
    simp at h
    subst he
    rw [← h]
   ·rw [if_neg he,Q7]
    unfold yX at h ⊢
    rw [List.find?_cons,show (e.1 == s) = false from by simpa using he] at h
    exact h
theorem KS {o:List Ent} {q:qx} (h:(stT o q).kind = 1):jR (qd o) q (j6 ⟨1,[]⟩) = qd o:=by
 apply Q7
 rw [Y9]
 obtain ⟨x,hx,hf⟩:=W9.1 h
 rw [hx]
 show some (j6 (yw x)) = _
 unfold yw
 rw [if_pos hf]
theorem WR {m t:List Ent} {s:MS} {q:qx} (h:(stT s.out q).kind = 1):kN m t s q = some s:=by unfold kN;rw [if_pos h]
theorem KN {m t:List Ent} {s:MS} {q:qx} (h1:¬ (stT s.out q).kind = 1) (h2:¬ (stT s.out q).kind = 2):kN m t s q = some ⟨js s.out ⟨q,true,[],1⟩,s.cps⟩:=by unfold kN;rw [if_neg h1,if_neg h2]
theorem WS {m t:List Ent} {s:MS} {q:qx} (h:(stT s.out q).kind = 2):kN m t s q = y8 m t ⟨js s.out ⟨q,true,[],1⟩,s.cps⟩ q (stT s.out q).text:=by unfold kN;rw [if_neg (by rw [h];decide),if_pos h]
theorem Zz {m t:List Ent} {q:qx} {l:List qx} {s:MS}:v8 m t (q :: l) s = match kN m t s q with|none=>none|some s'=>v8 m t l s':=rfl
theorem XI (b m t:List Ent) : ∀ (P:List qx) (o:List Ent),(P.foldl (fun o p=>wK o p (yj b m t p).1) o).length ≤ o.length + P.length
 | [],o=>Nat.le_refl _
 | p :: P,o=>by
   have h1:=XI b m t P (wK o p (yj b m t p).1)
   have h2:(wK o p (yj b m t p).1).length ≤ o.length + 1:=by
    unfold wK
    split
    ·omega
    ·exact Qn _ _
   simp only [List.foldl_cons,List.length_cons]
   omega
theorem Xu {m t:List Ent} : ∀ {l:List (qx × qx)} {s s' : MS},Yw m t l s = some s' → s'.out.length ≤ s.out.length + l.length
 | [],s,s',h=>by injection h with h;subst h;exact Nat.le_refl _
 | g :: l,s,s',h=>by
   unfold Yw at h
   split at h
   ·cases h
   ·rename_i s1 h1
    have h2:=Xu h
    unfold y8 at h1
    split at h1
    ·cases h1
    ·rename_i q _
     injection h1 with h1;subst h1
     have h3:=Qn s.out ⟨q,false,g.2,1⟩
     simp only [List.length_cons] at h2 ⊢
     omega
theorem VL {p:qx} (hp:qn p = 0):(q0 p).length ≤ 80:=by
 rw [jH]
 have:=XD p
 have:=q9 hp
 omega
noncomputable def tl:Nat → Code → Code
 | 0,c=>c
 | n + 1,.seq _ b=>tl n b
 | _,c=>c
noncomputable def QH:Code:=match Tryz.f24.body with|some c=>c|none => .skip
def H8 (B M T:List Ent) (s:MS):List HB:=[.own false 5 [yN 5 s.cps.length],.mp (qd B),.mp (qd M),.mp (qd T),.mp (qd s.out),.own false 2 (s.cps.map Cpy.row)]
def H8o (B M T:List Ent):Option MS → List HB
 | none => [.dead,.dead,.dead,.dead,.dead]
 | some s=>H8 B M T s
theorem Yk {L:List (Nat × Nat)} {nh:Nat} {l l' : List (List UInt8 × AV)} (hp:l.Perm l') (h : ∀ e,e ∈ l' → e.2.pure = true):yQ L nh (.mp (.map l)) (.mp (.map l')):=by
 obtain ⟨m,h1,h2,h3⟩:=qe (L:=L) (nh:=nh) h
 exact ⟨m,by first|exact hp.trans h1|exact h1.trans hp|exact h1.trans hp.symm|exact hp.symm.trans h1,h2,h3⟩
theorem vl {L:List (Nat × Nat)} {σ:St} {n n' c c' k:Nat} {ex ex' : Bool} {l:List (Nat × HB)} (hl:yO L 5 σ l) (hm:Maps L 5 n n':=by (first|exact qq rfl|exact .inr (List.mem_cons_self ..)|exact .inr (List.mem_cons_of_mem _ (List.mem_cons_self ..))|exact .inr (List.mem_cons_of_mem _ (List.mem_cons_of_mem _ (List.mem_cons_self ..)))|exact .inr (List.mem_cons_of_mem _ (List.mem_cons_of_mem _ (List.mem_cons_of_mem _ (List.mem_cons_self ..)))))) (hc:Maps L 5 c c':=by (first|exact qq rfl|exact .inr (List.mem_cons_self ..)|exact .inr (List.mem_cons_of_mem _ (List.mem_cons_self ..))|exact .inr (List.mem_cons_of_mem _ (List.mem_cons_of_mem _ (List.mem_cons_self ..)))|exact .inr (List.mem_cons_of_mem _ (List.mem_cons_of_mem _ (List.mem_cons_of_mem _ (List.mem_cons_self ..)))))) (hx:qB σ.hs n = .own ex 5 [yN c k]:=by rfl) (he:ex' = true → ex = true:=by first|exact id|exact nofun):yO L 5 σ ((n',.own ex' 5 [yN c' k]) :: l) :=
 zI hm hx he (yU (qf (qt (qq rfl)) (qf (qt (qq rfl)) (qf (qt (qq rfl)) (qf (qt (qq rfl)) (qf (qO hc) qm))))) x3) hl
end Go.Proofs.YtnhpclmbhbblbaaGreatDoor
