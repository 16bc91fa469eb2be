import Derived.Test.YtamejbkifpjhiaaGreatDoorMz19
import Derived.Test.YtamejbkifpjhiaaGreatDoorMz20
import Derived.Test.YtamejbkifpjhiaaGreatDoorMz6
set_option linter.unusedSimpArgs false
set_option linter.unusedVariables false
namespace Go.Ab
open Go.RowKit
section keeps8
variable {L:List (Nat × Nat)} {nh:Nat} {σ:St} {i:Nat}
theorem xl {n n' a b:Nat} {l:List (Nat × AV)} (hl:vA L nh σ l) (hx:qS σ.ts i = .op n a b:=by rfl) (hm:Maps L nh n n':=by (refine .inr ?_;(repeat (first|exact List.mem_cons_self ..|apply List.mem_cons_of_mem)))):vA L nh σ ((i,.op n' a b) :: l):=qb3 hx hm hl
theorem yu {n n' off len len' : Nat} {l:List (Nat × AV)} (hl:vA L nh σ l) (hx:qS σ.ts i = .os n off len:=by rfl) (hm:Maps L nh n n':=by (refine .inr ?_;(repeat (first|exact List.mem_cons_self ..|apply List.mem_cons_of_mem)))) (he:len = len':=by first|with_reducible rfl|omega):vA L nh σ ((i,.os n' off len') :: l):=Y3 hx hm he hl
theorem yw {n n' off len len' : Nat} {l:List (Nat × AV)} (hl:vA L nh σ l) (he:len = len') (hx:qS σ.ts i = .os n off len:=by rfl) (hm:Maps L nh n n':=by (refine .inr ?_;(repeat (first|exact List.mem_cons_self ..|apply List.mem_cons_of_mem)))):vA L nh σ ((i,.os n' off len') :: l):=Y3 hx hm he hl
theorem ws {n n' : Nat} {l:List (Nat × AV)} (hl:vA L nh σ l) (hx:qS σ.ts i = .mp n:=by rfl) (hm:Maps L nh n n':=by (refine .inr ?_;(repeat (first|exact List.mem_cons_self ..|apply List.mem_cons_of_mem)))):vA L nh σ ((i,.mp n') :: l):=qb2 hx hm hl
theorem ww {n n' : Nat} {m m' : List (List UInt8 × AV)} {l:List (Nat × HB)} (hl:vp L nh σ l) (hr:m.Perm m') (hp : ∀ e,e ∈ m' → e.2.pure = true) (hm:Maps L nh n n':=by (refine .inr ?_;(repeat (first|exact List.mem_cons_self ..|apply List.mem_cons_of_mem)))) (hx:jg σ.hs n = .mp m:=by rfl):vp L nh σ ((n',.mp m') :: l):=qbO hx hm hr hp hl
theorem yy {n n' : Nat} {ex ex' : Bool} {k:Nat} {row row' : List AV} {l:List (Nat × HB)} (hr:jC L nh row row') (hl:vp L nh σ l) (hm:Maps L nh n n':=by (refine .inr ?_;(repeat (first|exact List.mem_cons_self ..|apply List.mem_cons_of_mem)))) (hx:jg σ.hs n = .own ex k [row]:=by rfl) (he:ex' = true → ex = true:=by first|exact id|exact nofun):vp L nh σ ((n',.own ex' k [row']) :: l):=w3 hm hx he (vx hr zU) hl
theorem vJ {n n' : Nat} {ex ex' : Bool} {k:Nat} {rows rows' : List (List AV)} {l:List (Nat × HB)} (hl:vp L nh σ l) (hm:Maps L nh n n':=by (refine .inr ?_;(repeat (first|exact List.mem_cons_self ..|apply List.mem_cons_of_mem)))) (hx:jg σ.hs n = .own ex k rows:=by rfl) (he:ex' = true → ex = true:=by first|exact id|exact nofun) (hp : ∀ row,row ∈ rows' → AV.pure.pureL row = true:=by first|assumption|exact jZ rfl|exact qK fun _=>rfl) (hr:rows = rows':=by with_reducible rfl):vp L nh σ ((n',.own ex' k rows') :: l):=YE hx hm he hr hp hl
theorem yx {n n' : Nat} {ex ex' : Bool} {k:Nat} {rows rows' : List (List AV)} {l:List (Nat × HB)} (hl:vp L nh σ l) (hr:rows = rows') (hm:Maps L nh n n':=by (refine .inr ?_;(repeat (first|exact List.mem_cons_self ..|apply List.mem_cons_of_mem)))) (hx:jg σ.hs n = .own ex k rows:=by rfl) (he:ex' = true → ex = true:=by first|exact id|exact nofun) (hp : ∀ row,row ∈ rows' → AV.pure.pureL row = true:=by first|assumption|exact jZ rfl|exact qK fun _=>rfl):vp L nh σ ((n',.own ex' k rows') :: l):=YE hx hm he hr hp hl
end keeps8
end Go.Ab
set_option linter.unusedSimpArgs false
set_option linter.unusedVariables false
namespace Go.Ab
open Go.RowKit
theorem ZV {p:List AV → Bool} {l l' : List (List AV)} (h:l.all p = true) (hs : ∀ x,x ∈ l' → x ∈ l):l'.all p = true:=List.all_eq_true.2 fun x hx=>List.all_eq_true.1 h x (hs x hx)
theorem Qb {l:List (List AV)} {a b:Nat} : ∀ x,x ∈ (l.take b).drop a → x ∈ l:=fun _ h=>List.mem_of_mem_take (List.mem_of_mem_drop h)
theorem qgu {L:List (Nat × Nat)} {nh:Nat} {rows:List (List AV)}:j3 L nh (.sl true rows) (.sl false rows):=fun F ρ ρ' v _ hm=>by
 have hm:=hm.moved ρ' rfl
 cases hm with
 | sl0 _ a cap ex he hn=>exact .sl0 _ a cap false (fun e=>by cases e) hn
 | sl _ b off cap c e fr ex k rows hb hc he hs hk h=>exact .sl _ b off cap c e fr false k rows hb hc (fun e=>by cases e) hs hk h
theorem qha {L:List (Nat × Nat)} {nh:Nat} {σ:St} {i:Nat} {rows:List (List AV)} {l:List (Nat × AV)} (hl:vA L nh σ l) (hx:qS σ.ts i = .sl true rows:=by rfl):vA L nh σ ((i,.sl false rows) :: l):=Qe hx qgu hl
theorem yX {L:List (Nat × Nat)} {nh:Nat} {fn:Fn} {n n' i j:Nat} (hm:Maps L nh n n'):j3 L nh (.clo fn [] [.op n i j]) (.clo fn [] [.op n' i j]):=by
 have h:=V6 L nh [(n,n')] (fun a b h=>by simp at h;obtain ⟨rfl,rfl⟩:=h;exact hm) (.clo fn [] [.op n i j])
 simpa [AV.ren,AV.ren.renL,jF] using h
theorem qex {L:List (Nat × Nat)} {nh:Nat} {fn:Fn} {xs ys xs' ys' : List AV} (h1:jC L nh xs xs') (h2:jC L nh ys ys'):j3 L nh (.clo fn xs ys) (.clo fn xs' ys'):=fun F ρ ρ' v hp hm=>by
 cases hm with
 | clo _ fn vs us xs ys hl hm' a1 a2 =>
   refine .clo _ fn vs us xs' ys' (by rw [hl,h1.1]) (by rw [hm',h2.1]) (fun i u y hu hy=>?_) (fun i u y hu hy=>?_)
   ·have hi:i < xs.length:=by rw [h1.1];exact (List.getElem?_eq_some_iff.1 hy).1
    have hx:=List.getElem?_eq_getElem hi
    exact h1.2 i _ y hx hy F ρ ρ' u hp (a1 i u _ hu hx)
   ·have hi:i < ys.length:=by rw [h2.1];exact (List.getElem?_eq_some_iff.1 hy).1
    have hx:=List.getElem?_eq_getElem hi
    exact h2.2 i _ y hx hy F ρ ρ' u hp (a2 i u _ hu hx)
theorem xQ {L:List (Nat × Nat)} {nh:Nat} {σ:St} {i:Nat} {fn:Fn} {r1 r2:List (List AV)} {a b c a' b' c' : Nat} {l:List (Nat × AV)} (hl:vA L nh σ l) (hx:qS σ.ts i = .clo fn [] [.fp r1 0 0,.fp r2 0 0,.op a 0 0,.op b 0 0,.op c 0 0]:=by rfl) (ha:Maps L nh a a':=by (refine .inr ?_;(repeat (first|exact List.mem_cons_self ..|apply List.mem_cons_of_mem)))) (hb:Maps L nh b b':=by (refine .inr ?_;(repeat (first|exact List.mem_cons_self ..|apply List.mem_cons_of_mem)))) (hc:Maps L nh c c':=by (refine .inr ?_;(repeat (first|exact List.mem_cons_self ..|apply List.mem_cons_of_mem)))):vA L nh σ ((i,.clo fn [] [.fp r1 0 0,.fp r2 0 0,.op a' 0 0,.op b' 0 0,.op c' 0 0]) :: l) :=
 Qe hx (qex ql (qd (qk rfl) (qd (qk rfl) (qd (qD ha) (qd (qD hb) (qd (qD hc) ql)))))) hl
theorem jm {L:List (Nat × Nat)} {nh n n' off len len' : Nat} (h:len = len') (hn:Maps L nh n n':=by (refine .inr ?_;(repeat (first|exact List.mem_cons_self ..|apply List.mem_cons_of_mem)))):j3 L nh (.os n off len) (.os n' off len'):=h ▸ qz hn
theorem yA {L:List (Nat × Nat)} {nh:Nat} {fn:Fn} {n n' i j:Nat} (ht:True) (hm:Maps L nh n n':=by (refine .inr ?_;(repeat (first|exact List.mem_cons_self ..|apply List.mem_cons_of_mem)))):j3 L nh (.clo fn [] [.op n i j]) (.clo fn [] [.op n' i j]):=yX hm
section ops
variable {C:Cx} {N d:Nat} {ty:TypeId} {pos:String} {af:Array Edge} {gd:Option (Nat × Bool)} {t:Nat → AV} {h:Nat → HB}
theorem Qk (T ty' e:Nat) (x y:Operand) (m:Nat) (rows0 rows:List (List AV)) (rh:List Nat) (r re:TRec) (hx:evA t x = .sl true rows0) (hT:qW C.tab T = some r) (he:r.kind = .slice e) (hE:qW C.tab e = some re) (hz:re.zero.length = re.size)
  (hk0 : ∀ row,row ∈ rows0 → row.length = re.size) (hc0 : ∀ row,row ∈ rows0 → row.all yo = true) (hsrc:SrcA t h y re.size rows rh) (hne:0 < rows.length) (hsz:(rows0.length + rows.length) * re.bytes ≤ 140737488355328) (hlen:rows0.length + rows.length ≤ 9223372036854775807) (hN:d < N) :
  ja C.P N ⟨some d,.call ⟨.builtin .append, #[x,y], #[T,T]⟩,ty',pos,af,gd⟩ t h ⟨yr x ++ yr y,rh,some d,.os m 0 (rows0.length + rows.length),[(m,.own false re.size (rows0 ++ rows))],[m]⟩:=by
 refine wj (ks:=[]) _ _ m false re.size (rows0 ++ rows) [m] (fun d' hd'=>by injection hd' with e;exact e ▸ hN) (.inl rfl) (by simp) ?_
 intro B A h' F ρ a w hp hm hh hfr
 have h1:=qE (x:=x) hm (fun j hj=>List.mem_append_left _ hj)
 have h2:=qE (x:=y) hm (fun j hj=>List.mem_append_right _ hj)
 have hsx:SrcA t h x re.size rows0 []:=⟨hk0,hc0,.inl ⟨true,hx⟩⟩
 obtain ⟨olds,holds,hol,_,hoR⟩:=hsx.src (P:=C.P) hp.agree h1 (fun n hn=>(by cases hn))
 rw [hx] at h1
 have hρ:ρ m = none:=hfr m (by simp)
 have hu:=yj (C.ok T r hT) he
 obtain ⟨dd,inf,z,_,hi,hz0,_,_,hsize,hbytes,hzc⟩:=yG (C.ok e re hE)
 obtain ⟨news,hnews,hnl,hn1,hnR⟩:=hsrc.src (P:=C.P) hp.agree h2 (fun n hn=>(hh n hn) ▸ hp.own n)
 obtain ⟨ad,hv⟩ : ∃ ad,a.eval x = .slice ad rows0.length rows0.length:=by
  rcases h1.sl_inv with ⟨h3,ad,cap,hv,hc,_⟩|⟨b,o,cap,c,e',fr,kk,hb,h3,hc,_,_,_,hv⟩
  ·have hc0:cap = rows0.length:=by rw [hc rfl,h3];rfl
   subst hc0;exact ⟨ad,by rw [hv,h3];rfl⟩
  ·have hc0:cap = rows0.length:=hc rfl
   subst hc0;exact ⟨_,hv⟩
 have hex : ∀ (v:Value) (w2:World),(Builtin.append_ #[T,T] ty' #[.slice ad rows0.length rows0.length,a.eval y]).run C.P w = .ok v w2 → (execOp a.eval ⟨some d,.call ⟨.builtin .append, #[x,y], #[T,T]⟩,ty',pos,af,gd⟩).run C.P w = .ok (.value v) w2:=fun v w2 hr=>by
  simp [execOp,resolve,invoke,builtin,hv,hr]
 have hr:=kN (P:=C.P) (w:=w) T ty' e inf z hu hi hz0 ad rows0.length rows0.length rows.length (a.eval y) olds news (fun w' hw'=>by rw [hsize];exact hnews w' hw') (fun w' hw'=>by have:=(holds w' hw').2;rw [hv] at this;rw [hsize];exact this) (by omega) (by unfold maxLen;omega) (by rw [hbytes];exact hsz) (.inr ⟨_,hu⟩)
 have hge:=grownCap_ge w (rows0.length + rows.length) rows0.length e
 refine ⟨.value _,_,some (w.heap.size,re.size,grownCap w (rows0.length + rows.length) rows0.length e),none,hex _ _ hr,.inr ⟨_,rfl,?_⟩,.inl hρ,hp.kept.drew.alloc _,(fun b hb=>by cases hb),fun b hb _=>(by show (w.heap.push _)[b]? = _;rw [Array.getElem?_push,if_neg (Nat.ne_of_lt hb)]),(fun b c hb=>by simp only [Option.some.injEq,Prod.mk.injEq] at hb;exact .inr (by omega)),.inr ⟨w.heap.size,grownCap w (rows0.length + rows.length) rows0.length e,_,e,by simp,Array.getElem?_push_size,?_,by rw [List.length_append];exact hge,(fun h=>by cases h),?_⟩,(fun h=>by cases h)⟩
 ·have:=M.os (F:=F) (fun n=>if n = m then some (some (w.heap.size,re.size,grownCap w (rows0.length + rows.length) rows0.length e)) else ρ n) m w.heap.size re.size (grownCap w (rows0.length + rows.length) rows0.length e) 0 (rows0.length + rows.length) ⟨w.heap.size,0,none⟩ (by simp) (by omega) (fun _=>by simp)
  simpa using this
 ·exact Qr (by rw [hzc];simpa using hz) hol hnl hge
 ·have hle2:ρ.le (fun n=>if n = m then some (some (w.heap.size,re.size,grownCap w (rows0.length + rows.length) rows0.length e)) else ρ n):=fun n c hn=>by
   by_cases hnm:n = m
   ·subst hnm;rw [hρ] at hn;cases hn
   ·simpa [hnm] using hn
  exact (RowsAt.grown hoR hnR hol hnl).mono (Still.le_refl F) hle2
theorem Zo (T ty' e:Nat) (x y:Operand) (ex:Bool) (rows0:List (List AV)) (r re:TRec) (hx:evA t x = .sl ex rows0) (hT:qW C.tab T = some r) (he:r.kind = .slice e) (hE:qW C.tab e = some re)
  (ey:Bool) (rows1:List (List AV)) (hy:evA t y = .sl ey rows1) (h0:rows1 = []) (hN:d < N) :
  ja C.P N ⟨some d,.call ⟨.builtin .append, #[x,y], #[T,T]⟩,ty',pos,af,gd⟩ t h ⟨yr x ++ yr y,[],some d,.sl ex rows0,[],[]⟩ :=
 jV _ _ rfl hN fun F ρ a w hag hs _=>by
  have h1:=qE (x:=x) hs (fun j hj=>List.mem_append_left _ hj)
  have h2:=qE (x:=y) hs (fun j hj=>List.mem_append_right _ hj)
  have hu:=yj (C.ok T r hT) he
  obtain ⟨dd,inf,z,_,hi,hz0,_,_,hsize,hbytes,hzc⟩:=yG (C.ok e re hE)
  rw [hx] at h1
  rw [hy,h0] at h2
  obtain ⟨ad2,cap2,hv2⟩ : ∃ ad cap,a.eval y = .slice ad 0 cap:=by
   rcases h2.sl_inv with ⟨_,ad,cap,hv,_,_⟩|⟨b,o,cap,c,e',fr,kk,hb,h3,hc,_,_,_,hv⟩
   ·exact ⟨_,_,hv⟩
   ·exact ⟨_,_,hv⟩
  obtain ⟨ad,cap,hv,hlc⟩ : ∃ ad cap,a.eval x = .slice ad rows0.length cap ∧ rows0.length ≤ cap:=by
   rcases h1.sl_inv with ⟨h3,ad,cap,hv,hc,_⟩|⟨b,o,cap,c,e',fr,kk,hb,h3,hc,_,_,_,hv⟩
   ·exact ⟨ad,cap,by rw [hv,h3];rfl,by rw [h3];exact Nat.zero_le _⟩
   ·exact ⟨_,_,hv,h3⟩
  refine ⟨a.eval x,?_,h1⟩
  rw [hv]
  have e2 : ∀ w' : World,(Builtin.firstCells inf.size 0 (.slice ad2 0 cap2)).run C.P w' = .ok #[] w':=fun w'=>by cases ad2<;>simp [Builtin.firstCells,loadCells,loadCellsFrom]
  cases ad<;>simp [execOp,resolve,invoke,builtin,hv,hv2,Builtin.append_,run_underlying hu,sizeOf,typeInfo,hi,Builtin.lenOf,hlc,e2,storeCells]
end ops
end Go.Ab
