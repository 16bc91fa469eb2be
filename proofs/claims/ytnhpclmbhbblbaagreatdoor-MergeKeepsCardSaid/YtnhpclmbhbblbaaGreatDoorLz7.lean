import Derived.Test.YtnhpclmbhbblbaaGreatDoorLz6
set_option linter.unusedSimpArgs false
set_option linter.unusedVariables false
namespace Go.Ab
open Go.RowKit
def yl (L:List (Nat × Nat)) (rh:List Nat) (h:Nat → HB) (x y:AV):Prop :=
 ∀ (F:Still) (ρ ρ' : Places) (w:World) (v:Value),(∀ n,n ∈ rh → OwnAt F ρ w n (h n)) → (∀ n n',Maps L 0 n n' → ∀ c,ρ n = some c → ρ' n' = some c) → M F ρ v x → M F ρ' v y
def jg (L:List (Nat × Nat)) (rh:List Nat) (h:Nat → HB) (xs ys:List AV):Prop:=xs.length = ys.length ∧ ∀ (i:Nat) x y,xs[i]? = some x → ys[i]? = some y → yl L rh h x y
section
variable {L:List (Nat × Nat)} {rh:List Nat} {h:Nat → HB}
theorem qw {x y:AV} (hr:jQ L 0 x y):yl L rh h x y:=fun F ρ ρ' w v _ hm=>hr F ρ ρ' v hm
theorem jo {x:AV} (hx:x.pure = true):yl L rh h x x:=qw (ql hx)
theorem jU {rows:List (List AV)}:yl L rh h (.sl true rows) (.sl false rows):=fun F ρ ρ' w v _ _ hm=>by
 have hm:=hm.moved ρ' rfl
 cases hm with
 | sl0 _ a cap ex he hn=>exact .sl0 _ a cap false (fun e=>by cases e) hn
 | sl _ b off cap c e fr ex k rows hb hc he hs hk h=>exact .sl _ b off cap c e fr false k rows hb hc (fun e=>by cases e) hs hk h
theorem jp:jg L rh h [] []:=⟨rfl,fun i x y hx=>by cases i<;>cases hx⟩
theorem ja {x y:AV} {xs ys:List AV} (hx:yl L rh h x y) (hl:jg L rh h xs ys):jg L rh h (x :: xs) (y :: ys):=by
 refine ⟨by simp [hl.1],fun i a b ha hb=>?_⟩
 cases i with
 | zero=>simp at ha hb;subst ha;subst hb;exact hx
 | succ i=>exact hl.2 i a b (by simpa using ha) (by simpa using hb)
theorem vU {n i j:Nat} {rows:List (List AV)} (hn:h n = .fz rows) (hr:n ∈ rh) (hi:i < rows.length):yl L rh h (.op n i j) (.fp rows i j):=fun F ρ ρ' w v ho _ hm=>by
 have h1:=ho n hr
 rw [hn] at h1
 obtain ⟨b,k,cap,hρ,rfl⟩:=hm.op_inv
 rcases h1 with ⟨h2,_⟩|⟨b',k',cap',c,e,fr,h2,h3,h4,h5,h6⟩
 ·rw [hρ] at h2;cases h2
 ·rw [hρ] at h2
  simp only [Option.some.injEq,Prod.mk.injEq] at h2
  obtain ⟨rfl,rfl,rfl⟩:=h2
  have:=M.fp (F:=F) ρ' b 0 c e fr k rows i j h3 hi (by omega) h6.1 (fun i j row x v a1 a2 a3=>h6.2 i j row x v a1 a2 (by rw [Nat.zero_add] at a3;exact a3))
  rw [Nat.zero_add] at this
  exact this
theorem Zb {n off len:Nat} {rows:List (List AV)} (hn:h n = .fz rows) (hr:n ∈ rh) (hl:off + len ≤ rows.length):yl L rh h (.os n off len) (.sl false ((rows.drop off).take len)):=fun F ρ ρ' w v ho _ hm=>by
 have h1:=ho n hr
 rw [hn] at h1
 have hlen:((rows.drop off).take len).length = len:=by simp;omega
 rcases hm.os_inv with ⟨h2,rfl,rfl,ad,rfl⟩|⟨b,k,cap,a,hρ,rfl,hcap,ha⟩
 ·exact .sl0 _ ad 0 false (fun e=>by cases e) (fun _=>rfl)
 ·rcases h1 with ⟨h2,_⟩|⟨b',k',cap',c,e,fr,h2,h3,h4,h5,h6⟩
  ·rw [hρ] at h2;cases h2
  ·rw [hρ] at h2
   simp only [Option.some.injEq,Prod.mk.injEq] at h2
   obtain ⟨rfl,rfl,rfl⟩:=h2
   by_cases h0:len = 0
   ·subst h0
    rw [List.take_zero]
    exact .sl0 _ (some a) _ false (fun e=>by cases e) (fun e=>by cases e)
   ·have ha':=ha (by omega)
    subst ha'
    have hmul:off * k + len * k ≤ rows.length * k:=by rw [← Nat.add_mul];exact Nat.mul_le_mul_right _ hl
    have:=M.sl (F:=F) ρ' b (off * k) (cap - off) c e fr false k ((rows.drop off).take len) h3 (by rw [hlen];omega) (fun e=>by cases e) (by rw [hlen];omega) (fun row hrow=>h6.1 row (List.mem_of_mem_drop (List.mem_of_mem_take hrow)))
     (fun i j row x v a1 a2 a3=>by
      have hi:i < len:=by have:=(List.getElem?_eq_some_iff.1 a1).1;omega
      rw [getElem?_drop_take _ _ _ _ hi] at a1
      exact h6.2 (off + i) j row x v a1 a2 (by rw [Nat.add_mul];exact a3))
    rw [hlen] at this
    exact this
theorem jA {fn:Fn} {xs ys xs' ys' : List AV} (h1:jg L rh h xs xs') (h2:jg L rh h ys ys'):yl L rh h (.clo fn xs ys) (.clo fn xs' ys'):=fun F ρ ρ' w v ho hp hm=>by
 cases hm with
 | clo _ fn vs us xs ys hl hm' a1 a2 =>
   refine .clo _ fn vs us xs' ys' (by rw [hl,h1.1]) (by rw [hm',h2.1]) (fun i u y hu hy=>?_) (fun i u y hu hy=>?_)
   ·have hi:i < xs.length:=by rw [h1.1];exact (List.getElem?_eq_some_iff.1 hy).1
    have hx:=List.getElem?_eq_getElem hi
    exact h1.2 i _ y hx hy F ρ ρ' w u ho hp (a1 i u _ hu hx)
   ·have hi:i < ys.length:=by rw [h2.1];exact (List.getElem?_eq_some_iff.1 hy).1
    have hx:=List.getElem?_eq_getElem hi
    exact h2.2 i _ y hx hy F ρ ρ' w u ho hp (a2 i u _ hu hx)
theorem jz {xs ys:List AV} (hl:jg L rh h xs ys):yl L rh h (.agg xs) (.agg ys):=fun F ρ ρ' w v ho hp hm=>by
 obtain ⟨vs,rfl,h1,h2⟩:=hm.agg_inv
 refine .agg _ vs ys (by rw [h1,hl.1]) fun i u y hu hy=>?_
 have hi:i < xs.length:=by rw [hl.1];exact (List.getElem?_eq_some_iff.1 hy).1
 have hx:xs[i]? = some xs[i]:=List.getElem?_eq_getElem hi
 exact hl.2 i _ y hx hy F ρ ρ' w u ho hp (h2 i u _ hu hx)
end
def zd:Nat → List Nat → List (Nat × Nat)
 | _,[] => []
 | i,n :: l=>(n,i) :: zd (i + 1) l
def Xm (l:List (Nat × Nat)):List (Nat × Nat):=l.map fun x=>(x.2,x.1)
theorem kG : ∀ (l:List Nat) (i n j:Nat),(n,j) ∈ zd i l ↔ i ≤ j ∧ l[j - i]? = some n
 | [],i,n,j=>by simp [zd]
 | m :: l,i,n,j=>by
   simp only [zd,List.mem_cons,Prod.mk.injEq,kG l (i + 1) n j]
   constructor
   ·rintro (⟨rfl,rfl⟩|⟨h1,h2⟩)
    ·exact ⟨Nat.le_refl _,by simp⟩
    ·exact ⟨by omega,by rw [show j - i = j - (i + 1) + 1 from by omega];simpa using h2⟩
   ·rintro ⟨h1,h2⟩
    by_cases hij:i = j
    ·subst hij;simp at h2;exact .inl ⟨h2.symm,rfl⟩
    ·exact .inr ⟨by omega,by rw [show j - i = j - (i + 1) + 1 from by omega] at h2;simpa using h2⟩
theorem RowsAt.ren {F:Still} {ρ ρ' : Places} {L:List (Nat × Nat)} {c:Array Value} {k:Nat} {rows rows' : List (List AV)} (hsub : ∀ n n',Maps L 0 n n' → ∀ c,ρ n = some c → ρ' n' = some c) (hR:RowsAt F ρ c k rows) (hr:vq L 0 rows rows'):RowsAt F ρ' c k rows':=by
 have hget : ∀ (i:Nat) row',rows'[i]? = some row' → ∃ row,rows[i]? = some row ∧ jq L 0 row row':=fun i row' hi=>by
  have hil:i < rows.length:=by rw [hr.1];exact (List.getElem?_eq_some_iff.1 hi).1
  exact ⟨_,List.getElem?_eq_getElem hil,hr.2 i _ _ (List.getElem?_eq_getElem hil) hi⟩
 refine ⟨fun row' hrow'=>?_,fun i j row' y v hi hj hv=>?_⟩
 ·obtain ⟨i,hi⟩:=List.mem_iff_getElem?.1 hrow'
  obtain ⟨row,h1,h2⟩:=hget i row' hi
  rw [← h2.1];exact hR.1 row (List.mem_of_getElem? h1)
 ·obtain ⟨row,h1,h2⟩:=hget i row' hi
  have hj' : j < row.length:=by rw [h2.1];exact (List.getElem?_eq_some_iff.1 hj).1
  have hx:row[j]? = some row[j]:=List.getElem?_eq_getElem hj'
  exact h2.2 j _ y hx hj F ρ ρ' v hsub (hR.2 i j row _ v h1 hx hv)
theorem OwnAt.ren {F:Still} {ρ ρ' : Places} {L:List (Nat × Nat)} {w:World} {n n' : Nat} {x y:HB} (hsub : ∀ n n',Maps L 0 n n' → ∀ c,ρ n = some c → ρ' n' = some c) (hm:Maps L 0 n n') (ho:OwnAt F ρ w n x) (hr:yQ L 0 x y):OwnAt F ρ' w n' y:=by
 cases y with
 | dead=>trivial
 | own ex k rows =>
   cases x with
   | own ex' k' rows' =>
     obtain ⟨hex,rfl,hr⟩:=hr
     rcases ho with ⟨h4,h5⟩|⟨b,cap,c,e,h4,h5,h6,h7,h8,h9⟩
     ·refine .inl ⟨hsub n n' hm _ h4,?_⟩
      subst h5
      exact List.eq_nil_of_length_eq_zero (by rw [← hr.1];rfl)
     ·exact .inr ⟨b,cap,c,e,hsub n n' hm _ h4,h5,h6,by rw [← hr.1];exact h7,fun h=>by rw [← hr.1];exact h8 (hex h),h9.ren hsub hr⟩
   | dead=>exact hr.elim
   | fz _=>exact hr.elim
   | mp _=>exact hr.elim
 | mp l =>
   cases x with
   | mp l0 =>
     obtain ⟨b,es,clock,h4,h5,h6⟩:=ho
     exact ⟨b,es,clock,hsub n n' hm _ h4,h5,h6.ren hsub hr⟩
   | dead=>exact hr.elim
   | fz _=>exact hr.elim
   | own _ _ _=>exact hr.elim
 | fz rows =>
   cases x with
   | fz rows' =>
     have h2:rows' = rows:=hr
     subst h2
     rcases ho with ⟨h4,h5⟩|⟨b,k,cap,c,e,fr,h4,h5⟩
     ·exact .inl ⟨hsub n n' hm _ h4,h5⟩
     ·exact .inr ⟨b,k,cap,c,e,fr,hsub n n' hm _ h4,h5⟩
   | dead=>exact hr.elim
   | own _ _ _=>exact hr.elim
   | mp _=>exact hr.elim
theorem Y3 : ∀ {l:List Nat},l.Nodup → ∀ (i j n:Nat),l[i]? = some n → l[j]? = some n → i = j
 | [],_,i,j,n,h,_=>by simp at h
 | a :: l,hn,i,j,n,h,k=>by
   rw [List.nodup_cons] at hn
   cases i with
   | zero =>
     cases j with
     | zero=>rfl
     | succ j=>simp at h k;subst h;exact absurd (List.mem_of_getElem? k) hn.1
   | succ i =>
     cases j with
     | zero=>simp at h k;subst k;exact absurd (List.mem_of_getElem? h) hn.1
     | succ j=>simp at h k;exact congrArg (· + 1) (Y3 hn.2 i j n h k)
section calls
variable {C:Cx} {N d:Nat} {t:Nat → AV} {h:Nat → HB}
theorem Wg {o:Oper} {f:FuncId} {xs ys:List AV} {H:List HB} (rt rh L fr:List Nat) (hd:o.dst = some d) (hN:d < N) (he:jf C.P o t rt f xs)
  (hfr:L.drop H.length = fr) (hHZ:H.length ≤ L.length) (hnd:L.Nodup) (hrh : ∀ n,n ∈ L.take H.length → n ∈ rh)
  (hargs:jg (zd 0 (L.take H.length)) rh h xs ys)
  (hH : ∀ (i:Nat) n hb,(L.take H.length)[i]? = some n → H[i]? = some hb → (h n).isOwn = true ∧ yQ (zd 0 (L.take H.length)) 0 (h n) hb)
  (B:Base) (A:Nat → Prop) (t' : Nat → AV) (h' : Nat → HB) (a:Act) (w:World) (hBN:B.N = N) (g:Ga B A t' h' a w) (hrt : ∀ j,j ∈ rt → t' j = t j) (hrhh : ∀ n,n ∈ rh → h' n = h n) (hfrA : ∀ n,n ∈ fr → ¬ A n) :
  ∃ (vs:List Value) (B' : Base),(execOp a.eval o).run C.P w = .ok (.enter f vs.toArray) w ∧ vs.length = ys.length ∧ B'.N = vs.length ∧ Ga B' (· < H.length) (fun i=>ys.getD i .junk) (fun n=>H.getD n .dead) ⟨vs.toArray,[]⟩ w ∧
    ∀ (v:Value) (w' : World) (r r' : AV) (H' : List HB) (Z:List (Nat × HB)),Z.map (·.1) = L → (∀ (i:Nat) n hb,Z[i]? = some (n,hb) → yQ (Xm (zd 0 L)) 0 (H'.getD i .dead) hb) → jQ (Xm (zd 0 L)) 0 r r' →
      Ga { B' with N:=1 } (fun _=>True) (one r) (fun n=>H'.getD n .dead) ⟨#[v],[]⟩ w' → Ga B (fun n=>A n ∨ n ∈ fr) (Eff.t ⟨rt,rh,some d,r',Z,fr⟩ t') (Eff.h ⟨rt,rh,some d,r',Z,fr⟩ h') (a.put o.dst v) w':=by
 obtain ⟨g1,g2,F,ρ,hp,g4⟩:=g
 obtain ⟨vs,hrun,hl,hm⟩:=he F ρ a w (fun j hj=>(hrt j hj) ▸ g4 j)
 have hh' : ∀ n,n ∈ rh → h' n = h n:=fun n hn=>hrhh n hn
 have hidx : ∀ (i:Nat),i < H.length → ∃ n:Nat,(L.take H.length)[i]? = some n ∧ L[i]? = some n:=fun i hi=>by
  have:L[i]? = some (L[i]'(by omega)):=List.getElem?_eq_getElem (by omega)
  exact ⟨_,by rw [List.getElem?_take,if_pos hi];exact this,this⟩
 have hinj : ∀ (i j n:Nat),L[i]? = some n → L[j]? = some n → i = j:=Y3 hnd
 let ρc:Places:=fun i=>match (L.take H.length)[i]? with|some n=>ρ n|none=>none
 have hρc : ∀ (i n:Nat),(L.take H.length)[i]? = some n → ρc i = ρ n:=fun i n hi=>by simp only [ρc];rw [hi]
 have hsubc : ∀ n n',Maps (zd 0 (L.take H.length)) 0 n n' → ∀ c,ρ n = some c → ρc n' = some c:=by
  intro n n' hm c hcn
  rcases hm with ⟨h1,_⟩|h1
  ·omega
  ·have:=((kG _ _ _ _).1 h1).2
   rw [Nat.sub_zero] at this
   rw [hρc n' n this];exact hcn
 have htk : ∀ (i n:Nat),(L.take H.length)[i]? = some n → i < H.length ∧ L[i]? = some n:=fun i n hi=>by
  have h1:=(List.getElem?_eq_some_iff.1 hi).1
  simp at h1
  exact ⟨by omega,by rw [List.getElem?_take,if_pos (by omega)] at hi;exact hi⟩
 have hown0 : ∀ (i n:Nat),(L.take H.length)[i]? = some n → (h' n).isOwn = true:=fun i n hi=>by
  obtain ⟨h1,_⟩:=htk i n hi
  rw [hh' n (hrh n (List.mem_of_getElem? hi))]
  exact (hH i n _ hi (List.getElem?_eq_getElem h1)).1
 let O0:Nat → Prop:=fun b => ∃ (i n:Nat) (c:Nat × Nat),(L.take H.length)[i]? = some n ∧ ρ n = some (some (b,c))
 let B' : Base := { w0:=w,F0:=F,ρ0:=ρc,O0:=O0,N:=vs.length,tab:=fun b p h=>(B.tab b p h).imp fun cs h=>h.imp fun e h=>h.imp fun fr h=>⟨h.1,hp.grow b _ h.2⟩ }
 have hO : ∀ b,O0 b → F b = none ∧ B.new b ∧ b < w.heap.size:=by
  rintro b ⟨i,n,c,h1,h2⟩
  have h3:=hp.new n b c (hown0 i n h1) h2
  refine ⟨h3.1,h3.2,?_⟩
  have h4:=hp.own n
  have h5:=hown0 i n h1
  cases e:h' n with
  | own ex k rows =>
    rw [e] at h4
    obtain ⟨_,cc,_,h6,_⟩:=jP (k':=c.1) (cap':=c.2) h4 h2
    exact (Array.getElem?_eq_some_iff.1 h6).1
  | dead=>rw [e] at h5;cases h5
  | fz _=>rw [e] at h5;cases h5
  | mp _=>exact hp.blk h5 h2
 have hGa:Ga B' (· < H.length) (fun i=>ys.getD i .junk) (fun n=>H.getD n .dead) ⟨vs.toArray,[]⟩ w:=by
  refine ⟨rfl,by simp [B'],F,ρc,?_,fun i=>?_⟩
  ·refine { kept:=⟨rfl,rfl,rfl,Nat.le_refl _,fun _ _ _=>rfl⟩,agree:=hp.agree,grow:=Still.le_refl _,fresh:=fun b hb => .inl hb,names:=Places.le_refl _,dom:=fun n hn=>?_,own:=fun i=>?_,new:=fun i b c ho hn=>?_,sep:=fun i j b c c' hne ho ho' hn hn'=>?_ }
   ·simp only [ρc] at hn
    split at hn
    ·rename_i n hi;exact (htk _ _ hi).1
    ·exact absurd rfl hn
   ·by_cases hi:i < H.length
    ·obtain ⟨n,h1,h2⟩:=hidx i hi
     have hHi:H[i]? = some H[i]:=List.getElem?_eq_getElem hi
     rw [List.getD_eq_getElem?_getD,hHi,Option.getD_some]
     have h3:=hp.own n
     rw [hh' n (hrh n (List.mem_of_getElem? h1))] at h3
     exact h3.ren hsubc (.inr ((kG _ _ _ _).2 ⟨Nat.zero_le _,by rw [Nat.sub_zero];exact h1⟩)) (hH i n _ h1 hHi).2
    ·rw [List.getD_eq_getElem?_getD,List.getElem?_eq_none (by omega)];trivial
   ·simp only [ρc] at hn
    split at hn
    ·rename_i n hi
     have:=hp.new n b c (hown0 i n hi) hn
     exact ⟨this.1,.inr ⟨i,n,c,hi,hn⟩⟩
    ·cases hn
   ·simp only [ρc] at hn hn'
    split at hn
    ·rename_i n hi
     split at hn'
     ·rename_i m hj
      refine hp.sep n m b c c' (fun e=>hne ?_) (hown0 i n hi) (hown0 j m hj) hn hn'
      exact hinj i j n (htk _ _ hi).2 (e ▸ (htk _ _ hj).2)
     ·cases hn'
    ·cases hn
  ·show M F ρc _ (ys.getD i .junk)
   cases hy:ys[i]? with
   | none=>rw [List.getD_eq_getElem?_getD,hy];exact .junk _ _
   | some y =>
     rw [List.getD_eq_getElem?_getD,hy]
     have hi:i < xs.length:=by rw [hargs.1];exact (List.getElem?_eq_some_iff.1 hy).1
     have hx:xs[i]? = some xs[i]:=List.getElem?_eq_getElem hi
     have hv:vs[i]? = some (vs[i]'(by omega)):=List.getElem?_eq_getElem (by omega)
     simp only [Array.getD_eq_getD_getElem?,List.getElem?_toArray,hv,Option.getD_some]
     exact hargs.2 i _ y hx hy F ρ ρc w _ (fun n hn=>(hh' n hn) ▸ hp.own n) hsubc (hm i _ _ hv hx)
 refine ⟨vs,B',hrun,by rw [hl,hargs.1],rfl,hGa,?_⟩
 intro v w' r r' H' Z hLdef hZ hr ⟨_,_,F',ρ',hp',hm'⟩
 have hLlen:L.length = Z.length:=by rw [← hLdef];simp
 have hFF:F.le F':=hp'.grow
 have hkept : ∀ b,b < w.heap.size → ¬ O0 b → w'.heap[b]? = w.heap[b]?:=hp'.kept.block
 have hnewB : ∀ b,B'.new b → B.new b:=fun b hb=>by
  rcases hb with hb|hb
  ·exact .inl (Nat.le_trans hp.kept.size hb)
  ·exact (hO b hb).2.1
 classical
 let ρn:Places:=fun n=>if hex : ∃ i:Nat,L[i]? = some n then ρ' (Classical.choose hex) else ρ n
 have hρn : ∀ (i n:Nat),L[i]? = some n → ρn n = ρ' i:=fun i n hi=>by
  have hex : ∃ i:Nat,L[i]? = some n:=⟨i,hi⟩
  simp only [ρn]
  rw [dif_pos hex,hinj _ i n (Classical.choose_spec hex) hi]
 have hρo : ∀ (n:Nat),(∀ (i:Nat),L[i]? ≠ some n) → ρn n = ρ n:=fun n hn=>by
  simp only [ρn]
  rw [dif_neg (fun ⟨i,hi⟩=>hn i hi)]
 have hρle:ρ.le ρn:=by
  intro n c hnc
  by_cases hex : ∃ i:Nat,L[i]? = some n
  ·obtain ⟨i,hi⟩:=hex
   rw [hρn i n hi]
   by_cases hiH:i < H.length
   ·obtain ⟨m,h1,h2⟩:=hidx i hiH
    rw [hi] at h2;injection h2 with h2;subst h2
    exact hp'.names i c (by show ρc i = some c;rw [hρc i n h1];exact hnc)
   ·exfalso
    have:n ∈ fr:=by
     rw [← hfr]
     refine List.mem_iff_getElem?.2 ⟨i - H.length,?_⟩
     rw [List.getElem?_drop,show H.length + (i - H.length) = i from by omega];exact hi
    exact hfrA n this (hp.dom n (by rw [hnc];simp))
  ·rw [hρo n (fun i hi=>hex ⟨i,hi⟩)];exact hnc
 have hsubn : ∀ n n',Maps (Xm (zd 0 L)) 0 n n' → ∀ c,ρ' n = some c → ρn n' = some c:=by
  intro n n' hm c hcn
  rcases hm with ⟨h1,_⟩|h1
  ·omega
  ·obtain ⟨⟨a1,a2⟩,h2,h3⟩:=List.mem_map.1 h1
   simp only [Prod.mk.injEq] at h3
   obtain ⟨rfl,rfl⟩:=h3
   have:=((kG _ _ _ _).1 h2).2
   rw [Nat.sub_zero] at this
   rw [hρn _ _ this];exact hcn
 have hWH : ∀ n,(Eff.h ⟨rt,rh,some d,r',Z,fr⟩ h') n = match yn Z n with|some x=>x|none=>h' n:=fun n=>by
  unfold Eff.h Eff.wH
  cases yn Z n<;>rfl
 have hfind : ∀ (n:Nat),(∃ (i:Nat) (hb:HB),L[i]? = some n ∧ Z[i]? = some (n,hb) ∧ yn Z n = some hb) ∨ ((∀ (i:Nat),L[i]? ≠ some n) ∧ yn Z n = none):=by
  intro n
  have key : ∀ (Z:List (Nat × HB)),(∃ (i:Nat) (hb:HB),(Z.map (·.1))[i]? = some n ∧ Z[i]? = some (n,hb) ∧ yn Z n = some hb) ∨ ((∀ (i:Nat),(Z.map (·.1))[i]? ≠ some n) ∧ yn Z n = none):=by
   intro Z
   induction Z with
   | nil=>exact .inr ⟨fun i h=>by simp at h,rfl⟩
   | cons z Z ih =>
     obtain ⟨m,x⟩:=z
     by_cases hmn:m = n
     ·subst hmn;exact .inl ⟨0,x,rfl,rfl,by simp [yn]⟩
     ·rcases ih with ⟨i,hb,h1,h2,h3⟩|⟨h1,h2⟩
      ·exact .inl ⟨i + 1,hb,by simpa using h1,by simpa using h2,by simp [yn,hmn,h3]⟩
      ·refine .inr ⟨fun i hi=>?_,by simp [yn,hmn,h2]⟩
       cases i with
       | zero=>simp at hi;exact hmn hi
       | succ i=>exact h1 i (by simpa using hi)
  rw [← hLdef];exact key Z
 have hHi : ∀ (i:Nat) n hb,L[i]? = some n → Z[i]? = some (n,hb) → OwnAt F' ρn w' n hb:=by
  intro i n hb h1 h2
  refine (hp'.own i).ren hsubn (.inr ?_) (hZ i n hb h2)
  exact List.mem_map.2 ⟨(n,i),(kG _ _ _ _).2 ⟨Nat.zero_le _,by rw [Nat.sub_zero];exact h1⟩,rfl⟩
 have hisOwn : ∀ (i:Nat) n hb,Z[i]? = some (n,hb) → hb.isOwn = true → (H'.getD i .dead).isOwn = true:=by
  intro i n hb h2 ho
  have:=hZ i n hb h2
  cases e1:H'.getD i .dead with
  | own _ _ _=>rfl
  | mp _=>rfl
  | dead=>rw [e1] at this;cases hb<;>first|exact this.elim|cases ho
  | fz _=>rw [e1] at this;cases hb<;>first|exact this.elim|cases ho
 have hother : ∀ (n b:Nat) (c:Nat × Nat),(∀ (i:Nat),L[i]? ≠ some n) → (h' n).isOwn = true → ρ n = some (some (b,c)) → b < w.heap.size ∧ ¬ O0 b:=by
  intro n b c hn ho hρ
  refine ⟨?_,fun ⟨i,m,c',h1,h2⟩=>?_⟩
  ·have h4:=hp.own n
   cases e:h' n with
   | own ex k rows =>
     rw [e] at h4
     obtain ⟨_,cc,_,h6,_⟩:=jP (k':=c.1) (cap':=c.2) h4 hρ
     exact (Array.getElem?_eq_some_iff.1 h6).1
   | dead=>rw [e] at ho;cases ho
   | fz _=>rw [e] at ho;cases ho
   | mp _=>exact hp.blk ho hρ
  ·refine hp.sep n m b c c' (fun e=>hn i (e ▸ (htk i m h1).2)) ho (hown0 i m h1) hρ h2
 refine ⟨by simpa [Act.put,hd] using g1,by rw [xS];exact g2,F',ρn,?_,fun i=>?_⟩
 ·refine { kept:=⟨hp'.kept.os.trans hp.kept.os,hp'.kept.tape.trans hp.kept.tape,hp'.kept.output.trans hp.kept.output,Nat.le_trans hp.kept.size hp'.kept.size,fun b hb ho=>?_⟩,agree:=hp'.agree,grow:=fun b o hb=>hFF b o (hp.grow b o hb),fresh:=fun b hb=>?_,names:=fun n c hn=>hρle n c (hp.names n c hn),dom:=fun n hn=>?_,own:=fun n=>?_,new:=fun n b c ho hn=>?_,sep:=fun n m b c c' hne ho ho' hn hn'=>?_ }
  ·rw [hkept b (Nat.lt_of_lt_of_le hb hp.kept.size) (fun hO0=>by
    rcases (hO b hO0).2.1 with h1|h1
    ·omega
    ·exact ho h1)]
   exact hp.kept.block b hb ho
  ·rcases hp'.fresh b hb with h1|h1
   ·exact hp.fresh b h1
   ·exact .inr (hnewB b h1)
  ·by_cases hex : ∃ i:Nat,L[i]? = some n
   ·obtain ⟨i,hi⟩:=hex
    by_cases hiH:i < H.length
    ·obtain ⟨m,h1,h2⟩:=hidx i hiH
     rw [hi] at h2;injection h2 with h2;subst h2
     left
     have h3:=hown0 i n h1
     refine hp.dom n (fun hnone=>?_)
     have h4:=hp.own n
     cases e:h' n with
     | own ex k rows =>
       rw [e] at h4
       rcases h4 with ⟨h5,_⟩|⟨_,_,_,_,h5,_⟩<;>(rw [hnone] at h5;cases h5)
     | dead=>rw [e] at h3;cases h3
     | fz _=>rw [e] at h3;cases h3
     | mp _ =>
       rw [e] at h4
       obtain ⟨_,_,_,h5,_⟩:=h4
       rw [hnone] at h5;cases h5
    ·right
     rw [← hfr]
     refine List.mem_iff_getElem?.2 ⟨i - H.length,?_⟩
     rw [List.getElem?_drop,show H.length + (i - H.length) = i from by omega];exact hi
   ·rw [hρo n (fun i hi=>hex ⟨i,hi⟩)] at hn
    exact .inl (hp.dom n hn)
  ·rw [hWH]
   rcases hfind n with ⟨i,hb,h1,h2,h3⟩|⟨h1,h2⟩
   ·rw [h3];exact hHi i n hb h1 h2
   ·rw [h2]
    have h4:=hp.own n
    show OwnAt F' ρn w' n (h' n)
    cases e:h' n with
    | dead=>trivial
    | fz rows =>
      rw [e] at h4
      rcases h4 with ⟨h5,h6⟩|⟨b,k,cap,c,e',fr',h5,h6,h7,h8,h9⟩
      ·exact .inl ⟨hρle n _ h5,h6⟩
      ·exact .inr ⟨b,k,cap,c,e',fr',hρle n _ h5,hFF _ _ h6,h7,h8,h9.mono hFF (Places.le_refl _)⟩
    | mp l =>
      rw [e] at h4
      obtain ⟨b,es,clock,h5,h6,h7⟩:=h4
      obtain ⟨o1,o2⟩:=hother n b _ h1 (by rw [e];rfl) h5
      exact ⟨b,es,clock,hρle n _ h5,by rw [hkept b o1 o2];exact h6,h7.mono hFF hρle⟩
    | own ex k rows =>
      rw [e] at h4
      rcases h4 with ⟨h5,h6⟩|⟨b,cap,c,e',h5,h6,h7,h8,h9,h10⟩
      ·exact .inl ⟨hρle n _ h5,h6⟩
      ·obtain ⟨o1,o2⟩:=hother n b _ h1 (by rw [e];rfl) h5
       exact .inr ⟨b,cap,c,e',hρle n _ h5,by rw [hkept b o1 o2];exact h6,h7,h8,h9,h10.mono hFF hρle⟩
  ·rw [hWH] at ho
   rcases hfind n with ⟨i,hb,h1,h2,h3⟩|⟨h1,h2⟩
   ·rw [h3] at ho
    rw [hρn i n h1] at hn
    have:=hp'.new i b c (hisOwn i n hb h2 ho) hn
    exact ⟨this.1,hnewB b this.2⟩
   ·rw [h2] at ho
    rw [hρo n h1] at hn
    obtain ⟨o1,o2⟩:=hother n b c h1 ho hn
    have h3:=hp.new n b c ho hn
    refine ⟨?_,h3.2⟩
    cases hF:F' b with
    | none=>rfl
    | some ob =>
      rcases hp'.fresh b (by rw [hF];simp) with h4|h4|h4
      ·exact absurd h3.1 h4
      ·have h4:w.heap.size ≤ b:=h4;omega
      ·exact absurd h4 o2
  ·rw [hWH] at ho ho'
   rcases hfind n with ⟨i,hb,h1,h2,h3⟩|⟨h1,h2⟩<;>rcases hfind m with ⟨j,hb',k1,k2,k3⟩|⟨k1,k2⟩
   ·rw [h3] at ho;rw [k3] at ho'
    rw [hρn i n h1] at hn;rw [hρn j m k1] at hn'
    refine hp'.sep i j b c c' (fun e=>hne ?_) (hisOwn i n hb h2 ho) (hisOwn j m hb' k2 ho') hn hn'
    subst e;rw [h1] at k1;injection k1
   ·rw [h3] at ho;rw [k2] at ho'
    rw [hρn i n h1] at hn;rw [hρo m k1] at hn'
    obtain ⟨o1,o2⟩:=hother m b c' k1 ho' hn'
    rcases (hp'.new i b c (hisOwn i n hb h2 ho) hn).2 with h4|h4
    ·have h4:w.heap.size ≤ b:=h4;omega
    ·exact o2 h4
   ·rw [h2] at ho;rw [k3] at ho'
    rw [hρo n h1] at hn;rw [hρn j m k1] at hn'
    obtain ⟨o1,o2⟩:=hother n b c h1 ho hn
    rcases (hp'.new j b c' (hisOwn j m hb' k2 ho') hn').2 with h4|h4
    ·have h4:w.heap.size ≤ b:=h4;omega
    ·exact o2 h4
   ·rw [h2] at ho;rw [k2] at ho'
    rw [hρo n h1] at hn;rw [hρo m k1] at hn'
    exact hp.sep n m b c c' hne ho ho' hn hn'
 ·rw [hd,vA _ _ _ _ (by omega)]
  unfold Eff.t Eff.wT
  by_cases hi:d = i
  ·subst hi
   have h0:=hm' 0
   simp only [one,if_true] at h0
   have:M F' ρn v r':=hr F' ρ' ρn v hsubn (by simpa using h0)
   simpa using this
  ·simpa [hi] using (g4 i).mono hFF hρle
theorem vu {o:Oper} {f:FuncId} {xs ys:List AV} {H H' : List HB} {r r' : AV} (rt rh:List Nat) (Z:List (Nat × HB)) (fr:List Nat) (hd:o.dst = some d) (hN:d < N) (he:jf C.P o t rt f xs)
  (hfr:(Z.map (·.1)).drop H.length = fr) (hHZ:H.length ≤ Z.length) (hnd:(Z.map (·.1)).Nodup) (hrh : ∀ n,n ∈ (Z.map (·.1)).take H.length → n ∈ rh)
  (hargs:jg (zd 0 ((Z.map (·.1)).take H.length)) rh h xs ys) (hc:qI C.P f ys H r H')
  (hH : ∀ (i:Nat) n hb,((Z.map (·.1)).take H.length)[i]? = some n → H[i]? = some hb → (h n).isOwn = true ∧ yQ (zd 0 ((Z.map (·.1)).take H.length)) 0 (h n) hb)
  (hZ : ∀ (i:Nat) n hb,Z[i]? = some (n,hb) → yQ (Xm (zd 0 (Z.map (·.1)))) 0 (H'.getD i .dead) hb) (hr:jQ (Xm (zd 0 (Z.map (·.1)))) 0 r r') :
  qD C.P N o t h ⟨rt,rh,some d,r',Z,fr⟩:=by
 intro B A t' h' a w Q K hBN g hrt hrhh hfrA hK
 obtain ⟨vs,B',hrun,e1,e2,hGa,hend⟩:=Wg (C:=C) (N:=N) (h:=h) rt rh (Z.map (·.1)) fr hd hN he hfr (by rw [List.length_map];exact hHZ) hnd hrh hargs hH B A t' h' a w hBN g hrt hrhh hfrA
 refine Yv hrun (hc B' vs w e1 e2 hGa) ?_
 intro e w' ⟨v,hev,hg⟩
 exact ⟨v,hev,hK _ _ (hend v w' r r' H' Z rfl hZ hr hg)⟩
end calls
end Go.Ab
namespace Go.Ab
open Go.RowKit
theorem VX {h:Nat → HB} {x y:AV} (hr:Rz h x y):Rz h (jx [x]) y:=hr
theorem jV {C:Cx} {nh:Nat} {σ:St} {i:Nat} {k:IntKind} {a b:Int} (hx:qr σ.ts i = .v (.int k a)) (he:a = b):Go.Ab.Fin C #[.tmp i] nh (.v (.int k b)) [] σ :=
 w6 (rs:=[.tmp i]) (qQ hx qP) (he ▸ VX (je rfl))
theorem yH {C:Cx} {nh:Nat} {σ:St} {i:Nat} {a b:Bool} (hx:qr σ.ts i = .v (.bool a)) (he:a = b):Go.Ab.Fin C #[.tmp i] nh (.v (.bool b)) [] σ :=
 w6 (rs:=[.tmp i]) (qQ hx qP) (he ▸ VX (je rfl))
theorem yA {α:Type} {f:α → List AV} {l:List α} {i:Nat} (h:i < l.length):(l.map f)[i]? = some (f l[i]):=by simp [h]
theorem xa {P:Program} {f:FuncId} {fn:Func} (hf:P.funcs[f]? = some fn) (hb:fn.body.isNone = false) (hn:(fn.name == "runtime.NumGoroutine") = false):IsFn P f:=⟨⟨fn,hf,hb,hn⟩⟩
theorem va {C:Cx} {N d:Nat} {ty:TypeId} {pos:String} {af:Array Edge} {gd:Option (Nat × Bool)} {t:Nat → AV} {h:Nat → HB} {f:FuncId} {args:List Operand} {tys:Array TypeId} {ys:List AV} {r:AV} (rh:List Nat)
  (hf:IsFn C.P f) (hc:qI C.P f ys [] r []) (hz:x4 (zq rh h) (args.map (evA t)) ys) (hfl:Xt r = true) (hN:d < N) :
  qD C.P N ⟨some d,.call ⟨.value (.func f),args.toArray,tys⟩,ty,pos,af,gd⟩ t h ⟨jC (.func f) ++ args.flatMap jC,rh,some d,r,[],[]⟩ :=
 wV _ rh rfl hN (xF f hf (.func f) args tys [] [] rfl) (by rw [List.nil_append,List.append_nil];exact hz) hc hfl
end Go.Ab
