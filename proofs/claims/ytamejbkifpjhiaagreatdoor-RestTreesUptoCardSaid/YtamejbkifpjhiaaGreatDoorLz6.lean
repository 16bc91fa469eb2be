import Derived.Test.YtamejbkifpjhiaaGreatDoorLz5
set_option linter.unusedSimpArgs false
set_option linter.unusedVariables false
namespace Go.Ab
open Go.RowKit
theorem RowsAt.put {F:Still} {ρ:Places} {c:Array Value} {k p:Nat} {rows rows' : List (List AV)} {news:List Value} (hR:RowsAt F ρ c k rows) (hp:p + rows'.length ≤ rows.length) (hcs:rows.length * k ≤ c.size) (hnl:news.length = rows'.length * k) (hnR:RowsAt F ρ news.toArray k rows') :
  RowsAt F ρ (c.toList.take (p * k) ++ news ++ c.toList.drop (p * k + news.length)).toArray k (rows.take p ++ rows' ++ rows.drop (p + rows'.length)):=by
 refine ⟨fun row hr=>?_,fun i j row x v hi hj hv=>?_⟩
 ·rcases List.mem_append.1 hr with hr|hr
  ·rcases List.mem_append.1 hr with hr|hr
   ·exact hR.1 row (List.mem_of_mem_take hr)
   ·exact hnR.1 row hr
  ·exact hR.1 row (List.mem_of_mem_drop hr)
 ·have hpk:p * k + news.length ≤ c.size:=by
   rw [hnl, ← Nat.add_mul];exact Nat.le_trans (Nat.mul_le_mul_right _ hp) hcs
  have hlt:(c.toList.take (p * k)).length = p * k:=by simp;omega
  have hltr:(rows.take p).length = p:=by simp;omega
  have hjk:j < k:=by
   have h1:=(List.getElem?_eq_some_iff.1 hj).1
   have h2:row.length = k:=by
    have hr:=List.mem_of_getElem? hi
    rcases List.mem_append.1 hr with hr|hr
    ·rcases List.mem_append.1 hr with hr|hr
     ·exact hR.1 row (List.mem_of_mem_take hr)
     ·exact hnR.1 row hr
    ·exact hR.1 row (List.mem_of_mem_drop hr)
   omega
  simp only [List.getElem?_toArray] at hv
  by_cases h1:i < p
  ·have hik:i * k + j < p * k:=by
    have:(i + 1) * k ≤ p * k:=Nat.mul_le_mul_right _ h1
    rw [Nat.succ_mul] at this;omega
   rw [List.append_assoc,List.getElem?_append_left (by omega),List.getElem?_take,if_pos h1] at hi
   rw [List.append_assoc,List.getElem?_append_left (by omega),List.getElem?_take,if_pos hik] at hv
   exact hR.2 i j row x v hi hj (by simpa using hv)
  ·by_cases h2:i < p + rows'.length
   ·rw [List.append_assoc,List.getElem?_append_right (by omega),hltr,List.getElem?_append_left (by omega)] at hi
    have hik:i * k = p * k + (i - p) * k:=by rw [← Nat.add_mul];congr 1;omega
    have hik2:(i - p) * k + j < news.length:=by
     have:(i - p + 1) * k ≤ rows'.length * k:=Nat.mul_le_mul_right _ (by omega)
     rw [Nat.succ_mul] at this;omega
    rw [List.append_assoc,List.getElem?_append_right (by omega),hlt,List.getElem?_append_left (by omega)] at hv
    refine hnR.2 (i - p) j row x v hi hj ?_
    simp only [List.getElem?_toArray]
    rw [← hv];congr 1;omega
   ·rw [List.append_assoc,List.getElem?_append_right (by omega),hltr,List.getElem?_append_right (by omega),List.getElem?_drop] at hi
    have hik:i * k = (p + rows'.length) * k + (i - (p + rows'.length)) * k:=by rw [← Nat.add_mul];congr 1;omega
    rw [Nat.add_mul] at hik
    rw [List.append_assoc,List.getElem?_append_right (by omega),hlt,List.getElem?_append_right (by omega),List.getElem?_drop] at hv
    refine hR.2 i j row x v ?_ hj ?_
    ·rw [← hi];congr 1;omega
    ·have:c.toList[i * k + j]? = some v:=by rw [← hv];congr 1;omega
     simpa using this
section ops
variable {P:Program} {C:Cx} {N d:Nat} {ty:TypeId} {pos:String} {af:Array Edge} {gd:Option (Nat × Bool)} {t:Nat → AV} {h:Nat → HB}
theorem VD {o:Oper} {x:AV} (rt rh:List Nat) (n:Nat) (ex:Bool) (k p:Nat) (rows rows' : List (List AV)) (hN : ∀ d,o.dst = some d → d < N) (hn:h n = .own ex k rows) (hnr:n ∈ rh) (hp:p + rows'.length ≤ rows.length)
  (hrun : ∀ B A h' F ρ (a:Act) (w:World),Hp B A h' F ρ w → (∀ j,j ∈ rt → M F ρ (a.tmps.getD j undef) (t j)) → (∀ n,n ∈ rh → h' n = h n) →
   ∃ (news:List Value),news.length = rows'.length * k ∧ (∀ v,v ∈ news → v.oneCell' = true) ∧ RowsAt F ρ news.toArray k rows' ∧
     ((ρ n = some none ∧ rows' = [] ∧ ∃ v,(execOp a.eval o).run C.P w = .ok v w ∧ (v = .skip ∧ o.dst = none ∨ ∃ u,v = .value u ∧ M F ρ u x)) ∨
      ∃ b cap,ρ n = some (some (b,k,cap)) ∧ ∀ w',(news ≠ [] → (storeCells ⟨b,p * k,none⟩ news).run C.P w = .ok () w') → (news = [] → w' = w) → ∃ v,(execOp a.eval o).run C.P w = .ok v w' ∧ (v = .skip ∧ o.dst = none ∨ ∃ u,v = .value u ∧ M F ρ u x))) :
  ja C.P N o t h ⟨rt,rh,o.dst,x,[(n,.own ex k (rows.take p ++ rows' ++ rows.drop (p + rows'.length)))],[]⟩:=by
 refine wj rt rh n ex k _ [] [] hN (.inr rfl) (by simp) fun B A h' F ρ a w hpp hm hh _=>?_
 obtain ⟨news,hnl,hn1,hnR,hr⟩:=hrun B A h' F ρ a w hpp hm hh
 have hn' : h' n = .own ex k rows:=(hh n hnr).trans hn
 have h3:=hpp.own n
 rw [hn'] at h3
 have hlen:(rows.take p ++ rows' ++ rows.drop (p + rows'.length)).length = rows.length:=by simp;omega
 rcases hr with ⟨hρ,hr0,v,hx,hres⟩|⟨b,cap,hρ,hrun⟩
 ·have hpl:(fun m=>if m = n then some none else ρ m) = ρ:=by
   funext m;by_cases hmn:m = n
   ·subst hmn;simp [hρ]
   ·simp [hmn]
  refine ⟨v,w,none,none,hx,by rw [hpl];exact hres,.inr hρ,hpp.kept,(fun b hb=>by cases hb),fun _ _ _=>rfl,(fun b c hb=>by cases hb),.inl ⟨by simp,?_⟩,fun _=>by rw [hρ];simp⟩
  rcases h3 with ⟨_,h4⟩|⟨b,cap,c,e,h4,_⟩
  ·subst h4;subst hr0;simp
  ·rw [hρ] at h4;cases h4
 ·obtain ⟨_,c,e,hb,hsz,hle,hex,hR⟩:=y8 h3 hρ
  have hpl:(fun m=>if m = n then some (some (b,k,cap)) else ρ m) = ρ:=by
   funext m;by_cases hmn:m = n
   ·subst hmn;simp [hρ]
   ·simp [hmn]
  have hcs:rows.length * k ≤ c.size:=by rw [hsz];exact Nat.mul_le_mul_right _ hle
  have hfit:p * k + news.length ≤ c.size:=by rw [hnl, ← Nat.add_mul];exact Nat.le_trans (Nat.mul_le_mul_right _ hp) hcs
  let c' : Array Value:=(c.toList.take (p * k) ++ news ++ c.toList.drop (p * k + news.length)).toArray
  have hc's:c'.size = c.size:=by simp only [c',List.size_toArray,List.length_append,List.length_take,List.length_drop,Array.length_toList];omega
  have hst:=run_storeCells_at C.P b (p * k) e news 0 c w hb (by simpa using hfit) hn1
  simp only [Nat.add_zero] at hst
  have hw' : news = [] → w.setRow b c' = w:=fun hnn=>by
   have:c' = c:=by simp [c',hnn]
   rw [this];exact setRow_self w b c e (0,0) hb
  obtain ⟨v,hx,hres⟩:=hrun (w.setRow b c') (fun _=>hst) hw'
  have hnew:=(hpp.new n b _ (by rw [hn'];rfl) hρ).2
  refine ⟨v,w.setRow b c',some (b,k,cap),some b,hx,by rw [hpl];exact hres,.inr hρ,?_,?_,?_,?_,?_,fun _=>by rw [hρ];simp⟩
  ·refine ⟨hpp.kept.os,hpp.kept.tape,hpp.kept.output,by simpa [World.setRow] using hpp.kept.size,fun b' hb' ho=>?_⟩
   rw [setRow_other _ _ _ _ (by rintro rfl;rcases hnew with hnew|hnew; · omega
                                ·exact ho hnew)]
   exact hpp.kept.block b' hb' ho
  ·intro b' hb'
   simp only [Option.some.injEq] at hb'
   subst hb'
   exact ⟨n,_,.inl rfl,by rw [hn'];rfl,hρ⟩
  ·intro b' _ hb'
   exact setRow_other _ _ _ _ (fun e=>hb' (by rw [e]))
  ·intro b' c'' he
   simp only [Option.some.injEq,Prod.mk.injEq] at he
   exact .inl (by rw [he.1])
  ·rw [hpl]
   exact .inr ⟨b,cap,c',e,hρ,setRow_heap _ _ _ _ _ _ hb,by rw [hc's];exact hsz,by rw [hlen];exact hle,by rw [hlen];exact hex,hR.put hp hcs hnl hnR⟩
theorem qeW (b o k:Nat):(⟨b,o,none⟩ : Addr).add k = ⟨b,o + k,none⟩:=by
 unfold Addr.add;split
 ·rename_i h;subst h;rfl
 ·rfl
theorem Wt (T e:Nat) (x:Operand) (lo hi:Option Operand) (n off len a b:Nat) (ex:Bool) (rows:List (List AV)) (r re:TRec) (hx:evA t x = .os n off len) (hn:h n = .own ex re.size rows) (hT:qW C.tab T = some r) (he:r.kind = .slice e) (hE:qW C.tab e = some re)
  (ha:BoundIs t lo 0 a) (hb:BoundIs t hi len b) (hab:a ≤ b) (hbl:off + b ≤ rows.length) (hN:d < N) :
  ja C.P N ⟨some d,.slice T x lo hi none,ty,pos,af,gd⟩ t h ⟨yr x ++ (lo.toList.flatMap yr ++ hi.toList.flatMap yr),[n],some d,.os n (off + a) (b - a),[],[]⟩ :=
 jV _ _ rfl hN fun F ρ act w hag hs hown=>by
  have h1:=qE (x:=x) hs (fun j hj=>List.mem_append_left _ hj)
  rw [hx] at h1
  have ho:=hown n (by simp)
  rw [hn] at ho
  have hu:=yj (C.ok T r hT) he
  have hLo : ∀ o,lo = some o → ∃ k,act.eval o = .int k (a:Int):=fun o ho=>by subst ho;exact BoundIs.val ha hs (fun j hj=>List.mem_append_right _ (List.mem_append_left _ (by simpa using hj)))
  have hHi : ∀ o,hi = some o → ∃ k,act.eval o = .int k (b:Int):=fun o ho=>by subst ho;exact BoundIs.val hb hs (fun j hj=>List.mem_append_right _ (List.mem_append_right _ (by simpa using hj)))
  have hbounds : ∀ cap,b ≤ cap → (Instr.sliceBounds true len cap (lo.map act.eval) (hi.map act.eval) none).run C.P w = .ok (a,b,cap) w:=by
   intro cap hbc
   unfold Instr.sliceBounds
   cases hi with
   | none =>
     have hb' : b = len:=hb
     subst hb'
     cases lo with
     | none=>have ha' : a = 0:=ha;subst ha';simp
     | some o=>obtain ⟨k,hk⟩:=hLo o rfl;simp [yB hk hab]
   | some o' =>
     obtain ⟨k',hk'⟩:=hHi o' rfl
     cases lo with
     | none=>have ha' : a = 0:=ha;subst ha';simp [yB hk' hbc]
     | some o=>obtain ⟨k,hk⟩:=hLo o rfl;simp [yB hk' hbc,yB hk hab]
  rcases h1.os_inv with ⟨hρn,rfl,rfl,ad,hv⟩|⟨bk,k',cap,ad,hρn,hv,hcap,hadr⟩
  ·have hrs:rows = []:=by
    rcases ho with ⟨_,h4⟩|⟨b,cap,c,e,h4,_⟩
    ·exact h4
    ·rw [hρn] at h4;cases h4
   subst hrs
   have hb0:b = 0:=by simpa using hbl
   subst hb0
   have ha0:a = 0:=by omega
   subst ha0
   refine ⟨.slice ad 0 0,?_,by simpa using M.osn ρ n ad hρn⟩
   simp only [execOp,Instr.sliceAt,Sem.run_bind,run_underlying hu,Result.andThen_ok,Instr.slice,hv,Option.map_none,hbounds 0 (Nat.le_refl _),xE (C.ok e re hE),Sem.run_pure,if_true]
  ·obtain ⟨rfl,c,e0,hbk,hcs,hle,_,hR⟩:=y8 ho hρn
   refine ⟨.slice (if cap - off = a then some ad else some (ad.add (a * re.size))) (b - a) (cap - off - a),?_,?_⟩
   ·simp only [execOp,Instr.sliceAt,Sem.run_bind,run_underlying hu,Result.andThen_ok,Instr.slice,hv,Option.map_none,hbounds (cap - off) (by omega),xE (C.ok e re hE),Sem.run_pure,Option.map_some]
   ·have e1:cap - off - a = cap - (off + a):=by omega
    rw [e1]
    by_cases hc:cap - off = a
    ·rw [if_pos hc]
     exact M.os (F:=F) ρ n bk re.size cap (off + a) (b - a) ad hρn (by omega) (fun h=>by omega)
    ·rw [if_neg hc]
     refine M.os (F:=F) ρ n bk re.size cap (off + a) (b - a) _ hρn (by omega) (fun h=>?_)
     rw [hadr (by omega),qeW, ← Nat.add_mul]
theorem XC (z:Array Value) (n:Nat):(Builtin.zeroCells z n).toList = (List.replicate n z.toList).flatten:=by
 refine List.ext_getElem? fun i=>?_
 have hlen:((List.replicate n z.toList).flatten).length = n * z.size:=by simp
 have hsz:(Builtin.zeroCells z n).toList.length = n * z.size:=by simp [Builtin.zeroCells]
 by_cases hi:i < n * z.size
 ·have hz:0 < z.size:=by
   rcases Nat.eq_zero_or_pos z.size with h0|h0
   ·rw [h0] at hi;omega
   ·exact h0
  have hmod:i % z.size < z.size:=Nat.mod_lt _ hz
  have h1:(Builtin.zeroCells z n).toList[i]? = some (z[i % z.size]'hmod):=by
   simp only [Builtin.zeroCells,Array.toList_map,List.getElem?_map,Array.toList_range,List.getElem?_range hi,Option.map_some,Option.some.injEq]
   exact getElem!_pos z (i % z.size) hmod
  rw [h1]
  symm
  have key : ∀ (n i:Nat),i < n * z.size → ((List.replicate n z.toList).flatten)[i]? = some (z[i % z.size]'(Nat.mod_lt _ hz)):=by
   intro n
   induction n with
   | zero=>intro i hi;simp at hi
   | succ n ih =>
     intro i hi
     rw [List.replicate_succ,List.flatten_cons]
     by_cases hlt:i < z.size
     ·rw [List.getElem?_append_left (by simpa using hlt)]
      simp [Nat.mod_eq_of_lt hlt,hlt]
     ·rw [List.getElem?_append_right (by simpa using Nat.le_of_not_lt hlt)]
      rw [Array.length_toList]
      rw [ih (i - z.size) (by rw [Nat.succ_mul] at hi;omega)]
      congr 1
      have:(i - z.size) % z.size = i % z.size:=(Nat.mod_eq_sub_mod (Nat.le_of_not_lt hlt)).symm
      simp only [this]
  exact key n i hi
 ·rw [List.getElem?_eq_none (by omega),List.getElem?_eq_none (by omega)]
theorem qac {F:Still} {ρ:Places} {k:Nat} (z:List Value) (hz:z.length = k) (n:Nat):RowsAt F ρ ((List.replicate n z).flatten).toArray k (List.replicate n (z.map ofV)):=by
 refine ⟨fun row hr=>by rw [(List.mem_replicate.1 hr).2];simpa using hz,fun i j row x v hi hj hv=>?_⟩
 have hin:i < n:=by have:=(List.getElem?_eq_some_iff.1 hi).1;simpa using this
 have hrow:row = z.map ofV:=by
  rw [List.getElem?_replicate,if_pos hin] at hi
  simpa using hi.symm
 subst hrow
 have hjk:j < k:=by have:=(List.getElem?_eq_some_iff.1 hj).1;simp at this;omega
 have hcell:((List.replicate n z).flatten)[i * k + j]? = z[j]?:=by
  clear hi hv
  induction n generalizing i with
  | zero=>omega
  | succ n ih =>
    rw [List.replicate_succ,List.flatten_cons]
    cases i with
    | zero=>rw [Nat.zero_mul,Nat.zero_add,List.getElem?_append_left (by omega)]
    | succ i =>
      rw [List.getElem?_append_right (by rw [Nat.succ_mul];omega),Nat.succ_mul,show i * k + k + j - z.length = i * k + j from by omega]
      exact ih i (by omega)
 simp only [List.getElem?_toArray] at hv
 rw [hcell] at hv
 rw [List.getElem?_map,hv] at hj
 simp only [Option.map_some,Option.some.injEq] at hj
 rw [← hj]
 exact JC F ρ v
theorem Wp (T ty' e:Nat) (x:Operand) (n off len:Nat) (ex:Bool) (rows:List (List AV)) (r re:TRec) (hx:evA t x = .os n off len) (hn:h n = .own ex re.size rows) (hT:qW C.tab T = some r) (he:r.kind = .slice e) (hE:qW C.tab e = some re)
  (hz:re.zero.length = re.size) (hz1:re.zero.all (fun v=>v.oneCell') = true) (hfit:off + len ≤ rows.length) :
  ja C.P N ⟨none,.call ⟨.builtin .clear, #[x], #[T]⟩,ty',pos,af,gd⟩ t h ⟨yr x,[n],none,.tup [],[(n,.own ex re.size (rows.take off ++ List.replicate len (re.zero.map ofV) ++ rows.drop (off + len)))],[]⟩:=by
 have:=VD (C:=C) (N:=N) (t:=t) (h:=h) (o:=⟨none,.call ⟨.builtin .clear, #[x], #[T]⟩,ty',pos,af,gd⟩) (x := .tup []) (yr x) [n] n ex re.size off rows (List.replicate len (re.zero.map ofV)) (fun d' hd'=>by cases hd') hn (by simp) (by simpa using hfit) ?_
 ·simpa using this
 intro B A h' F ρ a w hp hm hh
 have h1:=qE (x:=x) hm (fun j hj=>hj)
 rw [hx] at h1
 have hu:=yj (C.ok T r hT) he
 obtain ⟨dd,inf,z,_,hi,hz0,_,_,hsize,hbytes,hzc⟩:=yG (C.ok e re hE)
 obtain ⟨z',hzv,hzc'⟩:=QM (C.ok e re hE) w
 have hn' : h' n = .own ex re.size rows:=(hh n (by simp)).trans hn
 have ho:=hp.own n
 rw [hn'] at ho
 have htl:(Builtin.zeroCells z'.cells len).toList = (List.replicate len re.zero).flatten:=by rw [XC,hzc']
 refine ⟨(List.replicate len re.zero).flatten,by simp [hz],fun v hv=>?_,qac _ hz _,?_⟩
 ·obtain ⟨l,hl,hvl⟩:=List.mem_flatten.1 hv
  rw [(List.mem_replicate.1 hl).2] at hvl
  exact List.all_eq_true.1 hz1 v hvl
 ·have htup:M F ρ (.tuple #[]) (.tup []) := .tup ρ [] [] rfl (fun i v x h=>by cases i<;>cases h)
  rcases h1.os_inv with ⟨hρn,rfl,rfl,ad,hv⟩|⟨bk,k',cap,ad,hρn,hv,hcap,hadr⟩
  ·left
   refine ⟨hρn,by simp,.value (.tuple #[]),?_,.inr ⟨_,rfl,htup⟩⟩
   cases ad<;>simp [execOp,resolve,invoke,builtin,hv,Builtin.clear_,run_underlying hu]
  ·right
   obtain ⟨rfl,c,e0,hbk,hcs,hle,_,hR⟩:=y8 ho hρn
   refine ⟨bk,cap,hρn,fun w' hw1 hw2=>⟨.value (.tuple #[]),?_,.inr ⟨_,rfl,htup⟩⟩⟩
   by_cases h0:len = 0
   ·subst h0
    rw [hw2 (by simp)]
    simp [execOp,resolve,invoke,builtin,hv,Builtin.clear_,run_underlying hu]
   ·have had:=hadr (by omega)
    by_cases hnn:(List.replicate len re.zero).flatten = []
    ·rw [hw2 hnn]
     obtain ⟨q,rfl⟩ : ∃ q,len = q + 1:=⟨len - 1,by omega⟩
     simp [execOp,resolve,invoke,builtin,hv,Builtin.clear_,run_underlying hu,hzv,htl,hnn,storeCells]
    ·have hs:=hw1 hnn
     obtain ⟨q,rfl⟩ : ∃ q,len = q + 1:=⟨len - 1,by omega⟩
     simp [execOp,resolve,invoke,builtin,hv,Builtin.clear_,run_underlying hu,hzv,htl,had,hs]
theorem Qc {T e:Nat} (hu:P.underlying T = some (.slice e)) (op:BinOp) (hop:op = .eql ∨ op = .neq) (a:Act) (x:Operand) (yT:TypeId) (ad:Option Addr) (n cap:Nat) (w:World) (hv:a.eval x = .slice ad n cap) :
  (execOp a.eval ⟨some d,.binOp op T x (.const (.slice none 0 0)) yT,ty,pos,af,gd⟩).run P w = .ok (.value (.bool (if op = .eql then ad.isNone else !ad.isNone))) w:=by
 have hc:a.eval (.const (.slice none 0 0)) = .slice none 0 0:=rfl
 have h1:(Op.equal T (.slice ad n cap) (.slice none 0 0)).run P w = .ok ad.isNone w:=by
  show (Op.equalIn (9999 + 1) T (.slice ad n cap) (.slice none 0 0)).run P w = _
  unfold Op.equalIn
  cases ad<;>simp [run_underlying hu]
 rcases hop with rfl|rfl<;>simp [execOp,hv,hc,eqGuard,binOp,h1]
theorem qdV (op:BinOp) (T e:Nat) (x:Operand) (yT:TypeId) (ex:Bool) (rows:List (List AV)) (r:TRec) (hx:evA t x = .sl ex rows) (hT:qW C.tab T = some r) (he:r.kind = .slice e) (hop:op = .eql ∨ op = .neq) (hN:d < N) :
  ja C.P N ⟨some d,.binOp op T x (.const (.slice none 0 0)) yT,ty,pos,af,gd⟩ t h ⟨yr x,[],some d,.anyb,[],[]⟩ :=
 jV _ _ rfl hN fun F ρ a w _ hs _=>by
  have h1:=qE (x:=x) hs (fun j hj=>hj)
  rw [hx] at h1
  have hu:=yj (C.ok _ r hT) he
  rcases h1.sl_inv with ⟨_,ad,cap,hv,_⟩|⟨b,o,cap,c,e',fr,kk,hb,_,_,hsz,hkk,hR,hv⟩
  ·exact ⟨_,Qc hu op hop a x yT ad 0 cap w hv,.anyb _ _⟩
  ·exact ⟨_,Qc hu op hop a x yT _ _ _ w hv,.anyb _ _⟩
theorem qct (op:BinOp) (T e:Nat) (x:Operand) (yT:TypeId) (ex:Bool) (rows:List (List AV)) (r:TRec) (hx:evA t x = .sl ex rows) (hne:rows ≠ []) (hT:qW C.tab T = some r) (he:r.kind = .slice e) (hop:op = .eql ∨ op = .neq) (hN:d < N) :
  ja C.P N ⟨some d,.binOp op T x (.const (.slice none 0 0)) yT,ty,pos,af,gd⟩ t h ⟨yr x,[],some d,.v (.bool (if op = .eql then false else true)),[],[]⟩ :=
 jV _ _ rfl hN fun F ρ a w _ hs _=>by
  have h1:=qE (x:=x) hs (fun j hj=>hj)
  rw [hx] at h1
  have hu:=yj (C.ok _ r hT) he
  rcases h1.sl_inv with ⟨h0,_⟩|⟨b,o,cap,c,e',fr,kk,hb,_,_,hsz,hkk,hR,hv⟩
  ·exact absurd h0 hne
  ·exact ⟨_,Qc hu op hop a x yT _ _ _ w hv,.v _ _ rfl⟩
theorem Wq (op:BinOp) (T e:Nat) (x:Operand) (yT:TypeId) (n off len:Nat) (r:TRec) (hx:evA t x = .os n off len) (hT:qW C.tab T = some r) (he:r.kind = .slice e) (hop:op = .eql ∨ op = .neq) (hN:d < N) :
  ja C.P N ⟨some d,.binOp op T x (.const (.slice none 0 0)) yT,ty,pos,af,gd⟩ t h ⟨yr x,[],some d,.anyb,[],[]⟩ :=
 jV _ _ rfl hN fun F ρ a w _ hs _=>by
  have h1:=qE (x:=x) hs (fun j hj=>hj)
  rw [hx] at h1
  have hu:=yj (C.ok _ r hT) he
  rcases h1.os_inv with ⟨_,_,rfl,ad0,hv⟩|⟨b,k,cap,ad,hρ,hv,hl,ha⟩
  ·exact ⟨_,Qc hu op hop a x yT _ _ _ w hv,.anyb _ _⟩
  ·exact ⟨_,Qc hu op hop a x yT _ _ _ w hv,.anyb _ _⟩
theorem Vc (T:TypeId) (x y:Operand) (yT:TypeId) (a:Nat) (hx:evA t x = .v (.int .i64 (a:Int))) (hy:evA t y = .v (.int .i64 1)) (h2:a + 1 ≤ 9223372036854775807) (hN:d < N) :
  ja P N ⟨some d,.binOp .add T x y yT,ty,pos,af,gd⟩ t h ⟨yr x ++ yr y,[],some d,.v (.int .i64 ((a + 1:Nat):Int)),[],[]⟩:=by
 have:=VA (P:=P) (N:=N) (ty:=ty) (pos:=pos) (af:=af) (gd:=gd) (h:=h) T x y yT a 1 hx hy (by omega) (by omega) hN
 exact this
theorem Va (T:TypeId) (x y:Operand) (yT:TypeId) (a:Nat) (hx:evA t x = .v (.int .i64 ((a + 1:Nat):Int))) (hy:evA t y = .v (.int .i64 1)) (h2:a + 1 ≤ 9223372036854775807) (hN:d < N) :
  ja P N ⟨some d,.binOp .sub T x y yT,ty,pos,af,gd⟩ t h ⟨yr x ++ yr y,[],some d,.v (.int .i64 (a:Int)),[],[]⟩:=by
 have:=VE (P:=P) (N:=N) (ty:=ty) (pos:=pos) (af:=af) (gd:=gd) (h:=h) T x y yT ((a + 1:Nat):Int) 1 hx hy (by omega) (by omega) hN
 rwa [show ((a + 1:Nat):Int) - 1 = (a:Int) from by omega] at this
end ops
end Go.Ab
set_option linter.unusedSimpArgs false
set_option linter.unusedVariables false
namespace Go.Ab
open Go.RowKit
theorem M.undef (F:Still) (ρ:Places):M F ρ undef (.tup []) := .tup _ [] [] rfl (fun i v x h=>by cases i<;>cases h)
structure St where
 ts:List (Nat × AV)
 hs:List (Nat × HB)
 nx:Nat
def qS:List (Nat × AV) → Nat → AV
 | [],_ => .junk
 | (j,x) :: l,i=>if j = i then x else qS l i
def jg (l:List (Nat × HB)) (n:Nat):HB:=(y6 l n).getD .dead
def Gs (B:Base) (σ:St) (a:Act) (w:World):Prop:=Ga B (· < σ.nx) (qS σ.ts) (jg σ.hs) a w
def qhj (C:Cx) (N:Nat) (B:Base):Prop:=B.N = N ∧ ∀ n,B.ρ0 n ≠ none → n < C.nh
def Awp (C:Cx) (N:Nat) (c:Code) (Q:Exit → St → Prop) (σ:St):Prop :=
 ∀ B a w,qhj C N B → Gs B σ a w → c.wp C.P (fun e a' w' => ∃ σ',Q e σ' ∧ Gs B σ' a' w') a w
def thn (K:St → Prop) (Q:Exit → St → Prop):Exit → St → Prop
 | .normal,σ=>K σ
 | e,σ=>Q e σ
def inb (id:Nat) (Q:Exit → St → Prop):Exit → St → Prop
 | .exit id',σ=>if id' = id then Q .normal σ else Q (.exit id') σ
 | e,σ=>Q e σ
section code
variable {C:Cx} {N:Nat} {Q:Exit → St → Prop} {σ:St}
theorem Awp.mono {c:Code} {Q' : Exit → St → Prop} (h:Awp C N c Q σ) (hq : ∀ e σ,Q e σ → Q' e σ):Awp C N c Q' σ :=
 fun B a w hN g=>wp_mono (h B a w hN g) fun e a' w' ⟨σ',q,g'⟩=>⟨σ',hq _ _ q,g'⟩
theorem qcl {x y:Code} (h : ∀ K:St → Prop,(∀ σ,Awp C N y Q σ → K σ) → Awp C N x (thn K Q) σ):Awp C N (.seq x y) Q σ:=by
 intro B a w hN g
 refine wp_seq (wp_mono (h _ (fun σ h=>h) B a w hN g) ?_)
 intro e a' w' ⟨σ',q,g'⟩
 cases e with
 | normal=>exact q B a' w' hN g'
 | _=>exact ⟨σ',q,g'⟩
theorem Yk {x y:Code} (h:Awp C N x (thn (fun σ=>Awp C N y Q σ) Q) σ):Awp C N (.seq x y) Q σ:=qcl fun K hK=>h.mono fun e σ q=>by cases e<;>first|exact hK _ q|exact q
theorem Vu (h:Q .normal σ):Awp C N .skip Q σ:=fun _ _ _ _ g=>wp_skip ⟨σ,h,g⟩
theorem Kd (h:Q .ret σ):Awp C N .ret Q σ:=fun _ _ _ _ g=>wp_ret ⟨σ,h,g⟩
theorem Vt {id:Nat} (h:Q (.exit id) σ):Awp C N (.exit id) Q σ:=fun _ _ _ _ g=>wp_exit ⟨σ,h,g⟩
theorem Qi {c:Operand} {x y:Code} (hc:evA (qS σ.ts) c = .v (.bool true)) (h:Awp C N x Q σ):Awp C N (.cond c x y) Q σ:=by
 intro B a w hN g
 have he:a.eval c = .bool true:=by
  obtain ⟨_,_,F,ρ,_,g4⟩:=g
  have:=qE (x:=c) (rt:=yr c) (fun j _=>g4 j) (fun j hj=>hj)
  rw [hc] at this
  exact this.v_inv.1
 exact wp_cond_true he (h B a w hN g)
theorem Qh {c:Operand} {x y:Code} (hc:evA (qS σ.ts) c = .v (.bool false)) (h:Awp C N y Q σ):Awp C N (.cond c x y) Q σ:=by
 intro B a w hN g
 have he:a.eval c = .bool false:=by
  obtain ⟨_,_,F,ρ,_,g4⟩:=g
  have:=qE (x:=c) (rt:=yr c) (fun j _=>g4 j) (fun j hj=>hj)
  rw [hc] at this
  exact this.v_inv.1
 exact wp_cond_false he (h B a w hN g)
theorem qdz {c:Operand} {x y:Code} {b:Bool} (hc:evA (qS σ.ts) c = .v (.bool b)) (ht:b = true → Awp C N x Q σ) (hf:b = false → Awp C N y Q σ):Awp C N (.cond c x y) Q σ:=by
 intro B a w hN g
 have he:a.eval c = .bool b:=by
  obtain ⟨_,_,F,ρ,_,g4⟩:=g
  have:=qE (x:=c) (rt:=yr c) (fun j _=>g4 j) (fun j hj=>hj)
  rw [hc] at this
  exact this.v_inv.1
 exact wp_cond_split he (fun hb=>ht hb B a w hN g) (fun hb=>hf hb B a w hN g)
theorem M.anyb_inv {F:Still} {ρ:Places} {v:Value} (h:M F ρ v .anyb) : ∃ b,v = .bool b:=by cases h with|anyb _ b=>exact ⟨b,rfl⟩
theorem Kc {c:Operand} {x y:Code} (hc:evA (qS σ.ts) c = .anyb) (ht:Awp C N x Q σ) (hf:Awp C N y Q σ):Awp C N (.cond c x y) Q σ:=by
 intro B a w hN g
 have he : ∃ b,a.eval c = .bool b:=by
  obtain ⟨_,_,F,ρ,_,g4⟩:=g
  have:=qE (x:=c) (rt:=yr c) (fun j _=>g4 j) (fun j hj=>hj)
  rw [hc] at this
  exact this.anyb_inv
 obtain ⟨b,he⟩:=he
 exact wp_cond_split he (fun _=>ht B a w hN g) (fun _=>hf B a w hN g)
theorem JY {c:Operand} {x y:Code} {b:Bool} (hc:evA (qS σ.ts) c = .v (.bool b)) (hb:b = true) (h:Awp C N x Q σ):Awp C N (.cond c x y) Q σ:=Qi (hb ▸ hc) h
theorem JX {c:Operand} {x y:Code} {b:Bool} (hc:evA (qS σ.ts) c = .v (.bool b)) (hb:b = false) (h:Awp C N y Q σ):Awp C N (.cond c x y) Q σ:=Qh (hb ▸ hc) h
theorem Y6 {id:Nat} {c:Code} (h:Awp C N c (inb id Q) σ):Awp C N (.block id c) Q σ:=by
 intro B a w hN g
 refine wp_block (wp_mono (h B a w hN g) ?_)
 intro e a' w' ⟨σ',q,g'⟩
 cases e with
 | exit id' =>
   unfold Exit.inBlock
   unfold inb at q
   by_cases he:id' = id
   ·simp only [he,if_true] at q ⊢;exact ⟨σ',q,g'⟩
   ·simp only [he,if_false] at q ⊢;exact ⟨σ',q,g'⟩
 | _=>exact ⟨σ',q,g'⟩
def Red (C:Cx) (σ τ:St):Prop := ∀ B a w,(∀ n,B.ρ0 n ≠ none → n < C.nh) → Gs B σ a w → Gs B τ a w
theorem Awp.red {c:Code} {τ:St} (hr:Red C σ τ) (h:Awp C N c Q τ):Awp C N c Q σ:=fun B a w hN g=>h B a w hN (hr B a w hN.2 g)
theorem Awp.post {c:Code} {Q' : Exit → St → Prop} (h:Awp C N c Q' σ) (hq : ∀ e σ,Q' e σ → ∃ τ,Red C σ τ ∧ Q e τ):Awp C N c Q σ :=
 fun B a w hN g=>wp_mono (h B a w hN g) fun e a' w' ⟨σ',q,g'⟩=>let ⟨τ,hr,hq'⟩:=hq _ _ q; ⟨τ,hq',hr B a' w' hN.2 g'⟩
theorem Red.refl (σ:St):Red C σ σ:=fun _ _ _ _ g=>g
theorem Red.trans {σ τ υ:St} (h:Red C σ τ) (k:Red C τ υ):Red C σ υ:=fun B a w hh g=>k B a w hh (h B a w hh g)
theorem qbR {P:Nat → Prop} (h : ∃ n,P n) : ∃ n,P n ∧ ∀ m,P m → n ≤ m:=by
 obtain ⟨n,hn⟩:=h
 induction n using Nat.strongRecOn with
 | _ n ih =>
   by_cases hs : ∃ m,m < n ∧ P m
   ·obtain ⟨m,hm,hp⟩:=hs;exact ih m hm hp
   ·exact ⟨n,hn,fun m hm=>Nat.le_of_not_lt fun hlt=>hs ⟨m,hlt,hm⟩⟩
theorem qV {c:Code} (I:Nat → St → Prop) (n:Nat) (h0:I n σ) (round : ∀ n σ,I n σ → Awp C N c (thn (fun σ' => ∃ m τ,m < n ∧ Red C σ' τ ∧ I m τ) Q) σ):Awp C N (.loop c) Q σ:=by
 intro B a w hN g
 classical
 let J:Act → World → Nat → Prop:=fun a w n => ∃ σ,I n σ ∧ Gs B σ a w
 let μ:Act → World → Nat:=fun a w=>if h : ∃ n,J a w n then Classical.choose (qbR h) else 0
 refine wp_loop (fun a w => ∃ n,J a w n) μ ⟨n,σ,h0,g⟩ ?_
 intro a w hJ
 have hμ:μ a w = Classical.choose (qbR hJ):=by simp only [μ];rw [dif_pos hJ]
 obtain ⟨σ',hI,g'⟩:=(Classical.choose_spec (qbR hJ)).1
 refine wp_mono (round _ σ' hI B a w hN g') ?_
 intro e a' w' ⟨σ'',q,g''⟩
 cases e with
 | normal =>
   obtain ⟨m,τ,hm,hr,hI'⟩:=q
   have hJ' : J a' w' m:=⟨τ,hI',hr B a' w' hN.2 g''⟩
   refine ⟨⟨m,hJ'⟩,?_⟩
   rw [hμ]
   have hμ' : μ a' w' ≤ m:=by simp only [μ];rw [dif_pos ⟨m,hJ'⟩];exact (Classical.choose_spec (qbR ⟨m,hJ'⟩)).2 m hJ'
   omega
 | _=>exact ⟨σ'',q,g''⟩
end code
section ops
variable {C:Cx} {N:Nat} {all:Array Oper}
theorem KI {R V:Type} (W:Eff → R → Option V) (D:Nat → Bool) : ∀ (Es Fs:List Eff) (i:Nat) (x:R → V),run W D i (Es ++ Fs) x = run W D (i + Es.length) Fs (run W D i Es x)
 | [],_,_,_=>rfl
 | E :: Es,Fs,i,x=>by
   simp only [List.cons_append,run,List.length_cons]
   rw [KI W D Es Fs (i + 1),show i + 1 + Es.length = i + (Es.length + 1) from by omega]
theorem YW {R V:Type} (W:Eff → R → Option V) (Es:List Eff) (E:Eff) (x:R → V) (i:Nat) (hi:i ≤ Es.length):run W (upto i) 0 (Es ++ [E]) x = run W (upto i) 0 Es x:=by
 rw [KI]
 simp only [run,Nat.zero_add]
 have:upto i Es.length = false:=by simp [upto];omega
 simp [this]
theorem JT {R V:Type} (W:Eff → R → Option V) (Es:List Eff) (E:Eff) (x:R → V):run W (upto (Es.length + 1)) 0 (Es ++ [E]) x = fun r=>(W E r).getD (run W (upto Es.length) 0 Es x r):=by
 rw [KI]
 simp only [run,Nat.zero_add]
 have h1:upto (Es.length + 1) Es.length = true:=by simp [upto]
 funext r
 simp only [h1,if_true]
 congr 1
 exact wb W _ _ r Es 0 x x rfl fun j E' hj _=>by
  have:=(List.getElem?_eq_some_iff.1 hj).1
  simp only [upto,decide_eq_decide];omega
def Zc (C:Cx) (B:Base) (ch:List PanicEntry) (a:Act) (w:World):Prop := ∃ ts hs nx,C.die ch ts hs ∧ Gs B ⟨ts,hs,nx⟩ a w
structure Chain (C:Cx) (N:Nat) (all:Array Oper) (σ0:St) (es:List Eff) (σ:St):Prop where
 ok : ∀ (i:Nat) (E:Eff),es.reverse[i]? = some E → qap C.P (Zc C) all N i (wA (upto i) 0 es.reverse (qS σ0.ts)) (wz (upto i) 0 es.reverse (jg σ0.hs)) E
 t:wA (upto es.length) 0 es.reverse (qS σ0.ts) = qS σ.ts
 h:wz (upto es.length) 0 es.reverse (jg σ0.hs) = jg σ.hs
 fr:ki σ0.nx (es.reverse.flatMap Eff.fr) = true
 nx : ∀ n,n ∈ es.reverse.flatMap Eff.fr → n < σ.nx
 le:σ0.nx ≤ σ.nx
theorem WB : ∀ (l m:List Nat) (lo hi:Nat),ki lo l = true → (∀ n,n ∈ l → n < hi) → lo ≤ hi → ki hi m = true → ki lo (l ++ m) = true
 | [],m,lo,hi,_,_,h,hm=>by
   cases m with
   | nil=>rfl
   | cons x m=>simp only [List.nil_append,ki,Bool.and_eq_true,decide_eq_true_eq] at hm ⊢;exact ⟨by omega,hm.2⟩
 | x :: l,m,lo,hi,h1,h2,h3,hm=>by
   simp only [List.cons_append,ki,Bool.and_eq_true,decide_eq_true_eq] at h1 ⊢
   exact ⟨h1.1,WB l m (x + 1) hi h1.2 (fun n hn=>h2 n (List.mem_cons_of_mem _ hn)) (h2 x (List.mem_cons_self ..)) hm⟩
theorem Chain.cons {σ0 σ τ:St} {es:List Eff} {E:Eff} (hc:Chain C N all σ0 es σ) (hE:qap C.P (Zc C) all N es.length (qS σ.ts) (jg σ.hs) E) (ht:E.t (qS σ.ts) = qS τ.ts) (hh:E.h (jg σ.hs) = jg τ.hs)
  (hf:ki σ.nx E.fr = true) (hn : ∀ n,n ∈ E.fr → n < τ.nx) (hle:σ.nx ≤ τ.nx):Chain C N all σ0 (E :: es) τ:=by
 have hrev:(E :: es).reverse = es.reverse ++ [E]:=List.reverse_cons
 refine ⟨?_,?_,?_,?_,?_,Nat.le_trans hc.le hle⟩
 ·intro i E' hi
  rw [hrev] at hi ⊢
  have hil:i ≤ es.reverse.length:=by have:=(List.getElem?_eq_some_iff.1 hi).1;simp at this;simp;omega
  unfold wA wz
  rw [YW Eff.wT _ _ _ _ hil,YW Eff.wH _ _ _ _ hil]
  by_cases hlt:i < es.reverse.length
  ·rw [List.getElem?_append_left hlt] at hi
   exact hc.ok i E' hi
  ·have hieq:i = es.reverse.length:=by omega
   subst hieq
   rw [List.getElem?_append_right (Nat.le_refl _)] at hi
   simp at hi
   subst hi
   have h1:=hc.t;have h2:=hc.h
   unfold wA at h1;unfold wz at h2
   rw [List.length_reverse,h1,h2]
   exact hE
 ·rw [hrev]
  unfold wA
  rw [show (E :: es).length = es.reverse.length + 1 from by simp,JT]
  have h1:=hc.t
  unfold wA at h1
  rw [List.length_reverse,h1]
  exact ht
 ·rw [hrev]
  unfold wz
  rw [show (E :: es).length = es.reverse.length + 1 from by simp,JT]
  have h1:=hc.h
  unfold wz at h1
  rw [List.length_reverse,h1]
  exact hh
 ·rw [hrev,List.flatMap_append]
  exact WB _ _ _ σ.nx hc.fr hc.nx hc.le (by simpa using hf)
 ·intro n hn'
  rw [hrev,List.flatMap_append,List.mem_append] at hn'
  rcases hn' with hn'|hn'
  ·exact Nat.lt_of_lt_of_le (hc.nx n hn') hle
  ·exact hn n (by simpa using hn')
def yH (C:Cx) (N:Nat) (all:Array Oper) (es:List Eff) (σ:St) (os:List Oper) (K:List Eff → St → Prop):Prop :=
 ∀ σ0,Chain C N all σ0 es σ → all.toList.drop es.length = os → ∃ es' σ',Chain C N all σ0 es' σ' ∧ es'.length = all.size ∧ K es' σ'
def jw (all:Array Oper) (o:Oper) (gd:List Nat) (t:Nat → AV):Prop :=
 ∀ (F:Still) (ρ:Places) (a:Act),(∀ j,j ∈ gd → M F ρ (a.tmps.getD j undef) (t j)) → Region.wanted o (yielded all a.tmps) = true
def jH (C:Cx) (N:Nat) (all:Array Oper) (gd:List Nat) (es:List Eff) (σ:St) (o:Oper) (os:List Oper) (K:List Eff → St → Prop):Prop :=
 jw all o gd (qS σ.ts) → yH C N all es σ (o :: os) K
variable {es:List Eff} {K:List Eff → St → Prop} {os:List Oper} {o:Oper}
theorem Vj {σ:St} (hl:es.length ≤ all.size) (h:K es σ):yH C N all es σ [] K:=by
 intro σ0 hc hd
 have:all.size ≤ es.length:=by
  have:=congrArg List.length hd
  simp at this;omega
 exact ⟨es,σ,hc,by omega,h⟩
theorem Y8 {l:List Oper} {n:Nat} (h:l.drop n = o :: os):l[n]? = some o ∧ l.drop (n + 1) = os:=by
 constructor
 ·rw [← List.head?_drop,h];rfl
 ·rw [← List.tail_drop,h];rfl
theorem Jb {σ:St} {d:Option Tmp} {op:Op} {ty:TypeId} {pos:String} {af:Array Edge} (h:jH C N all [] es σ ⟨d,op,ty,pos,af,none⟩ os K):yH C N all es σ (⟨d,op,ty,pos,af,none⟩ :: os) K :=
 h fun _ _ _ _=>rfl
theorem wq {σ τ:St} {gd:List Nat} {E:Eff} (hE:ja C.P N o (qS σ.ts) (jg σ.hs) E) (ht:E.t (qS σ.ts) = qS τ.ts) (hh:E.h (jg σ.hs) = jg τ.hs)
  (hf:ki σ.nx E.fr = true) (hn : ∀ n,n ∈ E.fr → n < τ.nx) (hle:σ.nx ≤ τ.nx) (h:yH C N all (⟨gd ++ E.rt,E.rh,E.wt,E.val,E.wh,E.fr⟩ :: es) τ os K):jH C N all gd es σ o os K:=by
 intro hw σ0 hc hd
 obtain ⟨ho,hd'⟩:=Y8 hd
 rw [Array.getElem?_toList] at ho
 have hOp:qap C.P (Zc C) all N es.length (qS σ.ts) (jg σ.hs) ⟨gd ++ E.rt,E.rh,E.wt,E.val,E.wh,E.fr⟩:=by
  intro B A t' h' a w Q K' hBN hZ hAm g hrt hrh hfr hK
  unfold wpOp
  simp only [ho]
  have hwant:Region.wanted o (yielded all a.tmps) = true:=by
   obtain ⟨_,_,F,ρ,_,g4⟩:=g
   exact hw F ρ a fun j hj=>(hrt j (List.mem_append_left _ hj)) ▸ g4 j
  rw [if_pos hwant]
  exact .inl (hE B A t' h' a w Q K' hBN g (fun j hj=>hrt j (List.mem_append_right _ hj)) hrh hfr hK)
 exact h σ0 (hc.cons hOp ht hh hf hn hle) hd'
theorem qi {ts:List (Nat × AV)} {hs:List (Nat × HB)} {nx:Nat} {gd rt rh:List Nat} {d:Nat} {x:AV} (hE:ja C.P N o (qS ts) (jg hs) ⟨rt,rh,some d,x,[],[]⟩)
  (h:yH C N all (⟨gd ++ rt,rh,some d,x,[],[]⟩ :: es) ⟨(d,x) :: ts,hs,nx⟩ os K):jH C N all gd es ⟨ts,hs,nx⟩ o os K:=by
 refine wq (τ:=⟨(d,x) :: ts,hs,nx⟩) hE ?_ ?_ rfl (by simp) (Nat.le_refl _) h
 ·funext i;simp only [Eff.t,Eff.wT,Option.some.injEq,qS];split<;>rfl
 ·funext n;rfl
theorem xe {ts:List (Nat × AV)} {hs:List (Nat × HB)} {nx:Nat} {gd rt rh:List Nat} {d:Nat} {x:AV} {hb:HB} (hE:ja C.P N o (qS ts) (jg hs) ⟨rt,rh,some d,x,[(nx,hb)],[nx]⟩)
  (h:yH C N all (⟨gd ++ rt,rh,some d,x,[(nx,hb)],[nx]⟩ :: es) ⟨(d,x) :: ts,(nx,hb) :: hs,nx + 1⟩ os K):jH C N all gd es ⟨ts,hs,nx⟩ o os K:=by
 refine wq (τ:=⟨(d,x) :: ts,(nx,hb) :: hs,nx + 1⟩) hE ?_ ?_ (by simp [ki]) (by simp) (Nat.le_succ _) h
 ·funext i;simp only [Eff.t,Eff.wT,Option.some.injEq,qS];split<;>rfl
 ·funext n
  simp only [Eff.h,Eff.wH,y6,jg]
  split<;>rfl
theorem Jc {ts:List (Nat × AV)} {hs:List (Nat × HB)} {nx:Nat} {gd rt rh:List Nat} {d:Nat} {x:AV} {hb hb' : HB} {m:Nat} (hE:ja C.P N o (qS ts) (jg hs) ⟨rt,rh,some d,x,[(nx,hb),(m,hb')],[nx]⟩)
  (h:yH C N all (⟨gd ++ rt,rh,some d,x,[(nx,hb),(m,hb')],[nx]⟩ :: es) ⟨(d,x) :: ts,(nx,hb) :: (m,hb') :: hs,nx + 1⟩ os K):jH C N all gd es ⟨ts,hs,nx⟩ o os K:=by
 refine wq (τ:=⟨(d,x) :: ts,(nx,hb) :: (m,hb') :: hs,nx + 1⟩) hE ?_ ?_ (by simp [ki]) (by simp) (Nat.le_succ _) h
 ·funext i;simp only [Eff.t,Eff.wT,Option.some.injEq,qS];split<;>rfl
 ·funext n
  simp only [Eff.h,Eff.wH,y6,jg]
  split
  ·rfl
  ·split<;>rfl
theorem yL {ts:List (Nat × AV)} {hs:List (Nat × HB)} {nx:Nat} {gd rt rh:List Nat} {x:AV} {hb:HB} {m:Nat} (hE:ja C.P N o (qS ts) (jg hs) ⟨rt,rh,none,x,[(m,hb)],[]⟩)
  (h:yH C N all (⟨gd ++ rt,rh,none,x,[(m,hb)],[]⟩ :: es) ⟨ts,(m,hb) :: hs,nx⟩ os K):jH C N all gd es ⟨ts,hs,nx⟩ o os K:=by
 refine wq (τ:=⟨ts,(m,hb) :: hs,nx⟩) hE ?_ ?_ rfl (by simp) (Nat.le_refl _) h
 ·funext i;simp only [Eff.t,Eff.wT,reduceCtorEq,if_false,Option.getD_none]
 ·funext n
  simp only [Eff.h,Eff.wH,y6,jg]
  split<;>rfl
theorem zx {ts:List (Nat × AV)} {hs:List (Nat × HB)} {nx:Nat} {j d d' : Nat} {b c:Bool} (hg:o.guard = some (j,b)) (hd:(all[j]?).bind (·.dst) = some d) (hv:qS ts d = .v (.bool c)) (hdst:o.dst = some d') (hN:d' < N)
  (hy:c = b → jH C N all [d] es ⟨ts,hs,nx⟩ o os K) (hno:c = !b → yH C N all (⟨[d],[],some d',.tup [],[],[]⟩ :: es) ⟨(d',.tup []) :: ts,hs,nx⟩ os K):yH C N all es ⟨ts,hs,nx⟩ (o :: os) K:=by
 have hyield : ∀ (F:Still) (ρ:Places) (a:Act),M F ρ (a.tmps.getD d undef) (qS ts d) → yielded all a.tmps j = some c:=by
  intro F ρ a hm
  rw [hv] at hm
  have hm:=hm.v_inv.1
  unfold yielded
  rw [hd]
  rw [Array.getD_eq_getD_getElem?] at hm
  cases hget:a.tmps[d]? with
  | none=>rw [hget] at hm;cases hm
  | some u=>rw [hget] at hm;simp only [Option.getD_some] at hm;subst hm;simp [hget]
 by_cases hcb:c = b
 ·refine hy hcb fun F ρ a hm=>?_
  unfold Region.wanted
  rw [hg]
  show (yielded all a.tmps j == some b) = true
  rw [hyield F ρ a (hm d (by simp)),hcb]
  simp
 ·have hcb' : c = !b:=by cases c<;>cases b<;>simp_all
  intro σ0 hch hdr
  obtain ⟨ho,hd'⟩:=Y8 hdr
  rw [Array.getElem?_toList] at ho
  have hOp:qap C.P (Zc C) all N es.length (qS ts) (jg hs) ⟨[d],[],some d',.tup [],[],[]⟩:=by
   intro B A t' h' a w Q K' hBN hZ hAm g hrt hrh hfr hK
   unfold wpOp
   simp only [ho]
   obtain ⟨g1,g2,F,ρ,hp,g4⟩:=g
   have hwant:Region.wanted o (yielded all a.tmps) = false:=by
    have hm:=g4 d
    rw [hrt d (by simp)] at hm
    unfold Region.wanted
    rw [hg]
    show (yielded all a.tmps j == some b) = false
    rw [hyield F ρ a hm,hcb']
    cases b<;>rfl
   rw [if_neg (by simp [hwant])]
   refine hK _ _ ⟨by simpa [Act.put,hdst] using g1,by rw [zo];exact g2,F,ρ,hp.weaken fun n hn => .inl hn,fun i=>?_⟩
   rw [hdst,kg _ _ _ _ (by omega)]
   unfold Eff.t Eff.wT
   by_cases hi:d' = i
   ·subst hi;simpa using M.undef F ρ
   ·simpa [hi] using g4 i
  refine hno hcb' σ0 (hch.cons hOp ?_ ?_ rfl (by simp) (Nat.le_refl _)) hd'
  ·funext i;simp only [Eff.t,Eff.wT,Option.some.injEq,qS];split<;>rfl
  ·funext n;rfl
section guards
variable {ts:List (Nat × AV)} {hs:List (Nat × HB)} {nx:Nat} {j d d' : Nat} {op:Op} {ty:TypeId} {pos:String} {af:Array Edge}
theorem YO (hd:(all[j]?).bind (·.dst) = some d) (hv:qS ts d = .v (.bool true)) (hN:d' < N) (hy:jH C N all [d] es ⟨ts,hs,nx⟩ ⟨some d',op,ty,pos,af,some (j,true)⟩ os K):yH C N all es ⟨ts,hs,nx⟩ (⟨some d',op,ty,pos,af,some (j,true)⟩ :: os) K :=
 zx rfl hd hv rfl hN (fun _=>hy) nofun
theorem YN (hd:(all[j]?).bind (·.dst) = some d) (hv:qS ts d = .v (.bool false)) (hN:d' < N) (hy:jH C N all [d] es ⟨ts,hs,nx⟩ ⟨some d',op,ty,pos,af,some (j,false)⟩ os K):yH C N all es ⟨ts,hs,nx⟩ (⟨some d',op,ty,pos,af,some (j,false)⟩ :: os) K :=
 zx rfl hd hv rfl hN (fun _=>hy) nofun
theorem JE (hd:(all[j]?).bind (·.dst) = some d) (hv:qS ts d = .v (.bool false)) (hN:d' < N) (hno:yH C N all (⟨[d],[],some d',.tup [],[],[]⟩ :: es) ⟨(d',.tup []) :: ts,hs,nx⟩ os K):yH C N all es ⟨ts,hs,nx⟩ (⟨some d',op,ty,pos,af,some (j,true)⟩ :: os) K :=
 zx rfl hd hv rfl hN nofun (fun _=>hno)
theorem JD (hd:(all[j]?).bind (·.dst) = some d) (hv:qS ts d = .v (.bool true)) (hN:d' < N) (hno:yH C N all (⟨[d],[],some d',.tup [],[],[]⟩ :: es) ⟨(d',.tup []) :: ts,hs,nx⟩ os K):yH C N all es ⟨ts,hs,nx⟩ (⟨some d',op,ty,pos,af,some (j,false)⟩ :: os) K :=
 zx rfl hd hv rfl hN nofun (fun _=>hno)
theorem Vk {b c:Bool} (hd:(all[j]?).bind (·.dst) = some d) (hv:qS ts d = .v (.bool c)) (hc:c = b) (hN:d' < N) (hy:jH C N all [d] es ⟨ts,hs,nx⟩ ⟨some d',op,ty,pos,af,some (j,b)⟩ os K):yH C N all es ⟨ts,hs,nx⟩ (⟨some d',op,ty,pos,af,some (j,b)⟩ :: os) K :=
 zx rfl hd hv rfl hN (fun _=>hy) (fun h=>by subst hc;cases c<;>cases h)
theorem YM {c:Bool} (hd:(all[j]?).bind (·.dst) = some d) (hv:qS ts d = .v (.bool c)) (hc:c = false) (hN:d' < N) (hno:yH C N all (⟨[d],[],some d',.tup [],[],[]⟩ :: es) ⟨(d',.tup []) :: ts,hs,nx⟩ os K):yH C N all es ⟨ts,hs,nx⟩ (⟨some d',op,ty,pos,af,some (j,true)⟩ :: os) K :=
 zx rfl hd hv rfl hN (fun h=>by subst hc;cases h) (fun _=>hno)
theorem YL {c:Bool} (hd:(all[j]?).bind (·.dst) = some d) (hv:qS ts d = .v (.bool c)) (hc:c = true) (hN:d' < N) (hno:yH C N all (⟨[d],[],some d',.tup [],[],[]⟩ :: es) ⟨(d',.tup []) :: ts,hs,nx⟩ os K):yH C N all es ⟨ts,hs,nx⟩ (⟨some d',op,ty,pos,af,some (j,false)⟩ :: os) K :=
 zx rfl hd hv rfl hN (fun h=>by subst hc;cases h) (fun _=>hno)
theorem WQ {c:Bool} (hd:(all[j]?).bind (·.dst) = some d) (hv:qS ts d = .v (.bool c)) (hN:d' < N) (hy:c = true → jH C N all [d] es ⟨ts,hs,nx⟩ ⟨some d',op,ty,pos,af,some (j,true)⟩ os K)
  (hno:c = false → yH C N all (⟨[d],[],some d',.tup [],[],[]⟩ :: es) ⟨(d',.tup []) :: ts,hs,nx⟩ os K):yH C N all es ⟨ts,hs,nx⟩ (⟨some d',op,ty,pos,af,some (j,true)⟩ :: os) K :=
 zx rfl hd hv rfl hN hy hno
theorem WP {c:Bool} (hd:(all[j]?).bind (·.dst) = some d) (hv:qS ts d = .v (.bool c)) (hN:d' < N) (hy:c = false → jH C N all [d] es ⟨ts,hs,nx⟩ ⟨some d',op,ty,pos,af,some (j,false)⟩ os K)
  (hno:c = true → yH C N all (⟨[d],[],some d',.tup [],[],[]⟩ :: es) ⟨(d',.tup []) :: ts,hs,nx⟩ os K):yH C N all es ⟨ts,hs,nx⟩ (⟨some d',op,ty,pos,af,some (j,false)⟩ :: os) K :=
 zx rfl hd hv rfl hN hy hno
end guards
theorem kW {ts:List (Nat × AV)} {hs:List (Nat × HB)} {nx:Nat} {j d d' : Nat} {b:Bool} {op:Op} {ty:TypeId} {pos:String} {af:Array Edge} (hd:(all[j]?).bind (·.dst) = some d) (hv:qS ts d = .tup []) (hN:d' < N)
  (hno:yH C N all (⟨[d],[],some d',.tup [],[],[]⟩ :: es) ⟨(d',.tup []) :: ts,hs,nx⟩ os K):yH C N all es ⟨ts,hs,nx⟩ (⟨some d',op,ty,pos,af,some (j,b)⟩ :: os) K:=by
 have hg:(⟨some d',op,ty,pos,af,some (j,b)⟩ : Oper).guard = some (j,b):=rfl
 have hdst:(⟨some d',op,ty,pos,af,some (j,b)⟩ : Oper).dst = some d':=rfl
 generalize (⟨some d',op,ty,pos,af,some (j,b)⟩ : Oper) = o at *
 intro σ0 hch hdr
 obtain ⟨ho,hd'⟩:=Y8 hdr
 rw [Array.getElem?_toList] at ho
 have hOp:qap C.P (Zc C) all N es.length (qS ts) (jg hs) ⟨[d],[],some d',.tup [],[],[]⟩:=by
  intro B A t' h' a w Q K' hBN hZ hAm g hrt hrh hfr hK
  unfold wpOp
  simp only [ho]
  obtain ⟨g1,g2,F,ρ,hp,g4⟩:=g
  have hwant:Region.wanted o (yielded all a.tmps) = false:=by
   have hm:=g4 d
   rw [hrt d (by simp),hv] at hm
   obtain ⟨vs,hm,hl,_⟩:=hm.tup_inv
   have hvs:vs = []:=List.eq_nil_of_length_eq_zero (by simpa using hl)
   subst hvs
   unfold Region.wanted
   rw [hg]
   show (yielded all a.tmps j == some b) = false
   have:yielded all a.tmps j = none:=by
    unfold yielded
    rw [hd]
    rw [Array.getD_eq_getD_getElem?] at hm
    cases hget:a.tmps[d]? with
    | none=>simp [hget]
    | some u=>rw [hget] at hm;simp only [Option.getD_some] at hm;subst hm;simp [hget]
   rw [this];rfl
  rw [if_neg (by simp [hwant])]
  refine hK _ _ ⟨by simpa [Act.put,hdst] using g1,by rw [zo];exact g2,F,ρ,hp.weaken fun n hn => .inl hn,fun i=>?_⟩
  rw [hdst,kg _ _ _ _ (by omega)]
  unfold Eff.t Eff.wT
  by_cases hi:d' = i
  ·subst hi;simpa using M.undef F ρ
  ·simpa [hi] using g4 i
 refine hno σ0 (hch.cons hOp ?_ ?_ rfl (by simp) (Nat.le_refl _)) hd'
 ·funext i;simp only [Eff.t,Eff.wT,Option.some.injEq,qS];split<;>rfl
 ·funext n;rfl
theorem y1 {Q:Exit → St → Prop} {σ:St} {id:Nat} {l:List Oper} {draw:Bool}
  (h:yH C N l.toArray [] σ l fun es σ'=>(draw = true → QC l es.reverse [] [] = true) ∧ Q .normal σ') (hdie : ∀ ch ts hs nx,C.die ch ts hs → Q (.panic ch) ⟨ts,hs,nx⟩:=by exact fun _ _ _ _ h=>h):Awp C N (.region id l.toArray draw) Q σ:=by
 intro B a w hN g
 have hZ : ∀ ch a' w',Zc C B ch a' w' → ∃ σ',Q (.panic ch) σ' ∧ Gs B σ' a' w':=fun ch a' w' ⟨ts,hs,nx,h1,h2⟩=>⟨_,hdie ch ts hs nx h1,h2⟩
 have hc0:Chain C N l.toArray σ [] σ:=⟨(fun i E hi=>by simp only [List.reverse_nil,List.getElem?_nil] at hi;cases hi),rfl,rfl,rfl,(fun n hn=>by cases hn),Nat.le_refl _⟩
 obtain ⟨es,σ',hc,hlen,hord,hq⟩:=h σ hc0 rfl
 have hlen' : es.reverse.length = l.toArray.size:=by simpa using hlen
 have hfin : ∀ a' w',Ga B (fun n=>n < σ.nx ∨ n ∈ es.reverse.flatMap Eff.fr) (wA (upto l.toArray.size) 0 es.reverse (qS σ.ts)) (wz (upto l.toArray.size) 0 es.reverse (jg σ.hs)) a' w' → ∃ σ',Q .normal σ' ∧ Gs B σ' a' w':=by
  intro a' w' g'
  refine ⟨σ',hq,?_⟩
  rw [← hlen,hc.t,hc.h] at g'
  refine g'.weaken fun n hn=>?_
  rcases hn with hn|hn
  ·exact Nat.lt_of_lt_of_le hn hc.le
  ·exact hc.nx n hn
 cases draw with
 | true =>
   refine qbc C.mixed hN.1 hZ es.reverse σ.nx (qS σ.ts) (jg σ.hs) (by simpa using hord rfl) hc.fr hc.ok ?_ g
   exact hfin
 | false =>
   refine wp_region ?_
   rw [List.range_eq_range']
   refine qbv hN.1 hZ es.reverse σ.nx (qS σ.ts) (jg σ.hs) hlen' hc.fr hc.ok (Q:=fun e a' w' => ∃ σ',Q e σ' ∧ Gs B σ' a' w') hfin l.toArray.size 0 (by omega) a w ?_
   have hz : ∀ {R V:Type} (W:Eff → R → Option V) (x:R → V),x = run W (upto 0) 0 es.reverse x:=by
    intro R V W x;funext r
    have : ∀ (Es:List Eff) (i:Nat) (y:R → V),run W (upto 0) i Es y r = y r:=by
     intro Es
     induction Es with
     | nil=>intro i y;rfl
     | cons E Es ih=>intro i y;simp only [run];rw [ih];simp [upto]
    exact (this _ 0 x).symm
   have e1:qS σ.ts = wA (upto 0) 0 es.reverse (qS σ.ts):=hz Eff.wT _
   have e2:jg σ.hs = wz (upto 0) 0 es.reverse (jg σ.hs):=hz Eff.wH _
   unfold Gs at g
   rw [e1,e2] at g
   exact g.weaken fun n hn => .inl hn
end ops
end Go.Ab
set_option linter.unusedSimpArgs false
set_option linter.unusedVariables false
namespace Go.Ab
open Go.RowKit
def one (r:AV):Nat → AV:=fun i=>if i = 0 then r else .junk
def qZ (P:Program) (f:FuncId) (args:List AV) (H:List HB) (r:AV) (H' : List HB):Prop :=
 ∀ (B:Base) (vs:List Value) (w:World),vs.length = args.length → B.N = vs.length → Ga B (· < H.length) (fun i=>args.getD i .junk) (fun n=>H.getD n .dead) ⟨vs.toArray,[]⟩ w →
   Calls P f vs.toArray w fun e w' => ∃ v,e = .returned v ∧ Ga { B with N:=1 } (fun _=>True) (one r) (fun n=>H'.getD n .dead) ⟨#[v],[]⟩ w'
abbrev xH (P:Program) (f:FuncId) (args:List AV) (r:AV):Prop:=qZ P f args [] r []
def jD:Nat → List AV → List (Nat × AV)
 | _,[] => []
 | i,x :: l=>(i,x) :: jD (i + 1) l
def zQ:Nat → List HB → List (Nat × HB)
 | _,[] => []
 | i,x :: l=>(i,x) :: zQ (i + 1) l
theorem qcw (l:List AV) : ∀ (i j:Nat),qS (jD i l) (i + j) = l.getD j .junk:=by
 induction l with
 | nil=>intro i j;rfl
 | cons x l ih =>
   intro i j
   cases j with
   | zero=>simp [jD,qS]
   | succ j =>
     have:=ih (i + 1) j
     rw [show i + 1 + j = i + (j + 1) from by omega] at this
     simp only [jD,qS]
     rw [if_neg (by omega),this]
     simp
theorem VG (l:List HB) : ∀ (i j:Nat),(y6 (zQ i l) (i + j)).getD .dead = l.getD j .dead:=by
 induction l with
 | nil=>intro i j;rfl
 | cons x l ih =>
   intro i j
   cases j with
   | zero=>simp [zQ,y6]
   | succ j =>
     have:=ih (i + 1) j
     rw [show i + 1 + j = i + (j + 1) from by omega] at this
     simp only [zQ,y6]
     rw [if_neg (by omega),this]
     simp
def Fin (C:Cx) (rs:Array ResultVar) (nh:Nat) (r:AV) (H' : List HB) (σ:St):Prop :=
 ∀ (fn:Func) (B:Base) (a:Act) (w:World),fn.results = rs → (∀ n,B.ρ0 n ≠ none → n < nh) → B.ds = [] → Gs B σ a w → ∃ v,(results fn a.tmps).run C.P w = .ok v w ∧ Ga { B with N:=1 } (fun _=>True) (one r) (fun n=>H'.getD n .dead) ⟨#[v],[]⟩ w
def Kl (C:Cx) (rs:Array ResultVar) (nh:Nat) (r:AV) (H' : List HB):Exit → St → Prop
 | .normal,σ | .ret,σ=>Fin C rs nh r H' σ
 | _,_=>False
theorem qaF {fn:Func} {args:List AV} {H:List HB} {N:Nat} (hN:fn.ntmps = N) (hl:args.length ≤ N) {B:Base} {vs:List Value} {w:World} (hvs:vs.length = args.length) (hBN:B.N = vs.length)
  (g:Ga B (· < H.length) (fun i=>args.getD i .junk) (fun n=>H.getD n .dead) ⟨vs.toArray,[]⟩ w):(∀ n,B.ρ0 n ≠ none → n < H.length) ∧ ([]:List Deferred) = B.ds ∧ Gs { B with N:=N } ⟨jD 0 args,zQ 0 H,H.length⟩ { tmps:=vs.toArray ++ Array.replicate (fn.ntmps - vs.toArray.size) undef,defers:=[] } w:=by
 have hsz:(vs.toArray ++ Array.replicate (fn.ntmps - vs.toArray.size) undef).size = N:=by simp;omega
 have hρ0 : ∀ n,B.ρ0 n ≠ none → n < H.length:=by
  obtain ⟨_,_,F,ρ,hp,_⟩:=g
  intro n hn
  refine hp.dom n ?_
  cases h0:B.ρ0 n with
  | none=>exact absurd h0 hn
  | some c=>rw [hp.names n c h0];simp
 have hds:([]:List Deferred) = B.ds:=g.1
 have g' : Gs { B with N:=N } ⟨jD 0 args,zQ 0 H,H.length⟩ { tmps:=vs.toArray ++ Array.replicate (fn.ntmps - vs.toArray.size) undef,defers:=[] } w:=by
  obtain ⟨_,_,F,ρ,hp,g4⟩:=g
  refine ⟨hds,hsz,F,ρ,?_,fun i=>?_⟩
  ·have hh:jg (zQ 0 H) = fun n=>H.getD n .dead:=by
    funext n
    have:=VG H 0 n
    rw [Nat.zero_add] at this
    exact this
   show Hp _ _ (jg (zQ 0 H)) _ _ _
   rw [hh]
   exact { kept:=⟨hp.kept.os,hp.kept.tape,hp.kept.output,hp.kept.size,hp.kept.block⟩,agree:=hp.agree,grow:=hp.grow,fresh:=hp.fresh,names:=hp.names,dom:=hp.dom,own:=hp.own,new:=hp.new,sep:=hp.sep }
  ·have ht:qS (jD 0 args) i = args.getD i .junk:=by
    have:=qcw args 0 i
    rw [Nat.zero_add] at this
    exact this
   show M F ρ _ (qS (jD 0 args) i)
   rw [ht]
   by_cases hi:i < vs.length
   ·have:=g4 i
    simp only [Array.getD_eq_getD_getElem?,List.getElem?_toArray] at this ⊢
    rw [Array.getElem?_append_left (by simpa using hi)]
    simpa using this
   ·rw [List.getD_eq_getElem?_getD,List.getElem?_eq_none (by omega)]
    exact .junk _ _
 exact ⟨hρ0,hds,g'⟩
theorem qc {C:Cx} {f:FuncId} {fn:Func} {c:Code} {args:List AV} {H:List HB} {r:AV} {H' : List HB} (hf:C.P.funcs[f]? = some fn) (hb:fn.body = some c) (N:Nat) (hN:fn.ntmps = N) (hl:args.length ≤ N) (rs:Array ResultVar) (hrs:fn.results = rs)
  (nh:Nat) (hH:H.length = nh) (hnh:C.nh = nh) (h:Awp C N c (Kl C rs nh r H') ⟨jD 0 args,zQ 0 H,nh⟩):qZ C.P f args H r H':=by
 subst hH
 intro B vs w hvs hBN g
 refine calls_of_wp hf hb ?_
 obtain ⟨hρ0,hds,g'⟩:=qaF (N:=N) hN hl hvs hBN g
 refine wp_mono (h { B with N:=N } _ w ⟨rfl,by rw [hnh];exact hρ0⟩ g') ?_
 intro e a' w' ⟨σ',q,g''⟩
 cases e with
 | normal =>
   obtain ⟨v,hr,hg⟩:=q fn { B with N:=N } a' w' hrs hρ0 hds.symm g''
   exact ⟨g''.1.trans hds.symm,v,hr,v,rfl,hg⟩
 | ret =>
   obtain ⟨v,hr,hg⟩:=q fn { B with N:=N } a' w' hrs hρ0 hds.symm g''
   exact ⟨g''.1.trans hds.symm,v,hr,v,rfl,hg⟩
 | exit _=>exact q.elim
 | goto _=>exact q.elim
 | panic _=>exact q.elim
 | outgrown=>exact q.elim
noncomputable def Jh (F:Still) (ρ:Places) (h:Nat → HB) (w:World):Still:=fun b =>
 match F b with
 | some o=>some o
 | none => @ite _ (∃ n c,(h n).isOwn = true ∧ ρ n = some (some (b,c))) (Classical.propDecidable _) w.heap[b]? none
theorem QF (F:Still) (ρ:Places) (h:Nat → HB) (w:World):F.le (Jh F ρ h w):=fun b o hb=>by unfold Jh;rw [hb]
def Rz (h:Nat → HB) (x y:AV):Prop :=
 ∀ (F:Still) (ρ:Places) (w:World) (v:Value),(∀ n,OwnAt F ρ w n (h n)) → (∀ n b c,(h n).isOwn = true → ρ n = some (some (b,c)) → F b = none) → M F ρ v x → M (Jh F ρ h w) noPlaces v y
def vn (h:Nat → HB) (xs ys:List AV):Prop:=xs.length = ys.length ∧ ∀ (i:Nat) x y,xs[i]? = some x → ys[i]? = some y → Rz h x y
section rz
variable {h:Nat → HB}
theorem q4 {x:AV} (hx:x.pure = true):Rz h x x:=fun F ρ w v _ _ hm=>(hm.moved noPlaces hx).mono (QF F ρ h w) (Places.le_refl _)
theorem yE {rows:List (List AV)}:Rz h (.sl true rows) (.sl false rows):=fun F ρ w v _ _ hm=>by
 have hm:=(hm.moved noPlaces rfl).mono (QF F ρ h w) (Places.le_refl _)
 cases hm with
 | sl0 _ a cap ex he hn=>exact .sl0 _ a cap false (fun e=>by cases e) hn
 | sl _ b off cap c e fr ex k rows hb hc he hs hk h=>exact .sl _ b off cap c e fr false k rows hb hc (fun e=>by cases e) hs hk h
theorem q5:vn h [] []:=⟨rfl,fun i x y hx=>by cases i<;>cases hx⟩
theorem qA {x y:AV} {xs ys:List AV} (hx:Rz h x y) (hl:vn h xs ys):vn h (x :: xs) (y :: ys):=by
 refine ⟨by simp [hl.1],fun i a b ha hb=>?_⟩
 cases i with
 | zero=>simp at ha hb;subst ha;subst hb;exact hx
 | succ i=>exact hl.2 i a b (by simpa using ha) (by simpa using hb)
theorem jX {xs ys:List AV} (hl:vn h xs ys):Rz h (.agg xs) (.agg ys):=fun F ρ w v ho hn hm=>by
 obtain ⟨vs,rfl,h1,h2⟩:=hm.agg_inv
 refine .agg _ vs ys (by rw [h1,hl.1]) fun i u y hu hy=>?_
 have hi:i < xs.length:=by rw [hl.1];exact (List.getElem?_eq_some_iff.1 hy).1
 have hx:xs[i]? = some xs[i]:=List.getElem?_eq_getElem hi
 exact hl.2 i _ y hx hy F ρ w u ho hn (h2 i u _ hu hx)
theorem y5 {xs ys:List AV} (hl:vn h xs ys):Rz h (.tup xs) (.tup ys):=fun F ρ w v ho hn hm=>by
 obtain ⟨vs,rfl,h1,h2⟩:=hm.tup_inv
 refine .tup _ vs ys (by rw [h1,hl.1]) fun i u y hu hy=>?_
 have hi:i < xs.length:=by rw [hl.1];exact (List.getElem?_eq_some_iff.1 hy).1
 have hx:xs[i]? = some xs[i]:=List.getElem?_eq_getElem hi
 exact hl.2 i _ y hx hy F ρ w u ho hn (h2 i u _ hu hx)
def jr (h:Nat → HB) (rows rows' : List (List AV)):Prop:=rows.length = rows'.length ∧ ∀ (i:Nat) row row',rows[i]? = some row → rows'[i]? = some row' → vn h row row'
theorem vR {rows:List (List AV)} (hr : ∀ row,row ∈ rows → AV.pure.pureL row = true):jr h rows rows :=
 ⟨rfl,fun i row row' h1 h2=>by
  rw [h1] at h2;injection h2 with h2;subst h2
  exact ⟨rfl,fun j x y hx hy=>by rw [hx] at hy;injection hy with hy;subst hy;exact q4 (zT (hr row (List.mem_of_getElem? h1)) hx)⟩⟩
theorem qbh {α:Type} {f:α → List AV} {l:List α} (hf : ∀ a,AV.pure.pureL (f a) = true):jr h (l.map f) (l.map f) :=
 vR fun row hr=>by obtain ⟨a,_,rfl⟩:=List.mem_map.1 hr;exact hf a
theorem WY {F:Still} {ρ:Places} {w:World} {n b:Nat} {c:Nat × Nat} (hn:(h n).isOwn = true) (hρ:ρ n = some (some (b,c))) (hF:F b = none):Jh F ρ h w b = w.heap[b]?:=by
 unfold Jh
 rw [hF]
 simp only
 rw [if_pos ⟨n,c,hn,hρ⟩]
theorem qf1 {n off len:Nat} {ex:Bool} {k:Nat} {rows rows' : List (List AV)} (hn:h n = .own ex k rows) (hl:off + len ≤ rows.length) (hr:jr h ((rows.drop off).take len) rows'):Rz h (.os n off len) (.sl false rows'):=fun F ρ w v ho hnn hm=>by
 have hlen:rows'.length = len:=by rw [← hr.1];simp;omega
 have hon:=ho n
 rw [hn] at hon
 rcases hm.os_inv with ⟨h1,rfl,rfl,ad0,rfl⟩|⟨b,k',cap,a,hρ,rfl,hcap,ha⟩
 ·have:rows' = []:=List.eq_nil_of_length_eq_zero hlen
  subst this
  exact .sl0 _ ad0 0 false (fun e=>by cases e) (fun _=>rfl)
 ·obtain ⟨rfl,c,e,hb,hsz,hle,hex,hR⟩:=y8 hon hρ
  by_cases h0:len = 0
  ·subst h0
   have:rows' = []:=List.eq_nil_of_length_eq_zero hlen
   subst this
   exact .sl0 _ (some a) _ false (fun e=>by cases e) (fun e=>by cases e)
  ·have ha':=ha (by omega)
   subst ha'
   have hmul:off * k' + len * k' ≤ cap * k':=by rw [← Nat.add_mul];exact Nat.mul_le_mul_right _ hcap
   have hget : ∀ (i:Nat) row',rows'[i]? = some row' → ∃ row,rows[off + i]? = some row ∧ vn h row row':=by
    intro i row' hi
    have hil:i < len:=by rw [← hlen];exact (List.getElem?_eq_some_iff.1 hi).1
    have h1:((rows.drop off).take len)[i]? = some (rows[off + i]'(by omega)):=by rw [getElem?_drop_take _ _ _ _ hil,List.getElem?_eq_getElem (by omega)]
    exact ⟨_,List.getElem?_eq_getElem (by omega),hr.2 i _ _ h1 hi⟩
   have:=M.sl (F:=Jh F ρ h w) noPlaces b (off * k') (cap - off) c e (0,0) false k' rows' (by rw [WY (by rw [hn];rfl) hρ (hnn n b _ (by rw [hn];rfl) hρ)];exact hb) (by rw [hlen];omega) (fun e=>by cases e)
    (by rw [hlen,hsz];exact hmul) (fun row' hrow'=>by
     obtain ⟨i,hi⟩:=List.mem_iff_getElem?.1 hrow'
     obtain ⟨row,h1,h2⟩:=hget i row' hi
     rw [← h2.1];exact hR.1 row (List.mem_of_getElem? h1))
    (fun i j row' y u hi hj hu=>by
     obtain ⟨row,h1,h2⟩:=hget i row' hi
     have hj' : j < row.length:=by rw [h2.1];exact (List.getElem?_eq_some_iff.1 hj).1
     have hx:row[j]? = some row[j]:=List.getElem?_eq_getElem hj'
     refine h2.2 j _ y hx hj F ρ w u ho hnn (hR.2 (off + i) j row _ u h1 hx ?_)
     rw [Nat.add_mul];exact hu)
   rw [hlen] at this
   exact this
theorem qah {n i j:Nat} {ex:Bool} {k:Nat} {rows rows' : List (List AV)} (hn:h n = .own ex k rows) (hi:i < rows.length) (hr:jr h rows rows'):Rz h (.op n i j) (.fp rows' i j):=fun F ρ w v ho hnn hm=>by
 have hon:=ho n
 rw [hn] at hon
 obtain ⟨b,k',cap,hρ,rfl⟩:=hm.op_inv
 obtain ⟨rfl,c,e,hb,hsz,hle,hex,hR⟩:=y8 hon hρ
 have hget : ∀ (i:Nat) row',rows'[i]? = some row' → ∃ row,rows[i]? = some row ∧ vn h row row':=by
  intro i row' hi
  have hil:i < rows.length:=by rw [hr.1];exact (List.getElem?_eq_some_iff.1 hi).1
  exact ⟨_,List.getElem?_eq_getElem hil,hr.2 i _ _ (List.getElem?_eq_getElem hil) hi⟩
 have:=M.fp (F:=Jh F ρ h w) noPlaces b 0 c e (0,0) k' rows' i j (by rw [WY (by rw [hn];rfl) hρ (hnn n b _ (by rw [hn];rfl) hρ)];exact hb) (by rw [← hr.1];exact hi)
  (by rw [← hr.1,hsz,Nat.zero_add];exact Nat.mul_le_mul_right _ hle) (fun row' hrow'=>by
   obtain ⟨i,hi⟩:=List.mem_iff_getElem?.1 hrow'
   obtain ⟨row,h1,h2⟩:=hget i row' hi
   rw [← h2.1];exact hR.1 row (List.mem_of_getElem? h1))
  (fun i j row' y u hi hj hu=>by
   obtain ⟨row,h1,h2⟩:=hget i row' hi
   have hj' : j < row.length:=by rw [h2.1];exact (List.getElem?_eq_some_iff.1 hj).1
   have hx:row[j]? = some row[j]:=List.getElem?_eq_getElem hj'
   exact h2.2 j _ y hx hj F ρ w u ho hnn (hR.2 i j row _ u h1 hx (by rw [Nat.zero_add] at hu;exact hu)))
 rw [Nat.zero_add] at this
 exact this
theorem jO {fn:Fn} {xs ys xs' ys' : List AV} (h1:vn h xs xs') (h2:vn h ys ys'):Rz h (.clo fn xs ys) (.clo fn xs' ys'):=fun F ρ w v ho hn hm=>by
 cases hm with
 | clo _ fn vs us xs ys hl hm' a1 a2 =>
   refine .clo _ fn vs us xs' ys' (by rw [hl,h1.1]) (by rw [hm',h2.1]) (fun i u y hu hy=>?_) (fun i u y hu hy=>?_)
   ·have hi:i < xs.length:=by rw [h1.1];exact (List.getElem?_eq_some_iff.1 hy).1
    have hx:xs[i]? = some xs[i]:=List.getElem?_eq_getElem hi
    exact h1.2 i _ y hx hy F ρ w u ho hn (a1 i u _ hu hx)
   ·have hi:i < ys.length:=by rw [h2.1];exact (List.getElem?_eq_some_iff.1 hy).1
    have hx:ys[i]? = some ys[i]:=List.getElem?_eq_getElem hi
    exact h2.2 i _ y hx hy F ρ w u ho hn (a2 i u _ hu hx)
end rz
end Go.Ab
