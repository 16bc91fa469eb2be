import Derived.Test.YtahbbnfmbohmmaaDoorLyB
import Derived.MapKept
set_option linter.unusedSimpArgs false
set_option linter.unusedVariables false
namespace Go.Ab
open Go.RowKit
section ops
variable {C:Cx} {N d:Nat} {ty:TypeId} {pos:String} {af:Array Edge} {gd:Option (Nat × Bool)} {t:Nat → AV} {h:Nat → HB}
theorem VZ {P:Program} {T:Nat} {r:TRec} (hT:kq P T = some r) (he:r.kind = .bool):P.underlying T = some .bool:=by
 obtain ⟨dd,i,z,hd,_,_,hk,_⟩:=jc hT
 rw [he] at hk
 cases dd<;>first|exact hd|(simp [jY] at hk)
theorem Wc (op:BinOp) (T:TypeId) (x y:Operand) (yT:TypeId) (a b c:Bool) (r:TRec) (hx:evA t x = .v (.bool a)) (hy:evA t y = .v (.bool b)) (hT:ju C.tab T = some r) (he:r.kind = .bool) (hop:(op = .eql ∧ c = (a == b)) ∨ (op = .neq ∧ c = (a != b))) (hN:d < N) :
  qA C.P N ⟨some d,.binOp op T x y yT,ty,pos,af,gd⟩ t h ⟨ji x ++ ji y,[],some d,.v (.bool c),[],[]⟩ :=
 qV _ _ rfl hN fun F ρ act w _ hs _=>by
  have h1:=qg (x:=x) hs (fun j hj=>List.mem_append_left _ hj)
  have h2:=qg (x:=y) hs (fun j hj=>List.mem_append_right _ hj)
  rw [hx] at h1;rw [hy] at h2
  obtain ⟨h1,_⟩:=h1.v_inv
  obtain ⟨h2,_⟩:=h2.v_inv
  refine ⟨.bool c,?_,.v _ _ rfl⟩
  have hu:=VZ (C.ok T r hT) he
  have heq:(Op.equal T (.bool a) (.bool b)).run C.P w = .ok (a == b) w:=by
   show (Op.equalIn (9999 + 1) T (.bool a) (.bool b)).run C.P w = _
   unfold Op.equalIn
   simp [run_underlying hu]
  rcases hop with ⟨rfl,rfl⟩|⟨rfl,rfl⟩
  ·simp [execOp,h1,h2,eqGuard,binOp,heq]
  ·simp [execOp,h1,h2,eqGuard,binOp,heq,bne]
end ops
end Go.Ab
set_option linter.unusedSimpArgs false
set_option linter.unusedVariables false
namespace Go.Ab
open Go.RowKit
section ops
variable {C:Cx} {N d:Nat} {ty:TypeId} {pos:String} {af:Array Edge} {gd:Option (Nat × Bool)} {t:Nat → AV} {h:Nat → HB}
end ops
theorem Za {L:List (Nat × Nat)} {nh:Nat} {σ:St} {n' : Nat} {l:List (Nat × HB)} (n:Nat) (hm:Maps L nh n n') (hl:j4 L nh σ l):j4 L nh σ ((n',.dead) :: l):=⟨⟨n,hm,by cases qm σ.hs n<;>trivial⟩,hl⟩
end Go.Ab
set_option linter.unusedSimpArgs false
set_option linter.unusedVariables false
namespace Go.Ab
open Go.RowKit
def WL (k n:Nat):List (List AV):=List.replicate n (List.replicate k .junk)
@[simp] theorem qah (k n:Nat):(WL k n).length = n:=by simp [WL]
section ops
variable {C:Cx} {N d:Nat} {ty:TypeId} {pos:String} {af:Array Edge} {gd:Option (Nat × Bool)} {t:Nat → AV} {h:Nat → HB}
end ops
end Go.Ab
set_option linter.unusedSimpArgs false
set_option linter.unusedVariables false
namespace Go.Ab
open Go.RowKit
section ops
variable {C:Cx} {N d:Nat} {ty:TypeId} {pos:String} {af:Array Edge} {gd:Option (Nat × Bool)} {t:Nat → AV} {h:Nat → HB}
end ops
theorem jN {L:List (Nat × Nat)} {nh n n' : Nat} (hn:Maps L nh n n'):jl L nh (.mp n) (.mp n'):=fun F ρ ρ' v h hm=>by
 cases hm with|mp _ n b hρ=>exact .mp _ n' b (h n n' hn _ hρ)
theorem WE {L:List (Nat × Nat)} {nh:Nat} {σ:St} {i n n' : Nat} {l:List (Nat × AV)} (hx:qn σ.ts i = .mp n) (hm:Maps L nh n n') (hl:yv L nh σ l):yv L nh σ ((i,.mp n') :: l):=xV hx (jN hm) hl
end Go.Ab
set_option linter.unusedSimpArgs false
set_option linter.unusedVariables false
namespace Go.Ab
open Go.RowKit Go.ChangeShapes
def xP (tab:List (Nat × TRec)) (W:Nat):Nat → Nat → List AV → Prop
 | 0,_,_=>False
 | n + 1,t,xs=>match ju tab t with
   | none=>True
   | some r=>match r.kind with
     | .int k => ∃ a,xs = [.v (.int k a)] ∧ (Lit.int k a).wf = true
     | .bool => ∃ b,xs = [.v (.bool b)]
     | .string => ∃ s:List UInt8,xs = [.v (str s)] ∧ s.length ≤ W
     | .slice e=>match ju tab e with
       | none=>True
       | some re=>re.size ≠ 0 → ∃ rows,xs = [.sl false rows] ∧ rows.length * re.bytes ≤ W ∧ ∀ row,row ∈ rows → xP tab W n e row
     | .struct fs=>zf tab 0 fs = some r.size → JC (xP tab W n) fs xs
     | _=>True
section
variable {H:Type} {enc:TypeId × Value → H} {w:World} {sp:Nat → Bool} {held:Bool}
theorem Yo (W:Nat) (C:Cx) : ∀ (n:Nat) (t:Nat) (cs:List Value) (x:DataW H × List MemPlace),DataW.trod enc C.P w 0 sp held n t cs = some x → (∀ m,m ∈ x.1.weights C.P t → m ≤ W) →
  ∃ xs:List AV,AllM (ze w) noPlaces cs xs ∧ xP C.tab W n t xs
 | 0,t,cs,x,h,_=>by simp [DataW.trod] at h
 | n + 1,t,cs,x,h,hw=>by
   have junk:xP C.tab W (n + 1) t (cs.map fun _ => .junk) → ∃ xs:List AV,AllM (ze w) noPlaces cs xs ∧ xP C.tab W (n + 1) t xs:=fun h=>⟨_,Jd _ _ cs,h⟩
   cases hl:ju C.tab t with
   | none=>exact junk (by simp [xP,hl])
   | some r =>
     have hr:=C.ok t r hl
     obtain ⟨d,inf,z,hu,hi,_,hk,_,_,_⟩:=jc hr
     cases hkk:r.kind with
     | int k =>
       rw [hkk] at hk
       cases d<;>simp only [jY,reduceCtorEq] at hk
       injection hk with hk
       subst hk
       obtain ⟨a,rfl,_,hwf⟩:=DataW.trod_int hu h
       exact ⟨[.v (.int k a)],AllM.cons (.v _ _ rfl) AllM.nil,by simp only [xP,hl,hkk];exact ⟨a,rfl,hwf⟩⟩
     | bool =>
       rw [hkk] at hk
       cases d<;>simp only [jY,reduceCtorEq] at hk
       obtain ⟨b,rfl,_⟩:=DataW.trod_bool hu h
       exact ⟨[.v (.bool b)],AllM.cons (.v _ _ rfl) AllM.nil,by simp only [xP,hl,hkk];exact ⟨b,rfl⟩⟩
     | string =>
       rw [hkk] at hk
       cases d<;>simp only [jY,reduceCtorEq] at hk
       obtain ⟨s,rfl,rfl,_⟩:=DataW.trod_string hu h
       refine ⟨[.v (.string s)],AllM.cons (.v _ _ rfl) AllM.nil,?_⟩
       simp only [xP,hl,hkk]
       exact ⟨s.data.toList,rfl,hw _ (by simp [DataW.weights])⟩
     | slice e =>
       rw [hkk] at hk
       cases d with
       | slice e' =>
         simp only [jY,TK.slice.injEq] at hk
         subst hk
         cases he:ju C.tab e with
         | none=>exact junk (by simp [xP,hl,hkk,he])
         | some re =>
           have hsz:=vO (C.ok e re he)
           have hby:=JL (C.ok e re he)
           by_cases h0:re.size = 0
           ·exact junk (by simp [xP,hl,hkk,he,h0])
           ·rcases DataW.trod_slice hu h with ⟨rfl,_⟩|⟨a,len,cap,elems,rest,n',hn',rfl,rfl,_,hle,_,hel1,hel0,_,_⟩
            ·refine ⟨[.sl false []],AllM.cons (.sl0 _ none 0 false (fun e=>by cases e) (fun _=>rfl)) AllM.nil,?_⟩
             simp only [xP,hl,hkk,he]
             exact fun _=>⟨[],rfl,by simp,fun row h=>by cases h⟩
            ·injection hn' with hn'
             subst hn'
             have hel : ∀ i,i < len → ∃ row:List AV,(∃ cs',w.cells? 0 (a.add (i * re.size)) re.size = some cs' ∧ AllM (ze w) noPlaces cs' row) ∧ xP C.tab W n e row:=by
              intro i hi
              have h0:=hel0 i hi
              rw [List.getElem?_eq_getElem (by omega)] at h0
              obtain ⟨cs',h1,h2⟩:=Option.bind_eq_some_iff.1 h0
              obtain ⟨row,h3,h4⟩:=Yo W C n e cs' _ h2 (fun q hq=>hw q (by
               simp only [DataW.weights,hu,List.mem_cons,List.mem_append]
               exact .inr (.inl (zG (List.mem_map.2 ⟨_,List.getElem_mem _,rfl⟩) hq))))
              rw [hsz] at h1
              exact ⟨row,⟨cs',h1,h3⟩,h4⟩
             let f:Nat → List AV:=fun i=>if hi:i < len then Classical.choose (hel i hi) else []
             have hf : ∀ i,i < len → (∃ cs',w.cells? 0 (a.add (i * re.size)) re.size = some cs' ∧ AllM (ze w) noPlaces cs' (f i)) ∧ xP C.tab W n e (f i):=fun i hi=>by
              have e:f i = Classical.choose (hel i hi):=dif_pos hi
              rw [e];exact Classical.choose_spec (hel i hi)
             have hlen:((List.range len).map f).length = len:=by simp
             have hget : ∀ (i:Nat) row,((List.range len).map f)[i]? = some row → i < len ∧ row = f i:=fun i row hi=>by
              have:i < len:=by have:=(List.getElem?_eq_some_iff.1 hi).1;simpa using this
              rw [List.getElem?_map,List.getElem?_range this] at hi
              exact ⟨this,by simpa using hi.symm⟩
             refine ⟨[.sl false ((List.range len).map f)],AllM.cons ?_ AllM.nil,?_⟩
             ·by_cases hl0:len = 0
              ·subst hl0;exact .sl0 _ (some a) cap false (fun e=>by cases e) (fun e=>by cases e)
              ·obtain ⟨⟨cs0,hc0,_⟩,_⟩:=hf 0 (by omega)
               obtain ⟨_,hcl0,hat0⟩:=World.cells?_some hc0
               obtain ⟨ba,oa,sa⟩:=a
               have h00:=hat0 0 (by omega)
               rw [List.getElem?_eq_getElem (by omega)] at h00
               have hspot:sa = none:=by have:=World.cell?_spot h00;simpa [Addr.add] using this
               subst hspot
               have hadd : ∀ oa k,(⟨ba,oa,none⟩ : Addr).add k = ⟨ba,oa + k,none⟩:=fun oa k=>by
                unfold Addr.add;split
                ·rename_i h;subst h;rfl
                ·rfl
               simp only [hadd] at h00
               obtain ⟨c,el,fr,hblk,_⟩:=Xx (s:=none) h00
               have hcell : ∀ i j,i < len → j < re.size → ∀ cs',w.cells? 0 ((⟨ba,oa,none⟩ : Addr).add (i * re.size)) re.size = some cs' → c[oa + i * re.size + j]? = cs'[j]?:=by
                intro i j hi hj cs' hcs
                obtain ⟨_,hcl,hat'⟩:=World.cells?_some hcs
                have h1:=hat' j hj
                simp only [hadd] at h1
                unfold World.cell? at h1
                simpa [hblk] using h1
               have hlast:oa + len * re.size ≤ c.size:=by
                obtain ⟨⟨cs1,hc1,_⟩,_⟩:=hf (len - 1) (by omega)
                have h1:=hcell (len - 1) (re.size - 1) (by omega) (by omega) cs1 hc1
                obtain ⟨_,hcl1,_⟩:=World.cells?_some hc1
                rw [List.getElem?_eq_getElem (by omega)] at h1
                have h2:=(Array.getElem?_eq_some_iff.1 h1).1
                have h3:(len - 1) * re.size + re.size = len * re.size:=by
                 rw [← Nat.succ_mul];congr 1;omega
                omega
               have:=M.sl (F:=ze w) noPlaces ba oa cap c el fr false re.size ((List.range len).map f) hblk (by rw [hlen];exact hle) (fun e=>by cases e) (by rw [hlen];exact hlast)
                (fun row hrow=>by
                 obtain ⟨i,hi,rfl⟩:=List.mem_map.1 hrow
                 obtain ⟨⟨cs',h1,h2⟩,_⟩:=hf i (List.mem_range.1 hi)
                 rw [← h2.1,(World.cells?_some h1).2.1])
                (fun i j row y v hi hj hv=>by
                 obtain ⟨hil,rfl⟩:=hget i row hi
                 obtain ⟨⟨cs',h1,h2⟩,_⟩:=hf i hil
                 have hjl:j < re.size:=by
                  have:=(List.getElem?_eq_some_iff.1 hj).1
                  rw [← h2.1,(World.cells?_some h1).2.1] at this;exact this
                 exact h2.2 j v y (by rw [← hcell i j hil hjl cs' h1];exact hv) hj)
               rw [hlen] at this
               exact this
             ·simp only [xP,hl,hkk,he]
              intro _
              refine ⟨_,rfl,?_,fun row hrow=>?_⟩
              ·rw [hlen]
               have:=hw (((elems.map (·.1)).length + (rest.map (·.1)).length) * C.P.bytesOf e) (by simp [DataW.weights,hu])
               rw [hby,List.length_map,hel1] at this
               exact Nat.le_trans (Nat.mul_le_mul_right _ (by omega)) this
              ·obtain ⟨i,hi,rfl⟩:=List.mem_map.1 hrow
               exact (hf i (List.mem_range.1 hi)).2
       | _=>simp only [jY,reduceCtorEq] at hk
     | struct fs =>
       rw [hkk] at hk
       cases d with
       | struct fds =>
         simp only [jY,TK.struct.injEq] at hk
         obtain ⟨ys,n',hn',rfl,hcl,hyl,hfd⟩:=DataW.trod_struct hu h
         injection hn' with hn'
         subst hn'
         by_cases ht:zf C.tab 0 fs = some r.size
         ·have key : ∀ (l:List Field) (p:Nat),zf C.tab p (l.map fun f=>(f.offset,f.type)) = some r.size → (∀ f,f ∈ l → ∃ y,DataW.trod enc C.P w 0 sp held n f.type ((cs.drop f.offset).take (C.P.cellsOf f.type)) = some y ∧ ∀ m,m ∈ y.1.weights C.P f.type → m ≤ W) →
            ∃ xs,AllM (ze w) noPlaces (cs.drop p) xs ∧ JC (xP C.tab W n) (l.map fun f=>(f.offset,f.type)) xs:=by
           intro l
           induction l with
           | nil =>
             intro p hp _
             simp only [List.map_nil,zf,Option.some.injEq] at hp
             refine ⟨[],?_,rfl⟩
             rw [List.drop_eq_nil_of_le (by rw [hcl,vO hr];omega)]
             exact AllM.nil
           | cons f l ih =>
             intro p hp hall
             simp only [List.map_cons,zf] at hp
             split at hp
             ·rename_i rf hrf
              split at hp
              ·rename_i hoff
               obtain ⟨y,hy,hyw⟩:=hall f (List.mem_cons_self ..)
               obtain ⟨a,ha1,ha2⟩:=Yo W C n f.type _ y hy hyw
               obtain ⟨b,hb1,hb2⟩:=ih _ hp (fun g hg=>hall g (List.mem_cons_of_mem _ hg))
               refine ⟨a ++ b,?_,a,b,rfl,ha2,hb2⟩
               rw [hoff,vO (C.ok _ _ hrf)] at ha1
               have:=AllM.app ha1 hb1
               rw [← List.drop_drop,List.take_append_drop] at this
               exact this
              ·cases hp
             ·cases hp
          obtain ⟨xs,h1,h2⟩:=key fds.toList 0 (by rw [← hk];exact ht) (by
           intro f hf
           obtain ⟨j,hj⟩:=List.mem_iff_getElem?.1 hf
           have hj' : fds[j]? = some f:=by simpa using hj
           have h3:=hfd j f hj'
           have hjl:j < ys.length:=by rw [hyl];exact (Array.getElem?_eq_some_iff.1 hj').1
           rw [List.getElem?_eq_getElem hjl] at h3
           refine ⟨_,h3,fun m hm=>hw m ?_⟩
           simp only [DataW.weights,hu]
           exact DataW.weights_mem_each (j:=j) (t:=f.type) (d:=ys[j].1) (by simp [hj]) (by simp [List.getElem?_eq_getElem hjl]) m hm)
          refine ⟨xs,by simpa using h1,?_⟩
          simp only [xP,hl,hkk]
          intro _
          rw [hk];exact h2
         ·exact junk (by simp [xP,hl,hkk,ht])
       | _=>simp only [jY,reduceCtorEq] at hk
     | pointer e=>exact junk (by simp [xP,hl,hkk])
     | array a b=>exact junk (by simp [xP,hl,hkk])
     | map a b=>exact junk (by simp [xP,hl,hkk])
     | other=>exact junk (by simp [xP,hl,hkk])
end
def Yr (tab:List (Nat × TRec)) (W:Nat) (t:Nat) (y:AV):Prop:=match ju tab t with
 | none=>True
 | some r=>if r.agg = true then ∃ n xs,y = .agg xs ∧ xP tab W n t xs else ∃ n,xP tab W n t [y]
def JB (tab:List (Nat × TRec)) (W:Nat):List Nat → List AV → Prop
 | [],ys=>ys = []
 | t :: ts,ys => ∃ y l,ys = y :: l ∧ Yr tab W t y ∧ JB tab W ts l
section
variable {H:Type} {enc:TypeId × Value → H} {w:World} {sp:Nat → Bool} {held:Bool}
theorem KT (W:Nat) (C:Cx) {t:Nat} {v:Value} {d:DataW H} {ps:List MemPlace} {b0:Nat} {rch:Reach} (hv:Value.okWide C.P w rch b0 t v) (h:DataW.Trod enc C.P w 0 sp held t v d ps)
  (hw : ∀ m,m ∈ d.weights C.P t → m ≤ W) : ∃ y,M (ze w) noPlaces v y ∧ Yr C.tab W t y:=by
 obtain ⟨n,h⟩:=h
 obtain ⟨xs,h1,h2⟩:=Yo W C n t _ _ h hw
 cases hl:ju C.tab t with
 | none=>exact ⟨.junk,.junk _ v,by simp [Yr,hl]⟩
 | some r =>
   obtain ⟨dd,inf,z,hu,_,_,_,hag,_⟩:=jc (C.ok t r hl)
   by_cases hr:r.agg = true
   ·have hagg : ∃ cs,v = .agg cs:=by
     rw [hr] at hag
     cases dd<;>simp [J9] at hag
     all_goals (simp only [Value.okWide,hu] at hv;obtain ⟨cs,rfl,_⟩:=hv;exact ⟨cs,rfl⟩)
    obtain ⟨cs,rfl⟩:=hagg
    refine ⟨.agg xs,?_,?_⟩
    ·have:=M.agg (F:=ze w) noPlaces cs.toList xs h1.1 h1.2
     simpa using this
    ·simp only [Yr,hl,hr,if_true]
     exact ⟨n,xs,rfl,h2⟩
   ·have hcells:v.cells.toList = [v]:=by
     have hr' : r.agg = false:=by simpa using hr
     rw [hr'] at hag
     cases v with
     | agg cs=>cases dd<;>simp [J9] at hag<;>simp [Value.okWide,hu,Cell.okWide,Cell.ok] at hv
     | _=>rfl
    rw [hcells] at h1
    obtain ⟨hlen,hm⟩:=h1
    match xs,hlen,hm,h2 with
    | [y],_,hm,h2 =>
      refine ⟨y,hm 0 v y rfl rfl,?_⟩
      simp only [Yr,hl,hr,if_false]
      exact ⟨n,h2⟩
theorem ZO (W:Nat) (C:Cx) {b0:Nat} {rch:Reach} : ∀ (ts:List TypeId) (vs:List Value) (ds:List (DataW H)) (ps:List MemPlace),DataW.TrodAll enc C.P w 0 sp held ts vs ds ps →
  (∀ (j:Nat) t v,ts[j]? = some t → vs[j]? = some v → Value.okWide C.P w rch b0 t v) → (∀ m,m ∈ DataW.weightsEach C.P ts ds → m ≤ W) → ∃ ys,AllM (ze w) noPlaces vs ys ∧ JB C.tab W ts ys
 | [],vs,ds,ps,h,_,_=>by
   obtain ⟨rfl,rfl,rfl⟩:=trodAll_nil h
   exact ⟨[],AllM.nil,rfl⟩
 | t :: ts,vs,ds,ps,h,hok,hw=>by
   obtain ⟨v,vs',d,ds',p,q,rfl,rfl,rfl,h0,hr⟩:=trodAll_cons h
   obtain ⟨y,h1,h2⟩:=KT W C (hok 0 t v rfl rfl) h0 (fun m hm=>hw m (by simp only [DataW.weightsEach,List.mem_append];exact .inl hm))
   obtain ⟨ys,h3,h4⟩:=ZO W C ts vs' ds' q hr (fun j t v ht hv=>hok (j + 1) t v (by simpa using ht) (by simpa using hv)) (fun m hm=>hw m (by simp only [DataW.weightsEach,List.mem_append];exact .inr hm))
   exact ⟨y :: ys,AllM.cons h1 h3,y,ys,rfl,h2,h4⟩
theorem XH (W:Nat) (C:Cx) {f:FuncId} {ts:List TypeId} {vs:List Value} {ds:List (DataW H)} {ps:List MemPlace} {b0:Nat} {rch:Reach} (hT:DataW.TrodAll enc C.P w 0 (fun _=>true) true ts vs ds ps)
  (hok : ∀ (j:Nat) t v,ts[j]? = some t → vs[j]? = some v → Value.okWide C.P w rch b0 t v) (hw : ∀ m,m ∈ DataW.weightsEach C.P ts ds → m ≤ W) (hl:laidOutB C.P = true)
  (hr:ts.all (fun t=>C.P.readableRec t && decide (t < C.P.types.size)) = true) (law : ∀ ys,JB C.tab W ts ys → zb C.P f ys (.v (.bool true))) (htab : ∀ b p,yZ b = some p → ∃ cs e fr,p cs ∧ w.heap[b]? = some (.cells cs e fr):=by intro b cs h;cases h) :
  Calls C.P f vs.toArray w fun e w'=>e = .returned (.bool true) ∧ Below w.heap.size w w' ∧ DataW.TrodAll enc C.P w' 0 (fun b=>decide (b < w.heap.size)) true ts vs ds ps:=by
 obtain ⟨ys,hm,hy⟩:=ZO W C ts vs ds ps hT hok hw
 let B:Base := { w0:=w,F0:=ze w,ρ0:=noPlaces,O0:=fun _=>False,N:=vs.length,tab:=htab }
 have hGa:Ga B (· < ([]:List HB).length) (fun i=>ys.getD i .junk) (fun n=>([]:List HB).getD n .dead) ⟨vs.toArray,[]⟩ w:=by
  refine ⟨rfl,by simp [B],ze w,noPlaces,?_,fun i=>?_⟩
  ·exact { kept:=⟨rfl,rfl,rfl,Nat.le_refl _,fun _ _ _=>rfl⟩,agree:=fun b o h=>h,grow:=Still.le_refl _,fresh:=fun b hb => .inl hb,names:=Places.le_refl _,dom:=fun n hn=>absurd rfl hn,own:=fun n=>by simp [OwnAt],new:=fun n b c hn=>by simp [HB.isOwn] at hn,sep:=fun n m b c c' _ hn=>by simp [HB.isOwn] at hn }
  ·show M (ze w) noPlaces _ (ys.getD i .junk)
   cases hyi:ys[i]? with
   | none=>rw [List.getD_eq_getElem?_getD,hyi];exact .junk _ _
   | some y =>
     rw [List.getD_eq_getElem?_getD,hyi]
     have hi:i < vs.length:=by rw [hm.1];exact (List.getElem?_eq_some_iff.1 hyi).1
     have hv:vs[i]? = some vs[i]:=List.getElem?_eq_getElem hi
     simp only [Array.getD_eq_getD_getElem?,List.getElem?_toArray,hv,Option.getD_some]
     exact hm.2 i _ y hv hyi
 refine (law ys hy B vs w hm.1 rfl hGa).mono fun e w' ⟨v,he,_,_,F,ρ,hp,ht⟩=>?_
 have hv:v = .bool true:=by
  have:=ht 0
  simp only [one,if_true] at this
  exact this.v_inv.1
 have hb:Below w.heap.size w w':=⟨hp.kept.os,hp.kept.tape,hp.kept.output,hp.kept.size,fun b hb=>hp.kept.block b hb (fun h=>h)⟩
 exact ⟨by rw [he,hv],hb,QX hl hb ts vs ds ps hr hT⟩
end
end Go.Ab
