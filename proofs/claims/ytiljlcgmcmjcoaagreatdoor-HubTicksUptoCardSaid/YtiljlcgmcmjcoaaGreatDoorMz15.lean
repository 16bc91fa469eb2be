import Derived.Test.YtiljlcgmcmjcoaaGreatDoorMz14
import Derived.Test.YtiljlcgmcmjcoaaGreatDoorMz6
import Derived.Shelf.Strings.FuncGrows
import Derived.Test.YtiljlcgmcmjcoaaGreatDoorMz12
import Derived.Test.YtiljlcgmcmjcoaaGreatDoorMz7
set_option linter.unusedSimpArgs false
set_option linter.unnecessarySimpa false
set_option linter.unusedVariables false
set_option maxHeartbeats 1000000
namespace Go.Proofs.YtiljlcgmcmjcoaaGreatDoor
open Go.Ab Go.RowKit Go.Shelf
set_option maxRecDepth 10000
def JJ (n : Nat) : Bool := decide (97 ≤ n) && decide (n ≤ 122) || decide (65 ≤ n) && decide (n ≤ 90) || decide (48 ≤ n) && decide (n ≤ 57) || decide (n = 45)
def YN (c : UInt8) : Bool := JJ c.toNat
def vX (s : qC) : Bool := decide (1 ≤ s.length) && decide (s.length ≤ 20) && s.all YN
def qdY : Go.Shelf.Ren := ⟨fun | 15 => 146 | 20 => 172 | n => n, fun | 0 => 0 | 3 => 3 | 4 => 4 | 9 => 9 | 21 => 21 | 23 => 187 | n => n, fun | n => n⟩
theorem qhP : LaysGw.n15 Tryz.prog qdY := {
  mixed := by kernel_rfl
  f15 := Tryz.func146.trans (congrArg some (by kernel_rfl))
  f20 := Tryz.func172.trans (congrArg some (by kernel_rfl))
  t0 := Tryz.underlying0
  a0 := Tryz.isAgg0
  z0 := Tryz.sizeOf0
  v0 := Tryz.zeroValue0
  i0 := by kernel_rfl
  t3 := Tryz.underlying3
  a3 := Tryz.isAgg3
  z3 := Tryz.sizeOf3
  v3 := Tryz.zeroValue3
  i3 := by kernel_rfl
  t4 := Tryz.underlying4
  a4 := Tryz.isAgg4
  z4 := Tryz.sizeOf4
  v4 := Tryz.zeroValue4
  i4 := by kernel_rfl
  t9 := Tryz.underlying9
  a9 := Tryz.isAgg9
  z9 := Tryz.sizeOf9
  v9 := Tryz.zeroValue9
  i9 := by kernel_rfl
  t21 := Tryz.underlying21
  a21 := Tryz.isAgg21
  z21 := Tryz.sizeOf21
  v21 := Tryz.zeroValue21
  i21 := by kernel_rfl
  t23 := Tryz.underlying187
  a23 := Tryz.isAgg187
  z23 := Tryz.sizeOf187
  v23 := Tryz.zeroValue187
  i23 := by kernel_rfl }
theorem qaQ (p : Nat → Bool) (g : FuncId) (fn : Func) (hg : Tryz.prog.funcs[g]? = some fn) (hb : fn.body.isNone = false) (hn : (fn.name == "runtime.NumGoroutine") = false) (cap : List AV) (hcap : AV.pure.pureL cap = true) (hc : ∀ x : Nat, x ≤ 1114111 → jT C.P g (.v (.int .i32 (x : Int)) :: cap) (.v (.bool (p x)))) (s : qC) :
    jT C.P 146 [.v (str s), .clo (.func g) [] cap] (.v (.int .i64 (Lib.idxFunc p true ⟨s.toArray⟩))) := by
  refine qdA (by simp [AV.pure, AV.pure.pureL, hcap]) rfl fun F w vs hF hT hm => ?_
  obtain ⟨hl, hm⟩ := hm
  match vs, hl, hm with
  | [v0, v1], _, hm =>
    have h0 := (hm 0 v0 _ rfl rfl).v_inv.1
    obtain ⟨fs, us, hv, hfs, hus⟩ := (hm 1 v1 _ rfl rfl).clo_inv
    obtain rfl : fs = [] := List.eq_nil_of_length_eq_zero hfs.1
    subst h0; subst hv
    refine Any.strings_IndexFunc_grows qhP g us.toArray (YO hg hb hn) p ⟨s.toArray⟩ w fun W x hx hbel => ?_
    have hAll : AllM F noPlaces (.int .i32 (x : Int) :: us) (.v (.int .i32 (x : Int)) :: cap) := AllM.cons (.v _ _ rfl) hus
    have : Calls Tryz.prog g (Value.int .i32 (x : Int) :: us).toArray W _ := qd3 (hc x hx) (w := W) (fun b o hb => by
      have h0 := hF b o hb
      rw [hbel.block b (Array.getElem?_eq_some_iff.1 h0).1]; exact h0) hT hAll
    simpa [encR] using this
theorem qeA (s : qC) : decide (Lib.idxFunc (fun x => !JJ x) true ⟨s.toArray⟩ < 0) = s.all YN := by
  have hk : ∀ n, JJ n = true → n < 128 := fun n h => by simp [JJ] at h; omega
  have step : ∀ (pos : Nat) (h : pos < s.length), (YN (s[pos]) = true → Utf8.decode ⟨s.toArray⟩ pos = (s[pos].toNat, 1)) ∧ (YN (s[pos]) = false → JJ (Utf8.decode ⟨s.toArray⟩ pos).1 = false) := by
    intro pos h
    have hget : ((ByteArray.mk s.toArray).get! (pos + 0)) = s[pos] := by
      simp [ByteArray.get!, h]
    constructor
    · intro hb
      have : s[pos].toNat < 128 := hk _ hb
      unfold Utf8.decode
      simp only [hget]
      rw [if_pos this]
    · intro hb
      by_cases h128 : s[pos].toNat < 128
      · unfold Utf8.decode
        simp only [hget]
        rw [if_pos h128]
        exact hb
      · cases hd : JJ (Utf8.decode ⟨s.toArray⟩ pos).1 with
        | false => rfl
        | true =>
          have h1 := hk _ hd
          exfalso
          unfold Utf8.decode at h1
          simp only [hget] at h1
          rw [if_neg h128] at h1
          simp only [Utf8.runeError] at h1
          (repeat' split at h1) <;> simp_all <;> omega
  have main : ∀ (f pos : Nat), s.length ≤ pos + f → decide (Lib.idxFuncFrom (fun x => !JJ x) true ⟨s.toArray⟩ f pos < 0) = (s.drop pos).all YN := by
    intro f
    induction f with
    | zero =>
      intro pos hp
      rw [List.drop_eq_nil_of_le (by omega)]
      simp [Lib.idxFuncFrom]
    | succ f ih =>
      intro pos hp
      unfold Lib.idxFuncFrom
      by_cases h : pos < s.length
      · rw [if_pos (by exact h), List.drop_eq_getElem_cons h, List.all_cons]
        cases hb : YN s[pos] with
        | true =>
          have hd := (step pos h).1 hb
          have hb' : JJ s[pos].toNat = true := hb
          rw [hd]
          simp only [hb', Bool.not_true, Bool.false_eq_true, if_false, Bool.true_and]
          exact ih (pos + 1) (by omega)
        | false =>
          have hd := (step pos h).2 hb
          simp only [hd, Bool.not_false, if_true, Bool.false_and]
          simp
      · rw [if_neg (by exact h), List.drop_eq_nil_of_le (by omega)]
        simp
  exact main s.length 0 (by omega)
attribute [local irreducible] Awp jZ jg qJ Red qz Go.Ab.Fin qm Rz y0 qB qG ResOk jG q9 jK qV
theorem qeP (n : Nat) : jT C.P 145 [.v (.int .i32 (n : Int))] (.v (.bool (JJ n))) := by
  refine qa Tryz.func145 rfl _ Tryz.ntmps145 (Nat.le_of_ble_eq_true rfl) _ Tryz.results145 0 rfl rfl ?_
  repeat' (first | refine qe ?_ | fail | ((first | refine qb ?_ ?_ | refine qc ?_ ?_ | refine xsC ?_ ?_); all_goals (intro hc; have hp := hc; try simp at hp; try (exfalso; omega))) | refine qv ?_ ?_)
  all_goals (apply qU; rfl; rw [Bool.eq_iff_iff]; simp [JJ]; try omega)
theorem qeU (n : Nat) : jT C.P 147 [.v (.int .i32 (n : Int)), .fp [[.clo (.func 145) [] []]] 0 0] (.v (.bool (!JJ n))) := by
  have h1 := qeP n
  refine qa Tryz.func147 rfl _ Tryz.ntmps147 (Nat.le_of_ble_eq_true rfl) _ Tryz.results147 0 rfl rfl ?_
  repeat' (first | refine qe ?_ | (first | (refine v6 Tryz.func145 (h1 ..) ?_)) | ((first | refine xsC ?_ ?_); all_goals (intro hc; have hp := hc; try simp at hp; try (exfalso; omega))) | refine qv ?_ ?_)
  all_goals (apply qU; rfl; rfl)
theorem Vg (s : qC) : jT C.P 118 [.v (str s)] (.v (.bool (vX s))) := by
  have hi := qaQ (fun x => !JJ x) 147 _ Tryz.func147 rfl rfl [.fp [[.clo (.func 145) [] []]] 0 0] rfl (fun x _ => qeU x) s
  have hk := qeA s
  generalize Lib.idxFunc (fun x => !JJ x) true ⟨s.toArray⟩ = I at *
  refine qa Tryz.func118 rfl _ Tryz.ntmps118 (Nat.le_of_ble_eq_true rfl) _ Tryz.results118 0 rfl rfl ?_
  (repeat apply jP); apply jd; (repeat' (first | apply jz | refine vD ?_ | refine vB ?_ | refine vC ?_ | refine kv ?_ | refine zj ?_ | refine QY ?_ | refine ko ?_ | refine vc ?_ | (first | fail) | refine yY ?_ | refine xi ?_ | refine xj ?_ | refine yE ?_ | refine yD ?_ | refine vn ?_ | refine vu ?_ | refine xh ?_ | refine xn ?_ | ((first | refine qb ?_ ?_ | refine qc ?_ ?_); all_goals (intro hc; have hp := hc; try simp at hp; try (exfalso; omega))))); show Awp _ _ _ _ _
  (repeat apply jP); apply jd; (repeat' (first | apply jz | refine vD ?_ | refine vB ?_ | refine vC ?_ | refine kv ?_ | refine zj ?_ | refine QY ?_ | refine ko ?_ | refine vc ?_ | (first | fail) | refine yY ?_ | refine xi ?_ | refine xj ?_ | refine yE ?_ | refine yD ?_ | refine vn ?_ | refine vu ?_ | refine xh ?_ | refine xn ?_ | ((first | refine qb ?_ ?_ | refine qc ?_ ?_); all_goals (intro hc; have hp := hc; try simp at hp; try (exfalso; omega))))); show Awp _ _ _ _ _
  refine zD 3 0 ?_
  repeat' (first | refine qe ?_ | (first | refine xsF Tryz.func146 (hi ..) ?_) | ((first | refine qb ?_ ?_ | refine qc ?_ ?_ | refine xsC ?_ ?_); all_goals (intro hc; have hp := hc; try simp at hp; try (exfalso; omega))) | refine qv ?_ ?_)
  all_goals try (exfalso; omega)
  all_goals (apply qU; rfl; rw [Bool.eq_iff_iff]; simp only [vX, ← hk]; have h1 : s.length = 0 ↔ s = [] := List.length_eq_zero_iff; clear hk hi; by_cases h3 : s = [] <;> first | (exfalso; contradiction) | (simp [h3]; done) | (have h4 : s.length ≠ 0 := fun e => h3 (h1.1 e); simp; omega))
theorem qen (s : qC) (hs : s.length ≤ 4000000000) : jT C.P 96 [.v (str s)] (.v (.bool (vX s))) := by
  refine qa Tryz.func96 rfl _ Tryz.ntmps96 (Nat.le_of_ble_eq_true rfl) _ Tryz.results96 0 rfl rfl ?_
  repeat' (first | refine qe ?_ | fail | ((first | refine qb ?_ ?_ | refine qc ?_ ?_ | refine xsC ?_ ?_); all_goals (intro hc; have hp := hc; try simp at hp; try (exfalso; omega))) | refine qv ?_ ?_)
  (refine Awp.red (qf (ts := [(0, .v (str s)), (3, .v (.int .i64 ((0 : Nat) : Int)))]) ?_) ?_; ((repeat (first | exact qd | refine qi ?_ | refine qL ?_ ?_))))
  refine qr (fun n σ => ∃ i : Nat, i ≤ s.length ∧ n = s.length - i ∧ (∀ c, c ∈ s.take i → YN c = true) ∧ σ = ⟨[(0, .v (str s)), (3, .v (.int .i64 (i : Int)))], [], C.nh⟩) s.length ⟨0, Nat.zero_le _, rfl, (by simp), rfl⟩ ?_
  rintro n σ ⟨i, hi, rfl, hsofar, rfl⟩
  by_cases hlt : i < s.length
  · have hr : s[i]? = some s[i] := List.getElem?_eq_getElem hlt
    have hnx := qK (p := fun c => YN c = true) hlt hsofar
    have hk : YN s[i] = JJ s[i].toNat := rfl
    have hbad : YN s[i] = false → vX s = false := fun h => by
      have : s.all YN = false := by rw [List.all_eq_false]; exact ⟨s[i], List.getElem_mem _, by simp [h]⟩
      simp [vX, this]
    generalize YN s[i] = K at *
    generalize s[i] = c at *
    repeat' (first | refine qe ?_ | fail | ((first | refine qb ?_ ?_ | refine qc ?_ ?_ | refine xsC ?_ ?_); all_goals (intro hc; have hp := hc; try simp at hp; try (exfalso; omega))) | refine qv ?_ ?_)
    all_goals try (exfalso; omega)
    all_goals first
      | (apply qU; rfl; exact (hbad (by rw [hk]; simp only [JJ]; simp; omega)).symm)
      | (refine ⟨s.length - (i + 1), _, by omega, qf (ts := [(0, .v (str s)), (3, .v (.int .i64 ((i + 1 : Nat) : Int)))]) ?_, i + 1, by omega, rfl, (hnx (by rw [hk]; simp only [JJ]; simp; omega)), rfl⟩; ((repeat (first | exact qd | refine qi ?_ | refine qL ?_ ?_))))
  · obtain rfl : i = s.length := by omega
    rw [List.take_length] at hsofar
    have hall : s.all YN = true := List.all_eq_true.2 hsofar
    repeat' (first | refine qe ?_ | fail | ((first | refine qb ?_ ?_ | refine qc ?_ ?_ | refine xsC ?_ ?_); all_goals (intro hc; have hp := hc; try simp at hp; try (exfalso; omega))) | refine qv ?_ ?_)
    all_goals try (exfalso; omega)
    all_goals (apply qU; rfl; rw [Bool.eq_iff_iff]; simp only [vX, hall]; simp; try omega)
end Go.Proofs.YtiljlcgmcmjcoaaGreatDoor
set_option linter.unusedSimpArgs false
set_option linter.unnecessarySimpa false
set_option linter.unusedVariables false
namespace Go.Proofs.YtiljlcgmcmjcoaaGreatDoor
open Go.Op
structure Com where
  num : Int
  key : qC
  chs : List Chg
  deriving DecidableEq
structure Jou where
  base : List Ent
  first : Int
  coms : List Com
  deriving DecidableEq
def ze (n : Int) (c : Com) : Int := if ¬ c.num = n then 4 else if 1000000 < c.num then 3 else if vX c.key = false ∨ c.chs = [] then 1 else 0
def yz : Int → List Ent → List Com → List Ent × Int
  | _, t, [] => (t, 0)
  | n, t, c :: l => if ¬ ze n c = 0 then ([], ze n c) else if ¬ (vq c.num t c.chs).2.2 = 0 then ([], (vq c.num t c.chs).2.2) else yz (n + 1) (vq c.num t c.chs).1 l
def zR : List Ent → List Com → List (List Ent)
  | _, [] => []
  | t, c :: l => (vq c.num t c.chs).1 :: zR (vq c.num t c.chs).1 l
def z1 (l : List Com) : Bool := decide ((l.map Com.key).Nodup)
def xX (j : Jou) : Int :=
  if ¬ jC j.base = 0 then jC j.base else if j.first < 1 ∨ 1000000 < j.first then 3 else if 30 < j.coms.length then 2
  else if ¬ (yz j.first j.base j.coms).2 = 0 then (yz j.first j.base j.coms).2 else if z1 j.coms = true then 0 else 6
def xV (j : Jou) : List Ent := (yz j.first j.base j.coms).1
theorem Zs {v : Int} (hv : vd v = true) : ∀ {l : List Chg} {t : List Ent} {n : Nat}, Right t → (Va v t l n).2.2 = 0 → Right (Va v t l n).1
  | [], t, n, h, _ => h
  | c :: l, t, n, h, hz => by
    unfold Va at hz ⊢
    by_cases hr : zQ t c v = 0
    · rw [if_pos hr] at hz ⊢
      exact Zs hv (qcj h hv hr) hz
    · rw [if_neg hr] at hz
      exact absurd hz hr
theorem Zo {v : Int} {t : List Ent} {l : List Chg} (h : Right t) : vq v t l = qbi t l v := by
  rw [qgW, if_neg (by rw [zZ.2 h]; simp)]
theorem k9 {v : Int} {t : List Ent} {l : List Chg} (h : Right t) (hz : (vq v t l).2.2 = 0) : Right (vq v t l).1 := by
  rw [Zo h] at hz ⊢
  unfold qbi at hz ⊢
  split at hz
  · exact absurd hz (by decide)
  · split at hz
    · exact absurd hz (by decide)
    · rename_i h1 h2
      rw [if_neg h1, if_neg h2]
      cases l with
      | nil => exact h
      | cons c l =>
        refine Zs ?_ h hz
        cases hv : vd v with
        | true => rfl
        | false => exact absurd ⟨hv, by simp⟩ h2
theorem XQ : ∀ {l : List Com} {n : Int} {t : List Ent}, Right t → (yz n t l).2 = 0 → Right (yz n t l).1
  | [], _, _, h, _ => h
  | c :: l, n, t, h, hz => by
    unfold yz at hz ⊢
    split at hz
    · rename_i h1; exact absurd hz h1
    · split at hz
      · rename_i h1 h2; exact absurd hz h2
      · rename_i h1 h2
        rw [if_neg h1, if_neg h2]
        exact XQ (k9 h (by simpa using h2)) hz
theorem wo {n : Int} {t : List Ent} {c : Com} {l : List Com} (hz : (yz n t (c :: l)).2 = 0) : ze n c = 0 ∧ (vq c.num t c.chs).2.2 = 0 ∧ yz n t (c :: l) = yz (n + 1) (vq c.num t c.chs).1 l := by
  unfold yz at hz
  split at hz
  · rename_i h1; exact absurd hz h1
  · split at hz
    · rename_i h1 h2; exact absurd hz h2
    · rename_i h1 h2
      refine ⟨by simpa using h1, by simpa using h2, ?_⟩
      rw [yz, if_neg h1, if_neg h2]
theorem wR {n : Int} {c : Com} (h : ze n c = 0) : c.num = n ∧ n ≤ 1000000 ∧ vX c.key = true ∧ ¬ c.chs = [] := by
  unfold ze at h
  split at h
  · exact absurd h (by decide)
  · split at h
    · exact absurd h (by decide)
    · split at h
      · exact absurd h (by decide)
      · rename_i h1 h2 h3
        have h1 : c.num = n := by simpa using h1
        refine ⟨h1, by omega, ?_, fun e => h3 (.inr e)⟩
        cases hk : vX c.key with
        | true => rfl
        | false => exact absurd (.inl hk) h3
theorem Za {n : Int} {t : List Ent} {l : List Com} {i : Nat} (h : i < l.length) : yz n t (l.drop i) = if ¬ ze n l[i] = 0 then ([], ze n l[i]) else if ¬ (vq l[i].num t l[i].chs).2.2 = 0 then ([], (vq l[i].num t l[i].chs).2.2) else yz (n + 1) (vq l[i].num t l[i].chs).1 (l.drop (i + 1)) := by
  rw [List.drop_eq_getElem_cons h]; rfl
theorem qbs {t : List Ent} {l : List Com} {i : Nat} (h : i < l.length) : zR t (l.drop i) = (vq l[i].num t l[i].chs).1 :: zR (vq l[i].num t l[i].chs).1 (l.drop (i + 1)) := by
  rw [List.drop_eq_getElem_cons h]; rfl
theorem Kc : ∀ (l : List Com) (t : List Ent), (zR t l).length = l.length
  | [], _ => rfl
  | c :: l, t => by simp [zR, Kc l]
theorem Zy : ∀ {l : List Com} {n : Int} {t : List Ent}, (yz n t l).2 = 0 → (t :: zR t l).getLast (by simp) = (yz n t l).1
  | [], _, _, _ => rfl
  | c :: l, n, t, hz => by
    obtain ⟨h1, h2, h3⟩ := wo hz
    rw [h3] at hz ⊢
    rw [← Zy hz]
    rfl
theorem Kf : ∀ {a b : List Com} {n : Int} {t : List Ent}, (yz n t a).2 = 0 → yz n t (a ++ b) = yz (n + a.length) (yz n t a).1 b
  | [], b, n, t, _ => by simp [yz]
  | c :: a, b, n, t, hz => by
    obtain ⟨h1, h2, h3⟩ := wo hz
    rw [h3] at hz ⊢
    have : (c :: a) ++ b = c :: (a ++ b) := rfl
    rw [this, yz, if_neg (by simp [h1]), if_neg (by simp [h2]), Kf hz]
    congr 1
    simp; omega
theorem VI {v : Int} {t : List Ent} {l : List Chg} (h : Right t) (hz : (vq v t l).2.2 = 0) : l.length ≤ 20 := by
  rw [Zo h] at hz
  unfold qbi at hz
  split at hz
  · exact absurd hz (by decide)
  · omega
theorem kQ : ∀ {l : List Com} {n : Int} {t : List Ent}, Right t → (yz n t l).2 = 0 → ∀ c, c ∈ l → c.chs.length ≤ 20
  | c :: l, n, t, h, hz, d, hd => by
    obtain ⟨h1, h2, h3⟩ := wo hz
    rw [h3] at hz
    rcases List.mem_cons.1 hd with rfl | hd
    · exact VI h h2
    · exact kQ (k9 h h2) hz d hd
structure JRight (j : Jou) : Prop where
  base : Right j.base
  lo : 1 ≤ j.first
  hi : j.first ≤ 1000000
  len : j.coms.length ≤ 30
  run : (yz j.first j.base j.coms).2 = 0
  keys : (j.coms.map Com.key).Nodup
theorem y5 {j : Jou} : xX j = 0 ↔ JRight j := by
  unfold xX
  constructor
  · intro h
    split at h
    · rename_i h1; exact absurd h h1
    · split at h
      · exact absurd h (by decide)
      · split at h
        · exact absurd h (by decide)
        · split at h
          · rename_i h1; exact absurd h h1
          · split at h
            · rename_i h1 h2 h3 h4 h5
              exact ⟨zZ.1 (by simpa using h1), by omega, by omega, by omega, by simpa using h4, of_decide_eq_true h5⟩
            · exact absurd h (by decide)
  · intro h
    rw [if_neg (by simp [zZ.2 h.base]), if_neg (by have := h.lo; have := h.hi; omega), if_neg (by have := h.len; omega), if_neg (by simp [h.run]), if_pos (by simp [z1, h.keys])]
theorem JRight.now {j : Jou} (h : JRight j) : Right (xV j) := XQ h.base h.run
def x5 (j : Jou) : Int := j.first + j.coms.length - 1
def QV : Jou := ⟨[], 0, []⟩
def isK (k : qC) (c : Com) : Bool := decide (c.key = k)
def ym (j : Jou) : Int := x5 j + 1
theorem WP (j : Jou) : ym j = j.first + j.coms.length := by unfold ym x5; omega
def kD (j : Jou) (c : Com) : Jou :=
  if 30 < j.coms.length + 1 then ⟨match j.coms with | [] => j.base | d :: _ => (vq j.first j.base d.chs).1, j.first + 1, (j.coms ++ [c]).drop 1⟩ else ⟨j.base, j.first, j.coms ++ [c]⟩
def vw (j : Jou) (key : qC) (l : List Chg) : Jou × Int × Int :=
  if vX key = false then (QV, 0, 1) else match j.coms.find? (isK key) with
  | some c => (j, c.num, 0)
  | none => if l = [] then (QV, 0, 1) else if 1000000 < ym j then (QV, 0, 3) else if ¬ (vq (ym j) (xV j) l).2.2 = 0 then (QV, 0, (vq (ym j) (xV j) l).2.2)
    else (kD j ⟨ym j, key, l⟩, ym j, 0)
def yV (j : Jou) (key : qC) (l : List Chg) : Jou × Int × Int := if ¬ xX j = 0 then (QV, 0, xX j) else vw j key l
structure Pag where
  reset : Bool
  tree : List Ent
  coms : List Com
  cur : Int
  more : Bool
  deriving DecidableEq
def Q3 : Pag := ⟨false, [], [], 0, false⟩
def qaF (j : Jou) (cursor most : Int) : List Com := (j.coms.drop (cursor - j.first + 1).toNat).take most.toNat
def X4 (j : Jou) (cursor most : Int) : Pag × Int :=
  if most < 1 ∨ 10 < most ∨ cursor < 0 then (Q3, 3) else if x5 j < cursor then (Q3, 5) else if cursor < j.first - 1 then (⟨true, xV j, [], x5 j, false⟩, 0)
  else (⟨false, [], qaF j cursor most, cursor + (qaF j cursor most).length, decide (cursor + (qaF j cursor most).length < x5 j)⟩, 0)
def YW (j : Jou) (cursor most : Int) : Pag × Int := if ¬ xX j = 0 then (Q3, xX j) else X4 j cursor most
theorem qe4 {l : List Com} {k : qC} (h : l.find? (isK k) = none) : ¬ k ∈ l.map Com.key := fun hm => by
  obtain ⟨c, hc, rfl⟩ := List.mem_map.1 hm
  have := List.find?_eq_none.1 h c hc
  simp [isK] at this
theorem qbp {j : Jou} {key : qC} {l : List Chg} (h : JRight j) (hk : vX key = true) (hf : j.coms.find? (isK key) = none) (hl : ¬ l = []) (hn : ym j ≤ 1000000) (hz : (vq (ym j) (xV j) l).2.2 = 0) : JRight (kD j ⟨ym j, key, l⟩) := by
  have hrun : (yz j.first j.base (j.coms ++ [(⟨ym j, key, l⟩ : Com)])).2 = 0 := by
    rw [Kf h.run]
    have h0 : ze (j.first + j.coms.length) ⟨ym j, key, l⟩ = 0 := by
      unfold ze
      rw [WP] at hn ⊢
      rw [if_neg (by simp), if_neg (by simp; omega), if_neg (by simp [hk, hl])]
    rw [yz, if_neg (by simp [h0]), if_neg (by rw [show (yz j.first j.base j.coms).1 = xV j from rfl]; simp only; rw [hz]; simp)]
    rfl
  have hkeys : ((j.coms ++ [(⟨ym j, key, l⟩ : Com)]).map Com.key).Nodup := by
    rw [List.map_append, List.nodup_append]
    refine ⟨h.keys, by simp, fun a ha b hb => ?_⟩
    have hb : b = key := by simpa using hb
    subst hb
    rintro rfl
    exact qe4 hf ha
  unfold kD
  split
  · rename_i h31
    cases hc : j.coms with
    | nil => rw [hc] at h31; simp at h31
    | cons d r =>
      rw [hc] at hrun hkeys
      obtain ⟨h1, h2, h3⟩ := wo (c := d) (l := r ++ [⟨ym j, key, l⟩]) hrun
      rw [List.cons_append, h3] at hrun
      have hd := wR h1
      have hlen := h.len
      rw [hc] at hlen
      refine ⟨?_, ?_, ?_, ?_, ?_, ?_⟩
      · show Right (vq j.first j.base d.chs).1
        rw [← hd.1]; exact k9 h.base h2
      · have := h.lo; show 1 ≤ j.first + 1; omega
      · show j.first + 1 ≤ 1000000
        have : ym j = j.first + (j.coms.length : Int) := WP j
        rw [hc] at this
        simp at this; omega
      · simp at hlen ⊢; omega
      · show (yz (j.first + 1) (vq j.first j.base d.chs).1 (((d :: r) ++ [_]).drop 1)).2 = 0
        rw [List.cons_append, List.drop_succ_cons, List.drop_zero]
        rw [← hd.1]
        rw [← hd.1] at hrun
        exact hrun
      · rw [List.cons_append, List.drop_succ_cons, List.drop_zero]
        rw [List.cons_append, List.map_cons, List.nodup_cons] at hkeys
        exact hkeys.2
  · refine ⟨h.base, h.lo, h.hi, ?_, hrun, hkeys⟩
    simp; omega
end Go.Proofs.YtiljlcgmcmjcoaaGreatDoor
set_option linter.unusedSimpArgs false
set_option linter.unusedVariables false
namespace Go.Proofs.YtiljlcgmcmjcoaaGreatDoor
open Go.Ab Go.RowKit
def Com.row (c : Com) : List AV := [.v (.int .i64 c.num), .v (str c.key), xo c.chs]
def zu (l : List Com) : AV := .sl false (l.map Com.row)
def Jou.row (j : Jou) : List AV := [qp j.base, .v (.int .i64 j.first), zu j.coms]
def Pag.row (p : Pag) : List AV := [.v (.bool p.reset), qp p.tree, zu p.coms, .v (.int .i64 p.cur), .v (.bool p.more)]
structure Com.small (c : Com) : Prop where
  key : c.key.length ≤ 1000000000
  chs : CBig c.chs
structure MBig (l : List Com) : Prop where
  each : ∀ c, c ∈ l → c.small
  len : l.length ≤ 1000000000
structure JBig (j : Jou) : Prop where
  base : EBig j.base
  coms : MBig j.coms
structure PBig (p : Pag) : Prop where
  tree : EBig p.tree
  coms : MBig p.coms
theorem qf1 {n : Nat} {xs : List AV} (h : zC C.tab 1000000000 n 70 xs) : ∃ s : Com, xs = s.row ∧ s.small := by
  cases n with
  | zero => exact h.elim
  | succ n =>
    obtain ⟨_, _, rfl, h0, _, _, rfl, h1, _, _, rfl, h2, rfl⟩ := (show ww C.tab 0 _ = some _ → Vb (zC C.tab 1000000000 n) [(0, 3), (1, 9), (2, 38)] xs from h) rfl
    obtain ⟨a0, rfl, _⟩ := vx h0
    obtain ⟨a1, rfl, l1⟩ := za h1
    obtain ⟨a2, rfl, l2⟩ := qeO h2
    exact ⟨⟨a0, a1, a2⟩, rfl, l1, l2⟩
theorem qep {n : Nat} {xs : List AV} (h : zC C.tab 1000000000 n 42 xs) : ∃ t : List Com, xs = [zu t] ∧ MBig t := by
  cases n with
  | zero => exact h.elim
  | succ n =>
    obtain ⟨rows, he, hb, hr⟩ := (show (3 : Nat) ≠ 0 → ∃ rows, xs = [AV.sl false rows] ∧ rows.length * 48 ≤ 1000000000 ∧ ∀ row, row ∈ rows → zC C.tab 1000000000 n 70 row from h) (by decide)
    obtain ⟨l, rfl, hl⟩ := wq (f := Com.row) (ok := Com.small) (fun row hrow => qf1 (hr row hrow))
    refine ⟨l, he, hl, ?_⟩
    simp at hb; omega
theorem qgd {n : Nat} {xs : List AV} (h : zC C.tab 1000000000 n 60 xs) : ∃ j : Jou, xs = j.row ∧ JBig j := by
  cases n with
  | zero => exact h.elim
  | succ n =>
    obtain ⟨_, _, rfl, h0, _, _, rfl, h1, _, _, rfl, h2, rfl⟩ := (show ww C.tab 0 _ = some _ → Vb (zC C.tab 1000000000 n) [(0, 41), (1, 3), (2, 42)] xs from h) rfl
    obtain ⟨a0, rfl, l0⟩ := qfE h0
    obtain ⟨a1, rfl, _⟩ := vx h1
    obtain ⟨a2, rfl, l2⟩ := qep h2
    exact ⟨⟨a0, a1, a2⟩, rfl, l0, l2⟩
end Go.Proofs.YtiljlcgmcmjcoaaGreatDoor
set_option linter.unusedSimpArgs false
set_option linter.unnecessarySimpa false
set_option linter.unusedVariables false
namespace Go.Proofs.YtiljlcgmcmjcoaaGreatDoor
theorem qed : JBig QV := ⟨⟨by simp [QV], by simp [QV]⟩, ⟨by simp [QV], by simp [QV]⟩⟩
theorem MBig.sub {a b : List Com} (h : MBig b) (hs : ∀ c, c ∈ a → c ∈ b) (hl : a.length ≤ b.length) : MBig a := ⟨fun c hc => h.each c (hs c hc), Nat.le_trans hl h.len⟩
theorem qfN {j : Jou} {c : Com} (h : MBig j.coms) (hr : JRight (kD j c)) (hc : c.small) : JBig (kD j c) := by
  have hl := hr.len
  refine ⟨hr.base.big, ⟨fun d hd => ?_, by omega⟩⟩
  have hm : d ∈ j.coms ++ [c] := by
    unfold kD at hd
    split at hd
    · exact List.mem_of_mem_drop hd
    · exact hd
  rcases List.mem_append.1 hm with hm | hm
  · exact h.each d hm
  · rw [List.mem_singleton.1 hm]; exact hc
theorem YQ {j : Jou} {key : qC} {l : List Chg} : (∃ e, ¬ e = 0 ∧ yV j key l = (QV, 0, e)) ∨ (JRight j ∧ vX key = true ∧ ((∃ c, j.coms.find? (isK key) = some c ∧ yV j key l = (j, c.num, 0)) ∨ (j.coms.find? (isK key) = none ∧ JRight (kD j ⟨ym j, key, l⟩) ∧ yV j key l = (kD j ⟨ym j, key, l⟩, ym j, 0)))) := by
  unfold yV
  by_cases hz : xX j = 0
  · rw [if_neg (by simp [hz])]
    have hJ := y5.1 hz
    unfold vw
    cases hk : vX key with
    | false => exact .inl ⟨1, by decide, by rw [if_pos rfl]⟩
    | true =>
      rw [if_neg (by decide)]
      cases hf : j.coms.find? (isK key) with
      | some c => exact .inr ⟨hJ, (by first | rfl | trivial), .inl ⟨c, (by first | rfl | trivial), rfl⟩⟩
      | none =>
        simp only
        by_cases h1 : l = []
        · exact .inl ⟨1, by decide, by rw [if_pos h1]⟩
        · rw [if_neg h1]
          by_cases h2 : 1000000 < ym j
          · exact .inl ⟨3, by decide, by rw [if_pos h2]⟩
          · rw [if_neg h2]
            by_cases h3 : (vq (ym j) (xV j) l).2.2 = 0
            · rw [if_neg (by simp [h3])]
              exact .inr ⟨hJ, (by first | rfl | trivial), .inr ⟨(by first | rfl | trivial), qbp hJ hk hf h1 (by omega) h3, rfl⟩⟩
            · rw [if_pos h3]
              exact .inl ⟨_, h3, rfl⟩
  · rw [if_pos hz]
    exact .inl ⟨_, hz, rfl⟩
theorem qcd {j : Jou} {key : qC} {l : List Chg} (hb : JBig j) (hcb : CBig l) (hk : key.length ≤ 1000000000) : JBig (yV j key l).1 := by
  rcases YQ (j := j) (key := key) (l := l) with ⟨e, _, h⟩ | ⟨hJ, _, ⟨c, _, h⟩ | ⟨_, hR, h⟩⟩
  · rw [h]; exact qed
  · rw [h]; exact hb
  · rw [h]; exact qfN hb.coms hR ⟨hk, hcb⟩
end Go.Proofs.YtiljlcgmcmjcoaaGreatDoor
