import Derived.Test.YtiljlcgmcmjcoaaGreatDoorMz14
import Derived.Test.YtiljlcgmcmjcoaaGreatDoorMz6
import Derived.Shelf.Strings.FuncGrows
import Derived.Test.YtiljlcgmcmjcoaaGreatDoorMz12
import Derived.Test.YtiljlcgmcmjcoaaGreatDoorMz7
set_option linter.unusedSimpArgs false
set_option linter.unnecessarySimpa false
set_option linter.unusedVariables false
set_option maxHeartbeats 1000000
namespace Go.Proofs.YtiljlcgmcmjcoaaGreatDoor
open Go.Ab Go.RowKit Go.Shelf
set_option maxRecDepth 10000
def Jv (n : Nat) : Bool := decide (97 ≤ n) && decide (n ≤ 122) || decide (65 ≤ n) && decide (n ≤ 90) || decide (48 ≤ n) && decide (n ≤ 57) || decide (n = 45)
def Yj (c : UInt8) : Bool := Jv c.toNat
def vD (s : qB) : Bool := decide (1 ≤ s.length) && decide (s.length ≤ 20) && s.all Yj
def qcZ : Go.Shelf.Ren := ⟨fun | 15 => 146 | 20 => 172 | n => n, fun | 0 => 0 | 3 => 3 | 4 => 4 | 9 => 9 | 21 => 21 | 23 => 187 | n => n, fun | n => n⟩
theorem qhf : LaysGw.n15 Tryz.prog qcZ := {
  mixed := by kernel_rfl
  f15 := Tryz.func146.trans (congrArg some (by kernel_rfl))
  f20 := Tryz.func172.trans (congrArg some (by kernel_rfl))
  t0 := Tryz.underlying0
  a0 := Tryz.isAgg0
  z0 := Tryz.sizeOf0
  v0 := Tryz.zeroValue0
  i0 := by kernel_rfl
  t3 := Tryz.underlying3
  a3 := Tryz.isAgg3
  z3 := Tryz.sizeOf3
  v3 := Tryz.zeroValue3
  i3 := by kernel_rfl
  t4 := Tryz.underlying4
  a4 := Tryz.isAgg4
  z4 := Tryz.sizeOf4
  v4 := Tryz.zeroValue4
  i4 := by kernel_rfl
  t9 := Tryz.underlying9
  a9 := Tryz.isAgg9
  z9 := Tryz.sizeOf9
  v9 := Tryz.zeroValue9
  i9 := by kernel_rfl
  t21 := Tryz.underlying21
  a21 := Tryz.isAgg21
  z21 := Tryz.sizeOf21
  v21 := Tryz.zeroValue21
  i21 := by kernel_rfl
  t23 := Tryz.underlying187
  a23 := Tryz.isAgg187
  z23 := Tryz.sizeOf187
  v23 := Tryz.zeroValue187
  i23 := by kernel_rfl }
theorem WB (p : Nat → Bool) (g : FuncId) (fn : Func) (hg : Tryz.prog.funcs[g]? = some fn) (hb : fn.body.isNone = false) (hn : (fn.name == "runtime.NumGoroutine") = false) (cap : List AV) (hcap : AV.pure.pureL cap = true) (hc : ∀ x : Nat, x ≤ 1114111 → jY C.P g (.v (.int .i32 (x : Int)) :: cap) (.v (.bool (p x)))) (s : qB) :
    jY C.P 146 [.v (str s), .clo (.func g) [] cap] (.v (.int .i64 (Lib.idxFunc p true ⟨s.toArray⟩))) := by
  refine qcK (by simp [AV.pure, AV.pure.pureL, hcap]) rfl fun F w vs hF hT hm => ?_
  obtain ⟨hl, hm⟩ := hm
  match vs, hl, hm with
  | [v0, v1], _, hm =>
    have h0 := (hm 0 v0 _ rfl rfl).v_inv.1
    obtain ⟨fs, us, hv, hfs, hus⟩ := (hm 1 v1 _ rfl rfl).clo_inv
    obtain rfl : fs = [] := List.eq_nil_of_length_eq_zero hfs.1
    subst h0; subst hv
    refine Any.strings_IndexFunc_grows qhf g us.toArray (Yl hg hb hn) p ⟨s.toArray⟩ w fun W x hx hbel => ?_
    have hAll : AllM F noPlaces (.int .i32 (x : Int) :: us) (.v (.int .i32 (x : Int)) :: cap) := AllM.cons (.v _ _ rfl) hus
    have : Calls Tryz.prog g (Value.int .i32 (x : Int) :: us).toArray W _ := qcE (hc x hx) (w := W) (fun b o hb => by
      have h0 := hF b o hb
      rw [hbel.block b (Array.getElem?_eq_some_iff.1 h0).1]; exact h0) hT hAll
    simpa [encR] using this
theorem qeA (s : qB) : decide (Lib.idxFunc (fun x => !Jv x) true ⟨s.toArray⟩ < 0) = s.all Yj := by
  have hk : ∀ n, Jv n = true → n < 128 := fun n h => by simp [Jv] at h; omega
  have step : ∀ (pos : Nat) (h : pos < s.length), (Yj (s[pos]) = true → Utf8.decode ⟨s.toArray⟩ pos = (s[pos].toNat, 1)) ∧ (Yj (s[pos]) = false → Jv (Utf8.decode ⟨s.toArray⟩ pos).1 = false) := by
    intro pos h
    have hget : ((ByteArray.mk s.toArray).get! (pos + 0)) = s[pos] := by
      simp [ByteArray.get!, h]
    constructor
    · intro hb
      have : s[pos].toNat < 128 := hk _ hb
      unfold Utf8.decode
      simp only [hget]
      rw [if_pos this]
    · intro hb
      by_cases h128 : s[pos].toNat < 128
      · unfold Utf8.decode
        simp only [hget]
        rw [if_pos h128]
        exact hb
      · cases hd : Jv (Utf8.decode ⟨s.toArray⟩ pos).1 with
        | false => rfl
        | true =>
          have h1 := hk _ hd
          exfalso
          unfold Utf8.decode at h1
          simp only [hget] at h1
          rw [if_neg h128] at h1
          simp only [Utf8.runeError] at h1
          (repeat' split at h1) <;> simp_all <;> omega
  have main : ∀ (f pos : Nat), s.length ≤ pos + f → decide (Lib.idxFuncFrom (fun x => !Jv x) true ⟨s.toArray⟩ f pos < 0) = (s.drop pos).all Yj := by
    intro f
    induction f with
    | zero =>
      intro pos hp
      rw [List.drop_eq_nil_of_le (by omega)]
      simp [Lib.idxFuncFrom]
    | succ f ih =>
      intro pos hp
      unfold Lib.idxFuncFrom
      by_cases h : pos < s.length
      · rw [if_pos (by exact h), List.drop_eq_getElem_cons h, List.all_cons]
        cases hb : Yj s[pos] with
        | true =>
          have hd := (step pos h).1 hb
          have hb' : Jv s[pos].toNat = true := hb
          rw [hd]
          simp only [hb', Bool.not_true, Bool.false_eq_true, if_false, Bool.true_and]
          exact ih (pos + 1) (by omega)
        | false =>
          have hd := (step pos h).2 hb
          simp only [hd, Bool.not_false, if_true, Bool.false_and]
          simp
      · rw [if_neg (by exact h), List.drop_eq_nil_of_le (by omega)]
        simp
  exact main s.length 0 (by omega)
attribute [local irreducible] Awp jV q9 qJ Red qy Go.Ab.Fin ql Rz yQ qA qG ResOk jC q6 jH qT
theorem qe8 (n : Nat) : jY C.P 145 [.v (.int .i32 (n : Int))] (.v (.bool (Jv n))) := by
  refine qa Tryz.func145 rfl _ Tryz.ntmps145 (Nat.le_of_ble_eq_true rfl) _ Tryz.results145 0 rfl rfl ?_
  repeat' (first | refine qe ?_ | fail | ((first | refine qc ?_ ?_ | refine qb ?_ ?_ | refine xsC ?_ ?_); all_goals (intro hc; have hp := hc; try simp at hp; try (exfalso; omega))) | refine qw ?_ ?_)
  all_goals (apply jA; rfl; rw [Bool.eq_iff_iff]; simp [Jv]; try omega)
theorem qeo (n : Nat) : jY C.P 147 [.v (.int .i32 (n : Int)), .fp [[.clo (.func 145) [] []]] 0 0] (.v (.bool (!Jv n))) := by
  have h1 := qe8 n
  refine qa Tryz.func147 rfl _ Tryz.ntmps147 (Nat.le_of_ble_eq_true rfl) _ Tryz.results147 0 rfl rfl ?_
  repeat' (first | refine qe ?_ | (first | (refine vM Tryz.func145 (h1 ..) ?_)) | ((first | refine xsC ?_ ?_); all_goals (intro hc; have hp := hc; try simp at hp; try (exfalso; omega))) | refine qw ?_ ?_)
  all_goals (apply jA; rfl; rfl)
theorem X7 (s : qB) : jY C.P 118 [.v (str s)] (.v (.bool (vD s))) := by
  have hi := WB (fun x => !Jv x) 147 _ Tryz.func147 rfl rfl [.fp [[.clo (.func 145) [] []]] 0 0] rfl (fun x _ => qeo x) s
  have hk := qeA s
  generalize Lib.idxFunc (fun x => !Jv x) true ⟨s.toArray⟩ = I at *
  refine qa Tryz.func118 rfl _ Tryz.ntmps118 (Nat.le_of_ble_eq_true rfl) _ Tryz.results118 0 rfl rfl ?_
  (repeat apply j0); apply jm; (repeat' (first | apply jL | refine zc ?_ | refine zd ?_ | refine za ?_ | refine Qa ?_ | refine ze ?_ | refine QL ?_ | refine wI ?_ | refine vH ?_ | (first | fail) | refine xl ?_ | refine x7 ?_ | refine xX ?_ | refine xb ?_ | refine y9 ?_ | refine zn ?_ | refine zr ?_ | refine x3 ?_ | refine x6 ?_ | ((first | refine qc ?_ ?_ | refine qb ?_ ?_); all_goals (intro hc; have hp := hc; try simp at hp; try (exfalso; omega))))); show Awp _ _ _ _ _
  (repeat apply j0); apply jm; (repeat' (first | apply jL | refine zc ?_ | refine zd ?_ | refine za ?_ | refine Qa ?_ | refine ze ?_ | refine QL ?_ | refine wI ?_ | refine vH ?_ | (first | fail) | refine xl ?_ | refine x7 ?_ | refine xX ?_ | refine xb ?_ | refine y9 ?_ | refine zn ?_ | refine zr ?_ | refine x3 ?_ | refine x6 ?_ | ((first | refine qc ?_ ?_ | refine qb ?_ ?_); all_goals (intro hc; have hp := hc; try simp at hp; try (exfalso; omega))))); show Awp _ _ _ _ _
  refine kf 3 0 ?_
  repeat' (first | refine qe ?_ | (first | refine xsF Tryz.func146 (hi ..) ?_) | ((first | refine qc ?_ ?_ | refine qb ?_ ?_ | refine xsC ?_ ?_); all_goals (intro hc; have hp := hc; try simp at hp; try (exfalso; omega))) | refine qw ?_ ?_)
  all_goals try (exfalso; omega)
  all_goals (apply jA; rfl; rw [Bool.eq_iff_iff]; simp only [vD, ← hk]; have h1 : s.length = 0 ↔ s = [] := List.length_eq_zero_iff; clear hk hi; by_cases h3 : s = [] <;> first | (exfalso; contradiction) | (simp [h3]; done) | (have h4 : s.length ≠ 0 := fun e => h3 (h1.1 e); simp; omega))
theorem qeq (s : qB) (hs : s.length ≤ 4000000000) : jY C.P 96 [.v (str s)] (.v (.bool (vD s))) := by
  refine qa Tryz.func96 rfl _ Tryz.ntmps96 (Nat.le_of_ble_eq_true rfl) _ Tryz.results96 0 rfl rfl ?_
  repeat' (first | refine qe ?_ | fail | ((first | refine qc ?_ ?_ | refine qb ?_ ?_ | refine xsC ?_ ?_); all_goals (intro hc; have hp := hc; try simp at hp; try (exfalso; omega))) | refine qw ?_ ?_)
  (refine Awp.red (qh (ts := [(0, .v (str s)), (3, .v (.int .i64 ((0 : Nat) : Int)))]) ?_) ?_; ((repeat (first | exact qd | refine qi ?_ | refine qR ?_ ?_))))
  refine qu (fun n σ => ∃ i : Nat, i ≤ s.length ∧ n = s.length - i ∧ (∀ c, c ∈ s.take i → Yj c = true) ∧ σ = ⟨[(0, .v (str s)), (3, .v (.int .i64 (i : Int)))], [], C.nh⟩) s.length ⟨0, Nat.zero_le _, rfl, (by simp), rfl⟩ ?_
  rintro n σ ⟨i, hi, rfl, hsofar, rfl⟩
  by_cases hlt : i < s.length
  · have hr : s[i]? = some s[i] := List.getElem?_eq_getElem hlt
    have hnx := qK (p := fun c => Yj c = true) hlt hsofar
    have hk : Yj s[i] = Jv s[i].toNat := rfl
    have hbad : Yj s[i] = false → vD s = false := fun h => by
      have : s.all Yj = false := by rw [List.all_eq_false]; exact ⟨s[i], List.getElem_mem _, by simp [h]⟩
      simp [vD, this]
    generalize Yj s[i] = K at *
    generalize s[i] = c at *
    repeat' (first | refine qe ?_ | fail | ((first | refine qc ?_ ?_ | refine qb ?_ ?_ | refine xsC ?_ ?_); all_goals (intro hc; have hp := hc; try simp at hp; try (exfalso; omega))) | refine qw ?_ ?_)
    all_goals try (exfalso; omega)
    all_goals first
      | (apply jA; rfl; exact (hbad (by rw [hk]; simp only [Jv]; simp; omega)).symm)
      | (refine ⟨s.length - (i + 1), _, by omega, qh (ts := [(0, .v (str s)), (3, .v (.int .i64 ((i + 1 : Nat) : Int)))]) ?_, i + 1, by omega, rfl, (hnx (by rw [hk]; simp only [Jv]; simp; omega)), rfl⟩; ((repeat (first | exact qd | refine qi ?_ | refine qR ?_ ?_))))
  · obtain rfl : i = s.length := by omega
    rw [List.take_length] at hsofar
    have hall : s.all Yj = true := List.all_eq_true.2 hsofar
    repeat' (first | refine qe ?_ | fail | ((first | refine qc ?_ ?_ | refine qb ?_ ?_ | refine xsC ?_ ?_); all_goals (intro hc; have hp := hc; try simp at hp; try (exfalso; omega))) | refine qw ?_ ?_)
    all_goals try (exfalso; omega)
    all_goals (apply jA; rfl; rw [Bool.eq_iff_iff]; simp only [vD, hall]; simp; try omega)
end Go.Proofs.YtiljlcgmcmjcoaaGreatDoor
set_option linter.unusedSimpArgs false
set_option linter.unnecessarySimpa false
set_option linter.unusedVariables false
namespace Go.Proofs.YtiljlcgmcmjcoaaGreatDoor
open Go.Op
structure Com where
  num : Int
  key : qB
  chs : List Chg
  deriving DecidableEq
structure Jou where
  base : List Ent
  first : Int
  coms : List Com
  deriving DecidableEq
def vP (n : Int) (c : Com) : Int := if ¬ c.num = n then 4 else if 1000000 < c.num then 3 else if vD c.key = false ∨ c.chs = [] then 1 else 0
def yB : Int → List Ent → List Com → List Ent × Int
  | _, t, [] => (t, 0)
  | n, t, c :: l => if ¬ vP n c = 0 then ([], vP n c) else if ¬ (vb c.num t c.chs).2.2 = 0 then ([], (vb c.num t c.chs).2.2) else yB (n + 1) (vb c.num t c.chs).1 l
def Yq : List Ent → List Com → List (List Ent)
  | _, [] => []
  | t, c :: l => (vb c.num t c.chs).1 :: Yq (vb c.num t c.chs).1 l
def zE (l : List Com) : Bool := decide ((l.map Com.key).Nodup)
def xH (j : Jou) : Int :=
  if ¬ jx j.base = 0 then jx j.base else if j.first < 1 ∨ 1000000 < j.first then 3 else if 30 < j.coms.length then 2
  else if ¬ (yB j.first j.base j.coms).2 = 0 then (yB j.first j.base j.coms).2 else if zE j.coms = true then 0 else 6
def vf (j : Jou) : List Ent := (yB j.first j.base j.coms).1
theorem V0 {v : Int} (hv : xW v = true) : ∀ {l : List Chg} {t : List Ent} {n : Nat}, Right t → (XY v t l n).2.2 = 0 → Right (XY v t l n).1
  | [], t, n, h, _ => h
  | c :: l, t, n, h, hz => by
    unfold XY at hz ⊢
    by_cases hr : zA t c v = 0
    · rw [if_pos hr] at hz ⊢
      exact V0 hv (qbM h hv hr) hz
    · rw [if_neg hr] at hz
      exact absurd hz hr
theorem Vp {v : Int} {t : List Ent} {l : List Chg} (h : Right t) : vb v t l = qbG t l v := by
  rw [qfP, if_neg (by rw [zL.2 h]; simp)]
theorem kS {v : Int} {t : List Ent} {l : List Chg} (h : Right t) (hz : (vb v t l).2.2 = 0) : Right (vb v t l).1 := by
  rw [Vp h] at hz ⊢
  unfold qbG at hz ⊢
  split at hz
  · exact absurd hz (by decide)
  · split at hz
    · exact absurd hz (by decide)
    · rename_i h1 h2
      rw [if_neg h1, if_neg h2]
      cases l with
      | nil => exact h
      | cons c l =>
        refine V0 ?_ h hz
        cases hv : xW v with
        | true => rfl
        | false => exact absurd ⟨hv, by simp⟩ h2
theorem XG : ∀ {l : List Com} {n : Int} {t : List Ent}, Right t → (yB n t l).2 = 0 → Right (yB n t l).1
  | [], _, _, h, _ => h
  | c :: l, n, t, h, hz => by
    unfold yB at hz ⊢
    split at hz
    · rename_i h1; exact absurd hz h1
    · split at hz
      · rename_i h1 h2; exact absurd hz h2
      · rename_i h1 h2
        rw [if_neg h1, if_neg h2]
        exact XG (kS h (by simpa using h2)) hz
theorem w9 {n : Int} {t : List Ent} {c : Com} {l : List Com} (hz : (yB n t (c :: l)).2 = 0) : vP n c = 0 ∧ (vb c.num t c.chs).2.2 = 0 ∧ yB n t (c :: l) = yB (n + 1) (vb c.num t c.chs).1 l := by
  unfold yB at hz
  split at hz
  · rename_i h1; exact absurd hz h1
  · split at hz
    · rename_i h1 h2; exact absurd hz h2
    · rename_i h1 h2
      refine ⟨by simpa using h1, by simpa using h2, ?_⟩
      rw [yB, if_neg h1, if_neg h2]
theorem wB {n : Int} {c : Com} (h : vP n c = 0) : c.num = n ∧ n ≤ 1000000 ∧ vD c.key = true ∧ ¬ c.chs = [] := by
  unfold vP at h
  split at h
  · exact absurd h (by decide)
  · split at h
    · exact absurd h (by decide)
    · split at h
      · exact absurd h (by decide)
      · rename_i h1 h2 h3
        have h1 : c.num = n := by simpa using h1
        refine ⟨h1, by omega, ?_, fun e => h3 (.inr e)⟩
        cases hk : vD c.key with
        | true => rfl
        | false => exact absurd (.inl hk) h3
theorem Vt {n : Int} {t : List Ent} {l : List Com} {i : Nat} (h : i < l.length) : yB n t (l.drop i) = if ¬ vP n l[i] = 0 then ([], vP n l[i]) else if ¬ (vb l[i].num t l[i].chs).2.2 = 0 then ([], (vb l[i].num t l[i].chs).2.2) else yB (n + 1) (vb l[i].num t l[i].chs).1 (l.drop (i + 1)) := by
  rw [List.drop_eq_getElem_cons h]; rfl
theorem qaZ {t : List Ent} {l : List Com} {i : Nat} (h : i < l.length) : Yq t (l.drop i) = (vb l[i].num t l[i].chs).1 :: Yq (vb l[i].num t l[i].chs).1 (l.drop (i + 1)) := by
  rw [List.drop_eq_getElem_cons h]; rfl
theorem Z3 : ∀ {a b : List Com} {n : Int} {t : List Ent}, (yB n t a).2 = 0 → yB n t (a ++ b) = yB (n + a.length) (yB n t a).1 b
  | [], b, n, t, _ => by simp [yB]
  | c :: a, b, n, t, hz => by
    obtain ⟨h1, h2, h3⟩ := w9 hz
    rw [h3] at hz ⊢
    have : (c :: a) ++ b = c :: (a ++ b) := rfl
    rw [this, yB, if_neg (by simp [h1]), if_neg (by simp [h2]), Z3 hz]
    congr 1
    simp; omega
theorem Vg {v : Int} {t : List Ent} {l : List Chg} (h : Right t) (hz : (vb v t l).2.2 = 0) : l.length ≤ 20 := by
  rw [Vp h] at hz
  unfold qbG at hz
  split at hz
  · exact absurd hz (by decide)
  · omega
theorem kG : ∀ {l : List Com} {n : Int} {t : List Ent}, Right t → (yB n t l).2 = 0 → ∀ c, c ∈ l → c.chs.length ≤ 20
  | c :: l, n, t, h, hz, d, hd => by
    obtain ⟨h1, h2, h3⟩ := w9 hz
    rw [h3] at hz
    rcases List.mem_cons.1 hd with rfl | hd
    · exact Vg h h2
    · exact kG (kS h h2) hz d hd
structure JRight (j : Jou) : Prop where
  base : Right j.base
  lo : 1 ≤ j.first
  hi : j.first ≤ 1000000
  len : j.coms.length ≤ 30
  run : (yB j.first j.base j.coms).2 = 0
  keys : (j.coms.map Com.key).Nodup
theorem y7 {j : Jou} : xH j = 0 ↔ JRight j := by
  unfold xH
  constructor
  · intro h
    split at h
    · rename_i h1; exact absurd h h1
    · split at h
      · exact absurd h (by decide)
      · split at h
        · exact absurd h (by decide)
        · split at h
          · rename_i h1; exact absurd h h1
          · split at h
            · rename_i h1 h2 h3 h4 h5
              exact ⟨zL.1 (by simpa using h1), by omega, by omega, by omega, by simpa using h4, of_decide_eq_true h5⟩
            · exact absurd h (by decide)
  · intro h
    rw [if_neg (by simp [zL.2 h.base]), if_neg (by have := h.lo; have := h.hi; omega), if_neg (by have := h.len; omega), if_neg (by simp [h.run]), if_pos (by simp [zE, h.keys])]
theorem JRight.now {j : Jou} (h : JRight j) : Right (vf j) := XG h.base h.run
def xN (j : Jou) : Int := j.first + j.coms.length - 1
def QJ : Jou := ⟨[], 0, []⟩
def isK (k : qB) (c : Com) : Bool := decide (c.key = k)
def yg (j : Jou) : Int := xN j + 1
theorem qaz (j : Jou) : yg j = j.first + j.coms.length := by unfold yg xN; omega
def kh (j : Jou) (c : Com) : Jou :=
  if 30 < j.coms.length + 1 then ⟨match j.coms with | [] => j.base | d :: _ => (vb j.first j.base d.chs).1, j.first + 1, (j.coms ++ [c]).drop 1⟩ else ⟨j.base, j.first, j.coms ++ [c]⟩
def vl (j : Jou) (key : qB) (l : List Chg) : Jou × Int × Int :=
  if vD key = false then (QJ, 0, 1) else match j.coms.find? (isK key) with
  | some c => (j, c.num, 0)
  | none => if l = [] then (QJ, 0, 1) else if 1000000 < yg j then (QJ, 0, 3) else if ¬ (vb (yg j) (vf j) l).2.2 = 0 then (QJ, 0, (vb (yg j) (vf j) l).2.2)
    else (kh j ⟨yg j, key, l⟩, yg j, 0)
def yO (j : Jou) (key : qB) (l : List Chg) : Jou × Int × Int := if ¬ xH j = 0 then (QJ, 0, xH j) else vl j key l
structure Pag where
  reset : Bool
  tree : List Ent
  coms : List Com
  cur : Int
  more : Bool
  deriving DecidableEq
def QI : Pag := ⟨false, [], [], 0, false⟩
def Wy (j : Jou) (cursor most : Int) : List Com := (j.coms.drop (cursor - j.first + 1).toNat).take most.toNat
def XL (j : Jou) (cursor most : Int) : Pag × Int :=
  if most < 1 ∨ 10 < most ∨ cursor < 0 then (QI, 3) else if xN j < cursor then (QI, 5) else if cursor < j.first - 1 then (⟨true, vf j, [], xN j, false⟩, 0)
  else (⟨false, [], Wy j cursor most, cursor + (Wy j cursor most).length, decide (cursor + (Wy j cursor most).length < xN j)⟩, 0)
def J8 (j : Jou) (cursor most : Int) : Pag × Int := if ¬ xH j = 0 then (QI, xH j) else XL j cursor most
theorem qfe {l : List Com} {k : qB} (h : l.find? (isK k) = none) : ¬ k ∈ l.map Com.key := fun hm => by
  obtain ⟨c, hc, rfl⟩ := List.mem_map.1 hm
  have := List.find?_eq_none.1 h c hc
  simp [isK] at this
theorem qbT {j : Jou} {key : qB} {l : List Chg} (h : JRight j) (hk : vD key = true) (hf : j.coms.find? (isK key) = none) (hl : ¬ l = []) (hn : yg j ≤ 1000000) (hz : (vb (yg j) (vf j) l).2.2 = 0) : JRight (kh j ⟨yg j, key, l⟩) := by
  have hrun : (yB j.first j.base (j.coms ++ [(⟨yg j, key, l⟩ : Com)])).2 = 0 := by
    rw [Z3 h.run]
    have h0 : vP (j.first + j.coms.length) ⟨yg j, key, l⟩ = 0 := by
      unfold vP
      rw [qaz] at hn ⊢
      rw [if_neg (by simp), if_neg (by simp; omega), if_neg (by simp [hk, hl])]
    rw [yB, if_neg (by simp [h0]), if_neg (by rw [show (yB j.first j.base j.coms).1 = vf j from rfl]; simp only; rw [hz]; simp)]
    rfl
  have hkeys : ((j.coms ++ [(⟨yg j, key, l⟩ : Com)]).map Com.key).Nodup := by
    rw [List.map_append, List.nodup_append]
    refine ⟨h.keys, by simp, fun a ha b hb => ?_⟩
    have hb : b = key := by simpa using hb
    subst hb
    rintro rfl
    exact qfe hf ha
  unfold kh
  split
  · rename_i h31
    cases hc : j.coms with
    | nil => rw [hc] at h31; simp at h31
    | cons d r =>
      rw [hc] at hrun hkeys
      obtain ⟨h1, h2, h3⟩ := w9 (c := d) (l := r ++ [⟨yg j, key, l⟩]) hrun
      rw [List.cons_append, h3] at hrun
      have hd := wB h1
      have hlen := h.len
      rw [hc] at hlen
      refine ⟨?_, ?_, ?_, ?_, ?_, ?_⟩
      · show Right (vb j.first j.base d.chs).1
        rw [← hd.1]; exact kS h.base h2
      · have := h.lo; show 1 ≤ j.first + 1; omega
      · show j.first + 1 ≤ 1000000
        have : yg j = j.first + (j.coms.length : Int) := qaz j
        rw [hc] at this
        simp at this; omega
      · simp at hlen ⊢; omega
      · show (yB (j.first + 1) (vb j.first j.base d.chs).1 (((d :: r) ++ [_]).drop 1)).2 = 0
        rw [List.cons_append, List.drop_succ_cons, List.drop_zero]
        rw [← hd.1]
        rw [← hd.1] at hrun
        exact hrun
      · rw [List.cons_append, List.drop_succ_cons, List.drop_zero]
        rw [List.cons_append, List.map_cons, List.nodup_cons] at hkeys
        exact hkeys.2
  · refine ⟨h.base, h.lo, h.hi, ?_, hrun, hkeys⟩
    simp; omega
end Go.Proofs.YtiljlcgmcmjcoaaGreatDoor
set_option linter.unusedSimpArgs false
set_option linter.unusedVariables false
namespace Go.Proofs.YtiljlcgmcmjcoaaGreatDoor
open Go.Ab Go.RowKit
def Com.row (c : Com) : List AV := [.v (.int .i64 c.num), .v (str c.key), vh c.chs]
def Qx (l : List Com) : AV := .sl false (l.map Com.row)
def Jou.row (j : Jou) : List AV := [qq j.base, .v (.int .i64 j.first), Qx j.coms]
def Pag.row (p : Pag) : List AV := [.v (.bool p.reset), qq p.tree, Qx p.coms, .v (.int .i64 p.cur), .v (.bool p.more)]
structure Com.small (c : Com) : Prop where
  key : c.key.length ≤ 1000000000
  chs : CBig c.chs
structure MBig (l : List Com) : Prop where
  each : ∀ c, c ∈ l → c.small
  len : l.length ≤ 1000000000
structure JBig (j : Jou) : Prop where
  base : EBig j.base
  coms : MBig j.coms
structure PBig (p : Pag) : Prop where
  tree : EBig p.tree
  coms : MBig p.coms
theorem qgd {n : Nat} {xs : List AV} (h : zx C.tab 1000000000 n 70 xs) : ∃ s : Com, xs = s.row ∧ s.small := by
  cases n with
  | zero => exact h.elim
  | succ n =>
    obtain ⟨_, _, rfl, h0, _, _, rfl, h1, _, _, rfl, h2, rfl⟩ := (show k9 C.tab 0 _ = some _ → XV (zx C.tab 1000000000 n) [(0, 3), (1, 9), (2, 38)] xs from h) rfl
    obtain ⟨a0, rfl, _⟩ := vv h0
    obtain ⟨a1, rfl, l1⟩ := zu h1
    obtain ⟨a2, rfl, l2⟩ := qeP h2
    exact ⟨⟨a0, a1, a2⟩, rfl, l1, l2⟩
theorem qeu {n : Nat} {xs : List AV} (h : zx C.tab 1000000000 n 42 xs) : ∃ t : List Com, xs = [Qx t] ∧ MBig t := by
  cases n with
  | zero => exact h.elim
  | succ n =>
    obtain ⟨rows, he, hb, hr⟩ := (show (3 : Nat) ≠ 0 → ∃ rows, xs = [AV.sl false rows] ∧ rows.length * 48 ≤ 1000000000 ∧ ∀ row, row ∈ rows → zx C.tab 1000000000 n 70 row from h) (by decide)
    obtain ⟨l, rfl, hl⟩ := kO (f := Com.row) (ok := Com.small) (fun row hrow => qgd (hr row hrow))
    refine ⟨l, he, hl, ?_⟩
    simp at hb; omega
theorem qgc {n : Nat} {xs : List AV} (h : zx C.tab 1000000000 n 60 xs) : ∃ j : Jou, xs = j.row ∧ JBig j := by
  cases n with
  | zero => exact h.elim
  | succ n =>
    obtain ⟨_, _, rfl, h0, _, _, rfl, h1, _, _, rfl, h2, rfl⟩ := (show k9 C.tab 0 _ = some _ → XV (zx C.tab 1000000000 n) [(0, 41), (1, 3), (2, 42)] xs from h) rfl
    obtain ⟨a0, rfl, l0⟩ := qeX h0
    obtain ⟨a1, rfl, _⟩ := vv h1
    obtain ⟨a2, rfl, l2⟩ := qeu h2
    exact ⟨⟨a0, a1, a2⟩, rfl, l0, l2⟩
end Go.Proofs.YtiljlcgmcmjcoaaGreatDoor
set_option linter.unusedSimpArgs false
set_option linter.unnecessarySimpa false
set_option linter.unusedVariables false
namespace Go.Proofs.YtiljlcgmcmjcoaaGreatDoor
theorem qdf : JBig QJ := ⟨⟨by simp [QJ], by simp [QJ]⟩, ⟨by simp [QJ], by simp [QJ]⟩⟩
theorem MBig.sub {a b : List Com} (h : MBig b) (hs : ∀ c, c ∈ a → c ∈ b) (hl : a.length ≤ b.length) : MBig a := ⟨fun c hc => h.each c (hs c hc), Nat.le_trans hl h.len⟩
theorem qdR {j : Jou} {c : Com} (h : MBig j.coms) (hr : JRight (kh j c)) (hc : c.small) : JBig (kh j c) := by
  have hl := hr.len
  refine ⟨hr.base.big, ⟨fun d hd => ?_, by omega⟩⟩
  have hm : d ∈ j.coms ++ [c] := by
    unfold kh at hd
    split at hd
    · exact List.mem_of_mem_drop hd
    · exact hd
  rcases List.mem_append.1 hm with hm | hm
  · exact h.each d hm
  · rw [List.mem_singleton.1 hm]; exact hc
theorem J3 {j : Jou} {key : qB} {l : List Chg} : (∃ e, ¬ e = 0 ∧ yO j key l = (QJ, 0, e)) ∨ (JRight j ∧ vD key = true ∧ ((∃ c, j.coms.find? (isK key) = some c ∧ yO j key l = (j, c.num, 0)) ∨ (j.coms.find? (isK key) = none ∧ JRight (kh j ⟨yg j, key, l⟩) ∧ yO j key l = (kh j ⟨yg j, key, l⟩, yg j, 0)))) := by
  unfold yO
  by_cases hz : xH j = 0
  · rw [if_neg (by simp [hz])]
    have hJ := y7.1 hz
    unfold vl
    cases hk : vD key with
    | false => exact .inl ⟨1, by decide, by rw [if_pos rfl]⟩
    | true =>
      rw [if_neg (by decide)]
      cases hf : j.coms.find? (isK key) with
      | some c => exact .inr ⟨hJ, (by first | rfl | trivial), .inl ⟨c, (by first | rfl | trivial), rfl⟩⟩
      | none =>
        simp only
        by_cases h1 : l = []
        · exact .inl ⟨1, by decide, by rw [if_pos h1]⟩
        · rw [if_neg h1]
          by_cases h2 : 1000000 < yg j
          · exact .inl ⟨3, by decide, by rw [if_pos h2]⟩
          · rw [if_neg h2]
            by_cases h3 : (vb (yg j) (vf j) l).2.2 = 0
            · rw [if_neg (by simp [h3])]
              exact .inr ⟨hJ, (by first | rfl | trivial), .inr ⟨(by first | rfl | trivial), qbT hJ hk hf h1 (by omega) h3, rfl⟩⟩
            · rw [if_pos h3]
              exact .inl ⟨_, h3, rfl⟩
  · rw [if_pos hz]
    exact .inl ⟨_, hz, rfl⟩
theorem qbe {j : Jou} {key : qB} {l : List Chg} (hb : JBig j) (hcb : CBig l) (hk : key.length ≤ 1000000000) : JBig (yO j key l).1 := by
  rcases J3 (j := j) (key := key) (l := l) with ⟨e, _, h⟩ | ⟨hJ, _, ⟨c, _, h⟩ | ⟨_, hR, h⟩⟩
  · rw [h]; exact qdf
  · rw [h]; exact hb
  · rw [h]; exact qdR hb.coms hR ⟨hk, hcb⟩
end Go.Proofs.YtiljlcgmcmjcoaaGreatDoor
