import Derived.Test.YtiljlcgmcmjcoaaGreatDoorMz12
import Derived.Test.YtiljlcgmcmjcoaaGreatDoorMz6
import Derived.Shelf.Strings.FuncGrows
import Derived.Test.YtiljlcgmcmjcoaaGreatDoorMz7
/- Keys: journal.IsKey and the reference's IsKey answer isKey. -/
set_option linter.unusedSimpArgs false
set_option linter.unnecessarySimpa false
set_option linter.unusedVariables false
set_option maxHeartbeats 1000000
namespace Go.Proofs.YtiljlcgmcmjcoaaGreatDoor
open Go.Ab Go.RowKit Go.Shelf
set_option maxRecDepth 10000

def keyN (n : Nat) : Bool := decide (97 ≤ n) && decide (n ≤ 122) || decide (65 ≤ n) && decide (n ≤ 90) || decide (48 ≤ n) && decide (n ≤ 57) || decide (n = 45)
def keyB (c : UInt8) : Bool := keyN c.toNat
def isKey (s : Str) : Bool := decide (1 ≤ s.length) && decide (s.length ≤ 20) && s.all keyB

def layGw_ren : Go.Shelf.Ren := ⟨fun | 15 => 146 | 20 => 172 | n => n, fun | 0 => 0 | 3 => 3 | 4 => 4 | 9 => 9 | 21 => 21 | 23 => 187 | n => n, fun | n => n⟩
theorem layGw : LaysGw.n15 Tryz.prog layGw_ren := {
  mixed := by kernel_rfl
  f15 := Tryz.func146.trans (congrArg some (by kernel_rfl))
  f20 := Tryz.func172.trans (congrArg some (by kernel_rfl))
  t0 := Tryz.underlying0
  a0 := Tryz.isAgg0
  z0 := Tryz.sizeOf0
  v0 := Tryz.zeroValue0
  i0 := by kernel_rfl
  t3 := Tryz.underlying3
  a3 := Tryz.isAgg3
  z3 := Tryz.sizeOf3
  v3 := Tryz.zeroValue3
  i3 := by kernel_rfl
  t4 := Tryz.underlying4
  a4 := Tryz.isAgg4
  z4 := Tryz.sizeOf4
  v4 := Tryz.zeroValue4
  i4 := by kernel_rfl
  t9 := Tryz.underlying9
  a9 := Tryz.isAgg9
  z9 := Tryz.sizeOf9
  v9 := Tryz.zeroValue9
  i9 := by kernel_rfl
  t21 := Tryz.underlying21
  a21 := Tryz.isAgg21
  z21 := Tryz.sizeOf21
  v21 := Tryz.zeroValue21
  i21 := by kernel_rfl
  t23 := Tryz.underlying187
  a23 := Tryz.isAgg187
  z23 := Tryz.sizeOf187
  v23 := Tryz.zeroValue187
  i23 := by kernel_rfl }
theorem a_indexFunc (p : Nat → Bool) (g : FuncId) (fn : Func) (hg : Tryz.prog.funcs[g]? = some fn) (hb : fn.body.isNone = false) (hn : (fn.name == "runtime.NumGoroutine") = false) (cap : List AV) (hcap : AV.pure.pureL cap = true) (hc : ∀ x : Nat, x ≤ 1114111 → AFn C.P g (.v (.int .i32 (x : Int)) :: cap) (.v (.bool (p x)))) (s : Str) :
    AFn C.P 146 [.v (str s), .clo (.func g) [] cap] (.v (.int .i64 (Lib.idxFunc p true ⟨s.toArray⟩))) := by
  refine afn_world (by simp [AV.pure, AV.pure.pureL, hcap]) rfl fun F w vs hF hT hm => ?_
  obtain ⟨hl, hm⟩ := hm
  match vs, hl, hm with
  | [v0, v1], _, hm =>
    have h0 := (hm 0 v0 _ rfl rfl).v_inv.1
    obtain ⟨fs, us, hv, hfs, hus⟩ := (hm 1 v1 _ rfl rfl).clo_inv
    obtain rfl : fs = [] := List.eq_nil_of_length_eq_zero hfs.1
    subst h0; subst hv
    refine Any.strings_IndexFunc_grows layGw g us.toArray (callFunc_run hg hb hn) p ⟨s.toArray⟩ w fun W x hx hbel => ?_
    have hAll : AllM F noPlaces (.int .i32 (x : Int) :: us) (.v (.int .i32 (x : Int)) :: cap) := AllM.cons (.v _ _ rfl) hus
    have : Calls Tryz.prog g (Value.int .i32 (x : Int) :: us).toArray W _ := calls_afn (hc x hx) (w := W) (fun b o hb => by
      have h0 := hF b o hb
      rw [hbel.block b (Array.getElem?_eq_some_iff.1 h0).1]; exact h0) hT hAll
    simpa [encR] using this
/-- What the search says, plain. -/
theorem idx_keys (s : Str) : decide (Lib.idxFunc (fun x => !keyN x) true ⟨s.toArray⟩ < 0) = s.all keyB := by
  have hk : ∀ n, keyN n = true → n < 128 := fun n h => by simp [keyN] at h; omega
  have step : ∀ (pos : Nat) (h : pos < s.length), (keyB (s[pos]) = true → Utf8.decode ⟨s.toArray⟩ pos = (s[pos].toNat, 1)) ∧ (keyB (s[pos]) = false → keyN (Utf8.decode ⟨s.toArray⟩ pos).1 = false) := by
    intro pos h
    have hget : ((ByteArray.mk s.toArray).get! (pos + 0)) = s[pos] := by
      simp [ByteArray.get!, h]
    constructor
    · intro hb
      have : s[pos].toNat < 128 := hk _ hb
      unfold Utf8.decode
      simp only [hget]
      rw [if_pos this]
    · intro hb
      by_cases h128 : s[pos].toNat < 128
      · unfold Utf8.decode
        simp only [hget]
        rw [if_pos h128]
        exact hb
      · cases hd : keyN (Utf8.decode ⟨s.toArray⟩ pos).1 with
        | false => rfl
        | true =>
          have h1 := hk _ hd
          exfalso
          unfold Utf8.decode at h1
          simp only [hget] at h1
          rw [if_neg h128] at h1
          simp only [Utf8.runeError] at h1
          (repeat' split at h1) <;> simp_all <;> omega
  have main : ∀ (f pos : Nat), s.length ≤ pos + f → decide (Lib.idxFuncFrom (fun x => !keyN x) true ⟨s.toArray⟩ f pos < 0) = (s.drop pos).all keyB := by
    intro f
    induction f with
    | zero =>
      intro pos hp
      rw [List.drop_eq_nil_of_le (by omega)]
      simp [Lib.idxFuncFrom]
    | succ f ih =>
      intro pos hp
      unfold Lib.idxFuncFrom
      by_cases h : pos < s.length
      · rw [if_pos (by exact h), List.drop_eq_getElem_cons h, List.all_cons]
        cases hb : keyB s[pos] with
        | true =>
          have hd := (step pos h).1 hb
          have hb' : keyN s[pos].toNat = true := hb
          rw [hd]
          simp only [hb', Bool.not_true, Bool.false_eq_true, if_false, Bool.true_and]
          exact ih (pos + 1) (by omega)
        | false =>
          have hd := (step pos h).2 hb
          simp only [hd, Bool.not_false, if_true, Bool.false_and]
          simp
      · rw [if_neg (by exact h), List.drop_eq_nil_of_le (by omega)]
        simp
  exact main s.length 0 (by omega)
attribute [local irreducible] Awp Ops OpsX Wanted Red ExOk Go.Ab.Fin ACall Rz RzL RzRows Enters ResOk RenV RenVL ArgV ArgVL
theorem a_isKey1 (n : Nat) : AFn C.P 145 [.v (.int .i32 (n : Int))] (.v (.bool (keyN n))) := by
  refine acall_intro Tryz.func145 rfl _ Tryz.ntmps145 (Nat.le_of_ble_eq_true rfl) _ Tryz.results145 0 rfl rfl ?_
  repeat' (first | refine walk ?_ | fail | ((first | (apply ops_split_t; rfl; rfl; exact nle rfl) | (apply ops_split_f; rfl; rfl; exact nle rfl) | (apply awp_cond; rfl)); all_goals (intro hc; have hp := hc; first | (simp at hp; done) | ((try simp at hp); first | (exfalso; omega) | skip))) | (apply awp_cond_any; rfl))
  all_goals (apply fin_bool; rfl; rw [Bool.eq_iff_iff]; simp [keyN]; try omega)
theorem a_isKey2 (n : Nat) : AFn C.P 147 [.v (.int .i32 (n : Int)), .fp [[.clo (.func 145) [] []]] 0 0] (.v (.bool (!keyN n))) := by
  have h1 := a_isKey1 n
  refine acall_intro Tryz.func147 rfl _ Tryz.ntmps147 (Nat.le_of_ble_eq_true rfl) _ Tryz.results147 0 rfl rfl ?_
  repeat' (first | refine walk ?_ | (first | (refine o_callv Tryz.func145 (h1 ..) ?_)) | ((first | (apply awp_cond; rfl)); all_goals (intro hc; have hp := hc; first | (simp at hp; done) | ((try simp at hp); first | (exfalso; omega) | skip))) | (apply awp_cond_any; rfl))
  all_goals (apply fin_bool; rfl; rfl)
theorem a_isKey (s : Str) : AFn C.P 118 [.v (str s)] (.v (.bool (isKey s))) := by
  have hi := a_indexFunc (fun x => !keyN x) 147 _ Tryz.func147 rfl rfl [.fp [[.clo (.func 145) [] []]] 0 0] rfl (fun x _ => a_isKey2 x) s
  have hk := idx_keys s
  generalize Lib.idxFunc (fun x => !keyN x) true ⟨s.toArray⟩ = I at *
  refine acall_intro Tryz.func118 rfl _ Tryz.ntmps118 (Nat.le_of_ble_eq_true rfl) _ Tryz.results118 0 rfl rfl ?_
  (repeat apply awp_seq); apply awp_region; (repeat' (first | apply ops_free | refine o_mv ?_ | refine o_as ?_ | refine o_bi ?_ | refine o_pk ?_ | refine o_ln ?_ | refine o_fn ?_ | refine o_al ?_ | refine o_sto ?_ | (first | fail) | refine r_nil ?_ | refine g_on_t ?_ | refine g_on_f ?_ | refine g_off_t ?_ | refine g_off_f ?_ | refine g_unw ?_ | refine g_yes ?_ | refine g_no_t ?_ | refine g_no_f ?_ | ((first | refine g_sp_t ?_ ?_ | refine g_sp_f ?_ ?_); all_goals (intro hc; have hp := hc; first | (simp at hp; done) | ((try simp at hp); first | (exfalso; omega) | skip))))); show Awp _ _ _ _ _
  (repeat apply awp_seq); apply awp_region; (repeat' (first | apply ops_free | refine o_mv ?_ | refine o_as ?_ | refine o_bi ?_ | refine o_pk ?_ | refine o_ln ?_ | refine o_fn ?_ | refine o_al ?_ | refine o_sto ?_ | (first | fail) | refine r_nil ?_ | refine g_on_t ?_ | refine g_on_f ?_ | refine g_off_t ?_ | refine g_off_f ?_ | refine g_unw ?_ | refine g_yes ?_ | refine g_no_t ?_ | refine g_no_f ?_ | ((first | refine g_sp_t ?_ ?_ | refine g_sp_f ?_ ?_); all_goals (intro hc; have hp := hc; first | (simp at hp; done) | ((try simp at hp); first | (exfalso; omega) | skip))))); show Awp _ _ _ _ _
  (refine Awp.red (red_freeze 0 rfl ?_) ?_; (intro row hrow; obtain rfl := List.mem_singleton.1 hrow; rfl); refine Awp.red (red_fp 3 0 rfl rfl (Nat.le_of_ble_eq_true rfl)) ?_)
  repeat' (first | refine walk ?_ | (first | (apply to_call Tryz.func146 rfl rfl; intro hIsFn; refine o_callf hIsFn (hi ..) ?_; skip)) | ((first | (apply ops_split_t; rfl; rfl; exact nle rfl) | (apply ops_split_f; rfl; rfl; exact nle rfl) | (apply awp_cond; rfl)); all_goals (intro hc; have hp := hc; first | (simp at hp; done) | ((try simp at hp); first | (exfalso; omega) | skip))) | (apply awp_cond_any; rfl))
  all_goals try (exfalso; omega)
  all_goals (apply fin_bool; rfl; rw [Bool.eq_iff_iff]; simp only [isKey, ← hk]; have h1 : s.length = 0 ↔ s = [] := List.length_eq_zero_iff; clear hk hi; by_cases h3 : s = [] <;> first | (exfalso; contradiction) | (simp [h3]; done) | (have h4 : s.length ≠ 0 := fun e => h3 (h1.1 e); simp; omega))
end Go.Proofs.YtiljlcgmcmjcoaaGreatDoor

/- Journals, plain. -/
set_option linter.unusedSimpArgs false
set_option linter.unnecessarySimpa false
set_option linter.unusedVariables false
namespace Go.Proofs.YtiljlcgmcmjcoaaGreatDoor
open Go.Op

structure Com where
  num : Int
  key : Str
  chs : List Chg
  deriving DecidableEq
structure Jou where
  base : List Ent
  first : Int
  coms : List Com
  deriving DecidableEq
/-- What is wrong with a commit by itself; n: the number that it must have. -/
def comErr (n : Int) (c : Com) : Int := if ¬ c.num = n then 4 else if 1000000 < c.num then 3 else if isKey c.key = false ∨ c.chs = [] then 1 else 0
/-- Commits, one after the other: the tree, the error. -/
def comsR : Int → List Ent → List Com → List Ent × Int
  | _, t, [] => (t, 0)
  | n, t, c :: l => if ¬ comErr n c = 0 then ([], comErr n c) else if ¬ (allT c.num t c.chs).2.2 = 0 then ([], (allT c.num t c.chs).2.2) else comsR (n + 1) (allT c.num t c.chs).1 l
def keysOk (l : List Com) : Bool := decide ((l.map Com.key).Nodup)
def jouE (j : Jou) : Int :=
  if ¬ treeErr j.base = 0 then treeErr j.base else if j.first < 1 ∨ 1000000 < j.first then 3 else if 30 < j.coms.length then 2
  else if ¬ (comsR j.first j.base j.coms).2 = 0 then (comsR j.first j.base j.coms).2 else if keysOk j.coms = true then 0 else 6
def nowT (j : Jou) : List Ent := (comsR j.first j.base j.coms).1

theorem allR_right {v : Int} (hv : isVer v = true) : ∀ {l : List Chg} {t : List Ent} {n : Nat}, Right t → (allR v t l n).2.2 = 0 → Right (allR v t l n).1
  | [], t, n, h, _ => h
  | c :: l, t, n, h, hz => by
    unfold allR at hz ⊢
    by_cases hr : rawE t c v = 0
    · rw [if_pos hr] at hz ⊢
      exact allR_right hv (done_right h hv hr) hz
    · rw [if_neg hr] at hz
      exact absurd hz hr
theorem allT_eq2 {v : Int} {t : List Ent} {l : List Chg} (h : Right t) : allT v t l = allW t l v := by
  rw [allT_eq, if_neg (by rw [right_iff.2 h]; simp)]
theorem allT_right {v : Int} {t : List Ent} {l : List Chg} (h : Right t) (hz : (allT v t l).2.2 = 0) : Right (allT v t l).1 := by
  rw [allT_eq2 h] at hz ⊢
  unfold allW at hz ⊢
  split at hz
  · exact absurd hz (by decide)
  · split at hz
    · exact absurd hz (by decide)
    · rename_i h1 h2
      rw [if_neg h1, if_neg h2]
      cases l with
      | nil => exact h
      | cons c l =>
        refine allR_right ?_ h hz
        cases hv : isVer v with
        | true => rfl
        | false => exact absurd ⟨hv, by simp⟩ h2
theorem comsR_right : ∀ {l : List Com} {n : Int} {t : List Ent}, Right t → (comsR n t l).2 = 0 → Right (comsR n t l).1
  | [], _, _, h, _ => h
  | c :: l, n, t, h, hz => by
    unfold comsR at hz ⊢
    split at hz
    · rename_i h1; exact absurd hz h1
    · split at hz
      · rename_i h1 h2; exact absurd hz h2
      · rename_i h1 h2
        rw [if_neg h1, if_neg h2]
        exact comsR_right (allT_right h (by simpa using h2)) hz
theorem comsR_cons {n : Int} {t : List Ent} {c : Com} {l : List Com} (hz : (comsR n t (c :: l)).2 = 0) : comErr n c = 0 ∧ (allT c.num t c.chs).2.2 = 0 ∧ comsR n t (c :: l) = comsR (n + 1) (allT c.num t c.chs).1 l := by
  unfold comsR at hz
  split at hz
  · rename_i h1; exact absurd hz h1
  · split at hz
    · rename_i h1 h2; exact absurd hz h2
    · rename_i h1 h2
      refine ⟨by simpa using h1, by simpa using h2, ?_⟩
      rw [comsR, if_neg h1, if_neg h2]
theorem comErr_zero {n : Int} {c : Com} (h : comErr n c = 0) : c.num = n ∧ n ≤ 1000000 ∧ isKey c.key = true ∧ ¬ c.chs = [] := by
  unfold comErr at h
  split at h
  · exact absurd h (by decide)
  · split at h
    · exact absurd h (by decide)
    · split at h
      · exact absurd h (by decide)
      · rename_i h1 h2 h3
        have h1 : c.num = n := by simpa using h1
        refine ⟨h1, by omega, ?_, fun e => h3 (.inr e)⟩
        cases hk : isKey c.key with
        | true => rfl
        | false => exact absurd (.inl hk) h3
theorem comsR_drop {n : Int} {t : List Ent} {l : List Com} {i : Nat} (h : i < l.length) : comsR n t (l.drop i) = if ¬ comErr n l[i] = 0 then ([], comErr n l[i]) else if ¬ (allT l[i].num t l[i].chs).2.2 = 0 then ([], (allT l[i].num t l[i].chs).2.2) else comsR (n + 1) (allT l[i].num t l[i].chs).1 (l.drop (i + 1)) := by
  rw [List.drop_eq_getElem_cons h]; rfl
theorem comsR_app : ∀ {a b : List Com} {n : Int} {t : List Ent}, (comsR n t a).2 = 0 → comsR n t (a ++ b) = comsR (n + a.length) (comsR n t a).1 b
  | [], b, n, t, _ => by simp [comsR]
  | c :: a, b, n, t, hz => by
    obtain ⟨h1, h2, h3⟩ := comsR_cons hz
    rw [h3] at hz ⊢
    have : (c :: a) ++ b = c :: (a ++ b) := rfl
    rw [this, comsR, if_neg (by simp [h1]), if_neg (by simp [h2]), comsR_app hz]
    congr 1
    simp; omega
theorem allT_few {v : Int} {t : List Ent} {l : List Chg} (h : Right t) (hz : (allT v t l).2.2 = 0) : l.length ≤ 20 := by
  rw [allT_eq2 h] at hz
  unfold allW at hz
  split at hz
  · exact absurd hz (by decide)
  · omega
theorem comsR_few : ∀ {l : List Com} {n : Int} {t : List Ent}, Right t → (comsR n t l).2 = 0 → ∀ c, c ∈ l → c.chs.length ≤ 20
  | c :: l, n, t, h, hz, d, hd => by
    obtain ⟨h1, h2, h3⟩ := comsR_cons hz
    rw [h3] at hz
    rcases List.mem_cons.1 hd with rfl | hd
    · exact allT_few h h2
    · exact comsR_few (allT_right h h2) hz d hd
structure JRight (j : Jou) : Prop where
  base : Right j.base
  lo : 1 ≤ j.first
  hi : j.first ≤ 1000000
  len : j.coms.length ≤ 30
  run : (comsR j.first j.base j.coms).2 = 0
  keys : (j.coms.map Com.key).Nodup
theorem jright_iff {j : Jou} : jouE j = 0 ↔ JRight j := by
  unfold jouE
  constructor
  · intro h
    split at h
    · rename_i h1; exact absurd h h1
    · split at h
      · exact absurd h (by decide)
      · split at h
        · exact absurd h (by decide)
        · split at h
          · rename_i h1; exact absurd h h1
          · split at h
            · rename_i h1 h2 h3 h4 h5
              exact ⟨right_iff.1 (by simpa using h1), by omega, by omega, by omega, by simpa using h4, of_decide_eq_true h5⟩
            · exact absurd h (by decide)
  · intro h
    rw [if_neg (by simp [right_iff.2 h.base]), if_neg (by have := h.lo; have := h.hi; omega), if_neg (by have := h.len; omega), if_neg (by simp [h.run]), if_pos (by simp [keysOk, h.keys])]
theorem JRight.now {j : Jou} (h : JRight j) : Right (nowT j) := comsR_right h.base h.run
def lastN (j : Jou) : Int := j.first + j.coms.length - 1
def noJou : Jou := ⟨[], 0, []⟩
def isK (k : Str) (c : Com) : Bool := decide (c.key = k)
def nextN (j : Jou) : Int := lastN j + 1
theorem nextN_eq (j : Jou) : nextN j = j.first + j.coms.length := by unfold nextN lastN; omega
/-- A commit at the end, the first one gone into the base where there are too many. -/
def pushJ (j : Jou) (c : Com) : Jou :=
  if 30 < j.coms.length + 1 then ⟨match j.coms with | [] => j.base | d :: _ => (allT j.first j.base d.chs).1, j.first + 1, (j.coms ++ [c]).drop 1⟩ else ⟨j.base, j.first, j.coms ++ [c]⟩
def commitW (j : Jou) (key : Str) (l : List Chg) : Jou × Int × Int :=
  if isKey key = false then (noJou, 0, 1) else match j.coms.find? (isK key) with
  | some c => (j, c.num, 0)
  | none => if l = [] then (noJou, 0, 1) else if 1000000 < nextN j then (noJou, 0, 3) else if ¬ (allT (nextN j) (nowT j) l).2.2 = 0 then (noJou, 0, (allT (nextN j) (nowT j) l).2.2)
    else (pushJ j ⟨nextN j, key, l⟩, nextN j, 0)
def commitR (j : Jou) (key : Str) (l : List Chg) : Jou × Int × Int := if ¬ jouE j = 0 then (noJou, 0, jouE j) else commitW j key l
structure Pag where
  reset : Bool
  tree : List Ent
  coms : List Com
  cur : Int
  more : Bool
  deriving DecidableEq
def noPag : Pag := ⟨false, [], [], 0, false⟩
def partC (j : Jou) (cursor most : Int) : List Com := (j.coms.drop (cursor - j.first + 1).toNat).take most.toNat
def readW (j : Jou) (cursor most : Int) : Pag × Int :=
  if most < 1 ∨ 10 < most ∨ cursor < 0 then (noPag, 3) else if lastN j < cursor then (noPag, 5) else if cursor < j.first - 1 then (⟨true, nowT j, [], lastN j, false⟩, 0)
  else (⟨false, [], partC j cursor most, cursor + (partC j cursor most).length, decide (cursor + (partC j cursor most).length < lastN j)⟩, 0)
def readR (j : Jou) (cursor most : Int) : Pag × Int := if ¬ jouE j = 0 then (noPag, jouE j) else readW j cursor most
theorem find_key {l : List Com} {k : Str} (h : l.find? (isK k) = none) : ¬ k ∈ l.map Com.key := fun hm => by
  obtain ⟨c, hc, rfl⟩ := List.mem_map.1 hm
  have := List.find?_eq_none.1 h c hc
  simp [isK] at this
/-- What was committed goes on being right, and says the same by the same key. -/
theorem push_right {j : Jou} {key : Str} {l : List Chg} (h : JRight j) (hk : isKey key = true) (hf : j.coms.find? (isK key) = none) (hl : ¬ l = []) (hn : nextN j ≤ 1000000) (hz : (allT (nextN j) (nowT j) l).2.2 = 0) : JRight (pushJ j ⟨nextN j, key, l⟩) := by
  have hrun : (comsR j.first j.base (j.coms ++ [(⟨nextN j, key, l⟩ : Com)])).2 = 0 := by
    rw [comsR_app h.run]
    have h0 : comErr (j.first + j.coms.length) ⟨nextN j, key, l⟩ = 0 := by
      unfold comErr
      rw [nextN_eq] at hn ⊢
      rw [if_neg (by simp), if_neg (by simp; omega), if_neg (by simp [hk, hl])]
    rw [comsR, if_neg (by simp [h0]), if_neg (by rw [show (comsR j.first j.base j.coms).1 = nowT j from rfl]; simp only; rw [hz]; simp)]
    rfl
  have hkeys : ((j.coms ++ [(⟨nextN j, key, l⟩ : Com)]).map Com.key).Nodup := by
    rw [List.map_append, List.nodup_append]
    refine ⟨h.keys, by simp, fun a ha b hb => ?_⟩
    have hb : b = key := by simpa using hb
    subst hb
    rintro rfl
    exact find_key hf ha
  unfold pushJ
  split
  · rename_i h31
    cases hc : j.coms with
    | nil => rw [hc] at h31; simp at h31
    | cons d r =>
      rw [hc] at hrun hkeys
      obtain ⟨h1, h2, h3⟩ := comsR_cons (c := d) (l := r ++ [⟨nextN j, key, l⟩]) hrun
      rw [List.cons_append, h3] at hrun
      have hd := comErr_zero h1
      have hlen := h.len
      rw [hc] at hlen
      refine ⟨?_, ?_, ?_, ?_, ?_, ?_⟩
      · show Right (allT j.first j.base d.chs).1
        rw [← hd.1]; exact allT_right h.base h2
      · have := h.lo; show 1 ≤ j.first + 1; omega
      · show j.first + 1 ≤ 1000000
        have : nextN j = j.first + (j.coms.length : Int) := nextN_eq j
        rw [hc] at this
        simp at this; omega
      · simp at hlen ⊢; omega
      · show (comsR (j.first + 1) (allT j.first j.base d.chs).1 (((d :: r) ++ [_]).drop 1)).2 = 0
        rw [List.cons_append, List.drop_succ_cons, List.drop_zero]
        rw [← hd.1]
        rw [← hd.1] at hrun
        exact hrun
      · rw [List.cons_append, List.drop_succ_cons, List.drop_zero]
        rw [List.cons_append, List.map_cons, List.nodup_cons] at hkeys
        exact hkeys.2
  · refine ⟨h.base, h.lo, h.hi, ?_, hrun, hkeys⟩
    simp; omega
end Go.Proofs.YtiljlcgmcmjcoaaGreatDoor

/- The types of journals: what is handed in, told abstractly. -/
set_option linter.unusedSimpArgs false
set_option linter.unusedVariables false
namespace Go.Proofs.YtiljlcgmcmjcoaaGreatDoor
open Go.Ab Go.RowKit

def Com.row (c : Com) : List AV := [.v (.int .i64 c.num), .v (str c.key), chgAV c.chs]
def comAV (l : List Com) : AV := .sl false (l.map Com.row)
def Jou.row (j : Jou) : List AV := [entAV j.base, .v (.int .i64 j.first), comAV j.coms]
def Pag.row (p : Pag) : List AV := [.v (.bool p.reset), entAV p.tree, comAV p.coms, .v (.int .i64 p.cur), .v (.bool p.more)]
structure Com.small (c : Com) : Prop where
  key : c.key.length ≤ 140737488355328
  chs : CBig c.chs
structure MBig (l : List Com) : Prop where
  each : ∀ c, c ∈ l → c.small
  len : l.length ≤ 140737488355328
structure JBig (j : Jou) : Prop where
  base : EBig j.base
  coms : MBig j.coms
structure PBig (p : Pag) : Prop where
  tree : EBig p.tree
  coms : MBig p.coms
theorem tyw_com {n : Nat} {xs : List AV} (h : TyW C.tab 140737488355328 n 70 xs) : ∃ s : Com, xs = s.row ∧ s.small := by
  cases n with
  | zero => exact h.elim
  | succ n =>
    obtain ⟨_, _, rfl, h0, _, _, rfl, h1, _, _, rfl, h2, rfl⟩ := (show tiled C.tab 0 _ = some _ → TyFs (TyW C.tab 140737488355328 n) [(0, 3), (1, 9), (2, 38)] xs from h) rfl
    obtain ⟨a0, rfl, _⟩ := tyw_int h0
    obtain ⟨a1, rfl, l1⟩ := tyw_str h1
    obtain ⟨a2, rfl, l2⟩ := tyw_chgs h2
    exact ⟨⟨a0, a1, a2⟩, rfl, l1, l2⟩
theorem tyw_coms {n : Nat} {xs : List AV} (h : TyW C.tab 140737488355328 n 42 xs) : ∃ t : List Com, xs = [comAV t] ∧ MBig t := by
  cases n with
  | zero => exact h.elim
  | succ n =>
    obtain ⟨rows, he, hb, hr⟩ := (show (3 : Nat) ≠ 0 → ∃ rows, xs = [AV.sl false rows] ∧ rows.length * 48 ≤ 140737488355328 ∧ ∀ row, row ∈ rows → TyW C.tab 140737488355328 n 70 row from h) (by decide)
    obtain ⟨l, rfl, hl⟩ := rows_map (f := Com.row) (ok := Com.small) (fun row hrow => tyw_com (hr row hrow))
    refine ⟨l, he, hl, ?_⟩
    simp at hb; omega
theorem tyw_jou {n : Nat} {xs : List AV} (h : TyW C.tab 140737488355328 n 60 xs) : ∃ j : Jou, xs = j.row ∧ JBig j := by
  cases n with
  | zero => exact h.elim
  | succ n =>
    obtain ⟨_, _, rfl, h0, _, _, rfl, h1, _, _, rfl, h2, rfl⟩ := (show tiled C.tab 0 _ = some _ → TyFs (TyW C.tab 140737488355328 n) [(0, 41), (1, 3), (2, 42)] xs from h) rfl
    obtain ⟨a0, rfl, l0⟩ := tyw_ents h0
    obtain ⟨a1, rfl, _⟩ := tyw_int h1
    obtain ⟨a2, rfl, l2⟩ := tyw_coms h2
    exact ⟨⟨a0, a1, a2⟩, rfl, l0, l2⟩
end Go.Proofs.YtiljlcgmcmjcoaaGreatDoor

/- Journals, 10: plain: what comes is not too great; who asks again asks once. -/
set_option linter.unusedSimpArgs false
set_option linter.unnecessarySimpa false
set_option linter.unusedVariables false
namespace Go.Proofs.YtiljlcgmcmjcoaaGreatDoor

theorem noJou_big : JBig noJou := ⟨⟨by simp [noJou], by simp [noJou]⟩, ⟨by simp [noJou], by simp [noJou]⟩⟩
theorem MBig.sub {a b : List Com} (h : MBig b) (hs : ∀ c, c ∈ a → c ∈ b) (hl : a.length ≤ b.length) : MBig a := ⟨fun c hc => h.each c (hs c hc), Nat.le_trans hl h.len⟩
theorem push_big {j : Jou} {c : Com} (h : MBig j.coms) (hr : JRight (pushJ j c)) (hc : c.small) : JBig (pushJ j c) := by
  have hl := hr.len
  refine ⟨hr.base.big, ⟨fun d hd => ?_, by omega⟩⟩
  have hm : d ∈ j.coms ++ [c] := by
    unfold pushJ at hd
    split at hd
    · exact List.mem_of_mem_drop hd
    · exact hd
  rcases List.mem_append.1 hm with hm | hm
  · exact h.each d hm
  · rw [List.mem_singleton.1 hm]; exact hc
/-- What a commit comes to. -/
theorem commit_cases {j : Jou} {key : Str} {l : List Chg} : (∃ e, ¬ e = 0 ∧ commitR j key l = (noJou, 0, e)) ∨ (JRight j ∧ isKey key = true ∧ ((∃ c, j.coms.find? (isK key) = some c ∧ commitR j key l = (j, c.num, 0)) ∨ (j.coms.find? (isK key) = none ∧ JRight (pushJ j ⟨nextN j, key, l⟩) ∧ commitR j key l = (pushJ j ⟨nextN j, key, l⟩, nextN j, 0)))) := by
  unfold commitR
  by_cases hz : jouE j = 0
  · rw [if_neg (by simp [hz])]
    have hJ := jright_iff.1 hz
    unfold commitW
    cases hk : isKey key with
    | false => exact .inl ⟨1, by decide, by rw [if_pos rfl]⟩
    | true =>
      rw [if_neg (by decide)]
      cases hf : j.coms.find? (isK key) with
      | some c => exact .inr ⟨hJ, (by first | rfl | trivial), .inl ⟨c, (by first | rfl | trivial), rfl⟩⟩
      | none =>
        simp only
        by_cases h1 : l = []
        · exact .inl ⟨1, by decide, by rw [if_pos h1]⟩
        · rw [if_neg h1]
          by_cases h2 : 1000000 < nextN j
          · exact .inl ⟨3, by decide, by rw [if_pos h2]⟩
          · rw [if_neg h2]
            by_cases h3 : (allT (nextN j) (nowT j) l).2.2 = 0
            · rw [if_neg (by simp [h3])]
              exact .inr ⟨hJ, (by first | rfl | trivial), .inr ⟨(by first | rfl | trivial), push_right hJ hk hf h1 (by omega) h3, rfl⟩⟩
            · rw [if_pos h3]
              exact .inl ⟨_, h3, rfl⟩
  · rw [if_pos hz]
    exact .inl ⟨_, hz, rfl⟩
theorem commit_big {j : Jou} {key : Str} {l : List Chg} (hb : JBig j) (hcb : CBig l) (hk : key.length ≤ 140737488355328) : JBig (commitR j key l).1 := by
  rcases commit_cases (j := j) (key := key) (l := l) with ⟨e, _, h⟩ | ⟨hJ, _, ⟨c, _, h⟩ | ⟨_, hR, h⟩⟩
  · rw [h]; exact noJou_big
  · rw [h]; exact hb
  · rw [h]; exact push_big hb.coms hR ⟨hk, hcb⟩
end Go.Proofs.YtiljlcgmcmjcoaaGreatDoor
