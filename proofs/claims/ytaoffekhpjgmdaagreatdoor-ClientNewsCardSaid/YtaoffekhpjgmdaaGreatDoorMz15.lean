import Derived.Test.YtaoffekhpjgmdaaGreatDoorMz13
import Derived.Test.YtaoffekhpjgmdaaGreatDoorMz14
import Derived.Shelf.Strings.FuncGrows
/- Keys: journal.IsKey and the reference's IsKey answer isKey. -/
set_option linter.unusedSimpArgs false
set_option linter.unnecessarySimpa false
set_option linter.unusedVariables false
set_option maxHeartbeats 1000000
namespace Go.Proofs.YtaoffekhpjgmdaaGreatDoor
open Go.Ab Go.RowKit Go.Shelf
set_option maxRecDepth 10000

def keyN (n : Nat) : Bool := decide (97 ≤ n) && decide (n ≤ 122) || decide (65 ≤ n) && decide (n ≤ 90) || decide (48 ≤ n) && decide (n ≤ 57) || decide (n = 45)
def keyB (c : UInt8) : Bool := keyN c.toNat
def isKey (s : Str) : Bool := decide (1 ≤ s.length) && decide (s.length ≤ 20) && s.all keyB

def layGw_ren : Go.Shelf.Ren := ⟨fun | 15 => 44 | 20 => 64 | n => n, fun | 0 => 0 | 3 => 3 | 4 => 4 | 9 => 9 | 21 => 21 | 23 => 66 | n => n, fun | n => n⟩
theorem layGw : LaysGw.n15 Tryz.prog layGw_ren := {
  mixed := by kernel_rfl
  f15 := Tryz.func44.trans (congrArg some (by kernel_rfl))
  f20 := Tryz.func64.trans (congrArg some (by kernel_rfl))
  t0 := Tryz.underlying0
  a0 := Tryz.isAgg0
  z0 := Tryz.sizeOf0
  v0 := Tryz.zeroValue0
  i0 := by kernel_rfl
  t3 := Tryz.underlying3
  a3 := Tryz.isAgg3
  z3 := Tryz.sizeOf3
  v3 := Tryz.zeroValue3
  i3 := by kernel_rfl
  t4 := Tryz.underlying4
  a4 := Tryz.isAgg4
  z4 := Tryz.sizeOf4
  v4 := Tryz.zeroValue4
  i4 := by kernel_rfl
  t9 := Tryz.underlying9
  a9 := Tryz.isAgg9
  z9 := Tryz.sizeOf9
  v9 := Tryz.zeroValue9
  i9 := by kernel_rfl
  t21 := Tryz.underlying21
  a21 := Tryz.isAgg21
  z21 := Tryz.sizeOf21
  v21 := Tryz.zeroValue21
  i21 := by kernel_rfl
  t23 := Tryz.underlying66
  a23 := Tryz.isAgg66
  z23 := Tryz.sizeOf66
  v23 := Tryz.zeroValue66
  i23 := by kernel_rfl }
theorem a_indexFunc (p : Nat → Bool) (g : FuncId) (fn : Func) (hg : Tryz.prog.funcs[g]? = some fn) (hb : fn.body.isNone = false) (hn : (fn.name == "runtime.NumGoroutine") = false) (cap : List AV) (hcap : AV.pure.pureL cap = true) (hc : ∀ x : Nat, x ≤ 1114111 → AFn C.P g (.v (.int .i32 (x : Int)) :: cap) (.v (.bool (p x)))) (s : Str) :
    AFn C.P 44 [.v (str s), .clo (.func g) [] cap] (.v (.int .i64 (Lib.idxFunc p true ⟨s.toArray⟩))) := by
  refine afn_world (by simp [AV.pure, AV.pure.pureL, hcap]) rfl fun F w vs hF hT hm => ?_
  obtain ⟨hl, hm⟩ := hm
  match vs, hl, hm with
  | [v0, v1], _, hm =>
    have h0 := (hm 0 v0 _ rfl rfl).v_inv.1
    obtain ⟨fs, us, hv, hfs, hus⟩ := (hm 1 v1 _ rfl rfl).clo_inv
    obtain rfl : fs = [] := List.eq_nil_of_length_eq_zero hfs.1
    subst h0; subst hv
    refine Any.strings_IndexFunc_grows layGw g us.toArray (callFunc_run hg hb hn) p ⟨s.toArray⟩ w fun W x hx hbel => ?_
    have hAll : AllM F noPlaces (.int .i32 (x : Int) :: us) (.v (.int .i32 (x : Int)) :: cap) := AllM.cons (.v _ _ rfl) hus
    have : Calls Tryz.prog g (Value.int .i32 (x : Int) :: us).toArray W _ := calls_afn (hc x hx) (w := W) (fun b o hb => by
      have h0 := hF b o hb
      rw [hbel.block b (Array.getElem?_eq_some_iff.1 h0).1]; exact h0) hT hAll
    simpa [encR] using this
/-- What the search says, plain. -/
theorem idx_keys (s : Str) : decide (Lib.idxFunc (fun x => !keyN x) true ⟨s.toArray⟩ < 0) = s.all keyB := by
  have hk : ∀ n, keyN n = true → n < 128 := fun n h => by simp [keyN] at h; omega
  have step : ∀ (pos : Nat) (h : pos < s.length), (keyB (s[pos]) = true → Utf8.decode ⟨s.toArray⟩ pos = (s[pos].toNat, 1)) ∧ (keyB (s[pos]) = false → keyN (Utf8.decode ⟨s.toArray⟩ pos).1 = false) := by
    intro pos h
    have hget : ((ByteArray.mk s.toArray).get! (pos + 0)) = s[pos] := by
      simp [ByteArray.get!, h]
    constructor
    · intro hb
      have : s[pos].toNat < 128 := hk _ hb
      unfold Utf8.decode
      simp only [hget]
      rw [if_pos this]
    · intro hb
      by_cases h128 : s[pos].toNat < 128
      · unfold Utf8.decode
        simp only [hget]
        rw [if_pos h128]
        exact hb
      · cases hd : keyN (Utf8.decode ⟨s.toArray⟩ pos).1 with
        | false => rfl
        | true =>
          have h1 := hk _ hd
          exfalso
          unfold Utf8.decode at h1
          simp only [hget] at h1
          rw [if_neg h128] at h1
          simp only [Utf8.runeError] at h1
          (repeat' split at h1) <;> simp_all <;> omega
  have main : ∀ (f pos : Nat), s.length ≤ pos + f → decide (Lib.idxFuncFrom (fun x => !keyN x) true ⟨s.toArray⟩ f pos < 0) = (s.drop pos).all keyB := by
    intro f
    induction f with
    | zero =>
      intro pos hp
      rw [List.drop_eq_nil_of_le (by omega)]
      simp [Lib.idxFuncFrom]
    | succ f ih =>
      intro pos hp
      unfold Lib.idxFuncFrom
      by_cases h : pos < s.length
      · rw [if_pos (by exact h), List.drop_eq_getElem_cons h, List.all_cons]
        cases hb : keyB s[pos] with
        | true =>
          have hd := (step pos h).1 hb
          have hb' : keyN s[pos].toNat = true := hb
          rw [hd]
          simp only [hb', Bool.not_true, Bool.false_eq_true, if_false, Bool.true_and]
          exact ih (pos + 1) (by omega)
        | false =>
          have hd := (step pos h).2 hb
          simp only [hd, Bool.not_false, if_true, Bool.false_and]
          simp
      · rw [if_neg (by exact h), List.drop_eq_nil_of_le (by omega)]
        simp
  exact main s.length 0 (by omega)
attribute [local irreducible] Awp Ops OpsX Wanted Red ExOk Go.Ab.Fin ACall Rz RzL RzRows Enters ResOk RenV RenVL ArgV ArgVL
theorem a_isKey1 (n : Nat) : AFn C.P 43 [.v (.int .i32 (n : Int))] (.v (.bool (keyN n))) := by
  refine acall_intro Tryz.func43 rfl _ Tryz.ntmps43 (Nat.le_of_ble_eq_true rfl) _ Tryz.results43 0 rfl rfl ?_
  repeat' (first | refine walk ?_ | fail | ((first | (apply ops_split_t; rfl; rfl; exact nle rfl) | (apply ops_split_f; rfl; rfl; exact nle rfl) | (apply awp_cond; rfl)); all_goals (intro hc; have hp := hc; first | (simp at hp; done) | ((try simp at hp); first | (exfalso; omega) | skip))) | (apply awp_cond_any; rfl))
  all_goals (apply fin_bool; rfl; rw [Bool.eq_iff_iff]; simp [keyN]; try omega)
theorem a_isKey2 (n : Nat) : AFn C.P 45 [.v (.int .i32 (n : Int)), .fp [[.clo (.func 43) [] []]] 0 0] (.v (.bool (!keyN n))) := by
  have h1 := a_isKey1 n
  refine acall_intro Tryz.func45 rfl _ Tryz.ntmps45 (Nat.le_of_ble_eq_true rfl) _ Tryz.results45 0 rfl rfl ?_
  repeat' (first | refine walk ?_ | (first | (refine o_callv Tryz.func43 (h1 ..) ?_)) | ((first | (apply awp_cond; rfl)); all_goals (intro hc; have hp := hc; first | (simp at hp; done) | ((try simp at hp); first | (exfalso; omega) | skip))) | (apply awp_cond_any; rfl))
  all_goals (apply fin_bool; rfl; rfl)
theorem a_isKey (s : Str) : AFn C.P 24 [.v (str s)] (.v (.bool (isKey s))) := by
  have hi := a_indexFunc (fun x => !keyN x) 45 _ Tryz.func45 rfl rfl [.fp [[.clo (.func 43) [] []]] 0 0] rfl (fun x _ => a_isKey2 x) s
  have hk := idx_keys s
  generalize Lib.idxFunc (fun x => !keyN x) true ⟨s.toArray⟩ = I at *
  refine acall_intro Tryz.func24 rfl _ Tryz.ntmps24 (Nat.le_of_ble_eq_true rfl) _ Tryz.results24 0 rfl rfl ?_
  (repeat apply awp_seq); apply awp_region; (repeat' (first | apply ops_free | refine o_mv ?_ | refine o_as ?_ | refine o_bi ?_ | refine o_pk ?_ | refine o_ln ?_ | refine o_fn ?_ | refine o_al ?_ | refine o_sto ?_ | (first | fail) | refine r_nil ?_ | refine g_on_t ?_ | refine g_on_f ?_ | refine g_off_t ?_ | refine g_off_f ?_ | refine g_unw ?_ | refine g_yes ?_ | refine g_no_t ?_ | refine g_no_f ?_ | ((first | refine g_sp_t ?_ ?_ | refine g_sp_f ?_ ?_); all_goals (intro hc; have hp := hc; first | (simp at hp; done) | ((try simp at hp); first | (exfalso; omega) | skip))))); show Awp _ _ _ _ _
  (repeat apply awp_seq); apply awp_region; (repeat' (first | apply ops_free | refine o_mv ?_ | refine o_as ?_ | refine o_bi ?_ | refine o_pk ?_ | refine o_ln ?_ | refine o_fn ?_ | refine o_al ?_ | refine o_sto ?_ | (first | fail) | refine r_nil ?_ | refine g_on_t ?_ | refine g_on_f ?_ | refine g_off_t ?_ | refine g_off_f ?_ | refine g_unw ?_ | refine g_yes ?_ | refine g_no_t ?_ | refine g_no_f ?_ | ((first | refine g_sp_t ?_ ?_ | refine g_sp_f ?_ ?_); all_goals (intro hc; have hp := hc; first | (simp at hp; done) | ((try simp at hp); first | (exfalso; omega) | skip))))); show Awp _ _ _ _ _
  (refine Awp.red (red_freeze 0 rfl ?_) ?_; (intro row hrow; obtain rfl := List.mem_singleton.1 hrow; rfl); refine Awp.red (red_fp 3 0 rfl rfl (Nat.le_of_ble_eq_true rfl)) ?_)
  repeat' (first | refine walk ?_ | (first | (apply to_call Tryz.func44 rfl rfl; intro hIsFn; refine o_callf hIsFn (hi ..) ?_; skip)) | ((first | (apply ops_split_t; rfl; rfl; exact nle rfl) | (apply ops_split_f; rfl; rfl; exact nle rfl) | (apply awp_cond; rfl)); all_goals (intro hc; have hp := hc; first | (simp at hp; done) | ((try simp at hp); first | (exfalso; omega) | skip))) | (apply awp_cond_any; rfl))
  all_goals try (exfalso; omega)
  all_goals (apply fin_bool; rfl; rw [Bool.eq_iff_iff]; simp only [isKey, ← hk]; have h1 : s.length = 0 ↔ s = [] := List.length_eq_zero_iff; clear hk hi; by_cases h3 : s = [] <;> first | (exfalso; contradiction) | (simp [h3]; done) | (have h4 : s.length ≠ 0 := fun e => h3 (h1.1 e); simp; omega))
theorem a_isKeyR (s : Str) (hs : s.length ≤ 140737488355328) : AFn C.P 20 [.v (str s)] (.v (.bool (isKey s))) := by
  refine acall_intro Tryz.func20 rfl _ Tryz.ntmps20 (Nat.le_of_ble_eq_true rfl) _ Tryz.results20 0 rfl rfl ?_
  repeat' (first | refine walk ?_ | fail | ((first | (apply ops_split_t; rfl; rfl; exact nle rfl) | (apply ops_split_f; rfl; rfl; exact nle rfl) | (apply awp_cond; rfl)); all_goals (intro hc; have hp := hc; first | (simp at hp; done) | ((try simp at hp); first | (exfalso; omega) | skip))) | (apply awp_cond_any; rfl))
  (refine Awp.red (red_pure (ts := [(0, .v (str s)), (3, .v (.int .i64 ((0 : Nat) : Int)))]) ?_) ?_; ((repeat (first | exact tsok_nil | refine p_pure ?_ | refine p_eq ?_ ?_))))
  refine awp_loop (fun n σ => ∃ i : Nat, i ≤ s.length ∧ n = s.length - i ∧ (∀ c, c ∈ s.take i → keyB c = true) ∧ σ = ⟨[(0, .v (str s)), (3, .v (.int .i64 (i : Int)))], [], C.nh⟩) s.length ⟨0, Nat.zero_le _, rfl, (by simp), rfl⟩ ?_
  rintro n σ ⟨i, hi, rfl, hsofar, rfl⟩
  by_cases hlt : i < s.length
  · have hr : s[i]? = some s[i] := List.getElem?_eq_getElem hlt
    have hnx := mem_take_succ (p := fun c => keyB c = true) hlt hsofar
    have hk : keyB s[i] = keyN s[i].toNat := rfl
    have hbad : keyB s[i] = false → isKey s = false := fun h => by
      have : s.all keyB = false := by rw [List.all_eq_false]; exact ⟨s[i], List.getElem_mem _, by simp [h]⟩
      simp [isKey, this]
    generalize keyB s[i] = K at *
    generalize s[i] = c at *
    repeat' (first | refine walk ?_ | fail | ((first | (apply ops_split_t; rfl; rfl; exact nle rfl) | (apply ops_split_f; rfl; rfl; exact nle rfl) | (apply awp_cond; rfl)); all_goals (intro hc; have hp := hc; first | (simp at hp; done) | ((try simp at hp); first | (exfalso; omega) | skip))) | (apply awp_cond_any; rfl))
    all_goals try (exfalso; omega)
    all_goals first
      | (apply fin_bool; rfl; exact (hbad (by rw [hk]; simp only [keyN]; simp; omega)).symm)
      | (refine ⟨s.length - (i + 1), _, by omega, red_pure (ts := [(0, .v (str s)), (3, .v (.int .i64 ((i + 1 : Nat) : Int)))]) ?_, i + 1, by omega, rfl, (hnx (by rw [hk]; simp only [keyN]; simp; omega)), rfl⟩; ((repeat (first | exact tsok_nil | refine p_pure ?_ | refine p_eq ?_ ?_))))
  · obtain rfl : i = s.length := by omega
    rw [List.take_length] at hsofar
    have hall : s.all keyB = true := List.all_eq_true.2 hsofar
    repeat' (first | refine walk ?_ | fail | ((first | (apply ops_split_t; rfl; rfl; exact nle rfl) | (apply ops_split_f; rfl; rfl; exact nle rfl) | (apply awp_cond; rfl)); all_goals (intro hc; have hp := hc; first | (simp at hp; done) | ((try simp at hp); first | (exfalso; omega) | skip))) | (apply awp_cond_any; rfl))
    all_goals try (exfalso; omega)
    all_goals (apply fin_bool; rfl; rw [Bool.eq_iff_iff]; simp only [isKey, hall]; simp; try omega)
end Go.Proofs.YtaoffekhpjgmdaaGreatDoor
