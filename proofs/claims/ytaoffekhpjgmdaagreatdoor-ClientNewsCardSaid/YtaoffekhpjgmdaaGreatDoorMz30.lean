import Derived.Test.YtaoffekhpjgmdaaGreatDoorMz25
import Derived.Test.YtaoffekhpjgmdaaGreatDoorMz29
import Derived.Test.YtaoffekhpjgmdaaGreatDoorMz23
import Derived.Test.YtaoffekhpjgmdaaGreatDoorMz26
import Derived.Test.YtaoffekhpjgmdaaGreatDoorMz28
import Derived.Test.YtaoffekhpjgmdaaGreatDoorMz10
/- Clients in the abstract layer, 5: the reference's CheckClient, EditOf, SameClient, SameRequest. -/
set_option linter.unusedSimpArgs false
set_option linter.unnecessarySimpa false
set_option linter.unusedVariables false
set_option maxHeartbeats 1000000
namespace Go.Proofs.YtaoffekhpjgmdaaGreatDoor
open Go.Ab Go.RowKit
set_option maxRecDepth 10000
attribute [local irreducible] Awp Ops OpsX Wanted Red ExOk Go.Ab.Fin ACall Rz RzL RzRows Enters ResOk RenV RenVL ArgV ArgVL

theorem a_isCur1M (n : Int) : AFn C.P 22 [.v (.int .i64 n)] (.v (.bool (in1M n))) := by
  refine acall_intro Tryz.func22 rfl _ Tryz.ntmps22 (Nat.le_of_ble_eq_true rfl) _ Tryz.results22 0 rfl rfl ?_
  repeat' (first | refine walk ?_ | fail | ((first | (apply ops_split_t; rfl; rfl; exact nle rfl) | (apply ops_split_f; rfl; rfl; exact nle rfl) | (apply awp_cond; rfl)); all_goals (intro hc; have hp := hc; first | (simp at hp; done) | ((try simp at hp); first | (exfalso; omega) | skip))) | (apply awp_cond_any; rfl))
  all_goals (apply fin_bool; rfl; (simp_all [in1M]; try omega))
set_option maxHeartbeats 4000000 in
theorem a_checkC0 (c : Cli) (hb : CliBig c) (hct1 : AFn C.P 21 [entAV c.base] (.v (.int .i64 (treeErr c.base)))) (hct2 : AFn C.P 21 [entAV c.mine] (.v (.int .i64 (treeErr c.mine)))) : AFn C.P 10 [.agg c.row] (.v (.int .i64 (cliErr c))) := by
  have h1 := g_isNameR c.who (by have := hb.who; omega)
  have h2 := g_isNameR c.folder (by have := hb.folder; omega)
  have h3 := a_isKeyR c.who (by have := hb.who; omega)
  have h4 := a_isKeyR c.key (by have := hb.key; omega)
  have h5 := a_isCur1M c.cursor
  have h6 := a_isCur1M c.keys
  have hl := hb.asked.len
  have hE : cliErr c = if cliHead c then 1 else if ¬ treeErr c.base = 0 then treeErr c.base else if ¬ treeErr c.mine = 0 then treeErr c.mine else cliTail c := rfl
  have hH : cliHead c ↔ (isName c.who = false ∨ isName c.folder = false ∨ isKey c.who = false ∨ 10 < c.who.length) := Iff.rfl
  have hT : cliTail c = if in1M c.cursor = false ∨ in1M c.keys = false then 3 else if ¬ c.key = [] ∧ isKey c.key = false then 1 else if ¬ (c.key = [] ↔ c.asked = []) then 4 else if 20 < c.asked.length then 2 else 0 := rfl
  have hn0 : c.asked = [] ↔ c.asked.length = 0 := List.length_eq_zero_iff.symm
  have hml : (c.asked.map Chg.row).length = c.asked.length := List.length_map ..
  generalize isName c.who = n1 at *
  generalize isName c.folder = n2 at *
  generalize isKey c.who = n3 at *
  generalize isKey c.key = n4 at *
  generalize in1M c.cursor = n5 at *
  generalize in1M c.keys = n6 at *
  generalize cliTail c = T at *
  generalize cliErr c = E at *
  generalize treeErr c.base = e1 at *
  generalize treeErr c.mine = e2 at *
  by_cases hh : cliHead c
  · rw [if_pos hh] at hE
    rw [hE]
    rw [hH] at hh
    refine acall_intro Tryz.func10 rfl _ Tryz.ntmps10 (Nat.le_of_ble_eq_true rfl) _ Tryz.results10 0 rfl rfl ?_
    cases n1 <;> cases n2 <;> cases n3
    all_goals (repeat' (first | refine walk ?_ | (first | (apply to_call Tryz.func19 rfl rfl; intro hIsFn; refine o_callf hIsFn (h1 ..) ?_; skip) | (apply to_call Tryz.func19 rfl rfl; intro hIsFn; refine o_callf hIsFn (h2 ..) ?_; skip) | (apply to_call Tryz.func20 rfl rfl; intro hIsFn; refine o_callf hIsFn (h3 ..) ?_; skip)) | ((first | (apply ops_split_t; rfl; rfl; exact nle rfl) | (apply ops_split_f; rfl; rfl; exact nle rfl) | (apply awp_cond; rfl)); all_goals (intro hc; have hp := hc; first | (simp at hp; done) | ((try simp at hp); first | (exfalso; omega) | skip))) | (apply awp_cond_any; rfl)))
    all_goals try (exfalso; first | omega | (simp_all; omega))
    all_goals (apply fin_int; rfl; rfl)
  · rw [if_neg hh] at hE
    rw [hH] at hh
    simp only [not_or, Bool.not_eq_false, Nat.not_lt] at hh
    obtain ⟨rfl, rfl, rfl, hw10⟩ := hh
    clear hH
    by_cases hz1 : e1 = 0
    · subst hz1
      rw [if_neg (by simp)] at hE
      by_cases hz2 : e2 = 0
      · subst hz2
        rw [if_neg (by simp)] at hE
        subst hE
        refine acall_intro Tryz.func10 rfl _ Tryz.ntmps10 (Nat.le_of_ble_eq_true rfl) _ Tryz.results10 0 rfl rfl ?_
        repeat' (first | refine walk ?_ | (first | (apply to_call Tryz.func19 rfl rfl; intro hIsFn; refine o_callf hIsFn (h1 ..) ?_; skip) | (apply to_call Tryz.func19 rfl rfl; intro hIsFn; refine o_callf hIsFn (h2 ..) ?_; skip) | (apply to_call Tryz.func20 rfl rfl; intro hIsFn; refine o_callf hIsFn (h3 ..) ?_; skip) | (apply to_call Tryz.func21 rfl rfl; intro hIsFn; refine o_callf hIsFn (hct1 ..) ?_; skip) | (apply to_call Tryz.func21 rfl rfl; intro hIsFn; refine o_callf hIsFn (hct2 ..) ?_; skip) | (apply to_call Tryz.func22 rfl rfl; intro hIsFn; refine o_callf hIsFn (h5 ..) ?_; skip) | (apply to_call Tryz.func22 rfl rfl; intro hIsFn; refine o_callf hIsFn (h6 ..) ?_; skip) | (apply to_call Tryz.func20 rfl rfl; intro hIsFn; refine o_callf hIsFn (h4 ..) ?_; skip) | (refine o_beq ?_)) | ((first | (apply ops_split_t; rfl; rfl; exact nle rfl) | (apply ops_split_f; rfl; rfl; exact nle rfl) | (apply awp_cond; rfl)); all_goals (intro hc; have hp := hc; first | (simp at hp; done) | ((try simp at hp); first | (exfalso; omega) | skip))) | (apply awp_cond_any; rfl))
        all_goals try (exfalso; omega)
        all_goals (apply fin_int; rfl; rw [hT]; clear hT h4 h5 h6 hb h1 h2 h3 hct1 hct2; rw [hml] at *; clear hml)
        all_goals (by_cases ha : c.asked = [])
        all_goals (first | (have hl1 : c.asked.length = 0 := hn0.1 ha) | (have hl1 : ¬ c.asked.length = 0 := fun h => ha (hn0.2 h)))
        all_goals clear hn0
        all_goals ((repeat' split) <;> first | rfl | (exfalso; omega) | (exfalso; simp_all; done) | (exfalso; simp_all; omega))
      · rw [if_pos hz2] at hE
        subst hE
        clear hT
        refine acall_intro Tryz.func10 rfl _ Tryz.ntmps10 (Nat.le_of_ble_eq_true rfl) _ Tryz.results10 0 rfl rfl ?_
        repeat' (first | refine walk ?_ | (first | (apply to_call Tryz.func19 rfl rfl; intro hIsFn; refine o_callf hIsFn (h1 ..) ?_; skip) | (apply to_call Tryz.func19 rfl rfl; intro hIsFn; refine o_callf hIsFn (h2 ..) ?_; skip) | (apply to_call Tryz.func20 rfl rfl; intro hIsFn; refine o_callf hIsFn (h3 ..) ?_; skip) | (apply to_call Tryz.func21 rfl rfl; intro hIsFn; refine o_callf hIsFn (hct1 ..) ?_; skip) | (apply to_call Tryz.func21 rfl rfl; intro hIsFn; refine o_callf hIsFn (hct2 ..) ?_; skip)) | ((first | (apply ops_split_t; rfl; rfl; exact nle rfl) | (apply ops_split_f; rfl; rfl; exact nle rfl) | (apply awp_cond; rfl)); all_goals (intro hc; have hp := hc; first | (simp at hp; done) | ((try simp at hp); first | (exfalso; omega) | skip))) | (apply awp_cond_any; rfl))
        all_goals try (exfalso; omega)
        all_goals (apply fin_int; rfl; rfl)
    · rw [if_pos hz1] at hE
      subst hE
      clear hT
      refine acall_intro Tryz.func10 rfl _ Tryz.ntmps10 (Nat.le_of_ble_eq_true rfl) _ Tryz.results10 0 rfl rfl ?_
      repeat' (first | refine walk ?_ | (first | (apply to_call Tryz.func19 rfl rfl; intro hIsFn; refine o_callf hIsFn (h1 ..) ?_; skip) | (apply to_call Tryz.func19 rfl rfl; intro hIsFn; refine o_callf hIsFn (h2 ..) ?_; skip) | (apply to_call Tryz.func20 rfl rfl; intro hIsFn; refine o_callf hIsFn (h3 ..) ?_; skip) | (apply to_call Tryz.func21 rfl rfl; intro hIsFn; refine o_callf hIsFn (hct1 ..) ?_; skip)) | ((first | (apply ops_split_t; rfl; rfl; exact nle rfl) | (apply ops_split_f; rfl; rfl; exact nle rfl) | (apply awp_cond; rfl)); all_goals (intro hc; have hp := hc; first | (simp at hp; done) | ((try simp at hp); first | (exfalso; omega) | skip))) | (apply awp_cond_any; rfl))
      all_goals try (exfalso; omega)
      all_goals (apply fin_int; rfl; rfl)
theorem a_sameCli (a b : Cli) (h1 : a.base.length ≤ 140737488355328) (h2 : b.base.length ≤ 140737488355328) (h3 : a.mine.length ≤ 140737488355328) (h4 : b.mine.length ≤ 140737488355328) (h5 : a.asked.length ≤ 140737488355328) (h6 : b.asked.length ≤ 140737488355328) :
    AFn C.P 18 [.agg a.row, .agg b.row] (.v (.bool (decide (a = b)))) := by
  have g1 := a_sameEntries a.base b.base h1 h2
  have g2 := a_sameEntries a.mine b.mine h3 h4
  have g3 := a_sameChanges a.asked b.asked h5 h6
  have hin : decide (a = b) = (decide (a.who = b.who) && decide (a.folder = b.folder) && decide (a.base = b.base) && decide (a.cursor = b.cursor) && decide (a.mine = b.mine) && decide (a.key = b.key) && decide (a.asked = b.asked) && decide (a.keys = b.keys)) := by
    obtain ⟨x1, x2, x3, x4, x5, x6, x7, x8⟩ := a
    obtain ⟨y1, y2, y3, y4, y5, y6, y7, y8⟩ := b
    rw [Bool.eq_iff_iff]; simp [and_assoc]
  rw [hin]
  generalize decide (a.base = b.base) = D1 at *
  generalize decide (a.mine = b.mine) = D2 at *
  generalize decide (a.asked = b.asked) = D3 at *
  clear hin h1 h2 h3 h4 h5 h6
  refine acall_intro Tryz.func18 rfl _ Tryz.ntmps18 (Nat.le_of_ble_eq_true rfl) _ Tryz.results18 0 rfl rfl ?_
  repeat' (first | refine walk ?_ | (first | (apply to_call Tryz.func36 rfl rfl; intro hIsFn; refine o_callf hIsFn (g1 ..) ?_; skip) | (apply to_call Tryz.func36 rfl rfl; intro hIsFn; refine o_callf hIsFn (g2 ..) ?_; skip) | (apply to_call Tryz.func33 rfl rfl; intro hIsFn; refine o_callf hIsFn (g3 ..) ?_; skip)) | ((first | (apply ops_split_t; rfl; rfl; exact nle rfl) | (apply ops_split_f; rfl; rfl; exact nle rfl) | (apply awp_cond; rfl)); all_goals (intro hc; have hp := hc; first | (simp at hp; done) | ((try simp at hp); first | (exfalso; omega) | skip))) | (apply awp_cond_any; rfl))
  all_goals (apply fin_bool; rfl; clear g1 g2 g3; simp_all)
theorem a_sameRqt (a b : Rqt) (h5 : a.chs.length ≤ 140737488355328) (h6 : b.chs.length ≤ 140737488355328) : AFn C.P 14 [.agg a.row, .agg b.row] (.v (.bool (decide (a = b)))) := by
  have g3 := a_sameChanges a.chs b.chs h5 h6
  have hin : decide (a = b) = (decide (a.kind = b.kind) && decide (a.who = b.who) && decide (a.folder = b.folder) && decide (a.name = b.name) && decide (a.key = b.key) && decide (a.text = b.text) && decide (a.number = b.number) && decide (a.offset = b.offset) && decide (a.base = b.base) && decide (a.chs = b.chs)) := by
    obtain ⟨x1, x2, x3, x4, x5, x6, x7, x8, x9, x10⟩ := a
    obtain ⟨y1, y2, y3, y4, y5, y6, y7, y8, y9, y10⟩ := b
    rw [Bool.eq_iff_iff]; simp [and_assoc]
  rw [hin]
  generalize decide (a.chs = b.chs) = D3 at *
  clear hin h5 h6
  refine acall_intro Tryz.func14 rfl _ Tryz.ntmps14 (Nat.le_of_ble_eq_true rfl) _ Tryz.results14 0 rfl rfl ?_
  repeat' (first | refine walk ?_ | (first | (apply to_call Tryz.func33 rfl rfl; intro hIsFn; refine o_callf hIsFn (g3 ..) ?_; skip)) | ((first | (apply ops_split_t; rfl; rfl; exact nle rfl) | (apply ops_split_f; rfl; rfl; exact nle rfl) | (apply awp_cond; rfl)); all_goals (intro hc; have hp := hc; first | (simp at hp; done) | ((try simp at hp); first | (exfalso; omega) | skip))) | (apply awp_cond_any; rfl))
  all_goals (apply fin_bool; rfl; clear g3; simp_all)
end Go.Proofs.YtaoffekhpjgmdaaGreatDoor

/- Clients, plain: what must be in any case. -/
set_option linter.unusedSimpArgs false
set_option linter.unusedVariables false
namespace Go.Proofs.YtaoffekhpjgmdaaGreatDoor
open Go.Ab Go.RowKit
set_option maxRecDepth 100000

def begC : Cli := newC [97] [102]
def begX : Chg := ⟨2, [120], [], [49], -1⟩
def begD : Cli := { begC with mine := [⟨[120], false, [49], 1⟩] }
def begS : Cli := { begD with key := [97, 45, 49], asked := [⟨2, [120], [], [49], 0⟩], keys := 1 }
theorem begC_ok : cliErr begC = 0 := by decide
theorem begE : editR begC begX = (begD, 0) := by decide
theorem begD_ok : cliErr begD = 0 := by decide
theorem begRaw : rawD begD.base begD.mine = [⟨2, [120], [], [49], -1⟩] := by decide
theorem beg_itoa : Lib.itoa (begD.keys + 1) = [49] := by
  rw [show begD.keys + 1 = ((1 : Nat) : Int) from rfl, itoa_nat, dig_small (by decide)]; rfl
theorem begS_is : sendR begD = (begS, askR begS, true, 0) := by
  have h1 : sendL begD = [⟨2, [120], [], [49], 0⟩] := by unfold sendL; rw [begRaw]; rfl
  have h2 : sendC begD = begS := by unfold sendC; rw [h1, beg_itoa]; rfl
  unfold sendR sendW
  rw [if_neg (by rw [begD_ok]; decide), if_pos (show begD.key = [] from rfl), begRaw, if_neg (by simp), if_neg (by decide), h2]
end Go.Proofs.YtaoffekhpjgmdaaGreatDoor

/- Clients: the laws ClientNews, ClientChecks, ClientEdits. -/
set_option linter.unusedSimpArgs false
set_option linter.unnecessarySimpa false
set_option linter.unusedVariables false
set_option maxHeartbeats 1000000
namespace Go.Proofs.YtaoffekhpjgmdaaGreatDoor
open Go.Ab Go.RowKit
set_option maxRecDepth 10000
attribute [local irreducible] Awp Ops OpsX Wanted Red ExOk Go.Ab.Fin ACall Rz RzL RzRows Enters ResOk RenV RenVL ArgV ArgVL

theorem noE_big : EBig [] := ⟨fun _ h => (by cases h), by simp⟩
theorem noH_big : CBig [] := ⟨fun _ h => (by cases h), by simp⟩
theorem begC_big : CliBig begC := newC_big (by decide) (by decide)
theorem begD_big : CliBig begD := ⟨by decide, by decide, noE_big, ⟨fun x h => by rw [List.mem_singleton.1 h]; exact ⟨by decide, by decide⟩, by decide⟩, by decide, noH_big⟩
theorem a_cbegun : AFn C.P 8 [] (.v (.bool true)) := by
  have h1 := a_newC [97] [102] (by decide) (by decide)
  rw [show newC [97] [102] = begC from rfl, begC_ok] at h1
  have h2 := a_edit begC begX begC_big ⟨by decide, by decide, by decide⟩
  rw [begE] at h2
  have h3 := a_send begD begD_big
  rw [begS_is] at h3
  refine acall_intro Tryz.func8 rfl _ Tryz.ntmps8 (Nat.le_of_ble_eq_true rfl) _ Tryz.results8 0 rfl rfl ?_
  repeat' (first | refine walk ?_ | (first | (apply to_call Tryz.func7 rfl rfl; intro hIsFn; refine o_callp hIsFn (h1 ..) ?_) | (apply to_call Tryz.func15 rfl rfl; intro hIsFn; refine o_callp hIsFn (h2 ..) ?_) | (apply to_call Tryz.func12 rfl rfl; intro hIsFn; refine o_callp hIsFn (h3 ..) ?_)) | ((first | (apply ops_split_t; rfl; rfl; exact nle rfl) | (apply ops_split_f; rfl; rfl; exact nle rfl) | (apply awp_cond; rfl)); all_goals (intro hc; have hp := hc; first | (simp at hp; done) | ((try simp at hp); first | (exfalso; omega) | skip))) | (apply awp_cond_any; rfl))
  all_goals try (exfalso; simp_all; done)
  all_goals (apply fin_bool; rfl; rfl)
theorem a_clientIs (c d : Cli) (e w : Int) (hc : CliBig c) (hd : CliBig d) : AFn C.P 9 [.agg c.row, .v (.int .i64 e), .v (.int .i64 w), .agg d.row] (.v (.bool (decide (e = w) && decide (c = if w = 0 then d else noCli)))) := by
  by_cases hw : w = 0
  · have h1 := a_sameCli c d hc.base.len hd.base.len hc.mine.len hd.mine.len hc.asked.len hd.asked.len
    rw [if_pos hw]
    generalize decide (c = d) = D at *
    refine acall_intro Tryz.func9 rfl _ Tryz.ntmps9 (Nat.le_of_ble_eq_true rfl) _ Tryz.results9 0 rfl rfl ?_
    repeat' (first | refine walk ?_ | (first | (apply to_call Tryz.func18 rfl rfl; intro hIsFn; refine o_callf hIsFn (h1 ..) ?_; skip)) | ((first | (apply ops_split_t; rfl; rfl; exact nle rfl) | (apply ops_split_f; rfl; rfl; exact nle rfl) | (apply awp_cond; rfl)); all_goals (intro hc; have hp := hc; first | (simp at hp; done) | ((try simp at hp); first | (exfalso; omega) | skip))) | (apply awp_cond_any; rfl))
    all_goals try (exfalso; omega)
    all_goals (apply fin_bool; rfl; clear h1; simp_all)
  · have h1 := a_sameCli c noCli hc.base.len (by decide) hc.mine.len (by decide) hc.asked.len (by decide)
    rw [if_neg hw]
    generalize decide (c = noCli) = D at *
    have h1 : AFn C.P 18 [.agg c.row, .agg [.v (str []), .v (str []), .sl false [], .v (.int .i64 0), .sl false [], .v (str []), .sl false [], .v (.int .i64 0)]] (.v (.bool D)) := h1
    refine acall_intro Tryz.func9 rfl _ Tryz.ntmps9 (Nat.le_of_ble_eq_true rfl) _ Tryz.results9 0 rfl rfl ?_
    repeat' (first | refine walk ?_ | (first | (apply to_call Tryz.func18 rfl rfl; intro hIsFn; refine o_callf hIsFn (h1 ..) ?_; skip)) | ((first | (apply ops_split_t; rfl; rfl; exact nle rfl) | (apply ops_split_f; rfl; rfl; exact nle rfl) | (apply awp_cond; rfl)); all_goals (intro hc; have hp := hc; first | (simp at hp; done) | ((try simp at hp); first | (exfalso; omega) | skip))) | (apply awp_cond_any; rfl))
    all_goals try (exfalso; omega)
    all_goals (apply fin_bool; rfl; clear h1; simp_all)
theorem noCli_big : CliBig noCli := ⟨by decide, by decide, noE_big, noE_big, by decide, noH_big⟩
theorem ite_same {P : Prop} [Decidable P] {α : Type} (x : α) : (if P then x else x) = x := by split <;> rfl
theorem law_cnews0 (who folder : Str) (hw : who.length ≤ 140737488355328) (hf : folder.length ≤ 140737488355328) (h2 : AFn C.P 10 [.agg (newC who folder).row] (.v (.int .i64 (cliErr (newC who folder))))) : AFn C.P 3 [.v (str who), .v (str folder)] (.v (.bool true)) := by
  have hB := newC_big hw hf
  have h1 := a_newC who folder hw hf
  have hw2 : (newC who folder).row = [.v (str who), .v (str folder), .sl false [], .v (.int .i64 0), .sl false [], .v (str []), .sl false [], .v (.int .i64 0)] := rfl
  generalize hE : cliErr (newC who folder) = E at *
  have hR : (orNo E (newC who folder)).1 = if E = 0 then newC who folder else noCli := by unfold orNo; split <;> rfl
  have hR2 : (orNo E (newC who folder)).2 = E := by unfold orNo; split <;> simp_all
  have hRB : CliBig (orNo E (newC who folder)).1 := by rw [hR]; split; exact hB; exact noCli_big
  have h3 := a_clientIs (orNo E (newC who folder)).1 (newC who folder) E E hRB hB
  rw [show (decide (E = E) && decide ((orNo E (newC who folder)).1 = if E = 0 then newC who folder else noCli)) = true from by rw [hR]; simp] at h3
  generalize orNo E (newC who folder) = R at *
  obtain ⟨r, e⟩ := R
  simp only at hR2
  subst hR2
  rw [hw2] at h2 h3
  clear hR hRB hB hE
  refine acall_intro Tryz.func3 rfl _ Tryz.ntmps3 (Nat.le_of_ble_eq_true rfl) _ Tryz.results3 0 rfl rfl ?_
  repeat' (first | refine walk ?_ | (first | (apply to_call Tryz.func7 rfl rfl; intro hIsFn; refine o_callp hIsFn (h1 ..) ?_) | (apply to_call Tryz.func10 rfl rfl; intro hIsFn; refine o_callf hIsFn (h2 ..) ?_; skip) | (apply to_call Tryz.func8 rfl rfl; intro hIsFn; refine o_callf hIsFn (a_cbegun ..) ?_; skip) | (apply to_call Tryz.func9 rfl rfl; intro hIsFn; refine o_callf hIsFn (h3 ..) ?_; skip)) | ((first | (apply ops_split_t; rfl; rfl; exact nle rfl) | (apply ops_split_f; rfl; rfl; exact nle rfl) | (apply awp_cond; rfl)); all_goals (intro hc; have hp := hc; first | (simp at hp; done) | ((try simp at hp); first | (exfalso; omega) | skip))) | (apply awp_cond_any; rfl))
  all_goals try (exfalso; simp_all; done)
  all_goals (apply fin_bool; rfl; simp_all)
end Go.Proofs.YtaoffekhpjgmdaaGreatDoor

/- Clients: the law ClientNews, without a bound. -/
set_option linter.unusedSimpArgs false
set_option linter.unnecessarySimpa false
set_option linter.unusedVariables false
set_option maxHeartbeats 1000000
namespace Go.Proofs.YtaoffekhpjgmdaaGreatDoor
open Go.Ab Go.RowKit
set_option maxRecDepth 10000
attribute [local irreducible] Awp Ops OpsX Wanted Red ExOk Go.Ab.Fin ACall Rz RzL RzRows Enters ResOk RenV RenVL ArgV ArgVL

theorem a_checkTree0 : AFn C.P 21 [entAV []] (.v (.int .i64 (treeErr []))) := by
  refine acall_intro Tryz.func21 rfl _ Tryz.ntmps21 (Nat.le_of_ble_eq_true rfl) _ Tryz.results21 0 rfl rfl ?_
  repeat' (first | refine walk ?_ | fail | ((first | (apply ops_split_t; rfl; rfl; exact nle rfl) | (apply ops_split_f; rfl; rfl; exact nle rfl) | (apply awp_cond; rfl)); all_goals (intro hc; have hp := hc; first | (simp at hp; done) | ((try simp at hp); first | (exfalso; omega) | skip))) | (apply awp_cond_any; rfl))
  all_goals try (exfalso; omega)
  (refine Awp.red (red_pure (ts := [(0, .sl false []), (3, .v (.int .i64 ((0 : Nat) : Int)))]) ?_) ?_; ((repeat (first | exact tsok_nil | refine p_pure ?_ | refine p_eq ?_ ?_))))
  refine awp_loop (fun n σ => n = 0 ∧ σ = ⟨[(0, .sl false []), (3, .v (.int .i64 ((0 : Nat) : Int)))], [], C.nh⟩) 0 ⟨rfl, rfl⟩ ?_
  rintro n σ ⟨rfl, rfl⟩
  repeat' (first | refine walk ?_ | fail | ((first | (apply ops_split_t; rfl; rfl; exact nle rfl) | (apply ops_split_f; rfl; rfl; exact nle rfl) | (apply awp_cond; rfl)); all_goals (intro hc; have hp := hc; first | (simp at hp; done) | ((try simp at hp); first | (exfalso; omega) | skip))) | (apply awp_cond_any; rfl))
  all_goals try (exfalso; omega)
  (refine Awp.red (red_pure (ts := [(0, .sl false []), (5, .v (.int .i64 ((1 : Nat) : Int)))]) ?_) ?_; ((repeat (first | exact tsok_nil | refine p_pure ?_ | refine p_eq ?_ ?_))))
  refine awp_loop (fun n σ => n = 0 ∧ σ = ⟨[(0, .sl false []), (5, .v (.int .i64 ((1 : Nat) : Int)))], [], C.nh⟩) 0 ⟨rfl, rfl⟩ ?_
  rintro n σ ⟨rfl, rfl⟩
  repeat' (first | refine walk ?_ | fail | ((first | (apply ops_split_t; rfl; rfl; exact nle rfl) | (apply ops_split_f; rfl; rfl; exact nle rfl) | (apply awp_cond; rfl)); all_goals (intro hc; have hp := hc; first | (simp at hp; done) | ((try simp at hp); first | (exfalso; omega) | skip))) | (apply awp_cond_any; rfl))
  all_goals try (exfalso; omega)
  (refine Awp.red (red_pure (ts := [(0, .sl false []), (6, .v (.int .i64 ((0 : Nat) : Int)))]) ?_) ?_; ((repeat (first | exact tsok_nil | refine p_pure ?_ | refine p_eq ?_ ?_))))
  refine awp_loop (fun n σ => n = 0 ∧ σ = ⟨[(0, .sl false []), (6, .v (.int .i64 ((0 : Nat) : Int)))], [], C.nh⟩) 0 ⟨rfl, rfl⟩ ?_
  rintro n σ ⟨rfl, rfl⟩
  repeat' (first | refine walk ?_ | fail | ((first | (apply ops_split_t; rfl; rfl; exact nle rfl) | (apply ops_split_f; rfl; rfl; exact nle rfl) | (apply awp_cond; rfl)); all_goals (intro hc; have hp := hc; first | (simp at hp; done) | ((try simp at hp); first | (exfalso; omega) | skip))) | (apply awp_cond_any; rfl))
  all_goals try (exfalso; omega)
  (refine Awp.red (red_pure (ts := [(0, .sl false []), (7, .v (.int .i64 ((0 : Nat) : Int)))]) ?_) ?_; ((repeat (first | exact tsok_nil | refine p_pure ?_ | refine p_eq ?_ ?_))))
  refine awp_loop (fun n σ => n = 0 ∧ σ = ⟨[(0, .sl false []), (7, .v (.int .i64 ((0 : Nat) : Int)))], [], C.nh⟩) 0 ⟨rfl, rfl⟩ ?_
  rintro n σ ⟨rfl, rfl⟩
  repeat' (first | refine walk ?_ | fail | ((first | (apply ops_split_t; rfl; rfl; exact nle rfl) | (apply ops_split_f; rfl; rfl; exact nle rfl) | (apply awp_cond; rfl)); all_goals (intro hc; have hp := hc; first | (simp at hp; done) | ((try simp at hp); first | (exfalso; omega) | skip))) | (apply awp_cond_any; rfl))
  all_goals try (exfalso; omega)
  all_goals (apply fin_int; rfl; rfl)
theorem law_cnewsN_all (ys : List AV) (h : TyAllW C.tab 140737488355328 [9, 9] ys) : AFn C.P 3 ys (.v (.bool true)) := by
  obtain ⟨_, _, rfl, h0, _, _, rfl, h1, rfl⟩ := h
  obtain ⟨a, rfl, ha⟩ := tyv_str h0
  obtain ⟨b, rfl, hb⟩ := tyv_str h1
  exact law_cnews0 a b ha hb (a_checkC0 _ (newC_big ha hb) a_checkTree0 a_checkTree0)
end Go.Proofs.YtaoffekhpjgmdaaGreatDoor
