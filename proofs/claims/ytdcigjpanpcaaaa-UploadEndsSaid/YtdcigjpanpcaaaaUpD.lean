/- Uploads: Clone, IndexFunc, DeleteFunc over sessions. -/
import Derived.Test.YtdcigjpanpcaaaaApp
import Derived.Test.YtdcigjpanpcaaaaUpA
import Derived.Lib.SliceRun
namespace Go.Proofs.Ytdcigjpanpcaaaa
open Go.RowKit

theorem elSess : ElT Try.prog 22 44 5 56 :=
  ElT.mk' (z := .agg #[.int .i64 0, .string ⟨#[]⟩, .string ⟨#[]⟩, .int .i64 0, .int .i64 0]) Try.underlying22 (by kernel_rfl) rfl (by decide)

set_option maxRecDepth 100000 in
set_option maxHeartbeats 1000000 in
theorem cloneS_any (v : Value) (l : List Sess) (w : World) (B : Nat) (hs : Sl Sess.cells 5 w B v l) (hB : B ≤ w.heap.size) (hb : l.length ≤ 1000000) :
    Calls Try.prog 80 #[v] w fun e w' => ∃ v', e = .returned v' ∧ Own Sess.cells 44 5 w' w.heap.size v' l ∧ Below w.heap.size w w' := by
  obtain ⟨A, cap, rfl, hl, hcap, hcap2⟩ := hs.form
  cases A with
  | none =>
    have hm : l = [] := by
      cases l with
      | nil => rfl
      | cons a t => obtain ⟨b, off, hA, _⟩ := hs.at rfl (k := 0) (by simp); cases hA
    subst hm
    have hn := fun w => Lib.run_eql_slice_nil (P := Try.prog) w 22 44 none 0 cap 0 0 Try.underlying22
    go_enter Try.func80, Try.ntmps80
    go_wp2
    go_ret
    exact ⟨_, rfl, Own.nil', Below.refl _ _⟩
  | some ad =>
    have hn := fun w => Lib.run_eql_slice_nil (P := Try.prog) w 22 44 (some ad) l.length cap 0 0 Try.underlying22
    go_enter Try.func80, Try.ntmps80
    have hown : Own Sess.cells 44 5 (w.alloc (.cells #[] 44)) w.heap.size (.slice (some ⟨w.heap.size, 0, none⟩) 0 0) [] := World.ownsRow_lit w #[] 0 (Nat.le_refl _) (Nat.zero_le _) rfl
    have hs1 := (hs.more hB).below ((Below.refl w.heap.size w).alloc (Nat.le_refl _) (.cells #[] 44))
    have hsz : ([] : List Sess).length + l.length ≤ maxLen := by simp only [List.length_nil, Nat.zero_add]; unfold maxLen; omega
    go_wp2_with (at_builtin; refine wpList_app rfl _ _ rfl Sess.cells_len Sess.one elSess rfl rfl hown hs1 (by simp only [List.length_nil, Nat.zero_add]; omega) hsz (by simp) ?_; intro v' w' h1 h2 _)
    go_ret
    exact ⟨_, rfl, by simpa using h1, ((Below.refl _ _).alloc (Nat.le_refl _) _).trans h2⟩

/-- Is it over? -/
def gone (now : Int) (s : Sess) : Bool := decide (s.till < now)

set_option maxRecDepth 100000 in
set_option maxHeartbeats 1000000 in
theorem sweptC_any (s : Sess) (now : Int) (b : Nat) (w : World) (hn : w.cell? ⟨b, 0, none⟩ = some (.int .i64 now)) (hb : b < w.heap.size) :
    Calls Try.prog 81 #[.agg #[.int .i64 s.number, .string ⟨s.who.toArray⟩, .string ⟨s.text.toArray⟩, .int .i64 s.size, .int .i64 s.till], .pointer (some ⟨b, 0, none⟩)] w fun e w' => e = .returned (.bool (gone now s)) ∧ Below w.heap.size w w' := by
  go_enter Try.func81, Try.ntmps81
  go_wp2
  go_ret
  exact ⟨rfl, (by repeat (first | exact Below.refl _ _ | assumption | refine Below.alloc ?_ (by simp; try omega) _ | refine Below.setCell ?_ (by simp; try omega) _ | refine Below.drew ?_))⟩

def isMine (number : Int) (who : Str) (s : Sess) : Bool := s.number == number && s.who == who

set_option maxRecDepth 100000 in
set_option maxHeartbeats 1000000 in
theorem mineC_any (s : Sess) (number : Int) (who : Str) (b b' : Nat) (w : World) (hn : w.cell? ⟨b, 0, none⟩ = some (.int .i64 number)) (hn' : w.cell? ⟨b', 0, none⟩ = some (.string ⟨who.toArray⟩)) (hb : b < w.heap.size) (hb' : b' < w.heap.size) :
    Calls Try.prog 69 #[.agg #[.int .i64 s.number, .string ⟨s.who.toArray⟩, .string ⟨s.text.toArray⟩, .int .i64 s.size, .int .i64 s.till], .pointer (some ⟨b, 0, none⟩), .pointer (some ⟨b', 0, none⟩)] w fun e w' => e = .returned (.bool (isMine number who s)) ∧ Below w.heap.size w w' := by
  go_enter Try.func69, Try.ntmps69
  go_wp2
  all_goals
    go_ret
    exact ⟨ret_bool (by go_light; simp_all [isMine]), (by repeat (first | exact Below.refl _ _ | assumption | refine Below.alloc ?_ (by simp; try omega) _ | refine Below.setCell ?_ (by simp; try omega) _ | refine Below.drew ?_))⟩

set_option maxRecDepth 100000 in
set_option maxHeartbeats 1000000 in
theorem indexF_swept (now : Int) (b0 : Nat) (v : Value) (l : List Sess) (w : World) (B : Nat) (hs : Sl Sess.cells 5 w B v l) (hB : B ≤ w.heap.size) (hn : w.cell? ⟨b0, 0, none⟩ = some (.int .i64 now)) (hb0 : b0 < w.heap.size) :
    Calls Try.prog 68 #[v, .func (.func 81) #[] #[.pointer (some ⟨b0, 0, none⟩)]] w fun e w' => e = .returned (.int .i64 ((l.findIdx? (gone now)).elim (-1) (fun i => (i : Int)))) ∧ Below w.heap.size w w' := by
  obtain ⟨A, cap, rfl, hl, hcap, hcap2⟩ := hs.form
  replace hs := hs.more hB
  go_enter Try.func68, Try.ntmps68
  go_wp2
  go_loopw [5, 8] (fun _ i wr => ∃ k : Nat, k ≤ l.length ∧ i = .int .i64 k ∧ (l.take k).all (fun s => !gone now s) = true ∧ Below w.heap.size w wr) (fun _ i _ => l.length - (intOf i).toNat)
  case atStart => exact ⟨0, Nat.zero_le _, rfl, rfl, Below.refl _ _⟩
  case round =>
    obtain ⟨k, hk, rfl, ha, hb⟩ := hrel
    have HA := Lib.hid ha
    clear ha
    have hn1 : wr.cell? ⟨b0, 0, none⟩ = some (.int .i64 now) := by rw [hb.cell hb0]; exact hn
    have hz := hb.size
    by_cases hlt : k < l.length
    · obtain ⟨b, off, rfl, hB, c0, c1, c2, c3, c4⟩ := (hs.below hb).sess hlt
      cases hp : gone now l[k] with
      | true =>
        have HF : Hid (l.findIdx? (gone now) = some k) := findIdx_hit hlt HA.out hp
        go_wp2_with (go_at_call 81; refine (sweptC_any _ _ _ _ hn1 (by omega)).mono ?_; rintro e w1 ⟨rfl, hb1⟩)
        go_ret
        exact ⟨ret_int (by rw [HF.out]; rfl), hb.trans (hb1.mono hz)⟩
      | false =>
        have HS := Lib.hid (all_succ (p := fun s => !gone now s) hlt HA.out (by simp [hp]))
        go_wp2_with (go_at_call 81; refine (sweptC_any _ _ _ _ hn1 (by omega)).mono ?_; rintro e w1 ⟨rfl, hb1⟩)
        go_roundw
        case rel => exact ⟨k + 1, by omega, by go_num, HS.out, hb.trans (hb1.mono hz)⟩
        case measure => simp [intOf]; omega
    · have HF : Hid (l.findIdx? (gone now) = none) := findIdx_miss hlt HA.out
      go_wp2
      go_ret
      exact ⟨ret_int (by rw [HF.out]; rfl), hb⟩
end Go.Proofs.Ytdcigjpanpcaaaa
