import Derived.Test.YtiljlcgmcmjcoaaGreatDoorMz7
set_option linter.unusedSimpArgs false
set_option maxHeartbeats 1000000
namespace Go.Proofs.YtiljlcgmcmjcoaaGreatDoor
open Go.Ab Go.RowKit
set_option maxRecDepth 10000
attribute [local irreducible] Awp jV q9 qJ Red qy Go.Ab.Fin ql Rz yQ qA qG ResOk jC q6 jH qT
def zeroSess : Sess := ⟨0, [], [], 0, 0⟩
def VS (p : Sess → Bool) (l : List Sess) : List Sess := l.filter (fun s => !p s) ++ List.replicate (l.length - (l.filter (fun s => !p s)).length) zeroSess
theorem qa5 (p : Sess → Bool) (g : FuncId) (hg : IsFn C.P g) (cap : List AV) (hcap : AV.pure.pureL cap = true) (l : List Sess) (hl : l.length ≤ 1000000) (hc : ∀ s, s ∈ l → jY C.P g (.agg s.row :: cap) (.v (.bool (p s)))) :
    ql C1.P 177 [.os 0 0 l.length, .clo (.func g) [] cap] [.own false 5 (l.map Sess.row)] (.os 0 0 (l.filter (fun s => !p s)).length) [.own false 5 ((VS p l).map Sess.row)] := by
  refine qa (C := C1) Tryz.func177 rfl _ Tryz.ntmps177 (Nat.le_of_ble_eq_true rfl) _ Tryz.results177 1 rfl rfl ?_
  have hidx := Y7 p g hg cap hcap l hl hc
  rcases xf p l with ⟨h1, h2⟩ | ⟨k, hk, h1, h2, h3⟩
  · rw [h1] at hidx
    repeat' (first | refine qe ?_ | (first | (apply qj; apply yd [0]; exact jG Tryz.func155 rfl rfl; exact hidx; (case hz => exact qm (ya rfl (by simp) (js fun _ => rfl)) (qm (xh hcap) qZ)); (case hfl => rfl); (case hN => exact nle rfl))) | ((first | refine qc ?_ ?_ | refine qb ?_ ?_ | refine xsC ?_ ?_); all_goals (intro hc; have hp := hc; try simp at hp; try (exfalso; omega))) | refine qw ?_ ?_)
    rw [show l.filter (fun s => !p s) = l from List.filter_eq_self.2 (fun s hs => by simp [h2 s hs])]
    (refine w8 (rs := [.tmp 4]) [] 1 ?_; (repeat (first | exact qg | refine jQ ?_ | refine qM ?_ ?_)); all_goals (apply qgB; simp [VS, show l.filter (fun s => !p s) = l from List.filter_eq_self.2 (fun s hs => by simp [h2 s hs])]))
  · rw [h1] at hidx
    repeat' (first | refine qe ?_ | (first | (apply qj; apply yd [0]; exact jG Tryz.func155 rfl rfl; exact hidx; (case hz => exact qm (ya rfl (by simp) (js fun _ => rfl)) (qm (xh hcap) qZ)); (case hfl => rfl); (case hN => exact nle rfl))) | ((first | refine qc ?_ ?_ | refine qb ?_ ?_ | refine xsC ?_ ?_); all_goals (intro hc; have hp := hc; try simp at hp; try (exfalso; omega))) | refine qw ?_ ?_)
    all_goals try (exfalso; omega)
    (refine Awp.red (jq (τ := ⟨[(0, .os 0 0 l.length), (1, .clo (.func g) [] cap), (5, .v (.int .i64 (k : Int))), (6, .v (.int .i64 ((k + 1 : Nat) : Int)))], [(0, .own false 5 (l.map Sess.row))], 1⟩) [] rfl ?gts ?ghs) ?gmain; (case gts => (repeat (first | exact qd | refine qi ?_ | refine xM ?_ | refine vc ?_ | refine qR ?_ ?_))); (case ghs => (repeat (first | exact qg | refine jQ ?_ | refine qM ?_ ?_))))
    refine qu (fun n σ => ∃ (j q : Nat) (R : List Sess), Del (fun s => !p s) l q j R ∧ n = l.length - j ∧ σ = ⟨[(0, .os 0 0 l.length), (1, .clo (.func g) [] cap), (5, .v (.int .i64 (q : Int))), (6, .v (.int .i64 (j : Int)))], [(0, .own false 5 (R.map Sess.row))], 1⟩) (l.length - (k + 1)) ⟨k + 1, k, l, Del.start hk (List.all_eq_true.2 (fun s hs => by simp [h2 s hs])) (by simp [h3]), rfl, rfl⟩ ?_
    rintro n σ ⟨j, q, R, hD, rfl, rfl⟩
    have hlen := hD.len
    have hle := hD.le
    have hjn := hD.jn
    by_cases hlt : j < l.length
    · have hcj := hc l[j] (List.getElem_mem _)
      have hRj := hD.at hlt
      have hr := qF (f := Sess.row) (l := R) (i := j) (by omega)
      rw [hRj] at hr
      have hr2 := qF (f := Sess.row) (l := R) (i := q) (by omega)
      repeat' (first | refine qe ?_ | (first | (refine vk ?_) | (apply qj; apply zk []; rfl; exact hg; exact hcj; (case hz => exact qm (qQ rfl) (ka hcap)); (case hfl => rfl); (case hN => exact nle rfl))) | ((first | refine qc ?_ ?_ | refine qb ?_ ?_ | refine xsC ?_ ?_); all_goals (intro hc; have hp := hc; try simp at hp; try (exfalso; omega))) | refine qw ?_ ?_)
      all_goals try (exfalso; omega)
      · refine ⟨l.length - (j + 1), _, by omega, jq (τ := ⟨[(0, .os 0 0 l.length), (1, .clo (.func g) [] cap), (5, .v (.int .i64 ((q + 1 : Nat) : Int))), (6, .v (.int .i64 ((j + 1 : Nat) : Int)))], [(0, .own false 5 ((R.set q l[j]).map Sess.row))], 1⟩) [] rfl ?gts ?ghs, j + 1, q + 1, R.set q l[j], hD.keep hlt (by simp [hp]), rfl, rfl⟩
        case gts => (repeat (first | exact qd | refine qi ?_ | refine xM ?_ | refine vc ?_ | refine qR ?_ ?_))
        case ghs =>
          (repeat (first | exact qg | refine jQ ?_ | refine qM ?_ ?_))
          rw [List.map_set]; rfl
      · refine ⟨l.length - (j + 1), _, by omega, jq (τ := ⟨[(0, .os 0 0 l.length), (1, .clo (.func g) [] cap), (5, .v (.int .i64 (q : Int))), (6, .v (.int .i64 ((j + 1 : Nat) : Int)))], [(0, .own false 5 (R.map Sess.row))], 1⟩) [] rfl ?gts ?ghs, j + 1, q, R, hD.drop hlt (by simp [hp]), rfl, rfl⟩
        case gts => (repeat (first | exact qd | refine qi ?_ | refine xM ?_ | refine vc ?_ | refine qR ?_ ?_))
        case ghs => (repeat (first | exact qg | refine jQ ?_ | refine qM ?_ ?_))
    have hRq := hD.end_ hlt
    have hql : (l.filter (fun s => !p s)).length = q := by rw [← hRq]; simp; omega
    repeat' (first | refine qe ?_ | (first | (refine Q7 ?_) | (refine qb5 ?_)) | ((first | refine qc ?_ ?_ | refine qb ?_ ?_ | refine xsC ?_ ?_); all_goals (intro hc; have hp := hc; try simp at hp; try (exfalso; omega))) | refine qw ?_ ?_)
    all_goals try (exfalso; omega)
    rw [hql]
    (refine w8 (rs := [.tmp 4]) [] 1 ?_; (repeat (first | exact qg | refine jQ ?_ | refine qM ?_ ?_)); all_goals (rw [Nat.zero_add, List.drop_eq_nil_of_le (by simp; omega), List.append_nil, ← List.map_take, hRq, VS, hql, List.map_append, List.map_replicate]; rfl))
theorem qeL (s : Sess) (now : Int) : jY C.P 178 [.agg s.row, .fp [[.v (.int .i64 now)]] 0 0] (.v (.bool (!Yx now s))) := by
  refine qa Tryz.func178 rfl _ Tryz.ntmps178 (Nat.le_of_ble_eq_true rfl) _ Tryz.results178 0 rfl rfl ?_
  repeat' (first | refine qe ?_ | fail | ((first | refine xsC ?_ ?_); all_goals (intro hc; have hp := hc; try simp at hp; try (exfalso; omega))) | refine qw ?_ ?_)
  all_goals (apply jA; rfl; rw [Bool.eq_iff_iff]; simp [Yx])
def yt (l : List Sess) (now : Int) : List Sess := qN l now ++ List.replicate (l.length - (qN l now).length) zeroSess
theorem KO (l : List Sess) (now : Int) : VS (fun s => !Yx now s) l = yt l now := by simp [VS, yt, qN]
theorem KT (l : List Sess) (now : Int) : l.filter (fun s => !(fun s => !Yx now s) s) = qN l now := by simp [qN]
theorem qga (u : Upl) (now : Int) (hl : u.sess.length ≤ 1000000) :
    ql C.P 154 [vn u, .v (.int .i64 now)] [] (.agg [.os 0 0 (qN u.sess now).length, .v (.int .i64 u.next), .v (.int .i64 u.lasts), .v (.int .i64 u.room)]) [.own false 5 ((yt u.sess now).map Sess.row)] := by
  have hdel := qa5 (fun s => !Yx now s) 178 (jG Tryz.func178 rfl rfl) [.fp [[.v (.int .i64 now)]] 0 0] rfl u.sess hl (fun s _ => qeL s now)
  rw [KO, KT] at hdel
  refine qa Tryz.func154 rfl _ Tryz.ntmps154 (Nat.le_of_ble_eq_true rfl) _ Tryz.results154 0 rfl rfl ?_
  (repeat apply j0); apply jm; (repeat' (first | apply jL | refine zi ?_ | refine kV ?_ | refine QL ?_ | refine wI ?_ | refine zl ?_ | refine vH ?_ | (first | fail) | refine xl ?_)); show Awp _ _ _ _ _
  refine kf 3 1 ?_
  repeat' (first | refine qe ?_ | (first | (apply qH Tryz.func80 rfl rfl; intro hIsFn; refine j6 ([]) hIsFn (qap u.sess hl ..) ?_) | (apply qH Tryz.func177 rfl rfl; intro hIsFn; refine wD ([3]) 3 hIsFn (hdel ..) ?_)) | ((first | refine xsC ?_ ?_); all_goals (intro hc; have hp := hc; try simp at hp; try (exfalso; omega))) | refine qw ?_ ?_)
  (refine w8 (rs := [.cell 4 26]) [(3, 0)] 1 ?_; (repeat (first | exact qg | refine jQ ?_ | refine qM ?_ ?_)); all_goals trace_state)
end Go.Proofs.YtiljlcgmcmjcoaaGreatDoor
set_option linter.unusedSimpArgs false
set_option maxHeartbeats 1000000
namespace Go.Proofs.YtiljlcgmcmjcoaaGreatDoor
open Go.Ab Go.RowKit
set_option maxRecDepth 10000
attribute [local irreducible] Awp jV q9 qJ Red qy Go.Ab.Fin ql Rz yQ qA qG ResOk jC q6 jH qT
def qb6 (u : Upl) (now : Int) (n : Nat) : AV := .agg [.os n 0 (qN u.sess now).length, .v (.int .i64 u.next), .v (.int .i64 u.lasts), .v (.int .i64 u.room)]
theorem XS (u : Upl) (hu : UBig u) (now : Int) (he : jy u now ≠ 0) : jY C.P 125 [vn u, .v (.int .i64 now)] (.tup [vn Js, .v (.int .i64 (jy u now))]) := by
  refine qa Tryz.func125 rfl _ Tryz.ntmps125 (Nat.le_of_ble_eq_true rfl) _ Tryz.results125 0 rfl rfl ?_
  repeat' (first | refine qe ?_ | (first | refine xsF Tryz.func31 (X5 u hu ..) ?_ | refine xsF Tryz.func68 (we ..) ?_) | ((first | refine qc ?_ ?_ | refine qb ?_ ?_ | refine xsC ?_ ?_); all_goals (intro hc; have hp := hc; try simp at hp; try (exfalso; omega))) | refine qw ?_ ?_)
  · have h1 : jy u now = yq u := by simp_all [jy]
    rw [h1]
    (exact yv (rs := [.cell 4 26, .tmp 5]))
  · have h1 : jy u now = 3 := by simp_all [jy]
    rw [h1]
    (exact yv (rs := [.cell 4 26, .tmp 5]))
  · exfalso; simp_all [jy]
theorem JI (u : Upl) (hu : UBig u) (now : Int) (he : jy u now = 0) : ql C.P 125 [vn u, .v (.int .i64 now)] [] (.tup [qb6 u now 0, .v (.int .i64 0)]) [.own false 5 ((yt u.sess now).map Sess.row)] := by
  have hl6 : u.sess.length ≤ 1000000 := by have := (uok he).len; omega
  have h0 := (JK he).1
  refine qa Tryz.func125 rfl _ Tryz.ntmps125 (Nat.le_of_ble_eq_true rfl) _ Tryz.results125 0 rfl rfl ?_
  repeat' (first | refine qe ?_ | (first | refine xsF Tryz.func31 (X5 u hu ..) ?_ | refine xsF Tryz.func68 (we ..) ?_ | (apply qH Tryz.func154 rfl rfl; intro hIsFn; refine j6 ([]) hIsFn (qga u now hl6 ..) ?_)) | ((first | refine qc ?_ ?_ | refine qb ?_ ?_ | refine xsC ?_ ?_); all_goals (intro hc; have hp := hc; try simp at hp; try (exfalso; omega))) | refine qw ?_ ?_)
  all_goals try (exfalso; simp_all [jy]; done)
  (refine w8 (rs := [.cell 4 26, .tmp 5]) [(2, 0)] 1 ?_; (repeat (first | exact qg | refine jQ ?_ | refine qM ?_ ?_)); all_goals trace_state)
theorem vG (l : List Sess) (now : Int) : ((yt l now).map Sess.row).take (qN l now).length = (qN l now).map Sess.row := by
  unfold yt
  rw [List.map_append, List.take_append_of_le_length (by simp), kq]
theorem zv (l : List Sess) (now : Int) : (qN l now).length ≤ (yt l now).length := by simp [yt]
theorem Yr {h : Nat → HB} {n : Nat} {l : List Sess} {now : Int} (hn : h n = .own false 5 ((yt l now).map Sess.row)) : Rz h (.os n 0 (qN l now).length) (.sl false ((qN l now).map Sess.row)) := by
  refine ZV hn (by simpa using zv l now) ?_
  rw [List.drop_zero, vG]
  exact wg fun _ => rfl
theorem qcF {a b c : Int} (h : qz a b c = true) : b ≤ a ∧ a ≤ c := by simpa [qz] using h
theorem qcD {u : Upl} {who : qB} {size now : Int} (hb0 : jy u now = 0) (h : qo who = false) : yH u who size now = 1 := by simp [yH, hb0, h]
theorem qaT {u : Upl} {who : qB} {size now : Int} (hb0 : jy u now = 0) (hnm : qo who = true) (h : qz size 0 300 = false) : yH u who size now = 3 := by
  have hor : size < 0 ∨ 300 < size ∨ u.next = 1099511627776 := by simp [qz] at h; omega
  simp only [yH, hb0, hnm, hor, if_true]
theorem qbz {u : Upl} {who : qB} {size now : Int} (hb0 : jy u now = 0) (hnm : qo who = true) (h : u.next = 1099511627776) : yH u who size now = 3 := by
  have hor : size < 0 ∨ 300 < size ∨ u.next = 1099511627776 := .inr (.inr h)
  simp only [yH, hb0, hnm, hor, if_true]
theorem Y1 {u : Upl} {who : qB} {size now : Int} (hb0 : jy u now = 0) (hnm : qo who = true) (hwi : qz size 0 300 = true) (hnx : ¬ u.next = 1099511627776) : yH u who size now = if (qN u.sess now).length = 20 then 2 else if u.room < jU (qN u.sess now) who + size then 10 else 0 := by
  have hor : ¬ (size < 0 ∨ 300 < size ∨ u.next = 1099511627776) := by simp [qz] at hwi; omega
  simp only [yH, hb0, hnm, hor, if_true, if_false]
theorem qcN {u : Upl} {who : qB} {size now : Int} (hb0 : jy u now = 0) (hnm : qo who = true) (hwi : qz size 0 300 = true) (hnx : ¬ u.next = 1099511627776) (h : ((qN u.sess now).length : Int) = 20) : yH u who size now = 2 := by
  rw [Y1 hb0 hnm hwi hnx, if_pos (by omega)]
theorem qbg {u : Upl} {who : qB} {size now : Int} (hb0 : jy u now = 0) (hnm : qo who = true) (hwi : qz size 0 300 = true) (hnx : ¬ u.next = 1099511627776) (h : ¬ ((qN u.sess now).length : Int) = 20) (h' : u.room < jU (qN u.sess now) who + size) : yH u who size now = 10 := by
  rw [Y1 hb0 hnm hwi hnx, if_neg (by omega), if_pos h']
theorem qdg {u : Upl} {who : qB} {size now : Int} (hb0 : jy u now = 0) (hnm : qo who = true) (hwi : qz size 0 300 = true) (hnx : ¬ u.next = 1099511627776) (h : ¬ ((qN u.sess now).length : Int) = 20) (h' : jU (qN u.sess now) who + size ≤ u.room) : yH u who size now = 0 := by
  rw [Y1 hb0 hnm hwi hnx, if_neg (by omega), if_neg (by omega)]
theorem qep (u : Upl) (hu : UBig u) (who : qB) (hw : who.length ≤ 9223372036854775807) (size now : Int) :
    jY C.P 86 [vn u, .v (str who), .v (.int .i64 size), .v (.int .i64 now)] (Y3 u who size now) := by
  by_cases hb0 : jy u now = 0
  · have ok := uok hb0
    have hss : ∀ s, s ∈ qN u.sess now → 0 ≤ s.size ∧ s.size ≤ 300 := fun s hs => ok.sz s (w6 hs)
    have hsl : (qN u.sess now).length ≤ 20 := Nat.le_trans (kM _ _) ok.len
    have hsr := zv u.sess now
    have hob := ZZ who hss
    obtain ⟨n0, n1, l0, l1, r0, r1, x0, x1, _, _⟩ := ok
    refine qa Tryz.func86 rfl _ Tryz.ntmps86 (Nat.le_of_ble_eq_true rfl) _ Tryz.results86 0 rfl rfl ?_
    repeat' (first | refine qe ?_ | (first | (apply qH Tryz.func125 rfl rfl; intro hIsFn; refine j6 ([]) hIsFn (JI u hu now hb0 ..) ?_) | refine xsF Tryz.func37 (Ys _ hw ..) ?_ | refine xsF Tryz.func68 (we ..) ?_ | (apply qj; apply yd [2]; exact jG Tryz.func70 rfl rfl; apply qfj (qN u.sess now) who hss (by omega); (case hz => exact qm (Yr rfl) (qm (qQ rfl) qZ)); (case hfl => rfl); (case hN => exact nle rfl)) | (refine jZ ?_) | (refine xw ?_) | (refine (fun (hsz : 0 ≤ size ∧ size ≤ 300) => ?_) (qcF ?_); rotate_left; assumption; apply qj; apply VK; rfl; rfl; omega; omega; exact nle rfl)) | ((first | refine qc ?_ ?_ | refine qb ?_ ?_ | refine xsC ?_ ?_); all_goals (intro hc; have hp := hc; try simp at hp; try (exfalso; omega))) | refine qw ?_ ?_)
    all_goals try (exfalso; simp_all; done)
    all_goals first
      | (refine vt (zG (qcD hb0 ?_) ?_) ?_; assumption; decide; (exact yv (rs := [.cell 8 26, .tmp 9, .tmp 10])))
      | (refine vt (zG (qaT hb0 ?_ ?_) ?_) ?_; assumption; assumption; decide; (exact yv (rs := [.cell 8 26, .tmp 9, .tmp 10])))
      | (refine vt (zG (qbz hb0 ?_ ?_) ?_) ?_; assumption; assumption; decide; (exact yv (rs := [.cell 8 26, .tmp 9, .tmp 10])))
      | (refine vt (zG (qcN hb0 ?_ ?_ ?_ ?_) ?_) ?_; assumption; assumption; assumption; assumption; decide; (exact yv (rs := [.cell 8 26, .tmp 9, .tmp 10])))
      | (refine vt (zG (qbg hb0 ?_ ?_ ?_ ?_ ?_) ?_) ?_; assumption; assumption; assumption; assumption; assumption; decide; (exact yv (rs := [.cell 8 26, .tmp 9, .tmp 10])))
      | skip
    refine vt (qdc (qdg hb0 ?_ ?_ ?_ ?_ ?_)) ?_
    iterate 5 first | assumption | omega
    (refine y6 (rs := [.cell 8 26, .tmp 9, .tmp 10]) ?_; (repeat' (first | exact qZ | apply qm | exact qQ rfl | exact yI | exact z1 | apply yh | apply yX | apply yc | apply y2 | apply yx | apply yW | refine z8 ?_ | apply xS)); all_goals (rw [vG, show (Ye u who size now).sess = qN u.sess now ++ [⟨u.next, who, [], size, now + u.lasts⟩] from rfl, List.map_append]; rfl))
  · refine qa Tryz.func86 rfl _ Tryz.ntmps86 (Nat.le_of_ble_eq_true rfl) _ Tryz.results86 0 rfl rfl ?_
    repeat' (first | refine qe ?_ | (first | refine xsQ Tryz.func125 (XS u hu now hb0 ..) ?_) | ((first | refine qc ?_ ?_ | refine qb ?_ ?_ | refine xsC ?_ ?_); all_goals (intro hc; have hp := hc; try simp at hp; try (exfalso; omega))) | refine qw ?_ ?_)
    all_goals try (exfalso; simp_all; done)
    rw [zG (e := jy u now) (by simp [yH, hb0]) hb0]
    (exact yv (rs := [.cell 8 26, .tmp 9, .tmp 10]))
end Go.Proofs.YtiljlcgmcmjcoaaGreatDoor
set_option linter.unusedSimpArgs false
set_option maxHeartbeats 1000000
namespace Go.Proofs.YtiljlcgmcmjcoaaGreatDoor
open Go.Ab Go.RowKit
set_option maxRecDepth 10000
attribute [local irreducible] Awp jV q9 qJ Red qy Go.Ab.Fin ql Rz yQ qA qG ResOk jC q6 jH qT
def yb (u : Upl) (who : qB) (number now : Int) : Int :=
  if jy u now = 0 then
    if qo who then
      if yj (vS who number) (qN u.sess now) < 0 then 5 else 0
    else 1
  else jy u now
theorem qcv (s : Sess) (who : qB) (number : Int) : jY C.P 156 [.agg s.row, .fp [[.v (.int .i64 number)]] 0 0, .fp [[.v (str who)]] 0 0] (.v (.bool (vS who number s))) := by
  refine qa Tryz.func156 rfl _ Tryz.ntmps156 (Nat.le_of_ble_eq_true rfl) _ Tryz.results156 0 rfl rfl ?_
  repeat' (first | refine qe ?_ | fail | ((first | refine qc ?_ ?_ | refine qb ?_ ?_ | refine xsC ?_ ?_); all_goals (intro hc; have hp := hc; try simp at hp; try (exfalso; omega))) | refine qw ?_ ?_)
  all_goals (apply jA; rfl; simp_all [vS])
theorem JX (u : Upl) (hu : UBig u) (who : qB) (hw : who.length ≤ 9223372036854775807) (number now : Int) (he : yb u who number now ≠ 0) :
    jY C.P 126 [vn u, .v (str who), .v (.int .i64 number), .v (.int .i64 now)] (wW Js 0 (yb u who number now)) := by
  by_cases hb0 : jy u now = 0
  · have ok := uok hb0
    have hl6 : (qN u.sess now).length ≤ 1000000 := by have := kM u.sess now; have := ok.len; omega
    have hidx := Y7 (vS who number) 156 (jG Tryz.func156 rfl rfl) [.fp [[.v (.int .i64 number)]] 0 0, .fp [[.v (str who)]] 0 0] rfl (qN u.sess now) hl6 (fun s _ => qcv s who number)
    refine qa Tryz.func126 rfl _ Tryz.ntmps126 (Nat.le_of_ble_eq_true rfl) _ Tryz.results126 0 rfl rfl ?_
    (repeat apply j0); apply jm; (repeat' (first | apply jL | refine zc ?_ | refine zd ?_ | refine zi ?_ | refine kV ?_ | refine za ?_ | refine Qa ?_ | refine ze ?_ | refine Qu ?_ | refine qgF ?_ | refine wj ?_ | refine JH ?_ | refine qgD ?_ | refine QL ?_ | refine Xh ?_ | refine YS ?_ | refine wI ?_ | refine zl ?_ | refine vH ?_ | (first | fail) | refine xl ?_ | refine x7 ?_ | refine xX ?_ | refine xb ?_ | refine y9 ?_ | refine zn ?_ | refine zr ?_ | refine x3 ?_ | refine x6 ?_ | ((first | refine qc ?_ ?_ | refine qb ?_ ?_); all_goals (intro hc; have hp := hc; try simp at hp; try (exfalso; omega))))); show Awp _ _ _ _ _
    refine kf 5 1 ?_
    refine kf 6 2 ?_
    repeat' (first | refine qe ?_ | (first | (apply qH Tryz.func125 rfl rfl; intro hIsFn; refine j6 ([]) hIsFn (JI u hu now hb0 ..) ?_) | refine xsF Tryz.func37 (Ys _ hw ..) ?_ | (apply qj; apply yd [4]; exact jG Tryz.func155 rfl rfl; exact hidx; (case hz => exact qm (Yr rfl) (qm (xh rfl) qZ)); (case hfl => rfl); (case hN => exact nle rfl))) | ((first | refine qc ?_ ?_ | refine qb ?_ ?_ | refine xsC ?_ ?_); all_goals (intro hc; have hp := hc; try simp at hp; try (exfalso; omega))) | refine qw ?_ ?_)
    all_goals try (exfalso; simp_all; done)
    · have h1 : yb u who number now = 1 := by simp [yb, hb0, hp]
      rw [h1]
      (exact yv (rs := [.cell 8 26, .tmp 9, .tmp 10]))
    · have hnm : qo who = true := by assumption
      have h1 : yb u who number now = 5 := by simp [yb, hb0, hnm, hp]
      rw [h1]
      (exact yv (rs := [.cell 8 26, .tmp 9, .tmp 10]))
    · exfalso
      have hnm : qo who = true := by assumption
      have : ¬ yj (vS who number) (qN u.sess now) < 0 := by omega
      exact he (by simp [yb, hb0, hnm, this])
  · refine qa Tryz.func126 rfl _ Tryz.ntmps126 (Nat.le_of_ble_eq_true rfl) _ Tryz.results126 0 rfl rfl ?_
    repeat' (first | refine qe ?_ | (first | refine xsQ Tryz.func125 (XS u hu now hb0 ..) ?_) | ((first | refine qc ?_ ?_ | refine qb ?_ ?_ | refine xsC ?_ ?_); all_goals (intro hc; have hp := hc; try simp at hp; try (exfalso; omega))) | refine qw ?_ ?_)
    all_goals try (exfalso; simp_all; done)
    rw [show yb u who number now = jy u now from by simp [yb, hb0]]
    (exact yv (rs := [.cell 8 26, .tmp 9, .tmp 10]))
theorem Jk (u : Upl) (hu : UBig u) (who : qB) (hw : who.length ≤ 9223372036854775807) (number now : Int) (hb0 : jy u now = 0) (hnm : qo who = true) (k : Nat) (hk : yj (vS who number) (qN u.sess now) = k) :
    ql C.P 126 [vn u, .v (str who), .v (.int .i64 number), .v (.int .i64 now)] [] (.tup [qb6 u now 0, .v (.int .i64 k), .v (.int .i64 0)]) [.own false 5 ((yt u.sess now).map Sess.row)] := by
  have ok := uok hb0
  have hl6 : (qN u.sess now).length ≤ 1000000 := by have := kM u.sess now; have := ok.len; omega
  have hidx := Y7 (vS who number) 156 (jG Tryz.func156 rfl rfl) [.fp [[.v (.int .i64 number)]] 0 0, .fp [[.v (str who)]] 0 0] rfl (qN u.sess now) hl6 (fun s _ => qcv s who number)
  rw [hk] at hidx
  refine qa Tryz.func126 rfl _ Tryz.ntmps126 (Nat.le_of_ble_eq_true rfl) _ Tryz.results126 0 rfl rfl ?_
  (repeat apply j0); apply jm; (repeat' (first | apply jL | refine zc ?_ | refine zd ?_ | refine zi ?_ | refine kV ?_ | refine za ?_ | refine Qa ?_ | refine ze ?_ | refine Qu ?_ | refine qgF ?_ | refine wj ?_ | refine JH ?_ | refine qgD ?_ | refine QL ?_ | refine Xh ?_ | refine YS ?_ | refine wI ?_ | refine zl ?_ | refine vH ?_ | (first | fail) | refine xl ?_ | refine x7 ?_ | refine xX ?_ | refine xb ?_ | refine y9 ?_ | refine zn ?_ | refine zr ?_ | refine x3 ?_ | refine x6 ?_ | ((first | refine qc ?_ ?_ | refine qb ?_ ?_); all_goals (intro hc; have hp := hc; try simp at hp; try (exfalso; omega))))); show Awp _ _ _ _ _
  refine kf 5 1 ?_
  refine kf 6 2 ?_
  repeat' (first | refine qe ?_ | (first | (apply qH Tryz.func125 rfl rfl; intro hIsFn; refine j6 ([]) hIsFn (JI u hu now hb0 ..) ?_) | refine xsF Tryz.func37 (Ys _ hw ..) ?_ | (apply qj; apply yd [4]; exact jG Tryz.func155 rfl rfl; exact hidx; (case hz => exact qm (Yr rfl) (qm (xh rfl) qZ)); (case hfl => rfl); (case hN => exact nle rfl))) | ((first | refine qc ?_ ?_ | refine qb ?_ ?_ | refine xsC ?_ ?_); all_goals (intro hc; have hp := hc; try simp at hp; try (exfalso; omega))) | refine qw ?_ ?_)
  all_goals try (exfalso; simp_all; done)
  all_goals try (exfalso; omega)
  (refine w8 (rs := [.cell 8 26, .tmp 9, .tmp 10]) [(4, 0)] 1 ?_; (repeat (first | exact qg | refine jQ ?_ | refine qM ?_ ?_)); all_goals trace_state)
end Go.Proofs.YtiljlcgmcmjcoaaGreatDoor
set_option linter.unusedSimpArgs false
set_option maxHeartbeats 1000000
namespace Go.Proofs.YtiljlcgmcmjcoaaGreatDoor
open Go.Ab Go.RowKit
set_option maxRecDepth 10000
attribute [local irreducible] Awp jV q9 qJ Red qy Go.Ab.Fin ql Rz yQ qA qG ResOk jC q6 jH qT
theorem Q4 {l : List Sess} {now : Int} {k : Nat} {s : Sess} (h : (qN l now)[k]? = some s) : ((yt l now).map Sess.row)[k]? = some s.row := by
  unfold yt
  rw [List.map_append, List.getElem?_append_left (by have := (List.getElem?_eq_some_iff.1 h).1; simpa using this), List.getElem?_map, h]; rfl
theorem Wr (u : Upl) (hu : UBig u) (who : qB) (hw : who.length ≤ 9223372036854775807) (number now : Int) (he : yb u who number now ≠ 0) :
    jY C.P 88 [vn u, .v (str who), .v (.int .i64 number), .v (.int .i64 now)] (.tup [.v (.int .i64 0), .v (.int .i64 (yb u who number now))]) := by
  refine qa Tryz.func88 rfl _ Tryz.ntmps88 (Nat.le_of_ble_eq_true rfl) _ Tryz.results88 0 rfl rfl ?_
  repeat' (first | refine qe ?_ | (first | refine xsQ Tryz.func126 (JX u hu who hw number now he ..) ?_) | ((first | refine qc ?_ ?_ | refine qb ?_ ?_ | refine xsC ?_ ?_); all_goals (intro hc; have hp := hc; try simp at hp; try (exfalso; omega))) | refine qw ?_ ?_)
  all_goals try (exfalso; simp_all; done)
  (exact yv (rs := [.tmp 8, .tmp 9]))
theorem qaS (u : Upl) (hu : UBig u) (who : qB) (hw : who.length ≤ 9223372036854775807) (number now : Int) (hb0 : jy u now = 0) (hnm : qo who = true) (k : Nat) (hk : yj (vS who number) (qN u.sess now) = k) (s : Sess) (hs : (qN u.sess now)[k]? = some s) (_hst : s.text.length ≤ 9223372036854775807) :
    jY C.P 88 [vn u, .v (str who), .v (.int .i64 number), .v (.int .i64 now)] (.tup [.v (.int .i64 s.text.length), .v (.int .i64 0)]) := by
  have hkl : k < (qN u.sess now).length := (List.getElem?_eq_some_iff.1 hs).1
  have hr := Q4 hs
  refine qa Tryz.func88 rfl _ Tryz.ntmps88 (Nat.le_of_ble_eq_true rfl) _ Tryz.results88 0 rfl rfl ?_
  repeat' (first | refine qe ?_ | (first | (apply qH Tryz.func126 rfl rfl; intro hIsFn; refine j6 ([]) hIsFn (Jk u hu who hw number now hb0 hnm k hk ..) ?_) | (refine vk ?_)) | ((first | refine qc ?_ ?_ | refine qb ?_ ?_ | refine xsC ?_ ?_); all_goals (intro hc; have hp := hc; try simp at hp; try (exfalso; omega))) | refine qw ?_ ?_)
  all_goals try (exfalso; simp_all; done)
  (exact yv (rs := [.tmp 8, .tmp 9]))
def zH (t : qB) (offset : Int) (x : qB) : Bool := qz offset 0 t.length && decide (t.drop offset.toNat = x)
def Jw (s : Sess) (offset : Int) (text : qB) : Int := if zH s.text offset text then 0 else if offset = s.text.length then (if s.size < s.text.length + text.length then 2 else 0) else 4
def YF (s : Sess) (offset : Int) (text : qB) (till : Int) : Sess := if zH s.text offset text then s else { s with text := s.text ++ text, till := till }
def Xs (u : Upl) (k : Nat) (s : Sess) (offset : Int) (text : qB) (now : Int) : AV :=
  if Jw s offset text = 0 then wW { u with sess := (qN u.sess now).set k (YF s offset text (now + u.lasts)) } (YF s offset text (now + u.lasts)).text.length 0 else wW Js 0 (Jw s offset text)
theorem Xp {u : Upl} {k : Nat} {s : Sess} {offset : Int} {text : qB} {now e : Int} (h : Jw s offset text = e) (h0 : e ≠ 0) : Xs u k s offset text now = wW Js 0 e := by unfold Xs; rw [h, if_neg h0]
theorem qau {u : Upl} {k : Nat} {s : Sess} {offset : Int} {text : qB} {now : Int} (h : zH s.text offset text = true) (hs : (qN u.sess now)[k]? = some s) : Xs u k s offset text now = wW (JC u now) s.text.length 0 := by
  unfold Xs Jw YF
  simp only [h, if_true]
  obtain ⟨hk, e⟩ := List.getElem?_eq_some_iff.1 hs
  rw [← e, List.set_getElem_self]; rfl
theorem qc1 {u : Upl} {k : Nat} {s : Sess} {offset : Int} {text : qB} {now : Int} (h : zH s.text offset text = false) (h1 : offset = s.text.length) (h2 : ¬ s.size < s.text.length + text.length) :
    Xs u k s offset text now = wW { u with sess := (qN u.sess now).set k { s with text := s.text ++ text, till := now + u.lasts } } (s.text ++ text).length 0 := by
  have he : Jw s offset text = 0 := by unfold Jw; rw [h, if_neg (by simp), if_pos h1, if_neg h2]
  unfold Xs
  rw [if_pos he]
  unfold YF
  rw [h, if_neg (by simp)]
theorem qe4 {s : Sess} {offset : Int} {text : qB} (h : zH s.text offset text = false) (h1 : ¬ offset = s.text.length) : Jw s offset text = 4 := by unfold Jw; rw [h, if_neg (by simp), if_neg h1]
theorem qgJ {s : Sess} {offset : Int} {text : qB} (h : zH s.text offset text = false) (h1 : offset = s.text.length) (h2 : (s.size < s.text.length + text.length)) : Jw s offset text = 2 := by unfold Jw; rw [h, if_neg (by simp), if_pos h1, if_pos h2]
theorem Kz {h : Nat → HB} {n k : Nat} {l : List Sess} {now : Int} {s : Sess} {row : List AV} (hn : h n = .own false 5 (((yt l now).map Sess.row).set k row)) (hrow : row = s.row) : Rz h (.os n 0 (qN l now).length) (.sl false (((qN l now).set k s).map Sess.row)) := by
  subst hrow
  have hlen := zv l now
  refine ZV hn (by simpa using hlen) ?_
  rw [List.drop_zero, List.take_set, vG, ← List.map_set]
  exact wg fun _ => rfl
theorem Zj {h : Nat → HB} {n k : Nat} {l : List Sess} {now : Int} {s : Sess} {row0 row : List AV} (hn : h n = .own false 5 ((((yt l now).map Sess.row).set k row0).set k row)) (hrow : row = s.row) : Rz h (.os n 0 (qN l now).length) (.sl false (((qN l now).set k s).map Sess.row)) := by
  rw [List.set_set] at hn
  exact Kz hn hrow
theorem qab (u : Upl) (hu : UBig u) (who : qB) (hw : who.length ≤ 9223372036854775807) (number now : Int) (hb0 : jy u now = 0) (hnm : qo who = true) (k : Nat) (hk : yj (vS who number) (qN u.sess now) = k) (s : Sess) (hs : (qN u.sess now)[k]? = some s) (hst : s.text.length ≤ 1000)
    (offset : Int) (text : qB) (htx : text.length ≤ 140737488355328) :
    jY C.P 87 [vn u, .v (str who), .v (.int .i64 number), .v (.int .i64 offset), .v (str text), .v (.int .i64 now)] (Xs u k s offset text now) := by
  have ok := uok hb0
  have hkl : k < (qN u.sess now).length := (List.getElem?_eq_some_iff.1 hs).1
  have hr := Q4 hs
  obtain ⟨n0, n1, l0, l1, r0, r1, x0, x1, _, _⟩ := ok
  by_cases hin : qz offset 0 s.text.length = true
  · obtain ⟨n, rfl⟩ : ∃ n : Nat, offset = n := ⟨offset.toNat, by simp [qz] at hin; omega⟩
    have hnl : n ≤ s.text.length := by simp [qz] at hin; omega
    have hag : zH s.text n text = decide ((s.text.take s.text.length).drop n = text) := by simp [zH, hin]
    refine qa Tryz.func87 rfl _ Tryz.ntmps87 (Nat.le_of_ble_eq_true rfl) _ Tryz.results87 0 rfl rfl ?_
    repeat' (first | refine qe ?_ | (first | (apply qH Tryz.func126 rfl rfl; intro hIsFn; refine j6 ([]) hIsFn (Jk u hu who hw number now hb0 hnm k hk ..) ?_) | (refine vk ?_) | refine xsF Tryz.func68 (we ..) ?_ | (refine qhk ?_)) | ((first | refine qc ?_ ?_ | refine qb ?_ ?_ | refine xsC ?_ ?_); all_goals (intro hc; have hp := hc; try simp at hp; try (exfalso; omega))) | refine qw ?_ ?_)
    all_goals try (exfalso; simp_all; done)
    · have ha : zH s.text n text = true := hag.trans hc
      refine vt (qau ha hs) ?_
      (refine y6 (rs := [.cell 12 26, .tmp 13, .tmp 14]) ?_; (repeat' (first | (apply Yr; rfl) | exact qZ | apply qm | exact qQ rfl | exact yI | exact z1 | apply yh | apply yX | apply yc | apply y2 | apply yx | apply yW | refine z8 ?_ | apply xS)); all_goals trace_state)
    all_goals have ha : zH s.text n text = false := hag.trans (by assumption)
    · refine vt (Xp (qe4 ha hp) (by decide)) ?_
      (exact yv (rs := [.cell 12 26, .tmp 13, .tmp 14]))
    · refine vt (Xp (qgJ ha (by assumption) hp) (by decide)) ?_
      (exact yv (rs := [.cell 12 26, .tmp 13, .tmp 14]))
    · refine vt (qc1 ha (by assumption) (by omega)) ?_
      (refine y6 (rs := [.cell 12 26, .tmp 13, .tmp 14]) ?_; (repeat' (first | (apply Zj; (case hn => rfl); (case hrow => rfl)) | exact qZ | apply qm | exact qQ rfl | exact yI | exact z1 | apply yh | apply yX | apply yc | apply y2 | apply yx | apply yW | refine z8 ?_ | apply xS)); all_goals trace_state)
  · have hin : qz offset 0 s.text.length = false := by simpa using hin
    have ha : zH s.text offset text = false := by simp [zH, hin]
    refine qa Tryz.func87 rfl _ Tryz.ntmps87 (Nat.le_of_ble_eq_true rfl) _ Tryz.results87 0 rfl rfl ?_
    repeat' (first | refine qe ?_ | (first | (apply qH Tryz.func126 rfl rfl; intro hIsFn; refine j6 ([]) hIsFn (Jk u hu who hw number now hb0 hnm k hk ..) ?_) | (refine vk ?_) | refine xsF Tryz.func68 (we ..) ?_) | ((first | refine qc ?_ ?_ | refine qb ?_ ?_ | refine xsC ?_ ?_); all_goals (intro hc; have hp := hc; try simp at hp; try (exfalso; omega))) | refine qw ?_ ?_)
    all_goals try (exfalso; simp_all; done)
    · refine vt (Xp (qe4 ha hp) (by decide)) ?_
      (exact yv (rs := [.cell 12 26, .tmp 13, .tmp 14]))
    all_goals (exfalso; simp [qz] at hin; omega)
theorem KH (u : Upl) (hu : UBig u) (who : qB) (hw : who.length ≤ 9223372036854775807) (number now : Int) (he : yb u who number now ≠ 0) (offset : Int) (text : qB) :
    jY C.P 87 [vn u, .v (str who), .v (.int .i64 number), .v (.int .i64 offset), .v (str text), .v (.int .i64 now)] (wW Js 0 (yb u who number now)) := by
  refine qa Tryz.func87 rfl _ Tryz.ntmps87 (Nat.le_of_ble_eq_true rfl) _ Tryz.results87 0 rfl rfl ?_
  repeat' (first | refine qe ?_ | (first | refine xsQ Tryz.func126 (JX u hu who hw number now he ..) ?_) | ((first | refine qc ?_ ?_ | refine qb ?_ ?_ | refine xsC ?_ ?_); all_goals (intro hc; have hp := hc; try simp at hp; try (exfalso; omega))) | refine qw ?_ ?_)
  all_goals try (exfalso; simp_all; done)
  (exact yv (rs := [.cell 12 26, .tmp 13, .tmp 14]))
end Go.Proofs.YtiljlcgmcmjcoaaGreatDoor
set_option linter.unusedSimpArgs false
set_option maxHeartbeats 1000000
namespace Go.Proofs.YtiljlcgmcmjcoaaGreatDoor
open Go.Ab Go.RowKit
set_option maxRecDepth 10000
attribute [local irreducible] Awp jV q9 qJ Red qy Go.Ab.Fin ql Rz yQ qA qG ResOk jC q6 jH qT
theorem qff {α : Type} (rs : List α) (i n : Nat) (hi : i < n) (hn : n ≤ rs.length) (z : α) :
    (rs.take i ++ (rs.drop (i + 1)).take (n - (i + 1)) ++ rs.drop (i + (n - (i + 1)))).take (i + (n - (i + 1))) ++ List.replicate (n - (i + (n - (i + 1)))) z ++ (rs.take i ++ (rs.drop (i + 1)).take (n - (i + 1)) ++ rs.drop (i + (n - (i + 1)))).drop (i + (n - (i + 1)) + (n - (i + (n - (i + 1))))) =
      rs.take i ++ (rs.drop (i + 1)).take (n - (i + 1)) ++ [z] ++ rs.drop n := by
  have key : ∀ (P : List α) (m : Nat) (Q : List α), P.length = m → (P ++ Q).take m ++ List.replicate 1 z ++ (P ++ Q).drop (m + 1) = P ++ [z] ++ Q.drop 1 := by
    intro P m Q hP
    subst hP
    rw [List.take_left, List.drop_append, List.drop_eq_nil_of_le (by omega), List.nil_append, show P.length + 1 - P.length = 1 from by omega]
    rfl
  rw [show n - (i + (n - (i + 1))) = 1 from by omega, key _ _ _ (by simp; omega), List.drop_drop, show i + (n - (i + 1)) + 1 = n from by omega]
theorem Wd {rs : List (List AV)} (hrs : ∀ row, row ∈ rs → AV.pure.pureL row = true) (i n : Nat) : ∀ row, row ∈ rs.take i ++ (rs.drop (i + 1)).take (n - (i + 1)) ++ [zeroSess.row] ++ rs.drop n → AV.pure.pureL row = true := by
  intro row hr
  rcases List.mem_append.1 hr with hr | hr
  · rcases List.mem_append.1 hr with hr | hr
    · rcases List.mem_append.1 hr with hr | hr
      · exact hrs row (List.mem_of_mem_take hr)
      · exact hrs row (List.mem_of_mem_drop (List.mem_of_mem_take hr))
    · obtain rfl := List.mem_singleton.1 hr; rfl
  · exact hrs row (List.mem_of_mem_drop hr)
theorem qdq (rs : List (List AV)) (hrs : ∀ row, row ∈ rs → AV.pure.pureL row = true) (hrc : rs.all (fun row => row.length == 5 && row.all jP) = true) (n i : Nat) (hi : i < n) (hn : n ≤ rs.length) (hn6 : n ≤ 1000000) :
    ql C1.P 157 [.os 0 0 n, .v (.int .i64 (i : Int)), .v (.int .i64 ((i + 1 : Nat) : Int))] [.own false 5 rs] (.os 0 0 (n - 1)) [.own false 5 (rs.take i ++ (rs.drop (i + 1)).take (n - (i + 1)) ++ [zeroSess.row] ++ rs.drop n)] := by
  refine qa (C := C1) Tryz.func157 rfl _ Tryz.ntmps157 (Nat.le_of_ble_eq_true rfl) _ Tryz.results157 1 rfl rfl ?_
  repeat' (first | refine qe ?_ | (first | (refine qfi ?_) | (refine Q7 ?_) | (refine qb5 ?_) | (apply zt; apply Yv; (case hx => rfl); (case hT => rfl); (case he => rfl); (case hE => rfl); (case hn => rfl); (case hsrc => apply w4; rfl; rfl; (show 0 + (i + 1) + (n - (i + 1)) ≤ rs.length; omega); rfl; exact hrc); (case hfit => simp; omega); (case hN => exact nle rfl))) | ((first | refine qc ?_ ?_ | refine qb ?_ ?_ | refine xsC ?_ ?_); all_goals (intro hc; have hp := hc; try simp at hp; try (exfalso; omega))) | refine qw ?_ ?_)
  all_goals try (exfalso; omega)
  have hpu := Wd hrs i n
  have hL : (List.take (n - (i + 1)) (List.drop (i + 1) rs)).length = n - (i + 1) := by simp; omega
  (apply je (rs := [.tmp 6]) [] 1; (case hr => (repeat (first | exact qO | (apply qP; rfl) | (apply qE; rfl; rfl; rfl; rfl; rfl)))); (case hL => rfl); (case hh => (repeat (first | exact qg | refine jQ ?_ | refine qM ?_ ?_)); all_goals (simp only [Nat.zero_add, Nat.sub_zero, hL]; exact qff rs i n hi hn _)); (case hi => first | exact (rfl : _ = ([] : List (Nat × Nat))) | exact (rfl : _ = [((0 : Nat), (0 : Nat))]) | exact (rfl : _ = [((0 : Nat), (0 : Nat)), (1, 1)])); (case hz => first | rfl | (simp [jw, AV.ren, AV.ren.renL, qU, qp, qS]; done) | (simp [jw, AV.ren, AV.ren.renL, qU, qp, qS, *]; done) | (simp [jw, AV.ren, AV.ren.renL, qU, qp, qS]; omega)))
def Y4 (u : Upl) (t : qB) (e : Int) : AV := .tup [vn u, .v (str t), .v (.int .i64 e)]
def qfr (u : Upl) (now : Int) (k : Nat) : Upl := { u with sess := (qN u.sess now).eraseIdx k }
def ZL (u : Upl) (now : Int) (k : Nat) (s : Sess) : AV := if s.text.length < s.size then Y4 Js [] 4 else Y4 (qfr u now k) s.text 0
theorem qgy {h : Nat → HB} {n k : Nat} {l : List Sess} {now : Int} (hk : k < (qN l now).length) (hn : h n = .own false 5 (((yt l now).map Sess.row).take k ++ (((yt l now).map Sess.row).drop (k + 1)).take ((qN l now).length - (k + 1)) ++ [zeroSess.row] ++ ((yt l now).map Sess.row).drop (qN l now).length)) :
    Rz h (.os n 0 ((qN l now).length - 1)) (.sl false (((qN l now).eraseIdx k).map Sess.row)) := by
  have hlen := zv l now
  refine ZV hn (by simp; omega) ?_
  have e : ((((yt l now).map Sess.row).take k ++ (((yt l now).map Sess.row).drop (k + 1)).take ((qN l now).length - (k + 1)) ++ [zeroSess.row] ++ ((yt l now).map Sess.row).drop (qN l now).length).drop 0).take ((qN l now).length - 1) = ((qN l now).eraseIdx k).map Sess.row := by
    rw [List.drop_zero, List.append_assoc, List.take_append_of_le_length (by simp; omega), List.take_of_length_le (by simp; omega), List.eraseIdx_eq_take_drop_succ, List.map_append]
    congr 1
    · rw [List.map_take, ← vG l now, List.take_take, Nat.min_eq_left (by omega)]
    · rw [List.map_drop, ← vG l now, List.drop_take]
  rw [e]
  exact wg fun _ => rfl
theorem Kg (u : Upl) (hu : UBig u) (who : qB) (hw : who.length ≤ 9223372036854775807) (number now : Int) (he : yb u who number now ≠ 0) :
    jY C.P 128 [vn u, .v (str who), .v (.int .i64 number), .v (.int .i64 now)] (Y4 Js [] (yb u who number now)) := by
  refine qa Tryz.func128 rfl _ Tryz.ntmps128 (Nat.le_of_ble_eq_true rfl) _ Tryz.results128 0 rfl rfl ?_
  repeat' (first | refine qe ?_ | (first | refine xsQ Tryz.func126 (JX u hu who hw number now he ..) ?_) | ((first | refine qc ?_ ?_ | refine qb ?_ ?_ | refine xsC ?_ ?_); all_goals (intro hc; have hp := hc; try simp at hp; try (exfalso; omega))) | refine qw ?_ ?_)
  all_goals try (exfalso; simp_all; done)
  (exact yv (rs := [.cell 8 26, .tmp 9, .tmp 10]))
theorem qav (u : Upl) (hu : UBig u) (who : qB) (hw : who.length ≤ 9223372036854775807) (number now : Int) (hb0 : jy u now = 0) (hnm : qo who = true) (k : Nat) (hk : yj (vS who number) (qN u.sess now) = k) (s : Sess) (hs : (qN u.sess now)[k]? = some s) :
    jY C.P 128 [vn u, .v (str who), .v (.int .i64 number), .v (.int .i64 now)] (ZL u now k s) := by
  have hkl : k < (qN u.sess now).length := (List.getElem?_eq_some_iff.1 hs).1
  have hr := Q4 hs
  have hsl : (qN u.sess now).length ≤ 20 := Nat.le_trans (kM _ _) (uok hb0).len
  have hdel := qdq ((yt u.sess now).map Sess.row) (js fun _ => rfl) (xG fun _ => rfl) (qN u.sess now).length k hkl (by simpa using zv u.sess now) (by omega)
  have hpu := Wd (rs := (yt u.sess now).map Sess.row) (js fun _ => rfl) k (qN u.sess now).length
  refine qa Tryz.func128 rfl _ Tryz.ntmps128 (Nat.le_of_ble_eq_true rfl) _ Tryz.results128 0 rfl rfl ?_
  repeat' (first | refine qe ?_ | (first | (apply qH Tryz.func126 rfl rfl; intro hIsFn; refine j6 ([]) hIsFn (Jk u hu who hw number now hb0 hnm k hk ..) ?_) | (refine vk ?_) | (apply qH Tryz.func157 rfl rfl; intro hIsFn; refine wD ([2]) 2 hIsFn (hdel ..) ?_)) | ((first | refine qc ?_ ?_ | refine qb ?_ ?_ | refine xsC ?_ ?_); all_goals (intro hc; have hp := hc; try simp at hp; try (exfalso; omega))) | refine qw ?_ ?_)
  all_goals try (exfalso; simp_all; done)
  · rw [show ZL u now k s = Y4 Js [] 4 from by unfold ZL; rw [if_pos hp]]
    (exact yv (rs := [.cell 8 26, .tmp 9, .tmp 10]))
  · skip
    rw [show ZL u now k s = Y4 (qfr u now k) s.text 0 from by unfold ZL; rw [if_neg (by omega)]]
    (refine y6 (rs := [.cell 8 26, .tmp 9, .tmp 10]) ?_; (repeat' (first | (apply qgy hkl; rfl) | exact qZ | apply qm | exact qQ rfl | exact yI | exact z1 | apply yh | apply yX | apply yc | apply y2 | apply yx | apply yW | refine z8 ?_ | apply xS)); all_goals trace_state)
end Go.Proofs.YtiljlcgmcmjcoaaGreatDoor
set_option linter.unusedSimpArgs false
set_option maxHeartbeats 1000000
namespace Go.Proofs.YtiljlcgmcmjcoaaGreatDoor
open Go.Ab Go.RowKit
set_option maxRecDepth 10000
attribute [local irreducible] Awp jV q9 qJ Red qy Go.Ab.Fin ql Rz yQ qA qG ResOk jC q6 jH qT
end Go.Proofs.YtiljlcgmcmjcoaaGreatDoor
set_option linter.unusedSimpArgs false
namespace Go.Proofs.YtiljlcgmcmjcoaaGreatDoor
theorem XD {l : List Sess} : qr (fun a b => decide (a.number < b.number)) l = true ↔ l.Pairwise (fun a b => a.number < b.number) := by
  induction l with
  | nil => simp [qr]
  | cons x l ih =>
    simp only [qr, Bool.and_eq_true, ih, List.pairwise_cons]
    constructor
    · rintro ⟨h1, h2⟩
      refine ⟨?_, h2⟩
      cases l with
      | nil => simp
      | cons y l =>
        simp at h1
        intro z hz
        rcases List.mem_cons.1 hz with rfl | hz
        · exact h1
        · have := (List.pairwise_cons.1 h2).1 z hz; omega
    · rintro ⟨h1, h2⟩
      refine ⟨?_, h2⟩
      cases l with
      | nil => rfl
      | cons y l => simpa using h1 y (List.mem_cons_self ..)
theorem zZ (s : Sess) (l : List Sess) (who : qB) : jU (s :: l) who = (if s.who = who then s.size else 0) + jU l who := by simp [jU]
theorem Zs {l : List Sess} (p : Sess → Bool) (who : qB) (h : ∀ s, s ∈ l → 0 ≤ s.size) : jU (l.filter p) who ≤ jU l who := by
  induction l with
  | nil => simp
  | cons s l ih =>
    have ih := ih fun t ht => h t (List.mem_cons_of_mem _ ht)
    have h0 := h s (List.mem_cons_self ..)
    rw [zZ]
    by_cases hp : p s = true
    · rw [List.filter_cons_of_pos hp, zZ]; omega
    · rw [List.filter_cons_of_neg hp]; split <;> omega
theorem YJ {u : Upl} (h1 : vC u = true) (h2 : u.sess.length ≤ 20) (h3 : ∀ s, s ∈ u.sess → j7 u.next s = 0) (h4 : u.sess.Pairwise (fun a b => a.number < b.number)) (h5 : ∀ s, s ∈ u.sess → jU u.sess s.who ≤ u.room) : yq u = 0 := by
  unfold yq
  rw [if_pos h1, if_neg (by omega), if_pos (jz.2 h3), if_pos (XD.2 h4), if_pos (show Za u = true from List.all_eq_true.2 fun s hs => by simpa using h5 s hs)]
theorem zO {u : Upl} (h : yq u = 0) : vC u = true ∧ u.sess.length ≤ 20 ∧ (∀ s, s ∈ u.sess → j7 u.next s = 0) ∧ u.sess.Pairwise (fun a b => a.number < b.number) ∧ ∀ s, s ∈ u.sess → jU u.sess s.who ≤ u.room := by
  obtain ⟨a, b, c, d, e⟩ := VB h
  exact ⟨a, b, c, XD.1 d, fun s hs => by have := List.all_eq_true.1 e s hs; simpa using this⟩
theorem Q5 {u : Upl} (t : Int) (h : yq u = 0) : yq (JC u t) = 0 := by
  obtain ⟨a, b, c, d, e⟩ := zO h
  refine YJ a (Nat.le_trans (kM _ _) b) (fun s hs => c s (w6 hs)) (d.filter _) (fun s hs => ?_)
  have h1 := Zs (l := u.sess) (Yx t) s.who (fun s hs => (xZ (c s hs)).1)
  have h2 := e s (w6 hs)
  show jU (qN u.sess t) s.who ≤ u.room
  unfold qN
  omega
theorem XK {next : Int} {s : Sess} (h : j7 next s = 0) : 1 ≤ s.number ∧ s.number ≤ next - 1 := by
  unfold j7 at h
  split at h
  · rename_i h1
    simp [qz] at h1; omega
  · cases h
theorem qaL {next : Int} {s : Sess} (h : j7 next s = 0) : j7 (next + 1) s = 0 := by
  have hn := XK h
  have e : qz s.number 1 (next + 1 - 1) = qz s.number 1 (next - 1) := by
    rw [Bool.eq_iff_iff]; simp [qz]; omega
  unfold j7 at h ⊢
  rw [e]; exact h
theorem W0 {u : Upl} {who : qB} {size now : Int} (h : yH u who size now = 0) : jy u now = 0 ∧ qo who = true ∧ 0 ≤ size ∧ size ≤ 300 ∧ u.next ≠ 1099511627776 ∧ (qN u.sess now).length ≠ 20 ∧ jU (qN u.sess now) who + size ≤ u.room := by
  unfold yH at h
  split at h
  · rename_i h1
    split at h
    · rename_i h2
      split at h
      · cases h
      · rename_i h3
        split at h
        · cases h
        · rename_i h4
          split at h
          · cases h
          · rename_i h5
            exact ⟨h1, h2, by omega, by omega, fun e => h3 (.inr (.inr e)), h4, by omega⟩
    · cases h
  · rename_i h1; exact absurd h h1
theorem WH {u : Upl} {who : qB} {size now : Int} (h : yH u who size now = 0) : yq (Ye u who size now) = 0 := by
  obtain ⟨h1, h2, h3, h4, h5, h6, h7⟩ := W0 h
  have ok := uok h1
  obtain ⟨n0, n1, l0, l1, r0, r1, x0, x1, _, _⟩ := ok
  obtain ⟨a, b, c, d, e⟩ := zO (Q5 now (JK h1).1)
  have hU : (JC u now).sess = qN u.sess now := rfl
  have hn : (JC u now).next = u.next := rfl
  have hr : (JC u now).room = u.room := rfl
  rw [hU] at b c d e
  rw [hn] at c
  rw [hr] at e
  refine YJ ?_ ?_ ?_ ?_ ?_
  · have e1 : qz u.lasts 1 1000000 = true := by simp [qz]; omega
    have e2 : qz u.room 0 100000 = true := by simp [qz]; omega
    have e3 : qz (u.next + 1) 1 1099511627776 = true := by simp [qz]; omega
    show (qz u.lasts 1 1000000 && qz u.room 0 100000 && qz (u.next + 1) 1 1099511627776) = true
    rw [e1, e2, e3]; rfl
  · simp [Ye]; omega
  · intro s hs
    simp only [Ye, List.mem_append, List.mem_singleton] at hs
    rcases hs with hs | rfl
    · exact qaL (c s hs)
    · have w1 : qz u.next 1 u.next = true := by simp [qz]; omega
      have w2 : qz size 0 300 = true := by simp [qz]; omega
      have w3 : qz (now + u.lasts) 0 2199023255552 = true := by simp [qz]; omega
      simp [j7, Ye, w1, w2, w3, h2]; omega
  · show (qN u.sess now ++ [_]).Pairwise _
    rw [List.pairwise_append]
    refine ⟨d, by simp, fun s hs t ht => ?_⟩
    obtain rfl := List.mem_singleton.1 ht
    have := XK (c s hs)
    show s.number < u.next
    omega
  · intro s hs
    simp only [Ye, List.mem_append, List.mem_singleton] at hs
    show jU (qN u.sess now ++ [_]) s.who ≤ u.room
    rw [XC]
    rcases hs with hs | rfl
    · have := e s hs
      by_cases hw : who = s.who
      · rw [if_pos hw]; rw [← hw]; exact h7
      · rw [if_neg hw]; omega
    · simpa using h7
end Go.Proofs.YtiljlcgmcmjcoaaGreatDoor
