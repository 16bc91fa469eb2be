import Derived.Test.YtiljlcgmcmjcoaaGreatDoorMz7
set_option linter.unusedSimpArgs false
set_option maxHeartbeats 1000000
namespace Go.Proofs.YtiljlcgmcmjcoaaGreatDoor
open Go.Ab Go.RowKit
set_option maxRecDepth 10000
attribute [local irreducible] Awp jZ jg qJ Red qz Go.Ab.Fin qm Rz y0 qB qG ResOk jG q9 jK qV
def zeroSess : Sess := ⟨0, [], [], 0, 0⟩
def Zu (p : Sess → Bool) (l : List Sess) : List Sess := l.filter (fun s => !p s) ++ List.replicate (l.length - (l.filter (fun s => !p s)).length) zeroSess
theorem qb2 (p : Sess → Bool) (g : FuncId) (hg : IsFn C.P g) (cap : List AV) (hcap : AV.pure.pureL cap = true) (l : List Sess) (hl : l.length ≤ 1000000) (hc : ∀ s, s ∈ l → jT C.P g (.agg s.row :: cap) (.v (.bool (p s)))) :
    qm C1.P 177 [.os 0 0 l.length, .clo (.func g) [] cap] [.own false 5 (l.map Sess.row)] (.os 0 0 (l.filter (fun s => !p s)).length) [.own false 5 ((Zu p l).map Sess.row)] := by
  refine qa (C := C1) Tryz.func177 rfl _ Tryz.ntmps177 (Nat.le_of_ble_eq_true rfl) _ Tryz.results177 1 rfl rfl ?_
  have hidx := Xa p g hg cap hcap l hl hc
  rcases xt p l with ⟨h1, h2⟩ | ⟨k, hk, h1, h2, h3⟩
  · rw [h1] at hidx
    repeat' (first | refine qe ?_ | (first | (apply qj; apply yi [0]; exact jJ Tryz.func155 rfl rfl; exact hidx; (case hz => exact ql (yf rfl (by simp) (ju fun _ => rfl)) (ql (xr hcap) qT)); (case hfl => rfl); (case hN => exact nle rfl))) | ((first | refine qb ?_ ?_ | refine qc ?_ ?_ | refine xsC ?_ ?_); all_goals (intro hc; have hp := hc; try simp at hp; try (exfalso; omega))) | refine qv ?_ ?_)
    rw [show l.filter (fun s => !p s) = l from List.filter_eq_self.2 (fun s hs => by simp [h2 s hs])]
    (refine QB (rs := [.tmp 4]) [] 1 ?_; (repeat (first | exact qh | refine jU ?_ | refine qO ?_ ?_)); all_goals (apply qho; simp [Zu, show l.filter (fun s => !p s) = l from List.filter_eq_self.2 (fun s hs => by simp [h2 s hs])]))
  · rw [h1] at hidx
    repeat' (first | refine qe ?_ | (first | (apply qj; apply yi [0]; exact jJ Tryz.func155 rfl rfl; exact hidx; (case hz => exact ql (yf rfl (by simp) (ju fun _ => rfl)) (ql (xr hcap) qT)); (case hfl => rfl); (case hN => exact nle rfl))) | ((first | refine qb ?_ ?_ | refine qc ?_ ?_ | refine xsC ?_ ?_); all_goals (intro hc; have hp := hc; try simp at hp; try (exfalso; omega))) | refine qv ?_ ?_)
    all_goals try (exfalso; omega)
    (refine Awp.red (jt (τ := ⟨[(0, .os 0 0 l.length), (1, .clo (.func g) [] cap), (5, .v (.int .i64 (k : Int))), (6, .v (.int .i64 ((k + 1 : Nat) : Int)))], [(0, .own false 5 (l.map Sess.row))], 1⟩) [] rfl ?gts ?ghs) ?gmain; (case gts => (repeat (first | exact qd | refine qi ?_ | refine x8 ?_ | refine vo ?_ | refine qL ?_ ?_))); (case ghs => (repeat (first | exact qh | refine jU ?_ | refine qO ?_ ?_))))
    refine qr (fun n σ => ∃ (j q : Nat) (R : List Sess), Del (fun s => !p s) l q j R ∧ n = l.length - j ∧ σ = ⟨[(0, .os 0 0 l.length), (1, .clo (.func g) [] cap), (5, .v (.int .i64 (q : Int))), (6, .v (.int .i64 (j : Int)))], [(0, .own false 5 (R.map Sess.row))], 1⟩) (l.length - (k + 1)) ⟨k + 1, k, l, Del.start hk (List.all_eq_true.2 (fun s hs => by simp [h2 s hs])) (by simp [h3]), rfl, rfl⟩ ?_
    rintro n σ ⟨j, q, R, hD, rfl, rfl⟩
    have hlen := hD.len
    have hle := hD.le
    have hjn := hD.jn
    by_cases hlt : j < l.length
    · have hcj := hc l[j] (List.getElem_mem _)
      have hRj := hD.at hlt
      have hr := qx (f := Sess.row) (l := R) (i := j) (by omega)
      rw [hRj] at hr
      have hr2 := qx (f := Sess.row) (l := R) (i := q) (by omega)
      repeat' (first | refine qe ?_ | (first | (refine vz ?_) | (apply qj; apply zK []; rfl; exact hg; exact hcj; (case hz => exact ql (qM rfl) (kj hcap)); (case hfl => rfl); (case hN => exact nle rfl))) | ((first | refine qb ?_ ?_ | refine qc ?_ ?_ | refine xsC ?_ ?_); all_goals (intro hc; have hp := hc; try simp at hp; try (exfalso; omega))) | refine qv ?_ ?_)
      all_goals try (exfalso; omega)
      · refine ⟨l.length - (j + 1), _, by omega, jt (τ := ⟨[(0, .os 0 0 l.length), (1, .clo (.func g) [] cap), (5, .v (.int .i64 ((q + 1 : Nat) : Int))), (6, .v (.int .i64 ((j + 1 : Nat) : Int)))], [(0, .own false 5 ((R.set q l[j]).map Sess.row))], 1⟩) [] rfl ?gts ?ghs, j + 1, q + 1, R.set q l[j], hD.keep hlt (by simp [hp]), rfl, rfl⟩
        case gts => (repeat (first | exact qd | refine qi ?_ | refine x8 ?_ | refine vo ?_ | refine qL ?_ ?_))
        case ghs =>
          (repeat (first | exact qh | refine jU ?_ | refine qO ?_ ?_))
          rw [List.map_set]; rfl
      · refine ⟨l.length - (j + 1), _, by omega, jt (τ := ⟨[(0, .os 0 0 l.length), (1, .clo (.func g) [] cap), (5, .v (.int .i64 (q : Int))), (6, .v (.int .i64 ((j + 1 : Nat) : Int)))], [(0, .own false 5 (R.map Sess.row))], 1⟩) [] rfl ?gts ?ghs, j + 1, q, R, hD.drop hlt (by simp [hp]), rfl, rfl⟩
        case gts => (repeat (first | exact qd | refine qi ?_ | refine x8 ?_ | refine vo ?_ | refine qL ?_ ?_))
        case ghs => (repeat (first | exact qh | refine jU ?_ | refine qO ?_ ?_))
    have hRq := hD.end_ hlt
    have hql : (l.filter (fun s => !p s)).length = q := by rw [← hRq]; simp; omega
    repeat' (first | refine qe ?_ | (first | (refine Ji ?_) | (refine qcx ?_)) | ((first | refine qb ?_ ?_ | refine qc ?_ ?_ | refine xsC ?_ ?_); all_goals (intro hc; have hp := hc; try simp at hp; try (exfalso; omega))) | refine qv ?_ ?_)
    all_goals try (exfalso; omega)
    rw [hql]
    (refine QB (rs := [.tmp 4]) [] 1 ?_; (repeat (first | exact qh | refine jU ?_ | refine qO ?_ ?_)); all_goals (rw [Nat.zero_add, List.drop_eq_nil_of_le (by simp; omega), List.append_nil, ← List.map_take, hRq, Zu, hql, List.map_append, List.map_replicate]; rfl))
theorem qer (s : Sess) (now : Int) : jT C.P 178 [.agg s.row, .fp [[.v (.int .i64 now)]] 0 0] (.v (.bool (!YF now s))) := by
  refine qa Tryz.func178 rfl _ Tryz.ntmps178 (Nat.le_of_ble_eq_true rfl) _ Tryz.results178 0 rfl rfl ?_
  repeat' (first | refine qe ?_ | fail | ((first | refine xsC ?_ ?_); all_goals (intro hc; have hp := hc; try simp at hp; try (exfalso; omega))) | refine qv ?_ ?_)
  all_goals (apply qU; rfl; rw [Bool.eq_iff_iff]; simp [YF])
def yw (l : List Sess) (now : Int) : List Sess := qP l now ++ List.replicate (l.length - (qP l now).length) zeroSess
theorem Wc (l : List Sess) (now : Int) : Zu (fun s => !YF now s) l = yw l now := by simp [Zu, yw, qP]
theorem K8 (l : List Sess) (now : Int) : l.filter (fun s => !(fun s => !YF now s) s) = qP l now := by simp [qP]
theorem qfY (u : Upl) (now : Int) (hl : u.sess.length ≤ 1000000) :
    qm C.P 154 [vm u, .v (.int .i64 now)] [] (.agg [.os 0 0 (qP u.sess now).length, .v (.int .i64 u.next), .v (.int .i64 u.lasts), .v (.int .i64 u.room)]) [.own false 5 ((yw u.sess now).map Sess.row)] := by
  have hdel := qb2 (fun s => !YF now s) 178 (jJ Tryz.func178 rfl rfl) [.fp [[.v (.int .i64 now)]] 0 0] rfl u.sess hl (fun s _ => qer s now)
  rw [Wc, K8] at hdel
  refine qa Tryz.func154 rfl _ Tryz.ntmps154 (Nat.le_of_ble_eq_true rfl) _ Tryz.results154 0 rfl rfl ?_
  (repeat apply jP); apply jd; (repeat' (first | apply jz | refine vE ?_ | refine zJ ?_ | refine QY ?_ | refine ko ?_ | refine vF ?_ | refine vc ?_ | (first | fail) | refine yY ?_)); show Awp _ _ _ _ _
  refine zD 3 1 ?_
  repeat' (first | refine qe ?_ | (first | (apply qH Tryz.func80 rfl rfl; intro hIsFn; refine yb ([]) hIsFn (qba u.sess hl ..) ?_) | (apply qH Tryz.func177 rfl rfl; intro hIsFn; refine wI ([3]) 3 hIsFn (hdel ..) ?_)) | ((first | refine xsC ?_ ?_); all_goals (intro hc; have hp := hc; try simp at hp; try (exfalso; omega))) | refine qv ?_ ?_)
  (refine QB (rs := [.cell 4 26]) [(3, 0)] 1 ?_; (repeat (first | exact qh | refine jU ?_ | refine qO ?_ ?_)); all_goals trace_state)
end Go.Proofs.YtiljlcgmcmjcoaaGreatDoor
set_option linter.unusedSimpArgs false
set_option maxHeartbeats 1000000
namespace Go.Proofs.YtiljlcgmcmjcoaaGreatDoor
open Go.Ab Go.RowKit
set_option maxRecDepth 10000
attribute [local irreducible] Awp jZ jg qJ Red qz Go.Ab.Fin qm Rz y0 qB qG ResOk jG q9 jK qV
def qcW (u : Upl) (now : Int) (n : Nat) : AV := .agg [.os n 0 (qP u.sess now).length, .v (.int .i64 u.next), .v (.int .i64 u.lasts), .v (.int .i64 u.room)]
theorem XP (u : Upl) (hu : UBig u) (now : Int) (he : jD u now ≠ 0) : jT C.P 125 [vm u, .v (.int .i64 now)] (.tup [vm JH, .v (.int .i64 (jD u now))]) := by
  refine qa Tryz.func125 rfl _ Tryz.ntmps125 (Nat.le_of_ble_eq_true rfl) _ Tryz.results125 0 rfl rfl ?_
  repeat' (first | refine qe ?_ | (first | refine xsF Tryz.func31 (Vd u hu ..) ?_ | refine xsF Tryz.func68 (kZ ..) ?_) | ((first | refine qb ?_ ?_ | refine qc ?_ ?_ | refine xsC ?_ ?_); all_goals (intro hc; have hp := hc; try simp at hp; try (exfalso; omega))) | refine qv ?_ ?_)
  · have h1 : jD u now = yu u := by simp_all [jD]
    rw [h1]
    (exact yy (rs := [.cell 4 26, .tmp 5]))
  · have h1 : jD u now = 3 := by simp_all [jD]
    rw [h1]
    (exact yy (rs := [.cell 4 26, .tmp 5]))
  · exfalso; simp_all [jD]
theorem JV (u : Upl) (hu : UBig u) (now : Int) (he : jD u now = 0) : qm C.P 125 [vm u, .v (.int .i64 now)] [] (.tup [qcW u now 0, .v (.int .i64 0)]) [.own false 5 ((yw u.sess now).map Sess.row)] := by
  have hl6 : u.sess.length ≤ 1000000 := by have := (uok he).len; omega
  have h0 := (J0 he).1
  refine qa Tryz.func125 rfl _ Tryz.ntmps125 (Nat.le_of_ble_eq_true rfl) _ Tryz.results125 0 rfl rfl ?_
  repeat' (first | refine qe ?_ | (first | refine xsF Tryz.func31 (Vd u hu ..) ?_ | refine xsF Tryz.func68 (kZ ..) ?_ | (apply qH Tryz.func154 rfl rfl; intro hIsFn; refine yb ([]) hIsFn (qfY u now hl6 ..) ?_)) | ((first | refine qb ?_ ?_ | refine qc ?_ ?_ | refine xsC ?_ ?_); all_goals (intro hc; have hp := hc; try simp at hp; try (exfalso; omega))) | refine qv ?_ ?_)
  all_goals try (exfalso; simp_all [jD]; done)
  (refine QB (rs := [.cell 4 26, .tmp 5]) [(2, 0)] 1 ?_; (repeat (first | exact qh | refine jU ?_ | refine qO ?_ ?_)); all_goals trace_state)
theorem vZ (l : List Sess) (now : Int) : ((yw l now).map Sess.row).take (qP l now).length = (qP l now).map Sess.row := by
  unfold yw
  rw [List.map_append, List.take_append_of_le_length (by simp), kM]
theorem zI (l : List Sess) (now : Int) : (qP l now).length ≤ (yw l now).length := by simp [yw]
theorem YE {h : Nat → HB} {n : Nat} {l : List Sess} {now : Int} (hn : h n = .own false 5 ((yw l now).map Sess.row)) : Rz h (.os n 0 (qP l now).length) (.sl false ((qP l now).map Sess.row)) := by
  refine Kg hn (by simpa using zI l now) ?_
  rw [List.drop_zero, vZ]
  exact wl fun _ => rfl
theorem qc9 {a b c : Int} (h : qA a b c = true) : b ≤ a ∧ a ≤ c := by simpa [qA] using h
theorem qdD {u : Upl} {who : qC} {size now : Int} (hb0 : jD u now = 0) (h : qo who = false) : yQ u who size now = 1 := by simp [yQ, hb0, h]
theorem qbG {u : Upl} {who : qC} {size now : Int} (hb0 : jD u now = 0) (hnm : qo who = true) (h : qA size 0 300 = false) : yQ u who size now = 3 := by
  have hor : size < 0 ∨ 300 < size ∨ u.next = 1099511627776 := by simp [qA] at h; omega
  simp only [yQ, hb0, hnm, hor, if_true]
theorem qbF {u : Upl} {who : qC} {size now : Int} (hb0 : jD u now = 0) (hnm : qo who = true) (h : u.next = 1099511627776) : yQ u who size now = 3 := by
  have hor : size < 0 ∨ 300 < size ∨ u.next = 1099511627776 := .inr (.inr h)
  simp only [yQ, hb0, hnm, hor, if_true]
theorem Y4 {u : Upl} {who : qC} {size now : Int} (hb0 : jD u now = 0) (hnm : qo who = true) (hwi : qA size 0 300 = true) (hnx : ¬ u.next = 1099511627776) : yQ u who size now = if (qP u.sess now).length = 20 then 2 else if u.room < jX (qP u.sess now) who + size then 10 else 0 := by
  have hor : ¬ (size < 0 ∨ 300 < size ∨ u.next = 1099511627776) := by simp [qA] at hwi; omega
  simp only [yQ, hb0, hnm, hor, if_true, if_false]
theorem qdZ {u : Upl} {who : qC} {size now : Int} (hb0 : jD u now = 0) (hnm : qo who = true) (hwi : qA size 0 300 = true) (hnx : ¬ u.next = 1099511627776) (h : ((qP u.sess now).length : Int) = 20) : yQ u who size now = 2 := by
  rw [Y4 hb0 hnm hwi hnx, if_pos (by omega)]
theorem qcb {u : Upl} {who : qC} {size now : Int} (hb0 : jD u now = 0) (hnm : qo who = true) (hwi : qA size 0 300 = true) (hnx : ¬ u.next = 1099511627776) (h : ¬ ((qP u.sess now).length : Int) = 20) (h' : u.room < jX (qP u.sess now) who + size) : yQ u who size now = 10 := by
  rw [Y4 hb0 hnm hwi hnx, if_neg (by omega), if_pos h']
theorem qdL {u : Upl} {who : qC} {size now : Int} (hb0 : jD u now = 0) (hnm : qo who = true) (hwi : qA size 0 300 = true) (hnx : ¬ u.next = 1099511627776) (h : ¬ ((qP u.sess now).length : Int) = 20) (h' : jX (qP u.sess now) who + size ≤ u.room) : yQ u who size now = 0 := by
  rw [Y4 hb0 hnm hwi hnx, if_neg (by omega), if_neg (by omega)]
theorem qe5 (u : Upl) (hu : UBig u) (who : qC) (hw : who.length ≤ 9223372036854775807) (size now : Int) :
    jT C.P 86 [vm u, .v (str who), .v (.int .i64 size), .v (.int .i64 now)] (Xr u who size now) := by
  by_cases hb0 : jD u now = 0
  · have ok := uok hb0
    have hss : ∀ s, s ∈ qP u.sess now → 0 ≤ s.size ∧ s.size ≤ 300 := fun s hs => ok.sz s (Qt hs)
    have hsl : (qP u.sess now).length ≤ 20 := Nat.le_trans (ws _ _) ok.len
    have hsr := zI u.sess now
    have hob := Kh who hss
    obtain ⟨n0, n1, l0, l1, r0, r1, x0, x1, _, _⟩ := ok
    refine qa Tryz.func86 rfl _ Tryz.ntmps86 (Nat.le_of_ble_eq_true rfl) _ Tryz.results86 0 rfl rfl ?_
    repeat' (first | refine qe ?_ | (first | (apply qH Tryz.func125 rfl rfl; intro hIsFn; refine yb ([]) hIsFn (JV u hu now hb0 ..) ?_) | refine xsF Tryz.func37 (Yz _ hw ..) ?_ | refine xsF Tryz.func68 (kZ ..) ?_ | (apply qj; apply yi [2]; exact jJ Tryz.func70 rfl rfl; apply qeQ (qP u.sess now) who hss (by omega); (case hz => exact ql (YE rfl) (ql (qM rfl) qT)); (case hfl => rfl); (case hN => exact nle rfl)) | (refine j4 ?_) | (refine xK ?_) | (refine (fun (hsz : 0 ≤ size ∧ size ≤ 300) => ?_) (qc9 ?_); rotate_left; assumption; apply qj; apply VT; rfl; rfl; omega; omega; exact nle rfl)) | ((first | refine qb ?_ ?_ | refine qc ?_ ?_ | refine xsC ?_ ?_); all_goals (intro hc; have hp := hc; try simp at hp; try (exfalso; omega))) | refine qv ?_ ?_)
    all_goals try (exfalso; simp_all; done)
    all_goals first
      | (refine vH (zW (qdD hb0 ?_) ?_) ?_; assumption; decide; (exact yy (rs := [.cell 8 26, .tmp 9, .tmp 10])))
      | (refine vH (zW (qbG hb0 ?_ ?_) ?_) ?_; assumption; assumption; decide; (exact yy (rs := [.cell 8 26, .tmp 9, .tmp 10])))
      | (refine vH (zW (qbF hb0 ?_ ?_) ?_) ?_; assumption; assumption; decide; (exact yy (rs := [.cell 8 26, .tmp 9, .tmp 10])))
      | (refine vH (zW (qdZ hb0 ?_ ?_ ?_ ?_) ?_) ?_; assumption; assumption; assumption; assumption; decide; (exact yy (rs := [.cell 8 26, .tmp 9, .tmp 10])))
      | (refine vH (zW (qcb hb0 ?_ ?_ ?_ ?_ ?_) ?_) ?_; assumption; assumption; assumption; assumption; assumption; decide; (exact yy (rs := [.cell 8 26, .tmp 9, .tmp 10])))
      | skip
    refine vH (qdS (qdL hb0 ?_ ?_ ?_ ?_ ?_)) ?_
    iterate 5 first | assumption | omega
    (refine yP (rs := [.cell 8 26, .tmp 9, .tmp 10]) ?_; (repeat' (first | exact qT | apply ql | exact qM rfl | exact yC | exact zB | apply j8 | apply yI | apply j3 | apply yJ | apply yj | apply yK | refine zA ?_ | apply xG)); all_goals (rw [vZ, show (Ym u who size now).sess = qP u.sess now ++ [⟨u.next, who, [], size, now + u.lasts⟩] from rfl, List.map_append]; rfl))
  · refine qa Tryz.func86 rfl _ Tryz.ntmps86 (Nat.le_of_ble_eq_true rfl) _ Tryz.results86 0 rfl rfl ?_
    repeat' (first | refine qe ?_ | (first | refine xsQ Tryz.func125 (XP u hu now hb0 ..) ?_) | ((first | refine qb ?_ ?_ | refine qc ?_ ?_ | refine xsC ?_ ?_); all_goals (intro hc; have hp := hc; try simp at hp; try (exfalso; omega))) | refine qv ?_ ?_)
    all_goals try (exfalso; simp_all; done)
    rw [zW (e := jD u now) (by simp [yQ, hb0]) hb0]
    (exact yy (rs := [.cell 8 26, .tmp 9, .tmp 10]))
end Go.Proofs.YtiljlcgmcmjcoaaGreatDoor
set_option linter.unusedSimpArgs false
set_option maxHeartbeats 1000000
namespace Go.Proofs.YtiljlcgmcmjcoaaGreatDoor
open Go.Ab Go.RowKit
set_option maxRecDepth 10000
attribute [local irreducible] Awp jZ jg qJ Red qz Go.Ab.Fin qm Rz y0 qB qG ResOk jG q9 jK qV
def ye (u : Upl) (who : qC) (number now : Int) : Int :=
  if jD u now = 0 then
    if qo who then
      if yg (zd who number) (qP u.sess now) < 0 then 5 else 0
    else 1
  else jD u now
theorem qc1 (s : Sess) (who : qC) (number : Int) : jT C.P 156 [.agg s.row, .fp [[.v (.int .i64 number)]] 0 0, .fp [[.v (str who)]] 0 0] (.v (.bool (zd who number s))) := by
  refine qa Tryz.func156 rfl _ Tryz.ntmps156 (Nat.le_of_ble_eq_true rfl) _ Tryz.results156 0 rfl rfl ?_
  repeat' (first | refine qe ?_ | fail | ((first | refine qb ?_ ?_ | refine qc ?_ ?_ | refine xsC ?_ ?_); all_goals (intro hc; have hp := hc; try simp at hp; try (exfalso; omega))) | refine qv ?_ ?_)
  all_goals (apply qU; rfl; simp_all [zd])
theorem J1 (u : Upl) (hu : UBig u) (who : qC) (hw : who.length ≤ 9223372036854775807) (number now : Int) (he : ye u who number now ≠ 0) :
    jT C.P 126 [vm u, .v (str who), .v (.int .i64 number), .v (.int .i64 now)] (Qb JH 0 (ye u who number now)) := by
  by_cases hb0 : jD u now = 0
  · have ok := uok hb0
    have hl6 : (qP u.sess now).length ≤ 1000000 := by have := ws u.sess now; have := ok.len; omega
    have hidx := Xa (zd who number) 156 (jJ Tryz.func156 rfl rfl) [.fp [[.v (.int .i64 number)]] 0 0, .fp [[.v (str who)]] 0 0] rfl (qP u.sess now) hl6 (fun s _ => qc1 s who number)
    refine qa Tryz.func126 rfl _ Tryz.ntmps126 (Nat.le_of_ble_eq_true rfl) _ Tryz.results126 0 rfl rfl ?_
    (repeat apply jP); apply jd; (repeat' (first | apply jz | refine vD ?_ | refine vB ?_ | refine vE ?_ | refine zJ ?_ | refine vC ?_ | refine kv ?_ | refine zj ?_ | refine kz ?_ | refine qhe ?_ | refine wc ?_ | refine wX ?_ | refine qht ?_ | refine QY ?_ | refine YZ ?_ | refine QK ?_ | refine ko ?_ | refine vF ?_ | refine vc ?_ | (first | fail) | refine yY ?_ | refine xi ?_ | refine xj ?_ | refine yE ?_ | refine yD ?_ | refine vn ?_ | refine vu ?_ | refine xh ?_ | refine xn ?_ | ((first | refine qb ?_ ?_ | refine qc ?_ ?_); all_goals (intro hc; have hp := hc; try simp at hp; try (exfalso; omega))))); show Awp _ _ _ _ _
    refine zD 5 1 ?_
    refine zD 6 2 ?_
    repeat' (first | refine qe ?_ | (first | (apply qH Tryz.func125 rfl rfl; intro hIsFn; refine yb ([]) hIsFn (JV u hu now hb0 ..) ?_) | refine xsF Tryz.func37 (Yz _ hw ..) ?_ | (apply qj; apply yi [4]; exact jJ Tryz.func155 rfl rfl; exact hidx; (case hz => exact ql (YE rfl) (ql (xr rfl) qT)); (case hfl => rfl); (case hN => exact nle rfl))) | ((first | refine qb ?_ ?_ | refine qc ?_ ?_ | refine xsC ?_ ?_); all_goals (intro hc; have hp := hc; try simp at hp; try (exfalso; omega))) | refine qv ?_ ?_)
    all_goals try (exfalso; simp_all; done)
    · have h1 : ye u who number now = 1 := by simp [ye, hb0, hp]
      rw [h1]
      (exact yy (rs := [.cell 8 26, .tmp 9, .tmp 10]))
    · have hnm : qo who = true := by assumption
      have h1 : ye u who number now = 5 := by simp [ye, hb0, hnm, hp]
      rw [h1]
      (exact yy (rs := [.cell 8 26, .tmp 9, .tmp 10]))
    · exfalso
      have hnm : qo who = true := by assumption
      have : ¬ yg (zd who number) (qP u.sess now) < 0 := by omega
      exact he (by simp [ye, hb0, hnm, this])
  · refine qa Tryz.func126 rfl _ Tryz.ntmps126 (Nat.le_of_ble_eq_true rfl) _ Tryz.results126 0 rfl rfl ?_
    repeat' (first | refine qe ?_ | (first | refine xsQ Tryz.func125 (XP u hu now hb0 ..) ?_) | ((first | refine qb ?_ ?_ | refine qc ?_ ?_ | refine xsC ?_ ?_); all_goals (intro hc; have hp := hc; try simp at hp; try (exfalso; omega))) | refine qv ?_ ?_)
    all_goals try (exfalso; simp_all; done)
    rw [show ye u who number now = jD u now from by simp [ye, hb0]]
    (exact yy (rs := [.cell 8 26, .tmp 9, .tmp 10]))
theorem JC (u : Upl) (hu : UBig u) (who : qC) (hw : who.length ≤ 9223372036854775807) (number now : Int) (hb0 : jD u now = 0) (hnm : qo who = true) (k : Nat) (hk : yg (zd who number) (qP u.sess now) = k) :
    qm C.P 126 [vm u, .v (str who), .v (.int .i64 number), .v (.int .i64 now)] [] (.tup [qcW u now 0, .v (.int .i64 k), .v (.int .i64 0)]) [.own false 5 ((yw u.sess now).map Sess.row)] := by
  have ok := uok hb0
  have hl6 : (qP u.sess now).length ≤ 1000000 := by have := ws u.sess now; have := ok.len; omega
  have hidx := Xa (zd who number) 156 (jJ Tryz.func156 rfl rfl) [.fp [[.v (.int .i64 number)]] 0 0, .fp [[.v (str who)]] 0 0] rfl (qP u.sess now) hl6 (fun s _ => qc1 s who number)
  rw [hk] at hidx
  refine qa Tryz.func126 rfl _ Tryz.ntmps126 (Nat.le_of_ble_eq_true rfl) _ Tryz.results126 0 rfl rfl ?_
  (repeat apply jP); apply jd; (repeat' (first | apply jz | refine vD ?_ | refine vB ?_ | refine vE ?_ | refine zJ ?_ | refine vC ?_ | refine kv ?_ | refine zj ?_ | refine kz ?_ | refine qhe ?_ | refine wc ?_ | refine wX ?_ | refine qht ?_ | refine QY ?_ | refine YZ ?_ | refine QK ?_ | refine ko ?_ | refine vF ?_ | refine vc ?_ | (first | fail) | refine yY ?_ | refine xi ?_ | refine xj ?_ | refine yE ?_ | refine yD ?_ | refine vn ?_ | refine vu ?_ | refine xh ?_ | refine xn ?_ | ((first | refine qb ?_ ?_ | refine qc ?_ ?_); all_goals (intro hc; have hp := hc; try simp at hp; try (exfalso; omega))))); show Awp _ _ _ _ _
  refine zD 5 1 ?_
  refine zD 6 2 ?_
  repeat' (first | refine qe ?_ | (first | (apply qH Tryz.func125 rfl rfl; intro hIsFn; refine yb ([]) hIsFn (JV u hu now hb0 ..) ?_) | refine xsF Tryz.func37 (Yz _ hw ..) ?_ | (apply qj; apply yi [4]; exact jJ Tryz.func155 rfl rfl; exact hidx; (case hz => exact ql (YE rfl) (ql (xr rfl) qT)); (case hfl => rfl); (case hN => exact nle rfl))) | ((first | refine qb ?_ ?_ | refine qc ?_ ?_ | refine xsC ?_ ?_); all_goals (intro hc; have hp := hc; try simp at hp; try (exfalso; omega))) | refine qv ?_ ?_)
  all_goals try (exfalso; simp_all; done)
  all_goals try (exfalso; omega)
  (refine QB (rs := [.cell 8 26, .tmp 9, .tmp 10]) [(4, 0)] 1 ?_; (repeat (first | exact qh | refine jU ?_ | refine qO ?_ ?_)); all_goals trace_state)
end Go.Proofs.YtiljlcgmcmjcoaaGreatDoor
set_option linter.unusedSimpArgs false
set_option maxHeartbeats 1000000
namespace Go.Proofs.YtiljlcgmcmjcoaaGreatDoor
open Go.Ab Go.RowKit
set_option maxRecDepth 10000
attribute [local irreducible] Awp jZ jg qJ Red qz Go.Ab.Fin qm Rz y0 qB qG ResOk jG q9 jK qV
theorem Jf {l : List Sess} {now : Int} {k : Nat} {s : Sess} (h : (qP l now)[k]? = some s) : ((yw l now).map Sess.row)[k]? = some s.row := by
  unfold yw
  rw [List.map_append, List.getElem?_append_left (by have := (List.getElem?_eq_some_iff.1 h).1; simpa using this), List.getElem?_map, h]; rfl
theorem qa6 (u : Upl) (hu : UBig u) (who : qC) (hw : who.length ≤ 9223372036854775807) (number now : Int) (he : ye u who number now ≠ 0) :
    jT C.P 88 [vm u, .v (str who), .v (.int .i64 number), .v (.int .i64 now)] (.tup [.v (.int .i64 0), .v (.int .i64 (ye u who number now))]) := by
  refine qa Tryz.func88 rfl _ Tryz.ntmps88 (Nat.le_of_ble_eq_true rfl) _ Tryz.results88 0 rfl rfl ?_
  repeat' (first | refine qe ?_ | (first | refine xsQ Tryz.func126 (J1 u hu who hw number now he ..) ?_) | ((first | refine qb ?_ ?_ | refine qc ?_ ?_ | refine xsC ?_ ?_); all_goals (intro hc; have hp := hc; try simp at hp; try (exfalso; omega))) | refine qv ?_ ?_)
  all_goals try (exfalso; simp_all; done)
  (exact yy (rs := [.tmp 8, .tmp 9]))
theorem qbA (u : Upl) (hu : UBig u) (who : qC) (hw : who.length ≤ 9223372036854775807) (number now : Int) (hb0 : jD u now = 0) (hnm : qo who = true) (k : Nat) (hk : yg (zd who number) (qP u.sess now) = k) (s : Sess) (hs : (qP u.sess now)[k]? = some s) (_hst : s.text.length ≤ 9223372036854775807) :
    jT C.P 88 [vm u, .v (str who), .v (.int .i64 number), .v (.int .i64 now)] (.tup [.v (.int .i64 s.text.length), .v (.int .i64 0)]) := by
  have hkl : k < (qP u.sess now).length := (List.getElem?_eq_some_iff.1 hs).1
  have hr := Jf hs
  refine qa Tryz.func88 rfl _ Tryz.ntmps88 (Nat.le_of_ble_eq_true rfl) _ Tryz.results88 0 rfl rfl ?_
  repeat' (first | refine qe ?_ | (first | (apply qH Tryz.func126 rfl rfl; intro hIsFn; refine yb ([]) hIsFn (JC u hu who hw number now hb0 hnm k hk ..) ?_) | (refine vz ?_)) | ((first | refine qb ?_ ?_ | refine qc ?_ ?_ | refine xsC ?_ ?_); all_goals (intro hc; have hp := hc; try simp at hp; try (exfalso; omega))) | refine qv ?_ ?_)
  all_goals try (exfalso; simp_all; done)
  (exact yy (rs := [.tmp 8, .tmp 9]))
def zU (t : qC) (offset : Int) (x : qC) : Bool := qA offset 0 t.length && decide (t.drop offset.toNat = x)
def JI (s : Sess) (offset : Int) (text : qC) : Int := if zU s.text offset text then 0 else if offset = s.text.length then (if s.size < s.text.length + text.length then 2 else 0) else 4
def YY (s : Sess) (offset : Int) (text : qC) (till : Int) : Sess := if zU s.text offset text then s else { s with text := s.text ++ text, till := till }
def XM (u : Upl) (k : Nat) (s : Sess) (offset : Int) (text : qC) (now : Int) : AV :=
  if JI s offset text = 0 then Qb { u with sess := (qP u.sess now).set k (YY s offset text (now + u.lasts)) } (YY s offset text (now + u.lasts)).text.length 0 else Qb JH 0 (JI s offset text)
theorem Xp {u : Upl} {k : Nat} {s : Sess} {offset : Int} {text : qC} {now e : Int} (h : JI s offset text = e) (h0 : e ≠ 0) : XM u k s offset text now = Qb JH 0 e := by unfold XM; rw [h, if_neg h0]
theorem qaG {u : Upl} {k : Nat} {s : Sess} {offset : Int} {text : qC} {now : Int} (h : zU s.text offset text = true) (hs : (qP u.sess now)[k]? = some s) : XM u k s offset text now = Qb (JT u now) s.text.length 0 := by
  unfold XM JI YY
  simp only [h, if_true]
  obtain ⟨hk, e⟩ := List.getElem?_eq_some_iff.1 hs
  rw [← e, List.set_getElem_self]; rfl
theorem qdK {u : Upl} {k : Nat} {s : Sess} {offset : Int} {text : qC} {now : Int} (h : zU s.text offset text = false) (h1 : offset = s.text.length) (h2 : ¬ s.size < s.text.length + text.length) :
    XM u k s offset text now = Qb { u with sess := (qP u.sess now).set k { s with text := s.text ++ text, till := now + u.lasts } } (s.text ++ text).length 0 := by
  have he : JI s offset text = 0 := by unfold JI; rw [h, if_neg (by simp), if_pos h1, if_neg h2]
  unfold XM
  rw [if_pos he]
  unfold YY
  rw [h, if_neg (by simp)]
theorem qeX {s : Sess} {offset : Int} {text : qC} (h : zU s.text offset text = false) (h1 : ¬ offset = s.text.length) : JI s offset text = 4 := by unfold JI; rw [h, if_neg (by simp), if_neg h1]
theorem qhG {s : Sess} {offset : Int} {text : qC} (h : zU s.text offset text = false) (h1 : offset = s.text.length) (h2 : (s.size < s.text.length + text.length)) : JI s offset text = 2 := by unfold JI; rw [h, if_neg (by simp), if_pos h1, if_pos h2]
theorem KZ {h : Nat → HB} {n k : Nat} {l : List Sess} {now : Int} {s : Sess} {row : List AV} (hn : h n = .own false 5 (((yw l now).map Sess.row).set k row)) (hrow : row = s.row) : Rz h (.os n 0 (qP l now).length) (.sl false (((qP l now).set k s).map Sess.row)) := by
  subst hrow
  have hlen := zI l now
  refine Kg hn (by simpa using hlen) ?_
  rw [List.drop_zero, List.take_set, vZ, ← List.map_set]
  exact wl fun _ => rfl
theorem ZL {h : Nat → HB} {n k : Nat} {l : List Sess} {now : Int} {s : Sess} {row0 row : List AV} (hn : h n = .own false 5 ((((yw l now).map Sess.row).set k row0).set k row)) (hrow : row = s.row) : Rz h (.os n 0 (qP l now).length) (.sl false (((qP l now).set k s).map Sess.row)) := by
  rw [List.set_set] at hn
  exact KZ hn hrow
theorem WK (u : Upl) (hu : UBig u) (who : qC) (hw : who.length ≤ 9223372036854775807) (number now : Int) (hb0 : jD u now = 0) (hnm : qo who = true) (k : Nat) (hk : yg (zd who number) (qP u.sess now) = k) (s : Sess) (hs : (qP u.sess now)[k]? = some s) (hst : s.text.length ≤ 1000)
    (offset : Int) (text : qC) (htx : text.length ≤ 140737488355328) :
    jT C.P 87 [vm u, .v (str who), .v (.int .i64 number), .v (.int .i64 offset), .v (str text), .v (.int .i64 now)] (XM u k s offset text now) := by
  have ok := uok hb0
  have hkl : k < (qP u.sess now).length := (List.getElem?_eq_some_iff.1 hs).1
  have hr := Jf hs
  obtain ⟨n0, n1, l0, l1, r0, r1, x0, x1, _, _⟩ := ok
  by_cases hin : qA offset 0 s.text.length = true
  · obtain ⟨n, rfl⟩ : ∃ n : Nat, offset = n := ⟨offset.toNat, by simp [qA] at hin; omega⟩
    have hnl : n ≤ s.text.length := by simp [qA] at hin; omega
    have hag : zU s.text n text = decide ((s.text.take s.text.length).drop n = text) := by simp [zU, hin]
    refine qa Tryz.func87 rfl _ Tryz.ntmps87 (Nat.le_of_ble_eq_true rfl) _ Tryz.results87 0 rfl rfl ?_
    repeat' (first | refine qe ?_ | (first | (apply qH Tryz.func126 rfl rfl; intro hIsFn; refine yb ([]) hIsFn (JC u hu who hw number now hb0 hnm k hk ..) ?_) | (refine vz ?_) | refine xsF Tryz.func68 (kZ ..) ?_ | (refine qhL ?_)) | ((first | refine qb ?_ ?_ | refine qc ?_ ?_ | refine xsC ?_ ?_); all_goals (intro hc; have hp := hc; try simp at hp; try (exfalso; omega))) | refine qv ?_ ?_)
    all_goals try (exfalso; simp_all; done)
    · have ha : zU s.text n text = true := hag.trans hc
      refine vH (qaG ha hs) ?_
      (refine yP (rs := [.cell 12 26, .tmp 13, .tmp 14]) ?_; (repeat' (first | (apply YE; rfl) | exact qT | apply ql | exact qM rfl | exact yC | exact zB | apply j8 | apply yI | apply j3 | apply yJ | apply yj | apply yK | refine zA ?_ | apply xG)); all_goals trace_state)
    all_goals have ha : zU s.text n text = false := hag.trans (by assumption)
    · refine vH (Xp (qeX ha hp) (by decide)) ?_
      (exact yy (rs := [.cell 12 26, .tmp 13, .tmp 14]))
    · refine vH (Xp (qhG ha (by assumption) hp) (by decide)) ?_
      (exact yy (rs := [.cell 12 26, .tmp 13, .tmp 14]))
    · refine vH (qdK ha (by assumption) (by omega)) ?_
      (refine yP (rs := [.cell 12 26, .tmp 13, .tmp 14]) ?_; (repeat' (first | (apply ZL; (case hn => rfl); (case hrow => rfl)) | exact qT | apply ql | exact qM rfl | exact yC | exact zB | apply j8 | apply yI | apply j3 | apply yJ | apply yj | apply yK | refine zA ?_ | apply xG)); all_goals trace_state)
  · have hin : qA offset 0 s.text.length = false := by simpa using hin
    have ha : zU s.text offset text = false := by simp [zU, hin]
    refine qa Tryz.func87 rfl _ Tryz.ntmps87 (Nat.le_of_ble_eq_true rfl) _ Tryz.results87 0 rfl rfl ?_
    repeat' (first | refine qe ?_ | (first | (apply qH Tryz.func126 rfl rfl; intro hIsFn; refine yb ([]) hIsFn (JC u hu who hw number now hb0 hnm k hk ..) ?_) | (refine vz ?_) | refine xsF Tryz.func68 (kZ ..) ?_) | ((first | refine qb ?_ ?_ | refine qc ?_ ?_ | refine xsC ?_ ?_); all_goals (intro hc; have hp := hc; try simp at hp; try (exfalso; omega))) | refine qv ?_ ?_)
    all_goals try (exfalso; simp_all; done)
    · refine vH (Xp (qeX ha hp) (by decide)) ?_
      (exact yy (rs := [.cell 12 26, .tmp 13, .tmp 14]))
    all_goals (exfalso; simp [qA] at hin; omega)
theorem WA (u : Upl) (hu : UBig u) (who : qC) (hw : who.length ≤ 9223372036854775807) (number now : Int) (he : ye u who number now ≠ 0) (offset : Int) (text : qC) :
    jT C.P 87 [vm u, .v (str who), .v (.int .i64 number), .v (.int .i64 offset), .v (str text), .v (.int .i64 now)] (Qb JH 0 (ye u who number now)) := by
  refine qa Tryz.func87 rfl _ Tryz.ntmps87 (Nat.le_of_ble_eq_true rfl) _ Tryz.results87 0 rfl rfl ?_
  repeat' (first | refine qe ?_ | (first | refine xsQ Tryz.func126 (J1 u hu who hw number now he ..) ?_) | ((first | refine qb ?_ ?_ | refine qc ?_ ?_ | refine xsC ?_ ?_); all_goals (intro hc; have hp := hc; try simp at hp; try (exfalso; omega))) | refine qv ?_ ?_)
  all_goals try (exfalso; simp_all; done)
  (exact yy (rs := [.cell 12 26, .tmp 13, .tmp 14]))
end Go.Proofs.YtiljlcgmcmjcoaaGreatDoor
set_option linter.unusedSimpArgs false
set_option maxHeartbeats 1000000
namespace Go.Proofs.YtiljlcgmcmjcoaaGreatDoor
open Go.Ab Go.RowKit
set_option maxRecDepth 10000
attribute [local irreducible] Awp jZ jg qJ Red qz Go.Ab.Fin qm Rz y0 qB qG ResOk jG q9 jK qV
theorem qeu {α : Type} (rs : List α) (i n : Nat) (hi : i < n) (hn : n ≤ rs.length) (z : α) :
    (rs.take i ++ (rs.drop (i + 1)).take (n - (i + 1)) ++ rs.drop (i + (n - (i + 1)))).take (i + (n - (i + 1))) ++ List.replicate (n - (i + (n - (i + 1)))) z ++ (rs.take i ++ (rs.drop (i + 1)).take (n - (i + 1)) ++ rs.drop (i + (n - (i + 1)))).drop (i + (n - (i + 1)) + (n - (i + (n - (i + 1))))) =
      rs.take i ++ (rs.drop (i + 1)).take (n - (i + 1)) ++ [z] ++ rs.drop n := by
  have key : ∀ (P : List α) (m : Nat) (Q : List α), P.length = m → (P ++ Q).take m ++ List.replicate 1 z ++ (P ++ Q).drop (m + 1) = P ++ [z] ++ Q.drop 1 := by
    intro P m Q hP
    subst hP
    rw [List.take_left, List.drop_append, List.drop_eq_nil_of_le (by omega), List.nil_append, show P.length + 1 - P.length = 1 from by omega]
    rfl
  rw [show n - (i + (n - (i + 1))) = 1 from by omega, key _ _ _ (by simp; omega), List.drop_drop, show i + (n - (i + 1)) + 1 = n from by omega]
theorem WX {rs : List (List AV)} (hrs : ∀ row, row ∈ rs → AV.pure.pureL row = true) (i n : Nat) : ∀ row, row ∈ rs.take i ++ (rs.drop (i + 1)).take (n - (i + 1)) ++ [zeroSess.row] ++ rs.drop n → AV.pure.pureL row = true := by
  intro row hr
  rcases List.mem_append.1 hr with hr | hr
  · rcases List.mem_append.1 hr with hr | hr
    · rcases List.mem_append.1 hr with hr | hr
      · exact hrs row (List.mem_of_mem_take hr)
      · exact hrs row (List.mem_of_mem_drop (List.mem_of_mem_take hr))
    · obtain rfl := List.mem_singleton.1 hr; rfl
  · exact hrs row (List.mem_of_mem_drop hr)
theorem qdc (rs : List (List AV)) (hrs : ∀ row, row ∈ rs → AV.pure.pureL row = true) (hrc : rs.all (fun row => row.length == 5 && row.all jS) = true) (n i : Nat) (hi : i < n) (hn : n ≤ rs.length) (hn6 : n ≤ 1000000) :
    qm C1.P 157 [.os 0 0 n, .v (.int .i64 (i : Int)), .v (.int .i64 ((i + 1 : Nat) : Int))] [.own false 5 rs] (.os 0 0 (n - 1)) [.own false 5 (rs.take i ++ (rs.drop (i + 1)).take (n - (i + 1)) ++ [zeroSess.row] ++ rs.drop n)] := by
  refine qa (C := C1) Tryz.func157 rfl _ Tryz.ntmps157 (Nat.le_of_ble_eq_true rfl) _ Tryz.results157 1 rfl rfl ?_
  repeat' (first | refine qe ?_ | (first | (refine qeo ?_) | (refine Ji ?_) | (refine qcx ?_) | (apply zF; apply YK; (case hx => rfl); (case hT => rfl); (case he => rfl); (case hE => rfl); (case hn => rfl); (case hsrc => apply Qx; rfl; rfl; (show 0 + (i + 1) + (n - (i + 1)) ≤ rs.length; omega); rfl; exact hrc); (case hfit => simp; omega); (case hN => exact nle rfl))) | ((first | refine qb ?_ ?_ | refine qc ?_ ?_ | refine xsC ?_ ?_); all_goals (intro hc; have hp := hc; try simp at hp; try (exfalso; omega))) | refine qv ?_ ?_)
  all_goals try (exfalso; omega)
  have hpu := WX hrs i n
  have hL : (List.take (n - (i + 1)) (List.drop (i + 1) rs)).length = n - (i + 1) := by simp; omega
  (apply jl (rs := [.tmp 6]) [] 1; (case hr => (repeat (first | exact qQ | (apply qR; rfl) | (apply qF; rfl; rfl; rfl; rfl; rfl)))); (case hL => rfl); (case hh => (repeat (first | exact qh | refine jU ?_ | refine qO ?_ ?_)); all_goals (simp only [Nat.zero_add, Nat.sub_zero, hL]; exact qeu rs i n hi hn _)); (case hi => first | exact (rfl : _ = ([] : List (Nat × Nat))) | exact (rfl : _ = [((0 : Nat), (0 : Nat))]) | exact (rfl : _ = [((0 : Nat), (0 : Nat)), (1, 1)])); (case hz => first | rfl | (simp [jB, AV.ren, AV.ren.renL, qW, qq, qS]; done) | (simp [jB, AV.ren, AV.ren.renL, qW, qq, qS, *]; done) | (simp [jB, AV.ren, AV.ren.renL, qW, qq, qS]; omega)))
def Y7 (u : Upl) (t : qC) (e : Int) : AV := .tup [vm u, .v (str t), .v (.int .i64 e)]
def qgF (u : Upl) (now : Int) (k : Nat) : Upl := { u with sess := (qP u.sess now).eraseIdx k }
def Z3 (u : Upl) (now : Int) (k : Nat) (s : Sess) : AV := if s.text.length < s.size then Y7 JH [] 4 else Y7 (qgF u now k) s.text 0
theorem qhh {h : Nat → HB} {n k : Nat} {l : List Sess} {now : Int} (hk : k < (qP l now).length) (hn : h n = .own false 5 (((yw l now).map Sess.row).take k ++ (((yw l now).map Sess.row).drop (k + 1)).take ((qP l now).length - (k + 1)) ++ [zeroSess.row] ++ ((yw l now).map Sess.row).drop (qP l now).length)) :
    Rz h (.os n 0 ((qP l now).length - 1)) (.sl false (((qP l now).eraseIdx k).map Sess.row)) := by
  have hlen := zI l now
  refine Kg hn (by simp; omega) ?_
  have e : ((((yw l now).map Sess.row).take k ++ (((yw l now).map Sess.row).drop (k + 1)).take ((qP l now).length - (k + 1)) ++ [zeroSess.row] ++ ((yw l now).map Sess.row).drop (qP l now).length).drop 0).take ((qP l now).length - 1) = ((qP l now).eraseIdx k).map Sess.row := by
    rw [List.drop_zero, List.append_assoc, List.take_append_of_le_length (by simp; omega), List.take_of_length_le (by simp; omega), List.eraseIdx_eq_take_drop_succ, List.map_append]
    congr 1
    · rw [List.map_take, ← vZ l now, List.take_take, Nat.min_eq_left (by omega)]
    · rw [List.map_drop, ← vZ l now, List.drop_take]
  rw [e]
  exact wl fun _ => rfl
theorem We (u : Upl) (hu : UBig u) (who : qC) (hw : who.length ≤ 9223372036854775807) (number now : Int) (he : ye u who number now ≠ 0) :
    jT C.P 128 [vm u, .v (str who), .v (.int .i64 number), .v (.int .i64 now)] (Y7 JH [] (ye u who number now)) := by
  refine qa Tryz.func128 rfl _ Tryz.ntmps128 (Nat.le_of_ble_eq_true rfl) _ Tryz.results128 0 rfl rfl ?_
  repeat' (first | refine qe ?_ | (first | refine xsQ Tryz.func126 (J1 u hu who hw number now he ..) ?_) | ((first | refine qb ?_ ?_ | refine qc ?_ ?_ | refine xsC ?_ ?_); all_goals (intro hc; have hp := hc; try simp at hp; try (exfalso; omega))) | refine qv ?_ ?_)
  all_goals try (exfalso; simp_all; done)
  (exact yy (rs := [.cell 8 26, .tmp 9, .tmp 10]))
theorem qaa (u : Upl) (hu : UBig u) (who : qC) (hw : who.length ≤ 9223372036854775807) (number now : Int) (hb0 : jD u now = 0) (hnm : qo who = true) (k : Nat) (hk : yg (zd who number) (qP u.sess now) = k) (s : Sess) (hs : (qP u.sess now)[k]? = some s) :
    jT C.P 128 [vm u, .v (str who), .v (.int .i64 number), .v (.int .i64 now)] (Z3 u now k s) := by
  have hkl : k < (qP u.sess now).length := (List.getElem?_eq_some_iff.1 hs).1
  have hr := Jf hs
  have hsl : (qP u.sess now).length ≤ 20 := Nat.le_trans (ws _ _) (uok hb0).len
  have hdel := qdc ((yw u.sess now).map Sess.row) (ju fun _ => rfl) (xR fun _ => rfl) (qP u.sess now).length k hkl (by simpa using zI u.sess now) (by omega)
  have hpu := WX (rs := (yw u.sess now).map Sess.row) (ju fun _ => rfl) k (qP u.sess now).length
  refine qa Tryz.func128 rfl _ Tryz.ntmps128 (Nat.le_of_ble_eq_true rfl) _ Tryz.results128 0 rfl rfl ?_
  repeat' (first | refine qe ?_ | (first | (apply qH Tryz.func126 rfl rfl; intro hIsFn; refine yb ([]) hIsFn (JC u hu who hw number now hb0 hnm k hk ..) ?_) | (refine vz ?_) | (apply qH Tryz.func157 rfl rfl; intro hIsFn; refine wI ([2]) 2 hIsFn (hdel ..) ?_)) | ((first | refine qb ?_ ?_ | refine qc ?_ ?_ | refine xsC ?_ ?_); all_goals (intro hc; have hp := hc; try simp at hp; try (exfalso; omega))) | refine qv ?_ ?_)
  all_goals try (exfalso; simp_all; done)
  · rw [show Z3 u now k s = Y7 JH [] 4 from by unfold Z3; rw [if_pos hp]]
    (exact yy (rs := [.cell 8 26, .tmp 9, .tmp 10]))
  · skip
    rw [show Z3 u now k s = Y7 (qgF u now k) s.text 0 from by unfold Z3; rw [if_neg (by omega)]]
    (refine yP (rs := [.cell 8 26, .tmp 9, .tmp 10]) ?_; (repeat' (first | (apply qhh hkl; rfl) | exact qT | apply ql | exact qM rfl | exact yC | exact zB | apply j8 | apply yI | apply j3 | apply yJ | apply yj | apply yK | refine zA ?_ | apply xG)); all_goals trace_state)
end Go.Proofs.YtiljlcgmcmjcoaaGreatDoor
set_option linter.unusedSimpArgs false
set_option maxHeartbeats 1000000
namespace Go.Proofs.YtiljlcgmcmjcoaaGreatDoor
open Go.Ab Go.RowKit
set_option maxRecDepth 10000
attribute [local irreducible] Awp jZ jg qJ Red qz Go.Ab.Fin qm Rz y0 qB qG ResOk jG q9 jK qV
end Go.Proofs.YtiljlcgmcmjcoaaGreatDoor
set_option linter.unusedSimpArgs false
namespace Go.Proofs.YtiljlcgmcmjcoaaGreatDoor
theorem XT {l : List Sess} : qt (fun a b => decide (a.number < b.number)) l = true ↔ l.Pairwise (fun a b => a.number < b.number) := by
  induction l with
  | nil => simp [qt]
  | cons x l ih =>
    simp only [qt, Bool.and_eq_true, ih, List.pairwise_cons]
    constructor
    · rintro ⟨h1, h2⟩
      refine ⟨?_, h2⟩
      cases l with
      | nil => simp
      | cons y l =>
        simp at h1
        intro z hz
        rcases List.mem_cons.1 hz with rfl | hz
        · exact h1
        · have := (List.pairwise_cons.1 h2).1 z hz; omega
    · rintro ⟨h1, h2⟩
      refine ⟨?_, h2⟩
      cases l with
      | nil => rfl
      | cons y l => simpa using h1 y (List.mem_cons_self ..)
theorem ki (s : Sess) (l : List Sess) (who : qC) : jX (s :: l) who = (if s.who = who then s.size else 0) + jX l who := by simp [jX]
theorem ZA {l : List Sess} (p : Sess → Bool) (who : qC) (h : ∀ s, s ∈ l → 0 ≤ s.size) : jX (l.filter p) who ≤ jX l who := by
  induction l with
  | nil => simp
  | cons s l ih =>
    have ih := ih fun t ht => h t (List.mem_cons_of_mem _ ht)
    have h0 := h s (List.mem_cons_self ..)
    rw [ki]
    by_cases hp : p s = true
    · rw [List.filter_cons_of_pos hp, ki]; omega
    · rw [List.filter_cons_of_neg hp]; split <;> omega
theorem Yf {u : Upl} (h1 : vT u = true) (h2 : u.sess.length ≤ 20) (h3 : ∀ s, s ∈ u.sess → j9 u.next s = 0) (h4 : u.sess.Pairwise (fun a b => a.number < b.number)) (h5 : ∀ s, s ∈ u.sess → jX u.sess s.who ≤ u.room) : yu u = 0 := by
  unfold yu
  rw [if_pos h1, if_neg (by omega), if_pos (jE.2 h3), if_pos (XT.2 h4), if_pos (show Vv u = true from List.all_eq_true.2 fun s hs => by simpa using h5 s hs)]
theorem z6 {u : Upl} (h : yu u = 0) : vT u = true ∧ u.sess.length ≤ 20 ∧ (∀ s, s ∈ u.sess → j9 u.next s = 0) ∧ u.sess.Pairwise (fun a b => a.number < b.number) ∧ ∀ s, s ∈ u.sess → jX u.sess s.who ≤ u.room := by
  obtain ⟨a, b, c, d, e⟩ := VS h
  exact ⟨a, b, c, XT.1 d, fun s hs => by have := List.all_eq_true.1 e s hs; simpa using this⟩
theorem QW {u : Upl} (t : Int) (h : yu u = 0) : yu (JT u t) = 0 := by
  obtain ⟨a, b, c, d, e⟩ := z6 h
  refine Yf a (Nat.le_trans (ws _ _) b) (fun s hs => c s (Qt hs)) (d.filter _) (fun s hs => ?_)
  have h1 := ZA (l := u.sess) (YF t) s.who (fun s hs => (vk (c s hs)).1)
  have h2 := e s (Qt hs)
  show jX (qP u.sess t) s.who ≤ u.room
  unfold qP
  omega
theorem X2 {next : Int} {s : Sess} (h : j9 next s = 0) : 1 ≤ s.number ∧ s.number ≤ next - 1 := by
  unfold j9 at h
  split at h
  · rename_i h1
    simp [qA] at h1; omega
  · cases h
theorem qb3 {next : Int} {s : Sess} (h : j9 next s = 0) : j9 (next + 1) s = 0 := by
  have hn := X2 h
  have e : qA s.number 1 (next + 1 - 1) = qA s.number 1 (next - 1) := by
    rw [Bool.eq_iff_iff]; simp [qA]; omega
  unfold j9 at h ⊢
  rw [e]; exact h
theorem qai {u : Upl} {who : qC} {size now : Int} (h : yQ u who size now = 0) : jD u now = 0 ∧ qo who = true ∧ 0 ≤ size ∧ size ≤ 300 ∧ u.next ≠ 1099511627776 ∧ (qP u.sess now).length ≠ 20 ∧ jX (qP u.sess now) who + size ≤ u.room := by
  unfold yQ at h
  split at h
  · rename_i h1
    split at h
    · rename_i h2
      split at h
      · cases h
      · rename_i h3
        split at h
        · cases h
        · rename_i h4
          split at h
          · cases h
          · rename_i h5
            exact ⟨h1, h2, by omega, by omega, fun e => h3 (.inr (.inr e)), h4, by omega⟩
    · cases h
  · rename_i h1; exact absurd h h1
theorem W7 {u : Upl} {who : qC} {size now : Int} (h : yQ u who size now = 0) : yu (Ym u who size now) = 0 := by
  obtain ⟨h1, h2, h3, h4, h5, h6, h7⟩ := qai h
  have ok := uok h1
  obtain ⟨n0, n1, l0, l1, r0, r1, x0, x1, _, _⟩ := ok
  obtain ⟨a, b, c, d, e⟩ := z6 (QW now (J0 h1).1)
  have hU : (JT u now).sess = qP u.sess now := rfl
  have hn : (JT u now).next = u.next := rfl
  have hr : (JT u now).room = u.room := rfl
  rw [hU] at b c d e
  rw [hn] at c
  rw [hr] at e
  refine Yf ?_ ?_ ?_ ?_ ?_
  · have e1 : qA u.lasts 1 1000000 = true := by simp [qA]; omega
    have e2 : qA u.room 0 100000 = true := by simp [qA]; omega
    have e3 : qA (u.next + 1) 1 1099511627776 = true := by simp [qA]; omega
    show (qA u.lasts 1 1000000 && qA u.room 0 100000 && qA (u.next + 1) 1 1099511627776) = true
    rw [e1, e2, e3]; rfl
  · simp [Ym]; omega
  · intro s hs
    simp only [Ym, List.mem_append, List.mem_singleton] at hs
    rcases hs with hs | rfl
    · exact qb3 (c s hs)
    · have w1 : qA u.next 1 u.next = true := by simp [qA]; omega
      have w2 : qA size 0 300 = true := by simp [qA]; omega
      have w3 : qA (now + u.lasts) 0 2199023255552 = true := by simp [qA]; omega
      simp [j9, Ym, w1, w2, w3, h2]; omega
  · show (qP u.sess now ++ [_]).Pairwise _
    rw [List.pairwise_append]
    refine ⟨d, by simp, fun s hs t ht => ?_⟩
    obtain rfl := List.mem_singleton.1 ht
    have := X2 (c s hs)
    show s.number < u.next
    omega
  · intro s hs
    simp only [Ym, List.mem_append, List.mem_singleton] at hs
    show jX (qP u.sess now ++ [_]) s.who ≤ u.room
    rw [XL]
    rcases hs with hs | rfl
    · have := e s hs
      by_cases hw : who = s.who
      · rw [if_pos hw]; rw [← hw]; exact h7
      · rw [if_neg hw]; omega
    · simpa using h7
end Go.Proofs.YtiljlcgmcmjcoaaGreatDoor
