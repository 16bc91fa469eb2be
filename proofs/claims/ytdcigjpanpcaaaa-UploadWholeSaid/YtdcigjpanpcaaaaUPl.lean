/- Uploads: plain laws of what the functions answer. -/
import Derived.Test.YtdcigjpanpcaaaaUab14
set_option linter.unusedSimpArgs false
namespace Go.Proofs.Ytdcigjpanpcaaaa

def numLt (a b : Sess) : Bool := decide (a.number < b.number)
theorem rising_pair {l : List Sess} : rising (fun a b => decide (a.number < b.number)) l = true ↔ l.Pairwise (fun a b => a.number < b.number) := by
  induction l with
  | nil => simp [rising]
  | cons x l ih =>
    simp only [rising, Bool.and_eq_true, ih, List.pairwise_cons]
    constructor
    · rintro ⟨h1, h2⟩
      refine ⟨?_, h2⟩
      cases l with
      | nil => simp
      | cons y l =>
        simp at h1
        intro z hz
        rcases List.mem_cons.1 hz with rfl | hz
        · exact h1
        · have := (List.pairwise_cons.1 h2).1 z hz; omega
    · rintro ⟨h1, h2⟩
      refine ⟨?_, h2⟩
      cases l with
      | nil => rfl
      | cons y l => simpa using h1 y (List.mem_cons_self ..)

theorem openOf_cons (s : Sess) (l : List Sess) (who : Str) : openOf (s :: l) who = (if s.who = who then s.size else 0) + openOf l who := by simp [openOf]
theorem openOf_filter {l : List Sess} (p : Sess → Bool) (who : Str) (h : ∀ s, s ∈ l → 0 ≤ s.size) : openOf (l.filter p) who ≤ openOf l who := by
  induction l with
  | nil => simp
  | cons s l ih =>
    have ih := ih fun t ht => h t (List.mem_cons_of_mem _ ht)
    have h0 := h s (List.mem_cons_self ..)
    rw [openOf_cons]
    by_cases hp : p s = true
    · rw [List.filter_cons_of_pos hp, openOf_cons]; omega
    · rw [List.filter_cons_of_neg hp]; split <;> omega

theorem upErr_mk {u : Upl} (h1 : upHead u = true) (h2 : u.sess.length ≤ 20) (h3 : ∀ s, s ∈ u.sess → sessErr u.next s = 0) (h4 : u.sess.Pairwise (fun a b => a.number < b.number)) (h5 : ∀ s, s ∈ u.sess → openOf u.sess s.who ≤ u.room) : upErr u = 0 := by
  unfold upErr
  rw [if_pos h1, if_neg (by omega), if_pos (firstErr_zero.2 h3), if_pos (rising_pair.2 h4), if_pos (show roomy u = true from List.all_eq_true.2 fun s hs => by simpa using h5 s hs)]
theorem upErr_get {u : Upl} (h : upErr u = 0) : upHead u = true ∧ u.sess.length ≤ 20 ∧ (∀ s, s ∈ u.sess → sessErr u.next s = 0) ∧ u.sess.Pairwise (fun a b => a.number < b.number) ∧ ∀ s, s ∈ u.sess → openOf u.sess s.who ≤ u.room := by
  obtain ⟨a, b, c, d, e⟩ := upErr_zero h
  exact ⟨a, b, c, rising_pair.1 d, fun s hs => by have := List.all_eq_true.1 e s hs; simpa using this⟩

/-- Who lets go the sessions that are over has uploads that pass the check as before. -/
theorem upErr_swept {u : Upl} (t : Int) (h : upErr u = 0) : upErr (sweptU u t) = 0 := by
  obtain ⟨a, b, c, d, e⟩ := upErr_get h
  refine upErr_mk a (Nat.le_trans (sweptL_len _ _) b) (fun s hs => c s (sweptL_mem hs)) (d.filter _) (fun s hs => ?_)
  have h1 := openOf_filter (l := u.sess) (keeps t) s.who (fun s hs => (sessErr_size (c s hs)).1)
  have h2 := e s (sweptL_mem hs)
  show openOf (sweptL u.sess t) s.who ≤ u.room
  unfold sweptL
  omega

theorem sessErr_num {next : Int} {s : Sess} (h : sessErr next s = 0) : 1 ≤ s.number ∧ s.number ≤ next - 1 := by
  unfold sessErr at h
  split at h
  · rename_i h1
    simp [withinB] at h1; omega
  · cases h
theorem sessErr_up {next : Int} {s : Sess} (h : sessErr next s = 0) : sessErr (next + 1) s = 0 := by
  have hn := sessErr_num h
  have e : withinB s.number 1 (next + 1 - 1) = withinB s.number 1 (next - 1) := by
    rw [Bool.eq_iff_iff]; simp [withinB]; omega
  unfold sessErr at h ⊢
  rw [e]; exact h

theorem openErr_get {u : Upl} {who : Str} {size now : Int} (h : openErr u who size now = 0) : beginErr u now = 0 ∧ isName who = true ∧ 0 ≤ size ∧ size ≤ 300 ∧ u.next ≠ 1099511627776 ∧ (sweptL u.sess now).length ≠ 20 ∧ openOf (sweptL u.sess now) who + size ≤ u.room := by
  unfold openErr at h
  split at h
  · rename_i h1
    split at h
    · rename_i h2
      split at h
      · cases h
      · rename_i h3
        split at h
        · cases h
        · rename_i h4
          split at h
          · cases h
          · rename_i h5
            exact ⟨h1, h2, by omega, by omega, fun e => h3 (.inr (.inr e)), h4, by omega⟩
    · cases h
  · rename_i h1; exact absurd h h1

/-- What was opened passes the check. -/
theorem open_passes {u : Upl} {who : Str} {size now : Int} (h : openErr u who size now = 0) : upErr (openU u who size now) = 0 := by
  obtain ⟨h1, h2, h3, h4, h5, h6, h7⟩ := openErr_get h
  have ok := uok h1
  obtain ⟨n0, n1, l0, l1, r0, r1, x0, x1, _, _⟩ := ok
  obtain ⟨a, b, c, d, e⟩ := upErr_get (upErr_swept now (begin_zero h1).1)
  have hU : (sweptU u now).sess = sweptL u.sess now := rfl
  have hn : (sweptU u now).next = u.next := rfl
  have hr : (sweptU u now).room = u.room := rfl
  rw [hU] at b c d e
  rw [hn] at c
  rw [hr] at e
  refine upErr_mk ?_ ?_ ?_ ?_ ?_
  · have e1 : withinB u.lasts 1 1000000 = true := by simp [withinB]; omega
    have e2 : withinB u.room 0 100000 = true := by simp [withinB]; omega
    have e3 : withinB (u.next + 1) 1 1099511627776 = true := by simp [withinB]; omega
    show (withinB u.lasts 1 1000000 && withinB u.room 0 100000 && withinB (u.next + 1) 1 1099511627776) = true
    rw [e1, e2, e3]; rfl
  · simp [openU]; omega
  · intro s hs
    simp only [openU, List.mem_append, List.mem_singleton] at hs
    rcases hs with hs | rfl
    · exact sessErr_up (c s hs)
    · have w1 : withinB u.next 1 u.next = true := by simp [withinB]; omega
      have w2 : withinB size 0 300 = true := by simp [withinB]; omega
      have w3 : withinB (now + u.lasts) 0 2199023255552 = true := by simp [withinB]; omega
      simp [sessErr, openU, w1, w2, w3, h2]; omega
  · show (sweptL u.sess now ++ [_]).Pairwise _
    rw [List.pairwise_append]
    refine ⟨d, by simp, fun s hs t ht => ?_⟩
    obtain rfl := List.mem_singleton.1 ht
    have := sessErr_num (c s hs)
    show s.number < u.next
    omega
  · intro s hs
    simp only [openU, List.mem_append, List.mem_singleton] at hs
    show openOf (sweptL u.sess now ++ [_]) s.who ≤ u.room
    rw [openOf_snoc]
    rcases hs with hs | rfl
    · have := e s hs
      by_cases hw : who = s.who
      · rw [if_pos hw]; rw [← hw]; exact h7
      · rw [if_neg hw]; omega
    · simpa using h7

theorem open_begins {u : Upl} {who : Str} {size now : Int} (h : openErr u who size now = 0) (t : Int) (h0 : 0 ≤ t) (h1 : t ≤ 1099511627776) : beginErr (openU u who size now) t = 0 := by
  unfold beginErr
  rw [if_pos (open_passes h), if_pos (by simp [withinB]; omega)]

theorem swept_id {l : List Sess} {now : Int} (h : ∀ s, s ∈ l → now ≤ s.till) : sweptL l now = l := List.filter_eq_self.2 fun s hs => by simpa [keeps] using h s hs
theorem open_swept {u : Upl} {who : Str} {size now : Int} (h : openErr u who size now = 0) : sweptL (openU u who size now).sess now = (openU u who size now).sess := by
  obtain ⟨h1, _⟩ := openErr_get h
  have := (uok h1).l0
  refine swept_id fun s hs => ?_
  simp only [openU, List.mem_append, List.mem_singleton] at hs
  rcases hs with hs | rfl
  · have := (List.mem_filter.1 hs).2; simpa [keeps] using this
  · show now ≤ now + u.lasts; omega

theorem idxOf_snoc {α : Type} {p : α → Bool} {l : List α} {x : α} (h : ∀ y, y ∈ l → p y = false) (hx : p x = true) : idxOf p (l ++ [x]) = l.length := by
  have := idxOf_at (p := p) (l := l ++ [x]) (k := l.length) (by simp) (fun y hy => h y (by simpa using hy)) (by simpa using hx)
  exact this
theorem old_num {u : Upl} {who : Str} {size now : Int} (h : openErr u who size now = 0) {s : Sess} (hs : s ∈ sweptL u.sess now) : s.number < u.next := by
  obtain ⟨h1, _⟩ := openErr_get h
  have := sessErr_num ((upErr_get (begin_zero h1).1).2.2.1 s (sweptL_mem hs))
  omega
/-- The place of what was opened. -/
theorem open_mine {u : Upl} {who : Str} {size now : Int} (h : openErr u who size now = 0) : idxOf (isMine who u.next) (openU u who size now).sess = (sweptL u.sess now).length :=
  idxOf_snoc (fun s hs => by have := old_num h hs; simp [isMine]; omega) (by simp [isMine])
theorem open_other {u : Upl} {who other : Str} {size now : Int} (h : openErr u who size now = 0) (ho : other ≠ who) : idxOf (isMine other u.next) (openU u who size now).sess = -1 :=
  idxOf_none fun s hs => by
    simp only [openU, List.mem_append, List.mem_singleton] at hs
    rcases hs with hs | rfl
    · have := old_num h hs; simp [isMine]; omega
    · simp [isMine, Ne.symm ho]
/-- Later it is gone. -/
theorem open_gone {u : Upl} {who : Str} {size now : Int} (h : openErr u who size now = 0) : idxOf (isMine who u.next) (sweptL (openU u who size now).sess (now + u.lasts + 1)) = -1 :=
  idxOf_none fun s hs => by
    obtain ⟨h1, h2⟩ := List.mem_filter.1 hs
    simp only [openU, List.mem_append, List.mem_singleton] at h1
    rcases h1 with h1 | rfl
    · have := old_num h h1; simp [isMine]; omega
    · simp [keeps] at h2; omega
end Go.Proofs.Ytdcigjpanpcaaaa
