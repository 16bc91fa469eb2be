/- The abstract layer, 8: states as lists; statements; regions, operation by operation; loops. -/
import Derived.Test.YtieflafgcajhbaaDoorAbMem7
set_option linter.unusedSimpArgs false
set_option linter.unusedVariables false
namespace Go.Ab
open Go.RowKit

theorem M.undef (F : Still) (ρ : Places) : M F ρ undef (.tup []) := .tup _ [] [] rfl (fun i v x h => by cases i <;> cases h)

structure St where
  ts : List (Nat × AV)
  hs : List (Nat × HB)
  nx : Nat

def getT : List (Nat × AV) → Nat → AV
  | [], _ => .junk
  | (j, x) :: l, i => if j = i then x else getT l i
def getH (l : List (Nat × HB)) (n : Nat) : HB := (findH l n).getD .dead

def Gs (B : Base) (σ : St) (a : Act) (w : World) : Prop := Ga B (· < σ.nx) (getT σ.ts) (getH σ.hs) a w

/-- The base fits the frame: so many slots; names below C.nh were handed over. -/
def Fits (C : Cx) (N : Nat) (B : Base) : Prop := B.N = N ∧ ∀ n, B.ρ0 n ≠ none → n < C.nh

/-- The weakest precondition, in terms of states. -/
def Awp (C : Cx) (N : Nat) (c : Code) (Q : Exit → St → Prop) (σ : St) : Prop :=
  ∀ B a w, Fits C N B → Gs B σ a w → c.wp C.P (fun e a' w' => ∃ σ', Q e σ' ∧ Gs B σ' a' w') a w

def thn (K : St → Prop) (Q : Exit → St → Prop) : Exit → St → Prop
  | .normal, σ => K σ
  | e, σ => Q e σ

def inb (id : Nat) (Q : Exit → St → Prop) : Exit → St → Prop
  | .exit id', σ => if id' = id then Q .normal σ else Q (.exit id') σ
  | e, σ => Q e σ

section code
variable {C : Cx} {N : Nat} {Q : Exit → St → Prop} {σ : St}

theorem Awp.mono {c : Code} {Q' : Exit → St → Prop} (h : Awp C N c Q σ) (hq : ∀ e σ, Q e σ → Q' e σ) : Awp C N c Q' σ :=
  fun B a w hN g => wp_mono (h B a w hN g) fun e a' w' ⟨σ', q, g'⟩ => ⟨σ', hq _ _ q, g'⟩

theorem awp_seq_k {x y : Code} (h : ∀ K : St → Prop, (∀ σ, Awp C N y Q σ → K σ) → Awp C N x (thn K Q) σ) : Awp C N (.seq x y) Q σ := by
  intro B a w hN g
  refine wp_seq (wp_mono (h _ (fun σ h => h) B a w hN g) ?_)
  intro e a' w' ⟨σ', q, g'⟩
  cases e with
  | normal => exact q B a' w' hN g'
  | _ => exact ⟨σ', q, g'⟩

theorem awp_seq {x y : Code} (h : Awp C N x (thn (fun σ => Awp C N y Q σ) Q) σ) : Awp C N (.seq x y) Q σ := awp_seq_k fun K hK => h.mono fun e σ q => by cases e <;> first | exact hK _ q | exact q

theorem awp_skip (h : Q .normal σ) : Awp C N .skip Q σ := fun _ _ _ _ g => wp_skip ⟨σ, h, g⟩
theorem awp_ret (h : Q .ret σ) : Awp C N .ret Q σ := fun _ _ _ _ g => wp_ret ⟨σ, h, g⟩
theorem awp_exit {id : Nat} (h : Q (.exit id) σ) : Awp C N (.exit id) Q σ := fun _ _ _ _ g => wp_exit ⟨σ, h, g⟩
theorem awp_label {l : Nat} (h : Q .normal σ) : Awp C N (.label l) Q σ := fun _ _ _ _ g => wp_label ⟨σ, h, g⟩

theorem awp_cond_t {c : Operand} {x y : Code} (hc : evA (getT σ.ts) c = .v (.bool true)) (h : Awp C N x Q σ) : Awp C N (.cond c x y) Q σ := by
  intro B a w hN g
  have he : a.eval c = .bool true := by
    obtain ⟨_, _, F, ρ, _, g4⟩ := g
    have := evA_sound (x := c) (rt := opT c) (fun j _ => g4 j) (fun j hj => hj)
    rw [hc] at this
    exact this.v_inv.1
  exact wp_cond_true he (h B a w hN g)
theorem awp_cond_f {c : Operand} {x y : Code} (hc : evA (getT σ.ts) c = .v (.bool false)) (h : Awp C N y Q σ) : Awp C N (.cond c x y) Q σ := by
  intro B a w hN g
  have he : a.eval c = .bool false := by
    obtain ⟨_, _, F, ρ, _, g4⟩ := g
    have := evA_sound (x := c) (rt := opT c) (fun j _ => g4 j) (fun j hj => hj)
    rw [hc] at this
    exact this.v_inv.1
  exact wp_cond_false he (h B a w hN g)
theorem awp_cond {c : Operand} {x y : Code} {b : Bool} (hc : evA (getT σ.ts) c = .v (.bool b)) (ht : b = true → Awp C N x Q σ) (hf : b = false → Awp C N y Q σ) : Awp C N (.cond c x y) Q σ := by
  intro B a w hN g
  have he : a.eval c = .bool b := by
    obtain ⟨_, _, F, ρ, _, g4⟩ := g
    have := evA_sound (x := c) (rt := opT c) (fun j _ => g4 j) (fun j hj => hj)
    rw [hc] at this
    exact this.v_inv.1
  exact wp_cond_split he (fun hb => ht hb B a w hN g) (fun hb => hf hb B a w hN g)

theorem M.anyb_inv {F : Still} {ρ : Places} {v : Value} (h : M F ρ v .anyb) : ∃ b, v = .bool b := by cases h with | anyb _ b => exact ⟨b, rfl⟩
/-- A test of which nothing is known. -/
theorem awp_cond_any {c : Operand} {x y : Code} (hc : evA (getT σ.ts) c = .anyb) (ht : Awp C N x Q σ) (hf : Awp C N y Q σ) : Awp C N (.cond c x y) Q σ := by
  intro B a w hN g
  have he : ∃ b, a.eval c = .bool b := by
    obtain ⟨_, _, F, ρ, _, g4⟩ := g
    have := evA_sound (x := c) (rt := opT c) (fun j _ => g4 j) (fun j hj => hj)
    rw [hc] at this
    exact this.anyb_inv
  obtain ⟨b, he⟩ := he
  exact wp_cond_split he (fun _ => ht B a w hN g) (fun _ => hf B a w hN g)

theorem awp_cond_y {c : Operand} {x y : Code} {b : Bool} (hc : evA (getT σ.ts) c = .v (.bool b)) (hb : b = true) (h : Awp C N x Q σ) : Awp C N (.cond c x y) Q σ := awp_cond_t (hb ▸ hc) h
theorem awp_cond_n {c : Operand} {x y : Code} {b : Bool} (hc : evA (getT σ.ts) c = .v (.bool b)) (hb : b = false) (h : Awp C N y Q σ) : Awp C N (.cond c x y) Q σ := awp_cond_f (hb ▸ hc) h

theorem awp_block {id : Nat} {c : Code} (h : Awp C N c (inb id Q) σ) : Awp C N (.block id c) Q σ := by
  intro B a w hN g
  refine wp_block (wp_mono (h B a w hN g) ?_)
  intro e a' w' ⟨σ', q, g'⟩
  cases e with
  | exit id' =>
    unfold Exit.inBlock
    unfold inb at q
    by_cases he : id' = id
    · simp only [he, if_true] at q ⊢; exact ⟨σ', q, g'⟩
    · simp only [he, if_false] at q ⊢; exact ⟨σ', q, g'⟩
  | _ => exact ⟨σ', q, g'⟩

/-- What a state says, another one says too. -/
def Red (C : Cx) (σ τ : St) : Prop := ∀ B a w, (∀ n, B.ρ0 n ≠ none → n < C.nh) → Gs B σ a w → Gs B τ a w

theorem Awp.red {c : Code} {τ : St} (hr : Red C σ τ) (h : Awp C N c Q τ) : Awp C N c Q σ := fun B a w hN g => h B a w hN (hr B a w hN.2 g)

/-- At an end a state may be told anew. -/
theorem Awp.post {c : Code} {Q' : Exit → St → Prop} (h : Awp C N c Q' σ) (hq : ∀ e σ, Q' e σ → ∃ τ, Red C σ τ ∧ Q e τ) : Awp C N c Q σ :=
  fun B a w hN g => wp_mono (h B a w hN g) fun e a' w' ⟨σ', q, g'⟩ => let ⟨τ, hr, hq'⟩ := hq _ _ q; ⟨τ, hq', hr B a' w' hN.2 g'⟩

theorem Red.refl (σ : St) : Red C σ σ := fun _ _ _ _ g => g
theorem Red.trans {σ τ υ : St} (h : Red C σ τ) (k : Red C τ υ) : Red C σ υ := fun B a w hh g => k B a w hh (h B a w hh g)

theorem least {P : Nat → Prop} (h : ∃ n, P n) : ∃ n, P n ∧ ∀ m, P m → n ≤ m := by
  obtain ⟨n, hn⟩ := h
  induction n using Nat.strongRecOn with
  | _ n ih =>
    by_cases hs : ∃ m, m < n ∧ P m
    · obtain ⟨m, hm, hp⟩ := hs; exact ih m hm hp
    · exact ⟨n, hn, fun m hm => Nat.le_of_not_lt fun hlt => hs ⟨m, hlt, hm⟩⟩

/-- A loop: I n: what holds at its head, n steps at most to come. -/
theorem awp_loop {c : Code} (I : Nat → St → Prop) (n : Nat) (h0 : I n σ) (round : ∀ n σ, I n σ → Awp C N c (thn (fun σ' => ∃ m τ, m < n ∧ Red C σ' τ ∧ I m τ) Q) σ) : Awp C N (.loop c) Q σ := by
  intro B a w hN g
  classical
  let J : Act → World → Nat → Prop := fun a w n => ∃ σ, I n σ ∧ Gs B σ a w
  let μ : Act → World → Nat := fun a w => if h : ∃ n, J a w n then Classical.choose (least h) else 0
  refine wp_loop (fun a w => ∃ n, J a w n) μ ⟨n, σ, h0, g⟩ ?_
  intro a w hJ
  have hμ : μ a w = Classical.choose (least hJ) := by simp only [μ]; rw [dif_pos hJ]
  obtain ⟨σ', hI, g'⟩ := (Classical.choose_spec (least hJ)).1
  refine wp_mono (round _ σ' hI B a w hN g') ?_
  intro e a' w' ⟨σ'', q, g''⟩
  cases e with
  | normal =>
    obtain ⟨m, τ, hm, hr, hI'⟩ := q
    have hJ' : J a' w' m := ⟨τ, hI', hr B a' w' hN.2 g''⟩
    refine ⟨⟨m, hJ'⟩, ?_⟩
    rw [hμ]
    have hμ' : μ a' w' ≤ m := by simp only [μ]; rw [dif_pos ⟨m, hJ'⟩]; exact (Classical.choose_spec (least ⟨m, hJ'⟩)).2 m hJ'
    omega
  | _ => exact ⟨σ'', q, g''⟩
end code

section ops
variable {C : Cx} {N : Nat} {all : Array Oper}

theorem run_app {R V : Type} (W : Eff → R → Option V) (D : Nat → Bool) : ∀ (Es Fs : List Eff) (i : Nat) (x : R → V), run W D i (Es ++ Fs) x = run W D (i + Es.length) Fs (run W D i Es x)
  | [], _, _, _ => rfl
  | E :: Es, Fs, i, x => by
    simp only [List.cons_append, run, List.length_cons]
    rw [run_app W D Es Fs (i + 1), show i + 1 + Es.length = i + (Es.length + 1) from by omega]

theorem run_upto_app {R V : Type} (W : Eff → R → Option V) (Es : List Eff) (E : Eff) (x : R → V) (i : Nat) (hi : i ≤ Es.length) : run W (upto i) 0 (Es ++ [E]) x = run W (upto i) 0 Es x := by
  rw [run_app]
  simp only [run, Nat.zero_add]
  have : upto i Es.length = false := by simp [upto]; omega
  simp [this]

theorem run_upto_last {R V : Type} (W : Eff → R → Option V) (Es : List Eff) (E : Eff) (x : R → V) : run W (upto (Es.length + 1)) 0 (Es ++ [E]) x = fun r => (W E r).getD (run W (upto Es.length) 0 Es x r) := by
  rw [run_app]
  simp only [run, Nat.zero_add]
  have h1 : upto (Es.length + 1) Es.length = true := by simp [upto]
  funext r
  simp only [h1, if_true]
  congr 1
  exact run_congr W _ _ r Es 0 x x rfl fun j E' hj _ => by
    have := (List.getElem?_eq_some_iff.1 hj).1
    simp only [upto, decide_eq_decide]; omega

structure Chain (C : Cx) (N : Nat) (all : Array Oper) (σ0 : St) (es : List Eff) (σ : St) : Prop where
  ok : ∀ (i : Nat) (E : Eff), es.reverse[i]? = some E → OpOk C.P all N i (runT (upto i) 0 es.reverse (getT σ0.ts)) (runH (upto i) 0 es.reverse (getH σ0.hs)) E
  t : runT (upto es.length) 0 es.reverse (getT σ0.ts) = getT σ.ts
  h : runH (upto es.length) 0 es.reverse (getH σ0.hs) = getH σ.hs
  fr : incr σ0.nx (es.reverse.flatMap Eff.fr) = true
  nx : ∀ n, n ∈ es.reverse.flatMap Eff.fr → n < σ.nx
  le : σ0.nx ≤ σ.nx

theorem incr_app : ∀ (l m : List Nat) (lo hi : Nat), incr lo l = true → (∀ n, n ∈ l → n < hi) → lo ≤ hi → incr hi m = true → incr lo (l ++ m) = true
  | [], m, lo, hi, _, _, h, hm => by
    cases m with
    | nil => rfl
    | cons x m => simp only [List.nil_append, incr, Bool.and_eq_true, decide_eq_true_eq] at hm ⊢; exact ⟨by omega, hm.2⟩
  | x :: l, m, lo, hi, h1, h2, h3, hm => by
    simp only [List.cons_append, incr, Bool.and_eq_true, decide_eq_true_eq] at h1 ⊢
    exact ⟨h1.1, incr_app l m (x + 1) hi h1.2 (fun n hn => h2 n (List.mem_cons_of_mem _ hn)) (h2 x (List.mem_cons_self ..)) hm⟩

theorem Chain.cons {σ0 σ τ : St} {es : List Eff} {E : Eff} (hc : Chain C N all σ0 es σ) (hE : OpOk C.P all N es.length (getT σ.ts) (getH σ.hs) E) (ht : E.t (getT σ.ts) = getT τ.ts) (hh : E.h (getH σ.hs) = getH τ.hs)
    (hf : incr σ.nx E.fr = true) (hn : ∀ n, n ∈ E.fr → n < τ.nx) (hle : σ.nx ≤ τ.nx) : Chain C N all σ0 (E :: es) τ := by
  have hrev : (E :: es).reverse = es.reverse ++ [E] := List.reverse_cons
  refine ⟨?_, ?_, ?_, ?_, ?_, Nat.le_trans hc.le hle⟩
  · intro i E' hi
    rw [hrev] at hi ⊢
    have hil : i ≤ es.reverse.length := by have := (List.getElem?_eq_some_iff.1 hi).1; simp at this; simp; omega
    unfold runT runH
    rw [run_upto_app Eff.wT _ _ _ _ hil, run_upto_app Eff.wH _ _ _ _ hil]
    by_cases hlt : i < es.reverse.length
    · rw [List.getElem?_append_left hlt] at hi
      exact hc.ok i E' hi
    · have hieq : i = es.reverse.length := by omega
      subst hieq
      rw [List.getElem?_append_right (Nat.le_refl _)] at hi
      simp at hi
      subst hi
      have h1 := hc.t; have h2 := hc.h
      unfold runT at h1; unfold runH at h2
      rw [List.length_reverse, h1, h2]
      exact hE
  · rw [hrev]
    unfold runT
    rw [show (E :: es).length = es.reverse.length + 1 from by simp, run_upto_last]
    have h1 := hc.t
    unfold runT at h1
    rw [List.length_reverse, h1]
    exact ht
  · rw [hrev]
    unfold runH
    rw [show (E :: es).length = es.reverse.length + 1 from by simp, run_upto_last]
    have h1 := hc.h
    unfold runH at h1
    rw [List.length_reverse, h1]
    exact hh
  · rw [hrev, List.flatMap_append]
    exact incr_app _ _ _ σ.nx hc.fr hc.nx hc.le (by simpa using hf)
  · intro n hn'
    rw [hrev, List.flatMap_append, List.mem_append] at hn'
    rcases hn' with hn' | hn'
    · exact Nat.lt_of_lt_of_le (hc.nx n hn') hle
    · exact hn n (by simpa using hn')

/-- The rest of a region, in the order of the text. es: what was done, the last in front. -/
def Ops (C : Cx) (N : Nat) (all : Array Oper) (es : List Eff) (σ : St) (os : List Oper) (K : List Eff → St → Prop) : Prop :=
  ∀ σ0, Chain C N all σ0 es σ → all.toList.drop es.length = os → ∃ es' σ', Chain C N all σ0 es' σ' ∧ es'.length = all.size ∧ K es' σ'

/-- One operation is wanted. gd: the slots that tell so. -/
def Wanted (all : Array Oper) (o : Oper) (gd : List Nat) (t : Nat → AV) : Prop :=
  ∀ (F : Still) (ρ : Places) (a : Act), (∀ j, j ∈ gd → M F ρ (a.tmps.getD j undef) (t j)) → Region.wanted o (yielded all a.tmps) = true

/-- An operation (its guard is met) and the rest. -/
def OpsX (C : Cx) (N : Nat) (all : Array Oper) (gd : List Nat) (es : List Eff) (σ : St) (o : Oper) (os : List Oper) (K : List Eff → St → Prop) : Prop :=
  Wanted all o gd (getT σ.ts) → Ops C N all es σ (o :: os) K

variable {es : List Eff} {K : List Eff → St → Prop} {os : List Oper} {o : Oper}

theorem ops_nil {σ : St} (hl : es.length ≤ all.size) (h : K es σ) : Ops C N all es σ [] K := by
  intro σ0 hc hd
  have : all.size ≤ es.length := by
    have := congrArg List.length hd
    simp at this; omega
  exact ⟨es, σ, hc, by omega, h⟩

theorem drop_head {l : List Oper} {n : Nat} (h : l.drop n = o :: os) : l[n]? = some o ∧ l.drop (n + 1) = os := by
  constructor
  · rw [← List.head?_drop, h]; rfl
  · rw [← List.tail_drop, h]; rfl

theorem ops_free {σ : St} {d : Option Tmp} {op : Op} {ty : TypeId} {pos : String} {af : Array Edge} (h : OpsX C N all [] es σ ⟨d, op, ty, pos, af, none⟩ os K) : Ops C N all es σ (⟨d, op, ty, pos, af, none⟩ :: os) K :=
  h fun _ _ _ _ => rfl

theorem opsx_eff {σ τ : St} {gd : List Nat} {E : Eff} (hE : ExOk C.P N o (getT σ.ts) (getH σ.hs) E) (ht : E.t (getT σ.ts) = getT τ.ts) (hh : E.h (getH σ.hs) = getH τ.hs)
    (hf : incr σ.nx E.fr = true) (hn : ∀ n, n ∈ E.fr → n < τ.nx) (hle : σ.nx ≤ τ.nx) (h : Ops C N all (⟨gd ++ E.rt, E.rh, E.wt, E.val, E.wh, E.fr⟩ :: es) τ os K) : OpsX C N all gd es σ o os K := by
  intro hw σ0 hc hd
  obtain ⟨ho, hd'⟩ := drop_head hd
  rw [Array.getElem?_toList] at ho
  have hOp : OpOk C.P all N es.length (getT σ.ts) (getH σ.hs) ⟨gd ++ E.rt, E.rh, E.wt, E.val, E.wh, E.fr⟩ := by
    intro B A t' h' a w Q K' hBN g hrt hrh hfr hK
    unfold wpOp
    simp only [ho]
    have hwant : Region.wanted o (yielded all a.tmps) = true := by
      obtain ⟨_, _, F, ρ, _, g4⟩ := g
      exact hw F ρ a fun j hj => (hrt j (List.mem_append_left _ hj)) ▸ g4 j
    rw [if_pos hwant]
    exact .inl (hE B A t' h' a w Q K' hBN g (fun j hj => hrt j (List.mem_append_right _ hj)) hrh hfr hK)
  exact h σ0 (hc.cons hOp ht hh hf hn hle) hd'

theorem opsx_val {ts : List (Nat × AV)} {hs : List (Nat × HB)} {nx : Nat} {gd rt rh : List Nat} {d : Nat} {x : AV} (hE : ExOk C.P N o (getT ts) (getH hs) ⟨rt, rh, some d, x, [], []⟩)
    (h : Ops C N all (⟨gd ++ rt, rh, some d, x, [], []⟩ :: es) ⟨(d, x) :: ts, hs, nx⟩ os K) : OpsX C N all gd es ⟨ts, hs, nx⟩ o os K := by
  refine opsx_eff (τ := ⟨(d, x) :: ts, hs, nx⟩) hE ?_ ?_ rfl (by simp) (Nat.le_refl _) h
  · funext i; simp only [Eff.t, Eff.wT, Option.some.injEq, getT]; split <;> rfl
  · funext n; rfl

theorem opsx_new {ts : List (Nat × AV)} {hs : List (Nat × HB)} {nx : Nat} {gd rt rh : List Nat} {d : Nat} {x : AV} {hb : HB} (hE : ExOk C.P N o (getT ts) (getH hs) ⟨rt, rh, some d, x, [(nx, hb)], [nx]⟩)
    (h : Ops C N all (⟨gd ++ rt, rh, some d, x, [(nx, hb)], [nx]⟩ :: es) ⟨(d, x) :: ts, (nx, hb) :: hs, nx + 1⟩ os K) : OpsX C N all gd es ⟨ts, hs, nx⟩ o os K := by
  refine opsx_eff (τ := ⟨(d, x) :: ts, (nx, hb) :: hs, nx + 1⟩) hE ?_ ?_ (by simp [incr]) (by simp) (Nat.le_succ _) h
  · funext i; simp only [Eff.t, Eff.wT, Option.some.injEq, getT]; split <;> rfl
  · funext n
    simp only [Eff.h, Eff.wH, findH, getH]
    split <;> rfl

theorem opsx_app {ts : List (Nat × AV)} {hs : List (Nat × HB)} {nx : Nat} {gd rt rh : List Nat} {d : Nat} {x : AV} {hb hb' : HB} {m : Nat} (hE : ExOk C.P N o (getT ts) (getH hs) ⟨rt, rh, some d, x, [(nx, hb), (m, hb')], [nx]⟩)
    (h : Ops C N all (⟨gd ++ rt, rh, some d, x, [(nx, hb), (m, hb')], [nx]⟩ :: es) ⟨(d, x) :: ts, (nx, hb) :: (m, hb') :: hs, nx + 1⟩ os K) : OpsX C N all gd es ⟨ts, hs, nx⟩ o os K := by
  refine opsx_eff (τ := ⟨(d, x) :: ts, (nx, hb) :: (m, hb') :: hs, nx + 1⟩) hE ?_ ?_ (by simp [incr]) (by simp) (Nat.le_succ _) h
  · funext i; simp only [Eff.t, Eff.wT, Option.some.injEq, getT]; split <;> rfl
  · funext n
    simp only [Eff.h, Eff.wH, findH, getH]
    split
    · rfl
    · split <;> rfl

theorem opsx_store {ts : List (Nat × AV)} {hs : List (Nat × HB)} {nx : Nat} {gd rt rh : List Nat} {x : AV} {hb : HB} {m : Nat} (hE : ExOk C.P N o (getT ts) (getH hs) ⟨rt, rh, none, x, [(m, hb)], []⟩)
    (h : Ops C N all (⟨gd ++ rt, rh, none, x, [(m, hb)], []⟩ :: es) ⟨ts, (m, hb) :: hs, nx⟩ os K) : OpsX C N all gd es ⟨ts, hs, nx⟩ o os K := by
  refine opsx_eff (τ := ⟨ts, (m, hb) :: hs, nx⟩) hE ?_ ?_ rfl (by simp) (Nat.le_refl _) h
  · funext i; simp only [Eff.t, Eff.wT, reduceCtorEq, if_false, Option.getD_none]
  · funext n
    simp only [Eff.h, Eff.wH, findH, getH]
    split <;> rfl

/-- A guarded operation: its guard is met, or it is left out. -/
theorem ops_guard {ts : List (Nat × AV)} {hs : List (Nat × HB)} {nx : Nat} {j d d' : Nat} {b c : Bool} (hg : o.guard = some (j, b)) (hd : (all[j]?).bind (·.dst) = some d) (hv : getT ts d = .v (.bool c)) (hdst : o.dst = some d') (hN : d' < N)
    (hy : c = b → OpsX C N all [d] es ⟨ts, hs, nx⟩ o os K) (hno : c = !b → Ops C N all (⟨[d], [], some d', .tup [], [], []⟩ :: es) ⟨(d', .tup []) :: ts, hs, nx⟩ os K) : Ops C N all es ⟨ts, hs, nx⟩ (o :: os) K := by
  have hyield : ∀ (F : Still) (ρ : Places) (a : Act), M F ρ (a.tmps.getD d undef) (getT ts d) → yielded all a.tmps j = some c := by
    intro F ρ a hm
    rw [hv] at hm
    have hm := hm.v_inv.1
    unfold yielded
    rw [hd]
    rw [Array.getD_eq_getD_getElem?] at hm
    cases hget : a.tmps[d]? with
    | none => rw [hget] at hm; cases hm
    | some u => rw [hget] at hm; simp only [Option.getD_some] at hm; subst hm; simp [hget]
  by_cases hcb : c = b
  · refine hy hcb fun F ρ a hm => ?_
    unfold Region.wanted
    rw [hg]
    show (yielded all a.tmps j == some b) = true
    rw [hyield F ρ a (hm d (by simp)), hcb]
    simp
  · have hcb' : c = !b := by cases c <;> cases b <;> simp_all
    intro σ0 hch hdr
    obtain ⟨ho, hd'⟩ := drop_head hdr
    rw [Array.getElem?_toList] at ho
    have hOp : OpOk C.P all N es.length (getT ts) (getH hs) ⟨[d], [], some d', .tup [], [], []⟩ := by
      intro B A t' h' a w Q K' hBN g hrt hrh hfr hK
      unfold wpOp
      simp only [ho]
      obtain ⟨g1, g2, F, ρ, hp, g4⟩ := g
      have hwant : Region.wanted o (yielded all a.tmps) = false := by
        have hm := g4 d
        rw [hrt d (by simp)] at hm
        unfold Region.wanted
        rw [hg]
        show (yielded all a.tmps j == some b) = false
        rw [hyield F ρ a hm, hcb']
        cases b <;> rfl
      rw [if_neg (by simp [hwant])]
      refine hK _ _ ⟨by simpa [Act.put, hdst] using g1, by rw [put_size]; exact g2, F, ρ, hp.weaken fun n hn => .inl hn, fun i => ?_⟩
      rw [hdst, put_getD _ _ _ _ (by omega)]
      unfold Eff.t Eff.wT
      by_cases hi : d' = i
      · subst hi; simpa using M.undef F ρ
      · simpa [hi] using g4 i
    refine hno hcb' σ0 (hch.cons hOp ?_ ?_ rfl (by simp) (Nat.le_refl _)) hd'
    · funext i; simp only [Eff.t, Eff.wT, Option.some.injEq, getT]; split <;> rfl
    · funext n; rfl

section guards
variable {ts : List (Nat × AV)} {hs : List (Nat × HB)} {nx : Nat} {j d d' : Nat} {op : Op} {ty : TypeId} {pos : String} {af : Array Edge}
theorem ops_on_t (hd : (all[j]?).bind (·.dst) = some d) (hv : getT ts d = .v (.bool true)) (hN : d' < N) (hy : OpsX C N all [d] es ⟨ts, hs, nx⟩ ⟨some d', op, ty, pos, af, some (j, true)⟩ os K) : Ops C N all es ⟨ts, hs, nx⟩ (⟨some d', op, ty, pos, af, some (j, true)⟩ :: os) K :=
  ops_guard rfl hd hv rfl hN (fun _ => hy) nofun
theorem ops_on_f (hd : (all[j]?).bind (·.dst) = some d) (hv : getT ts d = .v (.bool false)) (hN : d' < N) (hy : OpsX C N all [d] es ⟨ts, hs, nx⟩ ⟨some d', op, ty, pos, af, some (j, false)⟩ os K) : Ops C N all es ⟨ts, hs, nx⟩ (⟨some d', op, ty, pos, af, some (j, false)⟩ :: os) K :=
  ops_guard rfl hd hv rfl hN (fun _ => hy) nofun
theorem ops_off_t (hd : (all[j]?).bind (·.dst) = some d) (hv : getT ts d = .v (.bool false)) (hN : d' < N) (hno : Ops C N all (⟨[d], [], some d', .tup [], [], []⟩ :: es) ⟨(d', .tup []) :: ts, hs, nx⟩ os K) : Ops C N all es ⟨ts, hs, nx⟩ (⟨some d', op, ty, pos, af, some (j, true)⟩ :: os) K :=
  ops_guard rfl hd hv rfl hN nofun (fun _ => hno)
theorem ops_off_f (hd : (all[j]?).bind (·.dst) = some d) (hv : getT ts d = .v (.bool true)) (hN : d' < N) (hno : Ops C N all (⟨[d], [], some d', .tup [], [], []⟩ :: es) ⟨(d', .tup []) :: ts, hs, nx⟩ os K) : Ops C N all es ⟨ts, hs, nx⟩ (⟨some d', op, ty, pos, af, some (j, false)⟩ :: os) K :=
  ops_guard rfl hd hv rfl hN nofun (fun _ => hno)
/-- The guard's test is known on this way. -/
theorem ops_yes {b c : Bool} (hd : (all[j]?).bind (·.dst) = some d) (hv : getT ts d = .v (.bool c)) (hc : c = b) (hN : d' < N) (hy : OpsX C N all [d] es ⟨ts, hs, nx⟩ ⟨some d', op, ty, pos, af, some (j, b)⟩ os K) : Ops C N all es ⟨ts, hs, nx⟩ (⟨some d', op, ty, pos, af, some (j, b)⟩ :: os) K :=
  ops_guard rfl hd hv rfl hN (fun _ => hy) (fun h => by subst hc; cases c <;> cases h)
theorem ops_no_t {c : Bool} (hd : (all[j]?).bind (·.dst) = some d) (hv : getT ts d = .v (.bool c)) (hc : c = false) (hN : d' < N) (hno : Ops C N all (⟨[d], [], some d', .tup [], [], []⟩ :: es) ⟨(d', .tup []) :: ts, hs, nx⟩ os K) : Ops C N all es ⟨ts, hs, nx⟩ (⟨some d', op, ty, pos, af, some (j, true)⟩ :: os) K :=
  ops_guard rfl hd hv rfl hN (fun h => by subst hc; cases h) (fun _ => hno)
theorem ops_no_f {c : Bool} (hd : (all[j]?).bind (·.dst) = some d) (hv : getT ts d = .v (.bool c)) (hc : c = true) (hN : d' < N) (hno : Ops C N all (⟨[d], [], some d', .tup [], [], []⟩ :: es) ⟨(d', .tup []) :: ts, hs, nx⟩ os K) : Ops C N all es ⟨ts, hs, nx⟩ (⟨some d', op, ty, pos, af, some (j, false)⟩ :: os) K :=
  ops_guard rfl hd hv rfl hN (fun h => by subst hc; cases h) (fun _ => hno)
theorem ops_split_t {c : Bool} (hd : (all[j]?).bind (·.dst) = some d) (hv : getT ts d = .v (.bool c)) (hN : d' < N) (hy : c = true → OpsX C N all [d] es ⟨ts, hs, nx⟩ ⟨some d', op, ty, pos, af, some (j, true)⟩ os K)
    (hno : c = false → Ops C N all (⟨[d], [], some d', .tup [], [], []⟩ :: es) ⟨(d', .tup []) :: ts, hs, nx⟩ os K) : Ops C N all es ⟨ts, hs, nx⟩ (⟨some d', op, ty, pos, af, some (j, true)⟩ :: os) K :=
  ops_guard rfl hd hv rfl hN hy hno
theorem ops_split_f {c : Bool} (hd : (all[j]?).bind (·.dst) = some d) (hv : getT ts d = .v (.bool c)) (hN : d' < N) (hy : c = false → OpsX C N all [d] es ⟨ts, hs, nx⟩ ⟨some d', op, ty, pos, af, some (j, false)⟩ os K)
    (hno : c = true → Ops C N all (⟨[d], [], some d', .tup [], [], []⟩ :: es) ⟨(d', .tup []) :: ts, hs, nx⟩ os K) : Ops C N all es ⟨ts, hs, nx⟩ (⟨some d', op, ty, pos, af, some (j, false)⟩ :: os) K :=
  ops_guard rfl hd hv rfl hN hy hno
end guards

/-- A guard that was itself left out. -/
theorem ops_unwanted {ts : List (Nat × AV)} {hs : List (Nat × HB)} {nx : Nat} {j d d' : Nat} {b : Bool} {op : Op} {ty : TypeId} {pos : String} {af : Array Edge} (hd : (all[j]?).bind (·.dst) = some d) (hv : getT ts d = .tup []) (hN : d' < N)
    (hno : Ops C N all (⟨[d], [], some d', .tup [], [], []⟩ :: es) ⟨(d', .tup []) :: ts, hs, nx⟩ os K) : Ops C N all es ⟨ts, hs, nx⟩ (⟨some d', op, ty, pos, af, some (j, b)⟩ :: os) K := by
  have hg : (⟨some d', op, ty, pos, af, some (j, b)⟩ : Oper).guard = some (j, b) := rfl
  have hdst : (⟨some d', op, ty, pos, af, some (j, b)⟩ : Oper).dst = some d' := rfl
  generalize (⟨some d', op, ty, pos, af, some (j, b)⟩ : Oper) = o at *
  intro σ0 hch hdr
  obtain ⟨ho, hd'⟩ := drop_head hdr
  rw [Array.getElem?_toList] at ho
  have hOp : OpOk C.P all N es.length (getT ts) (getH hs) ⟨[d], [], some d', .tup [], [], []⟩ := by
    intro B A t' h' a w Q K' hBN g hrt hrh hfr hK
    unfold wpOp
    simp only [ho]
    obtain ⟨g1, g2, F, ρ, hp, g4⟩ := g
    have hwant : Region.wanted o (yielded all a.tmps) = false := by
      have hm := g4 d
      rw [hrt d (by simp), hv] at hm
      obtain ⟨vs, hm, hl, _⟩ := hm.tup_inv
      have hvs : vs = [] := List.eq_nil_of_length_eq_zero (by simpa using hl)
      subst hvs
      unfold Region.wanted
      rw [hg]
      show (yielded all a.tmps j == some b) = false
      have : yielded all a.tmps j = none := by
        unfold yielded
        rw [hd]
        rw [Array.getD_eq_getD_getElem?] at hm
        cases hget : a.tmps[d]? with
        | none => simp [hget]
        | some u => rw [hget] at hm; simp only [Option.getD_some] at hm; subst hm; simp [hget]
      rw [this]; rfl
    rw [if_neg (by simp [hwant])]
    refine hK _ _ ⟨by simpa [Act.put, hdst] using g1, by rw [put_size]; exact g2, F, ρ, hp.weaken fun n hn => .inl hn, fun i => ?_⟩
    rw [hdst, put_getD _ _ _ _ (by omega)]
    unfold Eff.t Eff.wT
    by_cases hi : d' = i
    · subst hi; simpa using M.undef F ρ
    · simpa [hi] using g4 i
  refine hno σ0 (hch.cons hOp ?_ ?_ rfl (by simp) (Nat.le_refl _)) hd'
  · funext i; simp only [Eff.t, Eff.wT, Option.some.injEq, getT]; split <;> rfl
  · funext n; rfl

/-- A region. -/
theorem awp_region {Q : Exit → St → Prop} {σ : St} {id : Nat} {l : List Oper} {draw : Bool}
    (h : Ops C N l.toArray [] σ l fun es σ' => (draw = true → orderly l es.reverse [] [] = true) ∧ Q .normal σ') : Awp C N (.region id l.toArray draw) Q σ := by
  intro B a w hN g
  have hc0 : Chain C N l.toArray σ [] σ := ⟨(fun i E hi => by simp only [List.reverse_nil, List.getElem?_nil] at hi; cases hi), rfl, rfl, rfl, (fun n hn => by cases hn), Nat.le_refl _⟩
  obtain ⟨es, σ', hc, hlen, hord, hq⟩ := h σ hc0 rfl
  have hlen' : es.reverse.length = l.toArray.size := by simpa using hlen
  have hfin : ∀ a' w', Ga B (fun n => n < σ.nx ∨ n ∈ es.reverse.flatMap Eff.fr) (runT (upto l.toArray.size) 0 es.reverse (getT σ.ts)) (runH (upto l.toArray.size) 0 es.reverse (getH σ.hs)) a' w' → ∃ σ', Q .normal σ' ∧ Gs B σ' a' w' := by
    intro a' w' g'
    refine ⟨σ', hq, ?_⟩
    rw [← hlen, hc.t, hc.h] at g'
    refine g'.weaken fun n hn => ?_
    rcases hn with hn | hn
    · exact Nat.lt_of_lt_of_le hn hc.le
    · exact hc.nx n hn
  cases draw with
  | true =>
    refine region_any C.mixed hN.1 es.reverse σ.nx (getT σ.ts) (getH σ.hs) (by simpa using hord rfl) hc.fr hc.ok ?_ g
    exact hfin
  | false =>
    refine wp_region ?_
    rw [List.range_eq_range']
    refine wpOps_text hN.1 es.reverse σ.nx (getT σ.ts) (getH σ.hs) hlen' hc.fr hc.ok (Q := fun e a' w' => ∃ σ', Q e σ' ∧ Gs B σ' a' w') hfin l.toArray.size 0 (by omega) a w ?_
    have hz : ∀ {R V : Type} (W : Eff → R → Option V) (x : R → V), x = run W (upto 0) 0 es.reverse x := by
      intro R V W x; funext r
      have : ∀ (Es : List Eff) (i : Nat) (y : R → V), run W (upto 0) i Es y r = y r := by
        intro Es
        induction Es with
        | nil => intro i y; rfl
        | cons E Es ih => intro i y; simp only [run]; rw [ih]; simp [upto]
      exact (this _ 0 x).symm
    have e1 : getT σ.ts = runT (upto 0) 0 es.reverse (getT σ.ts) := hz Eff.wT _
    have e2 : getH σ.hs = runH (upto 0) 0 es.reverse (getH σ.hs) := hz Eff.wH _
    unfold Gs at g
    rw [e1, e2] at g
    exact g.weaken fun n hn => .inl hn
end ops
end Go.Ab
