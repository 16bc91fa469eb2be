import Derived.Test.YtiljlcgmcmjcoaaGreatDoorMz6
import Derived.Test.YtiljlcgmcmjcoaaGreatDoorMz23
/- The abstract layer, 26: calls that are handed several pieces of memory; a nil slice within a row told as our own. -/
set_option linter.unusedSimpArgs false
set_option linter.unusedVariables false
namespace Go.Ab
open Go.RowKit
def GiveL (L : List (Nat × Nat)) (h : Nat → HB) : List Nat → List HB → Prop
  | [], [] => True
  | n :: ns, hb :: hbs => ((h n).isOwn = true ∧ RenHB L 0 (h n) hb) ∧ GiveL L h ns hbs
  | _, _ => False
def BackL (L : List (Nat × Nat)) : List (Nat × HB) → List HB → Prop
  | [], _ => True
  | (n, hb) :: zs, hbs => RenHB L 0 (hbs.headD .dead) hb ∧ BackL L zs hbs.tail
theorem give_spec {L : List (Nat × Nat)} {h : Nat → HB} : ∀ {ns : List Nat} {H : List HB}, GiveL L h ns H → ∀ (i : Nat) n hb, ns[i]? = some n → H[i]? = some hb → (h n).isOwn = true ∧ RenHB L 0 (h n) hb
  | [], H, _, i, n, hb, hn, _ => by simp at hn
  | m :: ns, hb' :: H, hg, i, n, hb, hn, hh => by
    cases i with
    | zero => simp at hn hh; subst hn; subst hh; exact hg.1
    | succ i => exact give_spec hg.2 i n hb (by simpa using hn) (by simpa using hh)
  | m :: ns, [], hg, i, n, hb, hn, hh => hg.elim
theorem back_spec {L : List (Nat × Nat)} : ∀ {Z : List (Nat × HB)} {H : List HB}, BackL L Z H → ∀ (i : Nat) n hb, Z[i]? = some (n, hb) → RenHB L 0 (H.getD i .dead) hb
  | [], H, _, i, n, hb, hn => by simp at hn
  | (m, hb') :: Z, H, hg, i, n, hb, hn => by
    cases i with
    | zero =>
      simp at hn
      obtain ⟨rfl, rfl⟩ := hn
      have := hg.1
      cases H with
      | nil => exact this
      | cons x H => exact this
    | succ i =>
      have := back_spec hg.2 i n hb (by simpa using hn)
      cases H with
      | nil => simpa using this
      | cons x H => simpa using this
theorem give_nil {L : List (Nat × Nat)} {h : Nat → HB} : GiveL L h [] [] := trivial
theorem give_cons {L : List (Nat × Nat)} {h : Nat → HB} {n : Nat} {ns : List Nat} {hb : HB} {H : List HB} (hb0 : HB) (hl : GiveL L h ns H) (hr : RenHB L 0 hb0 hb) (hn : h n = hb0 := by rfl) (ho : hb0.isOwn = true := by rfl) : GiveL L h (n :: ns) (hb :: H) := ⟨by rw [hn]; exact ⟨ho, hr⟩, hl⟩
theorem back_nil {L : List (Nat × Nat)} {H : List HB} : BackL L [] H := trivial
theorem back_cons {L : List (Nat × Nat)} {n : Nat} {hb hb' : HB} {Z : List (Nat × HB)} {H : List HB} (hr : RenHB L 0 hb' hb) (hl : BackL L Z H) : BackL L ((n, hb) :: Z) (hb' :: H) := ⟨hr, hl⟩
theorem renhb_dead {L : List (Nat × Nat)} {nh : Nat} {hb : HB} : RenHB L nh hb .dead := by cases hb <;> trivial
theorem renhb_mp {L : List (Nat × Nat)} {nh : Nat} {l : List (List UInt8 × AV)} (hp : ∀ e, e ∈ l → e.2.pure = true) : RenHB L nh (.mp (.map l)) (.mp (.map l)) :=
  ⟨l, .refl _, rfl, fun i x y h1 h2 => by
    rw [h1] at h2
    obtain rfl := Option.some.inj h2
    exact ⟨rfl, ren_pure (hp x (List.mem_of_getElem? h1))⟩⟩
theorem renhb_row {L : List (Nat × Nat)} {nh : Nat} {ex ex' : Bool} {k : Nat} {row row' : List AV} (hr : RenVL L nh row row') (he : ex' = true → ex = true := by first | exact id | exact nofun) : RenHB L nh (.own ex k [row]) (.own ex' k [row']) := ⟨he, rfl, renrows_cons hr renrows_nil⟩
theorem findH_app : ∀ (Z hs : List (Nat × HB)) (n : Nat), findH (Z ++ hs) n = (findH Z n).or (findH hs n)
  | [], hs, n => by simp [findH]
  | (m, x) :: Z, hs, n => by
    rw [List.cons_append]
    simp only [findH]
    split
    · rfl
    · exact findH_app Z hs n
section calls
variable {C : Cx} {N d : Nat} {ty : TypeId} {pos : String} {af : Array Edge} {gd : Option (Nat × Bool)} {t : Nat → AV} {h : Nat → HB}
/-- A call that is handed the names ns of ours, and hands back those of Z. -/
theorem ex_callm {f : FuncId} {x : Operand} {first cap : List AV} {args : List Operand} {tys : Array TypeId} {ys : List AV} {H H' : List HB} {r r' : AV} (ns fr : List Nat) (Z : List (Nat × HB)) (hx : evA t x = .clo (.func f) first cap)
    (hf : IsFn C.P f) (hc : ACall C.P f ys H r H') (hns : (Z.map (·.1)).take H.length = ns) (hfr : (Z.map (·.1)).drop H.length = fr) (hHZ : H.length ≤ Z.length) (hnd : (Z.map (·.1)).Nodup)
    (hz : ArgVL (numd 0 ns) ns h (first ++ args.map (evA t) ++ cap) ys) (hg : GiveL (numd 0 ns) h ns H) (hb : BackL (dmun (numd 0 (Z.map (·.1)))) Z H') (hr : r.ren (dmun (numd 0 (Z.map (·.1)))) = r') (hN : d < N) :
    ExOk C.P N ⟨some d, .call ⟨.value x, args.toArray, tys⟩, ty, pos, af, gd⟩ t h ⟨opT x ++ args.flatMap opT, ns, some d, r', Z, fr⟩ :=
  ex_call_own (H := H) (H' := H') (xs := first ++ args.map (evA t) ++ cap) (ys := ys) _ ns Z fr rfl hN (enters_call f hf x args tys first cap hx) hfr hHZ hnd (fun n hn => by rw [hns] at hn; exact hn)
    (by rw [hns]; exact hz) hc (fun i n hb1 hi hj => by rw [hns] at hi ⊢; exact give_spec hg i n hb1 hi hj) (fun i n hb1 hi => back_spec hb i n hb1 hi) (hr ▸ ren_ren _ _ _)
end calls
section steps
variable {C : Cx} {N : Nat} {all : Array Oper} {es : List Eff} {o : Oper} {os : List Oper} {K : List Eff → St → Prop} {ts : List (Nat × AV)} {hs : List (Nat × HB)} {nx : Nat} {gd : List Nat}
theorem opsx_many {rt rh fr : List Nat} {d : Nat} {x : AV} {Z : List (Nat × HB)} {nx' : Nat} (hE : ExOk C.P N o (getT ts) (getH hs) ⟨rt, rh, some d, x, Z, fr⟩) (hi : incr nx fr = true) (hn : ∀ n, n ∈ fr → n < nx') (hle : nx ≤ nx')
    (h : Ops C N all (⟨gd ++ rt, rh, some d, x, Z, fr⟩ :: es) ⟨(d, x) :: ts, Z ++ hs, nx'⟩ os K) : OpsX C N all gd es ⟨ts, hs, nx⟩ o os K := by
  refine opsx_eff (τ := ⟨(d, x) :: ts, Z ++ hs, nx'⟩) hE ?_ ?_ hi hn hle h
  · funext i; simp only [Eff.t, Eff.wT, Option.some.injEq, getT]; split <;> rfl
  · funext n
    show (findH Z n).getD (getH hs n) = getH (Z ++ hs) n
    unfold getH
    rw [findH_app]
    cases findH Z n <;> rfl
/-- A call that is handed the names ns, and hands back those of Z: as many new ones as 'k'. -/
theorem o_callm {f : FuncId} {args : List Operand} {tys : Array TypeId} {d : Nat} {ty : TypeId} {pos : String} {af : Array Edge} {gg : Option (Nat × Bool)} {ys : List AV} {H H' : List HB} {r : AV} (ns fr : List Nat) (Z : List (Nat × HB)) (nx' : Nat) (r' : AV) (hf : IsFn C.P f) (hc : ACall C.P f ys H r H')
    (hz : ArgVL (numd 0 ns) ns (getH hs) (args.map (evA (getT ts))) ys) (hg : GiveL (numd 0 ns) (getH hs) ns H) (hb : BackL (dmun (numd 0 (Z.map (·.1)))) Z H')
    (k : Ops C N all (⟨gd ++ (opT (.func f) ++ args.flatMap opT), ns, some d, r', Z, fr⟩ :: es) ⟨(d, r') :: ts, Z ++ hs, nx'⟩ os K)
    (hr : r.ren (dmun (numd 0 (Z.map (·.1)))) = r' := by rfl) (hns : (Z.map (·.1)).take H.length = ns := by rfl) (hfr : (Z.map (·.1)).drop H.length = fr := by rfl) (hHZ : H.length ≤ Z.length := by exact Nat.le_of_ble_eq_true rfl) (hnd : (Z.map (·.1)).Nodup := by exact of_decide_eq_true rfl)
    (hi : incr nx fr = true := by rfl) (hn : ∀ n, n ∈ fr → n < nx' := by exact of_decide_eq_true rfl) (hle : nx ≤ nx' := by exact Nat.le_of_ble_eq_true rfl) (hN : d < N := by exact nle rfl) : CallX C N all gd es ⟨ts, hs, nx⟩ f args d tys ty pos af gg os K :=
  opsx_many (ex_callm ns fr Z (x := .func f) (first := []) (cap := []) rfl hf hc hns hfr hHZ hnd (by rw [List.nil_append, List.append_nil]; exact hz) hg hb hr hN) hi hn hle k
end steps

theorem q_dead {L : List (Nat × Nat)} {nh : Nat} {σ : St} {n' : Nat} {l : List (Nat × HB)} (hl : HsOk L nh σ l) (hm : Maps L nh n' n' := by exact maps_low rfl) : HsOk L nh σ ((n', .dead) :: l) := hsok_dead n' hm hl
end Go.Ab
