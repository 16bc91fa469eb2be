import Derived.Test.YtiljlcgmcmjcoaaGreatDoorMz6
import Derived.Test.YtiljlcgmcmjcoaaGreatDoorMz25
set_option linter.unusedSimpArgs false
set_option linter.unusedVariables false
namespace Go.Ab
open Go.RowKit
def XS (L : List (Nat × Nat)) (h : Nat → HB) : List Nat → List HB → Prop
  | [], [] => True
  | n :: ns, hb :: hbs => ((h n).isOwn = true ∧ ve L 0 (h n) hb) ∧ XS L h ns hbs
  | _, _ => False
def XX (L : List (Nat × Nat)) : List (Nat × HB) → List HB → Prop
  | [], _ => True
  | (n, hb) :: zs, hbs => ve L 0 (hbs.headD .dead) hb ∧ XX L zs hbs.tail
theorem Ke {L : List (Nat × Nat)} {h : Nat → HB} : ∀ {ns : List Nat} {H : List HB}, XS L h ns H → ∀ (i : Nat) n hb, ns[i]? = some n → H[i]? = some hb → (h n).isOwn = true ∧ ve L 0 (h n) hb
  | [], H, _, i, n, hb, hn, _ => by simp at hn
  | m :: ns, hb' :: H, hg, i, n, hb, hn, hh => by
    cases i with
    | zero => simp at hn hh; subst hn; subst hh; exact hg.1
    | succ i => exact Ke hg.2 i n hb (by simpa using hn) (by simpa using hh)
  | m :: ns, [], hg, i, n, hb, hn, hh => hg.elim
theorem Kd {L : List (Nat × Nat)} : ∀ {Z : List (Nat × HB)} {H : List HB}, XX L Z H → ∀ (i : Nat) n hb, Z[i]? = some (n, hb) → ve L 0 (H.getD i .dead) hb
  | [], H, _, i, n, hb, hn => by simp at hn
  | (m, hb') :: Z, H, hg, i, n, hb, hn => by
    cases i with
    | zero =>
      simp at hn
      obtain ⟨rfl, rfl⟩ := hn
      have := hg.1
      cases H with
      | nil => exact this
      | cons x H => exact this
    | succ i =>
      have := Kd hg.2 i n hb (by simpa using hn)
      cases H with
      | nil => simpa using this
      | cons x H => simpa using this
theorem ji {L : List (Nat × Nat)} {h : Nat → HB} : XS L h [] [] := trivial
theorem qZ {L : List (Nat × Nat)} {h : Nat → HB} {n : Nat} {ns : List Nat} {hb : HB} {H : List HB} (hb0 : HB) (hl : XS L h ns H) (hr : ve L 0 hb0 hb) (hn : h n = hb0 := by rfl) (ho : hb0.isOwn = true := by rfl) : XS L h (n :: ns) (hb :: H) := ⟨by rw [hn]; exact ⟨ho, hr⟩, hl⟩
theorem jj {L : List (Nat × Nat)} {H : List HB} : XX L [] H := trivial
theorem qX {L : List (Nat × Nat)} {n : Nat} {hb hb' : HB} {Z : List (Nat × HB)} {H : List HB} (hr : ve L 0 hb' hb) (hl : XX L Z H) : XX L ((n, hb) :: Z) (hb' :: H) := ⟨hr, hl⟩
theorem qI {L : List (Nat × Nat)} {nh : Nat} {hb : HB} : ve L nh hb .dead := by cases hb <;> trivial
theorem qg {L : List (Nat × Nat)} {nh : Nat} {l : List (List UInt8 × AV)} (hp : ∀ e, e ∈ l → e.2.pure = true) : ve L nh (.mp (.map l)) (.mp (.map l)) :=
  ⟨l, .refl _, rfl, fun i x y h1 h2 => by
    rw [h1] at h2
    obtain rfl := Option.some.inj h2
    exact ⟨rfl, qw (hp x (List.mem_of_getElem? h1))⟩⟩
theorem qY {L : List (Nat × Nat)} {nh : Nat} {ex ex' : Bool} {k : Nat} {row row' : List AV} (hr : q9 L nh row row') (he : ex' = true → ex = true := by first | exact id | exact nofun) : ve L nh (.own ex k [row]) (.own ex' k [row']) := ⟨he, rfl, kH hr wP⟩
theorem Kp : ∀ (Z hs : List (Nat × HB)) (n : Nat), xb (Z ++ hs) n = (xb Z n).or (xb hs n)
  | [], hs, n => by simp [xb]
  | (m, x) :: Z, hs, n => by
    rw [List.cons_append]
    simp only [xb]
    split
    · rfl
    · exact Kp Z hs n
section calls
variable {C : Cx} {N d : Nat} {ty : TypeId} {pos : String} {af : Array Edge} {gd : Option (Nat × Bool)} {t : Nat → AV} {h : Nat → HB}
theorem qfo {f : FuncId} {x : Operand} {first cap : List AV} {args : List Operand} {tys : Array TypeId} {ys : List AV} {H H' : List HB} {r r' : AV} (ns fr : List Nat) (Z : List (Nat × HB)) (hx : evA t x = .clo (.func f) first cap)
    (hf : IsFn C.P f) (hc : qm C.P f ys H r H') (hns : (Z.map (·.1)).take H.length = ns) (hfr : (Z.map (·.1)).drop H.length = fr) (hHZ : H.length ≤ Z.length) (hnd : (Z.map (·.1)).Nodup)
    (hz : qV (wA 0 ns) ns h (first ++ args.map (evA t) ++ cap) ys) (hg : XS (wA 0 ns) h ns H) (hb : XX (Wf (wA 0 (Z.map (·.1)))) Z H') (hr : r.ren (Wf (wA 0 (Z.map (·.1)))) = r') (hN : d < N) :
    qz C.P N ⟨some d, .call ⟨.value x, args.toArray, tys⟩, ty, pos, af, gd⟩ t h ⟨yh x ++ args.flatMap yh, ns, some d, r', Z, fr⟩ :=
  kn (H := H) (H' := H') (xs := first ++ args.map (evA t) ++ cap) (ys := ys) _ ns Z fr rfl hN (vJ f hf x args tys first cap hx) hfr hHZ hnd (fun n hn => by rw [hns] at hn; exact hn)
    (by rw [hns]; exact hz) hc (fun i n hb1 hi hj => by rw [hns] at hi ⊢; exact Ke hg i n hb1 hi hj) (fun i n hb1 hi => Kd hb i n hb1 hi) (hr ▸ Vm _ _ _)
end calls
section steps
variable {C : Cx} {N : Nat} {all : Array Oper} {es : List Eff} {o : Oper} {os : List Oper} {K : List Eff → St → Prop} {ts : List (Nat × AV)} {hs : List (Nat × HB)} {nx : Nat} {gd : List Nat}
theorem qdP {rt rh fr : List Nat} {d : Nat} {x : AV} {Z : List (Nat × HB)} {nx' : Nat} (hE : qz C.P N o (qq ts) (ja hs) ⟨rt, rh, some d, x, Z, fr⟩) (hi : kp nx fr = true) (hn : ∀ n, n ∈ fr → n < nx') (hle : nx ≤ nx')
    (h : jZ C N all (⟨gd ++ rt, rh, some d, x, Z, fr⟩ :: es) ⟨(d, x) :: ts, Z ++ hs, nx'⟩ os K) : jg C N all gd es ⟨ts, hs, nx⟩ o os K := by
  refine wu (τ := ⟨(d, x) :: ts, Z ++ hs, nx'⟩) hE ?_ ?_ hi hn hle h
  · funext i; simp only [Eff.t, Eff.wT, Option.some.injEq, qq]; split <;> rfl
  · funext n
    show (xb Z n).getD (ja hs n) = ja (Z ++ hs) n
    unfold ja
    rw [Kp]
    cases xb Z n <;> rfl
theorem KV {f : FuncId} {args : List Operand} {tys : Array TypeId} {d : Nat} {ty : TypeId} {pos : String} {af : Array Edge} {gg : Option (Nat × Bool)} {ys : List AV} {H H' : List HB} {r : AV} (ns fr : List Nat) (Z : List (Nat × HB)) (nx' : Nat) (r' : AV) (hf : IsFn C.P f) (hc : qm C.P f ys H r H')
    (hz : qV (wA 0 ns) ns (ja hs) (args.map (evA (qq ts))) ys) (hg : XS (wA 0 ns) (ja hs) ns H) (hb : XX (Wf (wA 0 (Z.map (·.1)))) Z H')
    (k : jZ C N all (⟨gd ++ (yh (.func f) ++ args.flatMap yh), ns, some d, r', Z, fr⟩ :: es) ⟨(d, r') :: ts, Z ++ hs, nx'⟩ os K)
    (hr : r.ren (Wf (wA 0 (Z.map (·.1)))) = r' := by rfl) (hns : (Z.map (·.1)).take H.length = ns := by rfl) (hfr : (Z.map (·.1)).drop H.length = fr := by rfl) (hHZ : H.length ≤ Z.length := by exact Nat.le_of_ble_eq_true rfl) (hnd : (Z.map (·.1)).Nodup := by exact of_decide_eq_true rfl)
    (hi : kp nx fr = true := by rfl) (hn : ∀ n, n ∈ fr → n < nx' := by exact of_decide_eq_true rfl) (hle : nx ≤ nx' := by exact Nat.le_of_ble_eq_true rfl) (hN : d < N := by exact nle rfl) : X0 C N all gd es ⟨ts, hs, nx⟩ f args d tys ty pos af gg os K :=
  qdP (qfo ns fr Z (x := .func f) (first := []) (cap := []) rfl hf hc hns hfr hHZ hnd (by rw [List.nil_append, List.append_nil]; exact hz) hg hb hr hN) hi hn hle k
end steps
theorem yS {L : List (Nat × Nat)} {nh : Nat} {σ : St} {n' : Nat} {l : List (Nat × HB)} (hl : x9 L nh σ l) (hm : Maps L nh n' n' := by exact jm rfl) : x9 L nh σ ((n', .dead) :: l) := j6 n' hm hl
end Go.Ab
