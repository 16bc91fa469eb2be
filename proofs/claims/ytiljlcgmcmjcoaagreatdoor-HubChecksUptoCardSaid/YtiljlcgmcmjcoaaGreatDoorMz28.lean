import Derived.Test.YtiljlcgmcmjcoaaGreatDoorMz6
import Derived.Test.YtiljlcgmcmjcoaaGreatDoorMz25
set_option linter.unusedSimpArgs false
set_option linter.unusedVariables false
namespace Go.Ab
open Go.RowKit
def Xv (L : List (Nat × Nat)) (h : Nat → HB) : List Nat → List HB → Prop
  | [], [] => True
  | n :: ns, hb :: hbs => ((h n).isOwn = true ∧ xV L 0 (h n) hb) ∧ Xv L h ns hbs
  | _, _ => False
def Xy (L : List (Nat × Nat)) : List (Nat × HB) → List HB → Prop
  | [], _ => True
  | (n, hb) :: zs, hbs => xV L 0 (hbs.headD .dead) hb ∧ Xy L zs hbs.tail
theorem ZK {L : List (Nat × Nat)} {h : Nat → HB} : ∀ {ns : List Nat} {H : List HB}, Xv L h ns H → ∀ (i : Nat) n hb, ns[i]? = some n → H[i]? = some hb → (h n).isOwn = true ∧ xV L 0 (h n) hb
  | [], H, _, i, n, hb, hn, _ => by simp at hn
  | m :: ns, hb' :: H, hg, i, n, hb, hn, hh => by
    cases i with
    | zero => simp at hn hh; subst hn; subst hh; exact hg.1
    | succ i => exact ZK hg.2 i n hb (by simpa using hn) (by simpa using hh)
  | m :: ns, [], hg, i, n, hb, hn, hh => hg.elim
theorem Z9 {L : List (Nat × Nat)} : ∀ {Z : List (Nat × HB)} {H : List HB}, Xy L Z H → ∀ (i : Nat) n hb, Z[i]? = some (n, hb) → xV L 0 (H.getD i .dead) hb
  | [], H, _, i, n, hb, hn => by simp at hn
  | (m, hb') :: Z, H, hg, i, n, hb, hn => by
    cases i with
    | zero =>
      simp at hn
      obtain ⟨rfl, rfl⟩ := hn
      have := hg.1
      cases H with
      | nil => exact this
      | cons x H => exact this
    | succ i =>
      have := Z9 hg.2 i n hb (by simpa using hn)
      cases H with
      | nil => simpa using this
      | cons x H => simpa using this
theorem jg {L : List (Nat × Nat)} {h : Nat → HB} : Xv L h [] [] := trivial
theorem qX {L : List (Nat × Nat)} {h : Nat → HB} {n : Nat} {ns : List Nat} {hb : HB} {H : List HB} (hb0 : HB) (hl : Xv L h ns H) (hr : xV L 0 hb0 hb) (hn : h n = hb0 := by rfl) (ho : hb0.isOwn = true := by rfl) : Xv L h (n :: ns) (hb :: H) := ⟨by rw [hn]; exact ⟨ho, hr⟩, hl⟩
theorem jd {L : List (Nat × Nat)} {H : List HB} : Xy L [] H := trivial
theorem qW {L : List (Nat × Nat)} {n : Nat} {hb hb' : HB} {Z : List (Nat × HB)} {H : List HB} (hr : xV L 0 hb' hb) (hl : Xy L Z H) : Xy L ((n, hb) :: Z) (hb' :: H) := ⟨hr, hl⟩
theorem qI {L : List (Nat × Nat)} {nh : Nat} {hb : HB} : xV L nh hb .dead := by cases hb <;> trivial
theorem qf {L : List (Nat × Nat)} {nh : Nat} {l : List (List UInt8 × AV)} (hp : ∀ e, e ∈ l → e.2.pure = true) : xV L nh (.mp (.map l)) (.mp (.map l)) :=
  ⟨l, .refl _, rfl, fun i x y h1 h2 => by
    rw [h1] at h2
    obtain rfl := Option.some.inj h2
    exact ⟨rfl, qv (hp x (List.mem_of_getElem? h1))⟩⟩
theorem qY {L : List (Nat × Nat)} {nh : Nat} {ex ex' : Bool} {k : Nat} {row row' : List AV} (hr : q6 L nh row row') (he : ex' = true → ex = true := by first | exact id | exact nofun) : xV L nh (.own ex k [row]) (.own ex' k [row']) := ⟨he, rfl, kw hr wv⟩
theorem Z1 : ∀ (Z hs : List (Nat × HB)) (n : Nat), y0 (Z ++ hs) n = (y0 Z n).or (y0 hs n)
  | [], hs, n => by simp [y0]
  | (m, x) :: Z, hs, n => by
    rw [List.cons_append]
    simp only [y0]
    split
    · rfl
    · exact Z1 Z hs n
section calls
variable {C : Cx} {N d : Nat} {ty : TypeId} {pos : String} {af : Array Edge} {gd : Option (Nat × Bool)} {t : Nat → AV} {h : Nat → HB}
theorem qdS {f : FuncId} {x : Operand} {first cap : List AV} {args : List Operand} {tys : Array TypeId} {ys : List AV} {H H' : List HB} {r r' : AV} (ns fr : List Nat) (Z : List (Nat × HB)) (hx : evA t x = .clo (.func f) first cap)
    (hf : IsFn C.P f) (hc : ql C.P f ys H r H') (hns : (Z.map (·.1)).take H.length = ns) (hfr : (Z.map (·.1)).drop H.length = fr) (hHZ : H.length ≤ Z.length) (hnd : (Z.map (·.1)).Nodup)
    (hz : qT (wk 0 ns) ns h (first ++ args.map (evA t) ++ cap) ys) (hg : Xv (wk 0 ns) h ns H) (hb : Xy (KZ (wk 0 (Z.map (·.1)))) Z H') (hr : r.ren (KZ (wk 0 (Z.map (·.1)))) = r') (hN : d < N) :
    qy C.P N ⟨some d, .call ⟨.value x, args.toArray, tys⟩, ty, pos, af, gd⟩ t h ⟨yf x ++ args.flatMap yf, ns, some d, r', Z, fr⟩ :=
  z6 (H := H) (H' := H') (xs := first ++ args.map (evA t) ++ cap) (ys := ys) _ ns Z fr rfl hN (vq f hf x args tys first cap hx) hfr hHZ hnd (fun n hn => by rw [hns] at hn; exact hn)
    (by rw [hns]; exact hz) hc (fun i n hb1 hi hj => by rw [hns] at hi ⊢; exact ZK hg i n hb1 hi hj) (fun i n hb1 hi => Z9 hb i n hb1 hi) (hr ▸ X8 _ _ _)
end calls
section steps
variable {C : Cx} {N : Nat} {all : Array Oper} {es : List Eff} {o : Oper} {os : List Oper} {K : List Eff → St → Prop} {ts : List (Nat × AV)} {hs : List (Nat × HB)} {nx : Nat} {gd : List Nat}
theorem qdE {rt rh fr : List Nat} {d : Nat} {x : AV} {Z : List (Nat × HB)} {nx' : Nat} (hE : qy C.P N o (qp ts) (q7 hs) ⟨rt, rh, some d, x, Z, fr⟩) (hi : zX nx fr = true) (hn : ∀ n, n ∈ fr → n < nx') (hle : nx ≤ nx')
    (h : jV C N all (⟨gd ++ rt, rh, some d, x, Z, fr⟩ :: es) ⟨(d, x) :: ts, Z ++ hs, nx'⟩ os K) : q9 C N all gd es ⟨ts, hs, nx⟩ o os K := by
  refine kY (τ := ⟨(d, x) :: ts, Z ++ hs, nx'⟩) hE ?_ ?_ hi hn hle h
  · funext i; simp only [Eff.t, Eff.wT, Option.some.injEq, qp]; split <;> rfl
  · funext n
    show (y0 Z n).getD (q7 hs n) = q7 (Z ++ hs) n
    unfold q7
    rw [Z1]
    cases y0 Z n <;> rfl
theorem KW {f : FuncId} {args : List Operand} {tys : Array TypeId} {d : Nat} {ty : TypeId} {pos : String} {af : Array Edge} {gg : Option (Nat × Bool)} {ys : List AV} {H H' : List HB} {r : AV} (ns fr : List Nat) (Z : List (Nat × HB)) (nx' : Nat) (r' : AV) (hf : IsFn C.P f) (hc : ql C.P f ys H r H')
    (hz : qT (wk 0 ns) ns (q7 hs) (args.map (evA (qp ts))) ys) (hg : Xv (wk 0 ns) (q7 hs) ns H) (hb : Xy (KZ (wk 0 (Z.map (·.1)))) Z H')
    (k : jV C N all (⟨gd ++ (yf (.func f) ++ args.flatMap yf), ns, some d, r', Z, fr⟩ :: es) ⟨(d, r') :: ts, Z ++ hs, nx'⟩ os K)
    (hr : r.ren (KZ (wk 0 (Z.map (·.1)))) = r' := by rfl) (hns : (Z.map (·.1)).take H.length = ns := by rfl) (hfr : (Z.map (·.1)).drop H.length = fr := by rfl) (hHZ : H.length ≤ Z.length := by exact Nat.le_of_ble_eq_true rfl) (hnd : (Z.map (·.1)).Nodup := by exact of_decide_eq_true rfl)
    (hi : zX nx fr = true := by rfl) (hn : ∀ n, n ∈ fr → n < nx' := by exact of_decide_eq_true rfl) (hle : nx ≤ nx' := by exact Nat.le_of_ble_eq_true rfl) (hN : d < N := by exact nle rfl) : Xt C N all gd es ⟨ts, hs, nx⟩ f args d tys ty pos af gg os K :=
  qdE (qdS ns fr Z (x := .func f) (first := []) (cap := []) rfl hf hc hns hfr hHZ hnd (by rw [List.nil_append, List.append_nil]; exact hz) hg hb hr hN) hi hn hle k
end steps
theorem yF {L : List (Nat × Nat)} {nh : Nat} {σ : St} {n' : Nat} {l : List (Nat × HB)} (hl : xR L nh σ l) (hm : Maps L nh n' n' := by exact jh rfl) : xR L nh σ ((n', .dead) :: l) := j4 n' hm hl
end Go.Ab
