/- Paths, 3: check of some paths: a range over a function within a loop, in the machine's own words. -/
import Derived.Test.YtieflafgcajhbaaDoorPa2
set_option linter.unusedSimpArgs false
set_option linter.unnecessarySimpa false
namespace Go.Proofs.YtieflafgcajhbaaDoor
open Go.Ab Go.RowKit Go.Shelf
set_option maxRecDepth 10000
attribute [local go_sem] Oper.semAt_some

def strRow (s : Str) : List AV := [.v (str s)]
abbrev mk (D : Nat) : Deferred := { target := .collected D, args := #[] }
theorem count_any (s : Str) (w : World) : Calls Tryd.prog 48 #[strV s, strV slash] w fun e w' => e = .returned (.int .i64 (s.count 47 : Nat)) ∧ w' = w := by
  show Calls _ _ #[strV s, .string ⟨#[47]⟩] w _
  go_enter Tryd.func48, Tryd.ntmps48
  go_wp2
  rw [run_callFunc_extern Tryd.func58 (by kernel_rfl) (by kernel_rfl) (by kernel_rfl) (e := Extern.BytealgCount.count) (by kernel_rfl), Lib.run_countString]
  simp only [Result.andThen]
  rw [Oper.upon_value]
  go_wp2
  go_ret
  refine ⟨?_, rfl⟩
  simp [Lib.countByte]
  rfl
theorem great_any (s : Str) (w : World) : Calls Tryd.prog 37 #[strV s] w fun e w' => e = .returned (.bool (tooGreat s)) ∧ w.grownBy w' none := by
  have htg := tooGreat_count s
  have hg0 : w.grownBy w none := ⟨rfl, rfl, rfl, Nat.le_refl _, fun _ _ _ => rfl⟩
  go_enter Tryd.func37, Tryd.ntmps37
  go_wp2_with (go_at_call 48; refine (count_any s _).mono ?_; rintro e w' ⟨rfl, rfl⟩)
  all_goals go_ret
  all_goals (refine ⟨?_, hg0⟩)
  · show Ending.returned (Value.bool _) = _
    try rw [htg]
    congr 2
    rw [Bool.eq_iff_iff]
    simp
    omega
  · show Ending.returned (Value.bool true) = _
    try rw [htg]
    congr 2
    have h6 : 6 ≤ s.count 47 := by first | omega | (simp_all; done) | (simp_all; omega)
    simp [h6]

/-- A function that leaves with marks alone among its deferred calls. -/
theorem leaves_marks {F : Fence} {n : Nat} {P : Program} {fn : Func} {tmps : Array Value} {R : Ending → World → Prop} : ∀ (Ds : List Nat) (W : World), Ds.Nodup → (∀ D, D ∈ Ds → W.heap[D]? = some (.deferred (some []))) →
    (∀ W', W.heap.size = W'.heap.size → W'.os = W.os → W'.tape = W.tape → W'.output = W.output → (∀ k, k ∉ Ds → W'.heap[k]? = W.heap[k]?) → LeavesInM F n P fn tmps R [] .returning W') → LeavesInM F n P fn tmps R (Ds.map mk) .returning W
  | [], W, _, _, h => h W rfl rfl rfl rfl fun _ _ => rfl
  | D :: Ds, W, hn, hd, h => by
    obtain ⟨h1, h2⟩ := List.nodup_cons.1 hn
    have hK := hd D (by simp)
    refine ⟨by simp, .inl ⟨D, _, rfl, run_takeDeferred hK, leaves_marks Ds _ h2 (fun D' hD' => (World.putObj_heap_other (by rintro rfl; exact h1 hD')).trans (hd D' (by simp [hD']))) fun W' a1 a2 a3 a4 a5 => ?_⟩⟩
    refine h W' (by rw [← a1]; simp) a2 a3 a4 fun k hk => ?_
    simp only [List.mem_cons, not_or] at hk
    exact (a5 k hk.2).trans (World.putObj_heap_other hk.1)

/-- What holds between two rounds of the outer loop. -/
structure ChkW (w : World) (e : Int) (Ds : List Nat) (W : World) : Prop where
  below : Below w.heap.size w W
  cell : W.heap[w.heap.size]? = some (.cells #[.int .i64 e] 22 (0, 0))
  marks : ∀ D, D ∈ Ds → w.heap.size < D ∧ W.heap[D]? = some (.deferred (some []))
theorem ChkW.grown {w : World} {e : Int} {Ds : List Nat} {W W' : World} {row : Option Nat} (h : ChkW w e Ds W) (hg : W.grownBy W' row) (hr : ∀ r, row = some r → w.heap.size < r ∧ r ∉ Ds) : ChkW w e Ds W' := by
  have hlt := (Array.getElem?_eq_some_iff.1 h.cell).1
  refine ⟨h.below.grown hg (by omega) (fun k e => by have := (hr k e).1; omega), (hg.block _ hlt (fun e => by have := (hr _ e.symm).1; omega)).trans h.cell, fun D hD => ⟨(h.marks D hD).1, ?_⟩⟩
  exact (hg.block D (Array.getElem?_eq_some_iff.1 (h.marks D hD).2).1 (fun e => (hr _ e.symm).2 hD)).trans (h.marks D hD).2
theorem ChkW.lt {w : World} {e : Int} {Ds : List Nat} {W : World} (h : ChkW w e Ds W) : w.heap.size < W.heap.size := (Array.getElem?_eq_some_iff.1 h.cell).1
theorem ChkW.mlt {w : World} {e : Int} {Ds : List Nat} {W : World} (h : ChkW w e Ds W) : ∀ D, D ∈ Ds → D < W.heap.size := fun D hD => (Array.getElem?_eq_some_iff.1 (h.marks D hD).2).1
theorem ChkW.set {w : World} {e : Int} {Ds : List Nat} {W : World} (h : ChkW w e Ds W) (e' : Int) : ChkW w e' Ds (W.setCell ⟨w.heap.size, 0, Option.none⟩ (.int .i64 e')) :=
  ⟨h.below.setCell (Nat.le_refl _) _, heap_set h.cell _, fun D hD => ⟨(h.marks D hD).1, (heap_set_ne W _ (by have := (h.marks D hD).1; omega)).trans (h.marks D hD).2⟩⟩

theorem leaves_check {n : Nat} {tmps : Array Value} {w W : World} {e : Int} {Ds : List Nat} (h : ChkW w e Ds W) (hn : Ds.Nodup) (ht : tmps.getD 2 undef = .pointer (some ⟨w.heap.size, 0, Option.none⟩)) :
    LeavesInM Fence.wide n Tryd.prog Tryd.f31 tmps (fun en w' => en = .returned (.int .i64 e) ∧ w.grownBy w' Option.none) (Ds.map mk) .returning W := by
  refine leaves_marks Ds W hn (fun D hD => (h.marks D hD).2) fun W' a1 a2 a3 a4 a5 => ?_
  have hc : W'.heap[w.heap.size]? = some (.cells #[.int .i64 e] 22 (0, 0)) := (a5 _ (fun hm => absurd (h.marks _ hm).1 (Nat.lt_irrefl _))).trans h.cell
  have hcell := (cell_of hc).1
  refine ⟨.int .i64 e, ?_, rfl, ⟨a2.trans h.below.os, a3.trans h.below.tape, a4.trans h.below.output, by have := h.below.size; omega, fun k hk _ => (a5 k (fun hm => by have := (h.marks k hm).1; omega)).trans (h.below.block k hk)⟩⟩
  simp only [Array.getD_eq_getD_getElem?] at ht
  simp [results, Tryd.results31, go_sem, ht, hcell]

theorem mark_new {w W X : World} {e e' : Int} {Ds : List Nat} {D : Nat} (hW : ChkW w e Ds W) (hnd : Ds.Nodup) (hX : ChkW w e' Ds X) (hK : X.heap[D]? = some (.deferred (some []))) (hD : W.heap.size ≤ D) :
    ChkW w e' (D :: Ds) X ∧ (D :: Ds).Nodup ∧ mk D :: Ds.map mk = (D :: Ds).map mk := by
  have := hW.lt
  refine ⟨⟨hX.below, hX.cell, fun D' hD' => ?_⟩, List.nodup_cons.2 ⟨fun hm => by have := hW.mlt _ hm; omega, hnd⟩, rfl⟩
  rcases List.mem_cons.1 hD' with rfl | h
  · exact ⟨by omega, hK⟩
  · exact hX.marks D' h
theorem namesOf_short {p n : Str} (h : n ∈ namesOf p) : n.length ≤ p.length := by
  induction p generalizing n with
  | nil => simp [namesOf] at h; subst h; simp
  | cons c s ih =>
    simp only [namesOf] at h
    split at h
    · rcases List.mem_cons.1 h with rfl | h
      · simp
      · have := ih h; simp; omega
    · split at h
      · simp at h; subst h; simp
      · rename_i m l hm
        rcases List.mem_cons.1 h with rfl | h
        · have := ih (n := m) (by rw [hm]; simp); simp; omega
        · have := ih (n := n) (by rw [hm]; simp [h]); simp; omega
theorem pathsErr_at {ps : List Str} {i : Nat} (h : i < ps.length) : pathsErr (ps.drop i) = if pathErr ps[i] = 0 then pathsErr (ps.drop (i + 1)) else pathErr ps[i] := by
  rw [List.drop_eq_getElem_cons h]; rfl

theorem check_any (ps : List Str) (hps : ps.length ≤ 1000000) (hsz : ∀ p, p ∈ ps → p.length ≤ 140737488355328) (A : Option Addr) (cap : Nat) (w : World)
    (hA : ∀ i (h : i < ps.length), ∃ bb off, A = some ⟨bb, off, Option.none⟩ ∧ bb < w.heap.size ∧ w.cell? ⟨bb, off + i, Option.none⟩ = some (strV ps[i])) :
    Calls Tryd.prog 31 #[.slice A ps.length cap] w fun e w' => e = .returned (.int .i64 (pathsErr ps)) ∧ w.grownBy w' Option.none := by
  refine (callsIn_wide (n := 10)).1 ?_
  refine callsIn_of_wp_marks Tryd.func31 rfl trivial ?_ rfl
  simp only [Tryd.ntmps31, List.size_toArray, List.length_cons, List.length_nil, Nat.reduceAdd, Nat.reduceSub, Array.replicate_succ, Array.replicate_zero, List.push_toArray, List.append_toArray, List.cons_append, List.nil_append]
  gi_wp2
  refine wpIn_loop (fun a W => ∃ (i : Nat) (Ds : List Nat) (u4 u5 u9 u10 u11 u12 u13 u14 u15 u16 u17 u18 u19 u20 : Value), i ≤ ps.length ∧ pathsErr ps = pathsErr (ps.drop i) ∧ Ds.Nodup ∧ ChkW w 0 Ds W ∧
    a = { tmps := #[.slice A ps.length cap, undef, .pointer (some ⟨w.heap.size, 0, Option.none⟩), undef, u4, u5, .slice A ps.length cap, .int .i64 ps.length, .int .i64 i, u9, u10, u11, u12, u13, u14, u15, u16, u17, u18, u19, u20], defers := Ds.map mk })
    (fun a _ => ps.length - (intOf (a.tmps.getD 8 undef)).toNat) ⟨0, [], undef, undef, undef, undef, undef, undef, undef, undef, undef, undef, undef, undef, undef, undef, Nat.zero_le _, rfl, List.nodup_nil, ?start, rfl⟩ ?round
  case start => exact ⟨(Below.refl _ w).alloc (Nat.le_refl _) _, World.alloc_heap_new w _, nofun⟩
  case round =>
    rintro a W ⟨i, Ds, u4, u5, u9, u10, u11, u12, u13, u14, u15, u16, u17, u18, u19, u20, hi, herr, hnd, hW, rfl⟩
    have hlt0 := hW.lt
    have cE := (cell_of hW.cell).1
    have fE := (cell_of hW.cell).2
    by_cases hlt : i < ps.length
    · obtain ⟨bb, off, hAA, hbb, hcell⟩ := hA i hlt
      subst hAA
      have hc : W.cell? ⟨bb, off + i, Option.none⟩ = some (strV ps[i]) := by rw [World.cell?_of_block (hW.below.block bb hbb)]; exact hcell
      gi_wp2_with (refine ⟨trivial, ?_⟩; gi_at_call 41; refine (callsIn_wide.2 (SplitSeq_any _ _)).mono ?_; rintro e w' ⟨rfl, rfl⟩)
      have hst : ∀ e (X Y : World) row, ChkW w e Ds X → X.grownBy Y row → (∀ r, row = some r → W.heap.size ≤ r) → ChkW w e Ds Y := fun e X Y row hX hg hr => hX.grown hg fun r e => by
        have h1 := hr r e
        exact ⟨by omega, fun hm => by have := hW.mlt r hm; omega⟩
      have hpi := hsz ps[i] (List.getElem_mem hlt)
      have hW3 : ChkW w 0 Ds (((W.alloc (.cells #[strV ps[i]] 9)).alloc (.cells #[strV slash] 9)).alloc (.cells #[.int .i64 0] 3)) := hst 0 _ _ Option.none hW ⟨rfl, rfl, rfl, by simp; omega, fun k hk _ => ((Below.heap_alloc _ _ k (by simp; omega)).trans (Below.heap_alloc _ _ k (by simp; omega))).trans (Below.heap_alloc _ _ k hk)⟩ nofun
      refine wpIn_rangeFunc_cell (F := Fence.wide) rfl (by decide) (gf := 62) (lb := #[ptrV (W.heap.size + 1), ptrV W.heap.size, ptrV (W.heap.size + 2)]) rfl trivial (enters_of Tryd.func62 (by kernel_rfl) rfl) (S := W.heap.size) (names := namesOf ps[i]) (by simp) (split_iter _ (by decide) ps[i] hpi _ _ ?s0 ?s1 ?s2) rfl
        (fun pre X => (∀ x, x ∈ pre → isName x = true) ∧ ChkW w 0 Ds X) (fun pre X => (∃ x, x ∈ pre ∧ isName x = false) ∧ ChkW w 1 Ds X)
        (fun s X Y row h hg hr => ⟨h.1, hst 0 X Y row h.2 hg hr⟩) (fun s X Y row h hg hr => ⟨h.1, hst 1 X Y row h.2 hg hr⟩) ⟨nofun, hW3⟩
        (fun x => { tmps := #[.slice (some ⟨bb, off, Option.none⟩) ps.length cap, undef, .pointer (some ⟨w.heap.size, 0, Option.none⟩), undef, strV ps[i], strV x, .slice (some ⟨bb, off, Option.none⟩) ps.length cap, .int .i64 ps.length, .int .i64 i, .bool true, .pointer (some ⟨bb, off + i, Option.none⟩), strV ps[i], strV ps[i], .func (.func 62) #[] #[ptrV (W.heap.size + 1), ptrV W.heap.size, ptrV (W.heap.size + 2)], strV x, u15, u16, u17, u18, u19, u20], defers := [] }) ?assign ?body ?done ?stop
      case s0 => exact (Below.heap_alloc _ _ _ (by simp; omega)).trans ((Below.heap_alloc _ _ _ (by simp)).trans (World.alloc_heap_new W _))
      case s1 => exact (Below.heap_alloc _ _ _ (by simp)).trans (by have := World.alloc_heap_new (W.alloc (.cells #[strV ps[i]] 9)) (.cells #[strV slash] 9); rwa [World.size_alloc] at this)
      case s2 => exact (by have := World.alloc_heap_new ((W.alloc (.cells #[strV ps[i]] 9)).alloc (.cells #[strV slash] 9)) (.cells #[.int .i64 0] 3); rwa [World.size_alloc, World.size_alloc] at this)
      case assign =>
        intro l x X K hK
        gi_wp2
        exact hK
      case body =>
        rintro l pre x X ⟨hpre, hX⟩ hpx hsX
        have hxn : x ∈ namesOf ps[i] := hpx.subset (by simp)
        have hxl : x.length ≤ 9223372036854775807 := by have := namesOf_short hxn; omega
        have cX := (cell_of hX.cell).1
        have fX := (cell_of hX.cell).2
        cases hb : isName x
        · gi_wp2_with (refine ⟨trivial, ?_⟩; gi_at_call 40; refine (CallsIn.inRound l (callsIn_wide.2 (isName_any x _ hxl))).mono ?_; rintro e w1 ⟨rfl, rfl⟩)
          exact ⟨⟨by simp [World.setCell], fun k hk hle => heap_set_ne X _ (by omega)⟩, ⟨x, by simp, hb⟩, hX.set 1⟩
        · gi_wp2_with (refine ⟨trivial, ?_⟩; gi_at_call 40; refine (CallsIn.inRound l (callsIn_wide.2 (isName_any x _ hxl))).mono ?_; rintro e w1 ⟨rfl, rfl⟩)
          exact ⟨⟨Nat.le_refl _, fun _ _ _ => rfl⟩, fun y hy => (List.mem_append.1 hy).elim (hpre y) (fun e => by rw [List.mem_singleton.1 e]; exact hb), hX⟩
      case done =>
        rintro X ⟨hpre, hX⟩ hK
        obtain ⟨hX', hnd', -⟩ := mark_new hW hnd hX (D := W.heap.size + 3) (by simpa using hK) (by omega)
        have hall : (namesOf ps[i]).all isName = true := List.all_eq_true.2 hpre
        cases hgt : tooGreat ps[i]
        · have hpe : pathErr ps[i] = 0 := by simp [pathErr, hall, hgt]
          gi_wp2_with (refine ⟨trivial, ?_⟩; gi_at_call 37; refine (callsIn_wide.2 (great_any _ _)).mono ?_; rintro e w1 ⟨rfl, hg⟩; have hY := hX'.grown hg nofun)
          refine ⟨⟨i + 1, (W.heap.size + 3) :: Ds, _, _, _, _, _, _, _, _, _, _, _, _, _, _, by omega, by rw [herr, pathsErr_at hlt, hpe]; rfl, hnd', hY, rfl⟩, ?_⟩
          simp [intOf]
          omega
        · have hpe : pathErr ps[i] = 2 := by simp [pathErr, hall, hgt]
          have hz : pathsErr ps = 2 := by rw [herr, pathsErr_at hlt, hpe]; rfl
          gi_wp2_with (refine ⟨trivial, ?_⟩; gi_at_call 37; refine (callsIn_wide.2 (great_any _ _)).mono ?_; rintro e w1 ⟨rfl, hg⟩; have hY := hX'.grown hg nofun; have cY := (cell_of hY.cell).1; have fY := (cell_of hY.cell).2)
          rw [hz]
          exact leaves_check (hY.set 2) hnd' rfl
      case stop =>
        rintro pre X hpre ⟨⟨x, hx, hb⟩, hX⟩ hK
        obtain ⟨hX', hnd', -⟩ := mark_new hW hnd hX (D := W.heap.size + 3) (by simpa using hK) (by omega)
        have hall : ¬ (namesOf ps[i]).all isName = true := fun h => by
          have := List.all_eq_true.1 h x (hpre.subset hx)
          rw [hb] at this; cases this
        have hpe : pathErr ps[i] = 1 := by simp only [pathErr, hall]; rfl
        have hz : pathsErr ps = 1 := by rw [herr, pathsErr_at hlt, hpe]; rfl
        gi_wp2
        rw [hz]
        simp only [World.size_alloc]
        exact leaves_check hX' hnd' rfl
    · have hz : pathsErr ps = 0 := by rw [herr, List.drop_of_length_le (by omega)]; rfl
      gi_wp2
      rw [hz]
      exact leaves_check (hW.set 0) hnd rfl

/-- check, in the abstract layer. -/
theorem a_check (ps : List Str) (hps : ps.length ≤ 1000000) (hsz : ∀ p, p ∈ ps → p.length ≤ 140737488355328) : AFn C.P 31 [.sl false (ps.map strRow)] (.v (.int .i64 (pathsErr ps))) := by
  refine afn_of_conc rfl fun F ρ vs w hag hl hm => ?_
  obtain ⟨v, rfl⟩ : ∃ v, vs = [v] := by
    match vs, hl with
    | [v], _ => exact ⟨v, rfl⟩
  have h1 := hm 0 v _ rfl rfl
  rcases h1.sl_inv with ⟨h0, ad, cap, hv, _⟩ | ⟨b, o, cap, c, e', fr, kk, hb, _, _, hsz', hkk, hR, hv⟩
  · have hnil : ps = [] := List.map_eq_nil_iff.1 h0
    subst hnil
    rw [hv]
    exact check_any [] hps hsz ad cap w (fun i h => absurd h (Nat.not_lt_zero _))
  · rw [hv]
    have hk1 : ∀ i, i < ps.length → kk = 1 := fun i hi => (hkk _ (List.getElem_mem (l := ps.map strRow) (n := i) (by simpa using hi))).symm.trans (by simp [strRow])
    have hbw := hag b _ hb
    have := check_any ps hps hsz (some ⟨b, o, Option.none⟩) cap w (fun i hi => ⟨b, o, rfl, (Array.getElem?_eq_some_iff.1 hbw).1, ?_⟩)
    · rw [List.length_map]; exact this
    · have hk := hk1 i hi
      subst hk
      have hlt : o + i < c.size := by simp at hsz'; omega
      have hcv : c[o + i]? = some c[o + i] := Array.getElem?_eq_getElem hlt
      have hrow : (ps.map strRow)[i]? = some (strRow ps[i]) := by simp [hi]
      have hMv := hR i 0 (strRow ps[i]) (.v (str ps[i])) c[o + i] hrow rfl (by simpa using hcv)
      have := hMv.v_inv.1
      simp [World.cell?, hbw, hcv, this, str]
end Go.Proofs.YtieflafgcajhbaaDoor
