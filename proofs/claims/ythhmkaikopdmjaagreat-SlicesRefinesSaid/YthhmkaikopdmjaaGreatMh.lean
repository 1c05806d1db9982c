/- the reference of slices: less, Check, Long, Great, find, Find; the reference of slices: find, Find; the law SlicesFinds; a refined list: the plain law; a refined list: how many lie between; Refine of one slice; the law SlicesRefines; Arguments of a law, as abstract values: rotations and lists of rotations. Conditions: none. -/
import Derived.Test.YthhmkaikopdmjaaGreatMg
import Derived.WalkKit
import Derived.ProofKit
import Derived.OpenShut
import Derived.Deep.Slices
import Derived.Carry
set_option linter.unusedSimpArgs false
set_option linter.unusedVariables false
set_option maxRecDepth 8000
namespace Go.Proofs.YthhmkaikopdmjaaGreat
open Go Go.Fw
theorem less4 (H : Heap) {a b : RR} {k : Nat} (ha : a.le k) (hb : b.le k) (hk : k ≤ 19000) : Sim Tryz.prog 57 #[a.val, b.val] H (.bool (decide (cmpS a b < 0))) H := by
  refine flat_ex rfl ?_
  obtain ⟨e, o1⟩ : ∃ e : Int, ∀ H, Sim Tryz.prog 112 #[a.val, b.val] H (.tuple #[.int .i64 (cmpS a b), .int .i64 e]) H := by
    unfold cmpS
    by_cases h : a.err ≠ 0 ∨ b.err ≠ 0
    · refine ⟨1, fun H => ?_⟩
      have := Compare4 H ha hb hk
      rw [if_pos h] at this ⊢
      exact this
    · refine ⟨0, fun H => ?_⟩
      have := Compare4 H ha hb hk
      rw [if_neg h] at this ⊢
      exact this
  generalize cmpS a b = z at *
  unfold RR.val rV at o1 ⊢
  refine sim_ex tok mixed Tryz.func57 rfl (by kernel_rfl) (by kernel_rfl) (by simp only [Tryz.ntmps57, List.size_toArray, List.length_cons, List.length_nil]; omega) ?_
  simp -implicitDefEqProofs only [go_sem, simprocAttr, mkI, iV, mkQ, qV, fV, ofV, rV, mkR]
  refine wl_callV _ (by simp -implicitDefEqProofs only [go_sem, simprocAttr, mkI, iV, mkQ, qV, fV, ofV, rV, mkR]) (o1 _) ?_
  simp -implicitDefEqProofs only [go_sem, simprocAttr, mkI, iV, mkQ, qV, fV, ofV, rV, mkR]
  simp -implicitDefEqProofs only [go_sem, simprocAttr, mkI, iV, mkQ, qV, fV, ofV, rV, mkR, res57]
  first | exact .app _ _ | exact ⟨.app _ _, rfl⟩ | exact .refl _ | exact ⟨.refl _, rfl⟩
theorem cmpS_swap (a b : RR) : (cmpS a b ≤ 0) ↔ ¬ cmpS b a < 0 := by
  unfold cmpS
  by_cases h : a.err ≠ 0 ∨ b.err ≠ 0
  · rw [if_pos h, if_pos h.symm]; omega
  · rw [if_neg h, if_neg (fun h2 => h h2.symm)]
    have := @Rot.cmp_pos a.rot b.rot
    constructor
    · intro h1 h2; have := this.2 h2; omega
    · intro h1; refine Classical.byContradiction fun h2 => h1 (this.1 (by omega))
theorem Check45 (H : Heap) {v : Value} {l : List RR} {k : Nat} (hv : RL H v l) (hle : ∀ r ∈ l, r.le k) (hk : k ≤ 19000) (hl : l.length ≤ 1000000) : Sim Tryz.prog 18 #[v] H (.int .i64 (chkR l)) H := by
  refine flat_ex rfl ?_
  have e1 := hv.len (tt := tt) tt22
  unfold chkR
  refine sim_ex tok mixed Tryz.func18 rfl (by kernel_rfl) (by kernel_rfl) (by simp only [Tryz.ntmps18, List.size_toArray, List.length_cons, List.length_nil]; omega) ?_
  by_cases h0 : l = []
  · rw [if_pos h0]
    have h1 : (l.length : Int) = 0 := by rw [h0]; rfl
    simp -implicitDefEqProofs only [go_sem, simprocAttr, wa_cond, axC_t, axC_f, e1, h1, res18]
    exact .refl _
  rw [if_neg h0]
  have hl0 := List.length_pos_iff.2 h0
  have h1 : ¬ (l.length : Int) = 0 := by omega
  by_cases h64 : 64 < l.length
  · rw [if_pos h64]
    have h2 : (64 : Int) < (l.length : Int) := by omega
    simp -implicitDefEqProofs only [go_sem, simprocAttr, wa_cond, axC_t, axC_f, e1, h1, h2, res18]
    exact .refl _
  rw [if_neg h64]
  have h2 : ¬ (64 : Int) < (l.length : Int) := by omega
  simp -implicitDefEqProofs only [go_sem, simprocAttr, wa_cond, axC_t, axC_f, e1, h1, h2]
  obtain ⟨b, i0, c, rfl, hA⟩ := hv.at h0
  refine ax_loopx (fun (i : Nat) s T => ∃ G : Heap, s 0 = .slice (some ⟨b, i0, none⟩) l.length c ∧ s 3 = .int .i64 (i : Nat) ∧ i ≤ l.length ∧ chkFrom none l = chkFrom (prevR l i) (l.drop i) ∧ T = H ++ G) (fun i => l.length - i) 0 ?_ ?_
  · refine ⟨[], ?_⟩
    simp -implicitDefEqProofs only [go_sem, simprocAttr]
    rfl
  rintro i s T ⟨G, s0, s3, hi, hch, rfl⟩
  simp -implicitDefEqProofs only [go_sem, simprocAttr, s0, s3, e1]
  refine ax_cond2 ?_
  simp only [ev_tmp, ev_const, ev_func, upd_at, put_some, put_none, bndB_bool, Nat.reduceEqDiff, if_true, if_false, ↓reduceIte, reduceCtorEq]
  refine ⟨fun hc0 => have hlt := of_decide_eq_true hc0; ?_, fun hc0 => have hlt := of_decide_eq_false hc0; ?_⟩
  · have hil : i < l.length := by omega
    have r1 := fun G => rd_more (hA.rdR hil) G
    have hc := fun H => check4 H (hle _ (List.getElem_mem hil)) (by omega)
    have hdrop := List.drop_eq_getElem_cons hil
    have hx := hle _ (List.getElem_mem hil)
    have hnext : prevR l (i + 1) = some l[i] := by unfold prevR; rw [if_neg (by omega), Nat.add_sub_cancel, List.getElem?_eq_getElem hil]
    rw [hdrop] at hch
    have hnn : (0 : Int) ≤ (i : Int) := by omega
    have w1 : IntKind.i64.wrap ((i : Int) + 1) = ((i + 1 : Nat) : Int) := by rw [w64 (by omega) (by omega)]; rfl
    unfold RR.cells at r1
    unfold RR.val rV at hc
    have hcmp := fun p (hp : RR.le p k) H => less4 H hp hx hk
    unfold RR.val rV at hcmp
    generalize hxx : l[i] = x at *
    simp -implicitDefEqProofs only [go_sem, simprocAttr, s0, s3, aIndexAddr, hlt, hnn, r1]
    refine wl_callV _ (by simp -implicitDefEqProofs only [go_sem, simprocAttr]) (hc _) ?_
    by_cases he : x.err = 0
    case neg =>
      have hch2 : chkFrom none l = x.err := by rw [hch]; unfold chkFrom; rw [if_pos he]
      rw [hch2]
      simp -implicitDefEqProofs only [go_sem, simprocAttr, wa_cond, axC_t, axC_f, he, res18]
      exact .app _ _
    have hch2 : chkFrom none l = if (match prevR l i with | some p => decide (cmpS x p ≤ 0) | none => false) = true then 8 else chkFrom (some x) (l.drop (i + 1)) := by
      rw [hch]; conv => lhs; unfold chkFrom
      rw [if_neg (by simpa using he)]
      rfl
    simp -implicitDefEqProofs only [go_sem, simprocAttr, wa_cond, axC_t, axC_f, he]
    refine ax_quiet (by kernel_rfl) ?_
    by_cases hi0 : i = 0
    · subst hi0
      have hi1 : ¬ (0 : Int) < ((0 : Nat) : Int) := by decide
      have e2 : prevR l 0 = none := rfl
      rw [e2] at hch2
      simp -implicitDefEqProofs only [go_sem, simprocAttr, wa_cond, axC_t, axC_f, s0, s3, hi1, w1]
      refine ⟨1, ⟨G, ?_⟩, by omega⟩
      rw [hch2, hnext]
      ((repeat' apply And.intro) <;> first | rfl | assumption | omega)
    · obtain ⟨j, rfl⟩ : ∃ j, i = j + 1 := ⟨i - 1, by omega⟩
      have hj : j < l.length := by omega
      have hi1 : (0 : Int) < ((j + 1 : Nat) : Int) := by omega
      have wj : IntKind.i64.wrap (((j + 1 : Nat) : Int) - 1) = (j : Int) := by rw [castS]; exact w64 (by omega) (by omega)
      have r2 := fun G => rd_more (hA.rdR hj) G
      have hp := hle _ (List.getElem_mem hj)
      have e2 : prevR l (j + 1) = some l[j] := by unfold prevR; rw [if_neg (by omega), Nat.add_sub_cancel, List.getElem?_eq_getElem hj]
      rw [e2] at hch2
      simp only at hch2
      unfold RR.cells at r2
      have hcm := hcmp _ hp
      generalize l[j] = p at *
      have hsw := cmpS_swap x p
      have hjn : (0 : Int) ≤ (j : Int) := by omega
      have hjl : (j : Int) < (l.length : Int) := by omega
      by_cases hle0 : cmpS x p ≤ 0
      · rw [if_pos (by simpa using hle0)] at hch2
        rw [hch2]
        rw [decide_eq_false (hsw.1 hle0)] at hcm
        simp -implicitDefEqProofs only [go_sem, simprocAttr, s0, s3, hi1, wj, aIndexAddr, hjn, hjl, hnn, hlt, r1, r2]
        refine wl_callV _ (by simp -implicitDefEqProofs only [go_sem, simprocAttr]) (hcm _) ?_
        simp -implicitDefEqProofs only [go_sem, simprocAttr, wa_cond, axC_t, axC_f, res18]
        exact .app _ _
      · rw [if_neg (by simpa using hle0)] at hch2
        rw [decide_eq_true (Classical.byContradiction fun h => hle0 (hsw.2 h))] at hcm
        simp -implicitDefEqProofs only [go_sem, simprocAttr, s0, s3, hi1, wj, aIndexAddr, hjn, hjl, hnn, hlt, r1, r2]
        refine wl_callV _ (by simp -implicitDefEqProofs only [go_sem, simprocAttr]) (hcm _) ?_
        simp -implicitDefEqProofs only [go_sem, simprocAttr, wa_cond, axC_t, axC_f, s0, s3, w1]
        refine ⟨j + 1 + 1, ⟨G, ?_⟩, by omega⟩
        rw [hch2, hnext]
        ((repeat' apply And.intro) <;> first | rfl | assumption | omega)
  · have hil : i = l.length := by omega
    subst hil
    rw [List.drop_length] at hch
    have : chkFrom none l = 0 := by rw [hch]; unfold chkFrom; rfl
    rw [this]
    simp -implicitDefEqProofs only [go_sem, simprocAttr, res18]
    exact .app _ _
def RR.long (r : RR) : Bool := decide (8 < r.n.length) || decide (8 < r.d.length) || decide (8 < r.n'.length) || decide (8 < r.d'.length)
theorem RR.long_le {r : RR} (h : RR.long r = false) : r.le 64 := by
  unfold RR.long at h
  simp only [Bool.or_eq_false_iff, decide_eq_false_iff_not] at h
  exact ⟨by omega, by omega, by omega, by omega⟩
theorem Long45 (H : Heap) (r : RR) : Sim Tryz.prog 42 #[r.val] H (.bool (RR.long r)) H := by
  refine flat_ex rfl ?_
  have c : ∀ n : Nat, ((8 : Int) < (n : Int)) ↔ 8 < n := fun n => by omega
  unfold RR.long RR.val rV
  by_cases h1 : 8 < r.n.length
  · rw [decide_eq_true h1]
    refine sim_ex tok mixed Tryz.func42 rfl (by kernel_rfl) (by kernel_rfl) (by simp only [Tryz.ntmps42, List.size_toArray, List.length_cons, List.length_nil]; omega) ?_
    simp -implicitDefEqProofs only [go_sem, simprocAttr, mkI, iV, mkQ, qV, fV, ofV, rV, mkR, aLen, c, h1, Bool.true_or]
    simp -implicitDefEqProofs only [go_sem, simprocAttr, mkI, iV, mkQ, qV, fV, ofV, rV, mkR, res42]
    first | exact .app _ _ | exact ⟨.app _ _, rfl⟩ | exact .refl _ | exact ⟨.refl _, rfl⟩
  rw [decide_eq_false h1]
  by_cases h2 : 8 < r.d.length
  · rw [decide_eq_true h2]
    refine sim_ex tok mixed Tryz.func42 rfl (by kernel_rfl) (by kernel_rfl) (by simp only [Tryz.ntmps42, List.size_toArray, List.length_cons, List.length_nil]; omega) ?_
    simp -implicitDefEqProofs only [go_sem, simprocAttr, mkI, iV, mkQ, qV, fV, ofV, rV, mkR, aLen, c, h1, h2, Bool.true_or, Bool.false_or]
    simp -implicitDefEqProofs only [go_sem, simprocAttr, mkI, iV, mkQ, qV, fV, ofV, rV, mkR, res42]
    first | exact .app _ _ | exact ⟨.app _ _, rfl⟩ | exact .refl _ | exact ⟨.refl _, rfl⟩
  rw [decide_eq_false h2]
  by_cases h3 : 8 < r.n'.length
  · rw [decide_eq_true h3]
    refine sim_ex tok mixed Tryz.func42 rfl (by kernel_rfl) (by kernel_rfl) (by simp only [Tryz.ntmps42, List.size_toArray, List.length_cons, List.length_nil]; omega) ?_
    simp -implicitDefEqProofs only [go_sem, simprocAttr, mkI, iV, mkQ, qV, fV, ofV, rV, mkR, aLen, c, h1, h2, h3, Bool.true_or, Bool.false_or]
    simp -implicitDefEqProofs only [go_sem, simprocAttr, mkI, iV, mkQ, qV, fV, ofV, rV, mkR, res42]
    first | exact .app _ _ | exact ⟨.app _ _, rfl⟩ | exact .refl _ | exact ⟨.refl _, rfl⟩
  rw [decide_eq_false h3]
  by_cases h4 : 8 < r.d'.length
  · rw [decide_eq_true h4]
    refine sim_ex tok mixed Tryz.func42 rfl (by kernel_rfl) (by kernel_rfl) (by simp only [Tryz.ntmps42, List.size_toArray, List.length_cons, List.length_nil]; omega) ?_
    simp -implicitDefEqProofs only [go_sem, simprocAttr, mkI, iV, mkQ, qV, fV, ofV, rV, mkR, aLen, c, h1, h2, h3, h4, Bool.true_or, Bool.false_or]
    simp -implicitDefEqProofs only [go_sem, simprocAttr, mkI, iV, mkQ, qV, fV, ofV, rV, mkR, res42]
    first | exact .app _ _ | exact ⟨.app _ _, rfl⟩ | exact .refl _ | exact ⟨.refl _, rfl⟩
  rw [decide_eq_false h4]
  refine sim_ex tok mixed Tryz.func42 rfl (by kernel_rfl) (by kernel_rfl) (by simp only [Tryz.ntmps42, List.size_toArray, List.length_cons, List.length_nil]; omega) ?_
  simp -implicitDefEqProofs only [go_sem, simprocAttr, mkI, iV, mkQ, qV, fV, ofV, rV, mkR, aLen, c, h1, h2, h3, h4, Bool.or_false]
  simp -implicitDefEqProofs only [go_sem, simprocAttr, mkI, iV, mkQ, qV, fV, ofV, rV, mkR, res42]
  first | exact .app _ _ | exact ⟨.app _ _, rfl⟩ | exact .refl _ | exact ⟨.refl _, rfl⟩
def lenBad (n : Nat) : Bool := decide (12 < n ∧ n < 31 ∨ 34 < n ∧ n < 63 ∨ 66 < n)
def greatB (l : List RR) : Bool := lenBad l.length || l.any RR.long
theorem Great45 (H : Heap) {v : Value} {l : List RR} (hv : RL H v l) : Sim Tryz.prog 41 #[v] H (.bool (greatB l)) H := by
  refine flat_ex rfl ?_
  have e1 := hv.len (tt := tt) tt22
  have c1 : ((12 : Int) < (l.length : Int)) ↔ 12 < l.length := by omega
  have c2 : ((l.length : Int) < 31) ↔ l.length < 31 := by omega
  have c3 : ((34 : Int) < (l.length : Int)) ↔ 34 < l.length := by omega
  have c4 : ((l.length : Int) < 63) ↔ l.length < 63 := by omega
  have c5 : ((66 : Int) < (l.length : Int)) ↔ 66 < l.length := by omega
  unfold greatB lenBad
  refine sim_ex tok mixed Tryz.func41 rfl (by kernel_rfl) (by kernel_rfl) (by simp only [Tryz.ntmps41, List.size_toArray, List.length_cons, List.length_nil]; omega) ?_
  by_cases h1 : 12 < l.length ∧ l.length < 31
  · rw [decide_eq_true (.inl h1)]
    simp -implicitDefEqProofs only [go_sem, simprocAttr, wa_cond, axC_t, axC_f, e1, c1, c2, h1.1, h1.2, Bool.true_or, res41]
    exact .refl _
  by_cases h2 : 34 < l.length ∧ l.length < 63
  · rw [decide_eq_true (.inr (.inl h2))]
    have d1 : 12 < l.length := by omega
    have d2 : ¬ l.length < 31 := by omega
    simp -implicitDefEqProofs only [go_sem, simprocAttr, wa_cond, axC_t, axC_f, e1, c1, c2, c3, c4, d1, d2, h2.1, h2.2, Bool.true_or, res41]
    exact .refl _
  by_cases h3 : 66 < l.length
  · rw [decide_eq_true (.inr (.inr h3))]
    have d1 : 12 < l.length := by omega
    have d2 : ¬ l.length < 31 := by omega
    have d3 : 34 < l.length := by omega
    have d4 : ¬ l.length < 63 := by omega
    simp -implicitDefEqProofs only [go_sem, simprocAttr, wa_cond, axC_t, axC_f, e1, c1, c2, c3, c4, c5, d1, d2, d3, d4, h3, Bool.true_or, res41]
    exact .refl _
  have hmain : ∀ (s : Slots) (T : Heap), s 0 = v → s 3 = .int .i64 (l.length : Nat) → T = H → True := fun _ _ _ _ _ => trivial
  clear hmain
  rw [decide_eq_false (by omega), Bool.false_or]
  have hcase : (¬ 12 < l.length ∧ ¬ 34 < l.length ∧ ¬ 66 < l.length) ∨ (12 < l.length ∧ ¬ l.length < 31 ∧ ¬ 34 < l.length ∧ ¬ 66 < l.length) ∨ (12 < l.length ∧ ¬ l.length < 31 ∧ 34 < l.length ∧ ¬ l.length < 63 ∧ ¬ 66 < l.length) := by omega
  apply shareK (M := fun s T => s 0 = v ∧ s 3 = .int .i64 (l.length : Nat) ∧ T = H)
  · intro hrest
    rcases hcase with ⟨d1, d2, d3⟩ | ⟨d1, d2, d3, d4⟩ | ⟨d1, d2, d3, d4, d5⟩
    · simp -implicitDefEqProofs only [go_sem, simprocAttr, e1, c1, c2, c3, c4, c5, d1, d2, d3]
      refine ax_mid _ ?_ hrest
      simp -implicitDefEqProofs only [go_sem, simprocAttr, wa_cond, axC_t, axC_f]
    · simp -implicitDefEqProofs only [go_sem, simprocAttr, e1, c1, c2, c3, c4, c5, d1, d2, d3, d4]
      refine ax_mid _ ?_ hrest
      simp -implicitDefEqProofs only [go_sem, simprocAttr, wa_cond, axC_t, axC_f]
    · simp -implicitDefEqProofs only [go_sem, simprocAttr, e1, c1, c2, c3, c4, c5, d1, d2, d3, d4, d5]
      refine ax_mid _ ?_ hrest
      simp -implicitDefEqProofs only [go_sem, simprocAttr, wa_cond, axC_t, axC_f]
  rintro s T ⟨s0, s3, rfl⟩
  simp -implicitDefEqProofs only [go_sem, simprocAttr, s0, s3]
  refine ax_loopx (fun (i : Nat) s T1 => s 0 = v ∧ s 3 = .int .i64 (l.length : Nat) ∧ s 4 = .int .i64 (i : Nat) ∧ i ≤ l.length ∧ l.any RR.long = (l.drop i).any RR.long ∧ T1 = T) (fun i => l.length - i) 0 ?_ ?_
  · simp -implicitDefEqProofs only [go_sem, simprocAttr, s0, s3]
  clear s0 s3
  rintro i s T1 ⟨s0, s3, s4, hi, ha, rfl⟩
  simp -implicitDefEqProofs only [go_sem, simprocAttr, s3, s4]
  refine ax_cond2 ?_
  simp only [ev_tmp, ev_const, ev_func, upd_at, put_some, put_none, bndB_bool, Nat.reduceEqDiff, if_true, if_false, ↓reduceIte, reduceCtorEq]
  refine ⟨fun hc0 => have hlt := of_decide_eq_true hc0; ?_, fun hc0 => have hlt := of_decide_eq_false hc0; ?_⟩
  · have hil : i < l.length := by omega
    obtain ⟨b, i0, c, rfl, hA⟩ := hv.at (fun h => by rw [h] at hil; simp at hil)
    have r1 := hA.rdR hil
    have o1 := fun H => Long45 H l[i]
    have hnn : (0 : Int) ≤ (i : Int) := by omega
    have hlt2 : (i : Int) < (l.length : Int) := by omega
    have w1 : IntKind.i64.wrap ((i : Int) + 1) = ((i + 1 : Nat) : Int) := by rw [w64 (by omega) (by omega)]; rfl
    rw [List.drop_eq_getElem_cons hil, List.any_cons] at ha
    generalize l[i] = x at *
    unfold RR.cells at r1
    unfold RR.val rV at o1
    simp -implicitDefEqProofs only [go_sem, simprocAttr, s0, s4, aIndexAddr, hnn, hlt2, r1]
    refine wl_callV _ (by simp -implicitDefEqProofs only [go_sem, simprocAttr]) (o1 _) ?_
    cases hx : RR.long x
    · rw [hx, Bool.false_or] at ha
      simp -implicitDefEqProofs only [go_sem, simprocAttr, wa_cond, axC_t, axC_f, s0, s3, s4, w1]
      refine ⟨i + 1, ?_, by omega⟩
      ((repeat' apply And.intro) <;> first | rfl | assumption | omega)
    · rw [hx, Bool.true_or] at ha
      rw [ha]
      simp -implicitDefEqProofs only [go_sem, simprocAttr, wa_cond, axC_t, axC_f, res41]
      exact .refl _
  · have : i = l.length := by omega
    subst this
    rw [List.drop_length] at ha
    rw [ha]
    simp -implicitDefEqProofs only [go_sem, simprocAttr, res41, List.any_nil]
    exact .refl _
end Go.Proofs.YthhmkaikopdmjaaGreat
namespace Go.Proofs.YthhmkaikopdmjaaGreat
open Go Go.Fw
end Go.Proofs.YthhmkaikopdmjaaGreat
namespace Go.Proofs.YthhmkaikopdmjaaGreat
open Go Go.Fw
theorem great45 (H : Heap) {v w : Value} {l m : List RR} (hv : RL H v l) (hw : RL H w m) (hm : m.length ≤ 1000000) : Sim Tryz.prog 10 #[v, w] H (.bool (greatB l || m.any RR.long)) H := by
  have o1 := Great45 H hv
  have o2 := containsFuncR H (g := 42) (cap := #[]) (p := RR.long) hw hm (fun x _ => Long45 H x)
  generalize greatB l = g at *
  generalize m.any RR.long = g' at *
  refine sim_of_ax tok mixed Tryz.func10 rfl (by kernel_rfl) (by kernel_rfl) (by simp only [Tryz.ntmps10, List.size_toArray, List.length_cons, List.length_nil]; omega) ?_
  simp -implicitDefEqProofs only [go_sem, simprocAttr]
  refine wl_callV _ (by simp -implicitDefEqProofs only [go_sem, simprocAttr]) o1 ?_
  cases g
  · simp -implicitDefEqProofs only [go_sem, simprocAttr]
    refine wl_callV _ (by simp -implicitDefEqProofs only [go_sem, simprocAttr]) o2 ?_
    simp -implicitDefEqProofs only [go_sem, simprocAttr, res10, Bool.false_or]
  · simp -implicitDefEqProofs only [go_sem, simprocAttr, res10, Bool.true_or]
theorem fine1 (H : Heap) {r : RR} {k : Nat} (hr : r.le k) (hk : k ≤ 20000) : Sim Tryz.prog 62 #[r.val] H (.bool (decide (r.err ≠ 0))) H := by
  refine flat_ex rfl ?_
  have o1 := fun H => checkR H hr hk
  unfold RR.val rV at *
  refine sim_ex tok mixed Tryz.func62 rfl (by kernel_rfl) (by kernel_rfl) (by simp only [Tryz.ntmps62, List.size_toArray, List.length_cons, List.length_nil]; omega) ?_
  simp -implicitDefEqProofs only [go_sem, simprocAttr, mkI, iV, mkQ, qV, fV, ofV, rV, mkR]
  refine wl_callV _ (by simp -implicitDefEqProofs only [go_sem, simprocAttr, mkI, iV, mkQ, qV, fV, ofV, rV, mkR]) (o1 _) ?_
  simp -implicitDefEqProofs only [go_sem, simprocAttr, mkI, iV, mkQ, qV, fV, ofV, rV, mkR]
  simp -implicitDefEqProofs only [go_sem, simprocAttr, mkI, iV, mkQ, qV, fV, ofV, rV, mkR, decide_not, ne_eq]
  simp -implicitDefEqProofs only [go_sem, simprocAttr, mkI, iV, mkQ, qV, fV, ofV, rV, mkR, res62]
  first | exact .app _ _ | exact ⟨.app _ _, rfl⟩ | exact .refl _ | exact ⟨.refl _, rfl⟩
def fineB (l m : List RR) : Bool := !(greatB l || m.any RR.long) && (decide (l.length ≤ 12) && (decide (chkR l = 0) && !(m.any fun r => decide (r.err ≠ 0))))
theorem any_long {m : List RR} (h : m.any RR.long = false) : ∀ r ∈ m, r.le 64 := fun r hr => RR.long_le (by
  rw [← Bool.not_eq_true, List.any_eq_true] at h
  rw [← Bool.not_eq_true]
  exact fun hx => h ⟨r, hr, hx⟩)
theorem great_le {l : List RR} (h : greatB l = false) : (∀ r ∈ l, r.le 64) ∧ lenBad l.length = false := by
  unfold greatB at h
  rw [Bool.or_eq_false_iff] at h
  exact ⟨any_long h.2, h.1⟩
theorem fine45 (H : Heap) {v w : Value} {l m : List RR} (hv : RL H v l) (hw : RL H w m) (hm : m.length ≤ 1000000) : Sim Tryz.prog 24 #[v, w] H (.bool (fineB l m)) H := by
  have o1 := great45 H hv hw hm
  have e1 := hv.len (tt := tt) tt22
  unfold fineB
  cases hg : (greatB l || m.any RR.long)
  case true =>
    rw [hg] at o1
    refine sim_of_ax tok mixed Tryz.func24 rfl (by kernel_rfl) (by kernel_rfl) (by simp only [Tryz.ntmps24, List.size_toArray, List.length_cons, List.length_nil]; omega) ?_
    simp -implicitDefEqProofs only [go_sem, simprocAttr]
    refine wl_callV _ (by simp -implicitDefEqProofs only [go_sem, simprocAttr]) o1 ?_
    simp -implicitDefEqProofs only [go_sem, simprocAttr, res24, Bool.false_and]
  rw [hg] at o1
  rw [Bool.or_eq_false_iff] at hg
  obtain ⟨hle, hlen⟩ := great_le hg.1
  have hml := any_long hg.2
  simp only [Bool.not_false, Bool.true_and]
  by_cases h12 : l.length ≤ 12
  case neg =>
    have c1 : ¬ (l.length : Int) ≤ 12 := by omega
    rw [decide_eq_false h12]
    refine sim_of_ax tok mixed Tryz.func24 rfl (by kernel_rfl) (by kernel_rfl) (by simp only [Tryz.ntmps24, List.size_toArray, List.length_cons, List.length_nil]; omega) ?_
    simp -implicitDefEqProofs only [go_sem, simprocAttr]
    refine wl_callV _ (by simp -implicitDefEqProofs only [go_sem, simprocAttr]) o1 ?_
    simp -implicitDefEqProofs only [go_sem, simprocAttr, e1, c1, res24, Bool.false_and]
  have c1 : (l.length : Int) ≤ 12 := by omega
  rw [decide_eq_true h12]
  have o2 := Check45 H hv hle (by decide) (by omega)
  have o3 := containsFuncR H (g := 62) (cap := #[]) (p := fun r => decide (r.err ≠ 0)) hw hm (fun x hx => fine1 H (hml x hx) (by decide))
  generalize (m.any fun r => decide (r.err ≠ 0)) = g' at *
  generalize chkR l = c at *
  by_cases hc : c = 0
  · refine sim_of_ax tok mixed Tryz.func24 rfl (by kernel_rfl) (by kernel_rfl) (by simp only [Tryz.ntmps24, List.size_toArray, List.length_cons, List.length_nil]; omega) ?_
    simp -implicitDefEqProofs only [go_sem, simprocAttr]
    refine wl_callV _ (by simp -implicitDefEqProofs only [go_sem, simprocAttr]) o1 ?_
    simp -implicitDefEqProofs only [go_sem, simprocAttr, e1, c1]
    refine wl_callV _ (by simp -implicitDefEqProofs only [go_sem, simprocAttr]) o2 ?_
    simp -implicitDefEqProofs only [go_sem, simprocAttr, hc]
    refine wl_callV _ (by simp -implicitDefEqProofs only [go_sem, simprocAttr]) o3 ?_
    simp -implicitDefEqProofs only [go_sem, simprocAttr, res24, Bool.true_and]
  · refine sim_of_ax tok mixed Tryz.func24 rfl (by kernel_rfl) (by kernel_rfl) (by simp only [Tryz.ntmps24, List.size_toArray, List.length_cons, List.length_nil]; omega) ?_
    simp -implicitDefEqProofs only [go_sem, simprocAttr]
    refine wl_callV _ (by simp -implicitDefEqProofs only [go_sem, simprocAttr]) o1 ?_
    simp -implicitDefEqProofs only [go_sem, simprocAttr, e1, c1]
    refine wl_callV _ (by simp -implicitDefEqProofs only [go_sem, simprocAttr]) o2 ?_
    simp -implicitDefEqProofs only [go_sem, simprocAttr, hc, res24, Bool.true_and, Bool.false_and]
end Go.Proofs.YthhmkaikopdmjaaGreat
namespace Go.Proofs.YthhmkaikopdmjaaGreat
open Go Go.Fw
theorem mid_sz2 {a b : RR} (ha : a.le 64) (hb : b.le 64) (ea : a.err = 0) (eb : b.err = 0) : (Rot.mid a.rot b.rot).Sz 4400 := by
  have oka := (RR.err_zero.1 ea).2
  have okb := (RR.err_zero.1 eb).2
  have okd : (a.rot.back.thn b.rot).ok := Rot.thn_ok (Rot.back_ok oka) okb
  have zd : (a.rot.back.thn b.rot).Sz 261 := (ha.sz.back.thn hb.sz).mono (by omega)
  have hhalf := Rot.half_one okd
  unfold Rot.mid
  generalize hdd : a.rot.back.thn b.rot = d at *
  by_cases hh : d.half = 1
  · rw [if_pos hh]
    have hq0 : (Rot.mk 0 1).Sz 2 := ⟨⟨by decide, by decide⟩, sz_one (by decide)⟩
    exact (ha.sz.thn hq0).mono (by omega)
  · rw [if_neg hh]
    obtain ⟨hs0, hc0, hc1⟩ := hhalf hh
    have hpos : 0 ≤ d.s / (1 + d.c) := by
      rw [Rat.div_def]
      exact Rat.mul_nonneg hs0 (Rat.le_of_lt (Rat.inv_pos.2 hc1))
    have zt := zd.s.div ((sz_one (k := 2) (by decide)).add zd.c) (by omega)
    have z3 := Sz.int (z := 3) (k := 2) (by decide) (by decide)
    rw [show ((3 : Int) : Rat) = 3 from rfl] at z3
    have zth := zt.div z3 (by decide)
    generalize hth : d.s / (1 + d.c) / 3 = th at *
    have hth0 : 0 ≤ th := by
      rw [← hth, Rat.div_def]
      exact Rat.mul_nonneg hpos (Rat.le_of_lt (Rat.inv_pos.2 (by decide)))
    have z2 := Sz.int (z := 2) (k := 2) (by decide) (by decide)
    rw [show ((2 : Int) : Rat) = 2 from rfl] at z2
    have zth2 := z2.mul zth
    rw [show (2 : Rat) * th = th + th by grind] at zth2
    have zs := Sz.smp (a := th) (b := th + th) (k := 530) (by grind) (zth.mono (by omega)) (zth2.mono (by omega)) (by omega)
    exact (ha.sz.thn (Rot.Sz.ofT2 zs (by decide))).mono (by omega)
theorem mids_le2 {l : List RR} {i : Nat} (hle : ∀ r ∈ l, r.le 64) (hok : ∀ r ∈ l, r.err = 0) (hi : i ≤ l.length) : ∀ r ∈ midsTo l i, r.le 4407 := by
  intro r hr
  obtain ⟨j, hj, rfl⟩ := List.mem_map.1 hr
  have hj := List.mem_range.1 hj
  have hjl : j < l.length := by omega
  have hn := nextR_lt (l := l) (fun h => by rw [h] at hjl; simp at hjl) j
  rw [getD_eq hjl, getD_eq hn]
  have m1 := List.getElem_mem hjl
  have m2 := List.getElem_mem hn
  exact (mid_sz2 (hle _ m1) (hle _ m2) (hok _ m1) (hok _ m2)).le
section
variable {l : List RR} (ho : Ord l) (h2 : 2 ≤ l.length)
include ho
theorem Ord.okr {i : Nat} (hi : i < l.length) : l[i].rot.ok := (RR.err_zero.1 (ho.ok _ (List.getElem_mem hi))).2
theorem Ord.lt_of {i j : Nat} (hi : i < l.length) (hj : j < l.length) (h : i < j) : l[i].rot.lt l[j].rot := List.pairwise_iff_getElem.1 ho.ord i j hi hj h
theorem Ord.of_lt {i j : Nat} (hi : i < l.length) (hj : j < l.length) (h : l[i].rot.lt l[j].rot) : i < j := by
  refine Classical.byContradiction fun hn => ?_
  by_cases e : i = j
  · subst e; exact Rot.lt_irrefl (ho.okr hi) h
  · have := ho.lt_of hj hi (by omega)
    exact Rot.lt_irrefl (ho.okr hi) (Rot.lt_trans (ho.okr hi) (ho.okr hj) (ho.okr hi) h this)
def Arc (l : List RR) (i : Nat) (m : Rot) : Prop := if i + 1 < l.length then (∃ h : i < l.length, l[i].rot.lt m) ∧ (∃ h : i + 1 < l.length, m.lt l[i + 1].rot) else (∃ h : i < l.length, l[i].rot.lt m) ∨ (∃ h : 0 < l.length, m.lt l[0].rot)
omit ho in
theorem nextR_eq {i : Nat} (h : i + 1 < l.length) : nextR l i = i + 1 := Nat.mod_eq_of_lt h
omit ho in
theorem nextR_last {i : Nat} (hi : i < l.length) (h : ¬ i + 1 < l.length) : nextR l i = 0 := by unfold nextR; rw [show i + 1 = l.length by omega, Nat.mod_self]
include h2
theorem arc_cyc {i : Nat} (hi : i < l.length) {m : Rot} (hm : m.ok) (hj : nextR l i < l.length) : Rot.Cyc l[i].rot m l[nextR l i].rot ↔ Arc l i m := by
  unfold Arc
  by_cases h : i + 1 < l.length
  · rw [if_pos h]
    have e := nextR_eq h
    simp only [e]
    have hl := ho.lt_of hi h (Nat.lt_succ_self i)
    have no : ¬ l[i + 1].rot.lt l[i].rot := fun h3 => by have := ho.of_lt h hi h3; omega
    unfold Rot.Cyc
    constructor
    · rintro (⟨h3, h4⟩ | ⟨_, h4⟩ | ⟨h4, _⟩)
      · exact ⟨⟨hi, h3⟩, ⟨h, h4⟩⟩
      · exact absurd h4 no
      · exact absurd h4 no
    · rintro ⟨⟨_, h3⟩, ⟨_, h4⟩⟩
      exact .inl ⟨h3, h4⟩
  · rw [if_neg h]
    have e := nextR_last hi h
    simp only [e]
    have h0 : 0 < l.length := by omega
    have hl := ho.lt_of h0 hi (by omega)
    have no : ¬ l[i].rot.lt l[0].rot := fun h3 => by have := ho.of_lt hi h0 h3; omega
    unfold Rot.Cyc
    constructor
    · rintro (⟨h3, h4⟩ | ⟨h3, h4⟩ | ⟨h3, h4⟩)
      · exact absurd (Rot.lt_trans (ho.okr hi) hm (ho.okr h0) h3 h4) no
      · exact .inr ⟨h0, h3⟩
      · exact .inl ⟨hi, h4⟩
    · rintro (⟨_, h3⟩ | ⟨_, h3⟩)
      · exact .inr (.inr ⟨hl, h3⟩)
      · exact .inr (.inl ⟨h3, hl⟩)
omit h2 in
theorem arc_no {i k : Nat} (hi : i < l.length) (hk : k < l.length) : ¬ Arc l i l[k].rot := by
  unfold Arc
  by_cases h : i + 1 < l.length
  · rw [if_pos h]
    rintro ⟨⟨_, h3⟩, ⟨_, h4⟩⟩
    have := ho.of_lt hi hk h3
    have := ho.of_lt hk h h4
    omega
  · rw [if_neg h]
    rintro (⟨_, h3⟩ | ⟨_, h3⟩)
    · have := ho.of_lt hi hk h3; omega
    · have := ho.of_lt hk (by omega) h3; omega
omit h2 in
theorem arc_lt {i j : Nat} (hi : i < l.length) (hj : j < l.length) {m : Rot} (hm : m.ok) (hij : i < j) (h1 : Arc l i m) (h3 : Arc l j m) : False := by
  unfold Arc at h1 h3
  rw [if_pos (by omega)] at h1
  obtain ⟨⟨_, a1⟩, ⟨g, a2⟩⟩ := h1
  have up : l[j].rot.lt m → False := fun h => by
    have := Rot.lt_trans (ho.okr hj) hm (ho.okr g) h a2
    have := ho.of_lt hj g this
    omega
  split at h3
  · exact up h3.1.2
  · rcases h3 with ⟨_, h⟩ | ⟨h0, h⟩
    · exact up h
    · have := Rot.lt_trans (ho.okr hi) hm (ho.okr h0) a1 h
      have := ho.of_lt hi h0 this
      omega
omit h2 in
theorem arc_one {i j : Nat} (hi : i < l.length) (hj : j < l.length) {m : Rot} (hm : m.ok) (h1 : Arc l i m) (h3 : Arc l j m) : i = j := by
  rcases Nat.lt_trichotomy i j with h | h | h
  · exact (arc_lt ho hi hj hm h h1 h3).elim
  · exact h
  · exact (arc_lt ho hj hi hm h h3 h1).elim
end
end Go.Proofs.YthhmkaikopdmjaaGreat
namespace Go.Proofs.YthhmkaikopdmjaaGreat
open Go Go.Fw
def midR (l : List RR) (j : Nat) : RR := RR.of (Rot.mid (l.getD j rr0).rot (l.getD (nextR l j) rr0).rot)
theorem midsTo_map (l : List RR) (i : Nat) : midsTo l i = (List.range i).map (midR l) := rfl
def btwB (l : List RR) (i : Nat) (m : RR) : Bool := decide (((l.getD i rr0).rot.back.thn m.rot).cmp ((l.getD i rr0).rot.back.thn (l.getD (nextR l i) rr0).rot) ≤ 0) && !(decide (m = l.getD i rr0)) && !(decide (m = l.getD (nextR l i) rr0))
section
variable {l : List RR} (ho : Ord l) (h2 : 2 ≤ l.length)
include ho h2
omit h2 in
theorem midR_rot {j : Nat} (hj : j < l.length) : (midR l j).rot = Rot.mid l[j].rot (l[nextR l j]'(nextR_lt ho.ne j)).rot := by
  unfold midR
  rw [RR.of_rot, getD_eq hj, getD_eq (nextR_lt ho.ne j)]
omit h2 in
theorem midR_ok {j : Nat} (hj : j < l.length) : (midR l j).rot.ok := by
  rw [midR_rot ho hj]; exact Rot.mid_ok (ho.okr hj)
omit h2 in
theorem midR_err {j : Nat} (hj : j < l.length) : (midR l j).err = 0 := by
  have := midR_ok ho hj
  unfold midR at *
  rw [RR.of_rot] at this
  rw [RR.err_of, if_pos this]
theorem midR_arc {j : Nat} (hj : j < l.length) : Arc l j (midR l j).rot := by
  have hn := nextR_lt ho.ne j
  rw [← arc_cyc ho h2 hj (midR_ok ho hj) hn, midR_rot ho hj]
  exact Rot.mid_cyc (ho.okr hj) (ho.okr hn) (next_ne ho h2 hj)
theorem midR_out {j k : Nat} (hj : j < l.length) (hk : k < l.length) : midR l j ≠ l[k] := fun h => by
  have := midR_arc ho h2 hj
  rw [h] at this
  exact arc_no ho hj hk this
theorem btw_arc {i : Nat} (hi : i < l.length) {m : RR} (hm : m.err = 0) (h1 : m ≠ l[i]) (h3 : m ≠ l[nextR l i]'(nextR_lt ho.ne i)) : btwB l i m = true ↔ Arc l i m.rot := by
  have hn := nextR_lt ho.ne i
  have e := RR.err_zero.1 hm
  have ei := RR.err_zero.1 (ho.ok _ (List.getElem_mem hi))
  have en := RR.err_zero.1 (ho.ok _ (List.getElem_mem hn))
  have n1 : l[i].rot ≠ m.rot := fun h => h1 (by rw [e.1, ei.1, h])
  have n2 : m.rot ≠ l[nextR l i].rot := fun h => h3 (by rw [e.1, en.1, h])
  unfold btwB
  rw [getD_eq hi, getD_eq hn, decide_eq_false h1, decide_eq_false h3]
  simp only [Bool.not_false, Bool.and_true, decide_eq_true_eq]
  rw [Rot.btw_cyc ei.2 e.2 en.2 n1 n2 (next_ne ho h2 hi)]
  exact arc_cyc ho h2 hi e.2 hn
theorem btw_l {i : Nat} (hi : i < l.length) : ∀ x ∈ l, ¬ btwB l i x = true := by
  intro x hx h
  obtain ⟨k, hk, rfl⟩ := List.getElem_of_mem hx
  have hn := nextR_lt ho.ne i
  have hh := h
  unfold btwB at hh
  simp only [Bool.and_eq_true, Bool.not_eq_true', decide_eq_false_iff_not] at hh
  rw [getD_eq hi, getD_eq hn] at hh
  rw [btw_arc ho h2 hi (ho.ok _ hx) hh.1.2 hh.2] at h
  exact arc_no ho hi hk h
theorem btw_m {i j : Nat} (hi : i < l.length) (hj : j < l.length) : btwB l i (midR l j) = true ↔ j = i := by
  rw [btw_arc ho h2 hi (midR_err ho hj) (midR_out ho h2 hj hi) (midR_out ho h2 hj (nextR_lt ho.ne i))]
  constructor
  · intro h
    exact arc_one ho hj hi (midR_ok ho hj) (midR_arc ho h2 hj) h
  · rintro rfl
    exact midR_arc ho h2 hj
theorem refine_count {L : List RR} (hp : L.Perm (l ++ midsTo l l.length)) {i : Nat} (hi : i < l.length) : L.countP (btwB l i) = 1 := by
  rw [hp.countP_eq, List.countP_append, List.countP_eq_zero.2 (btw_l ho h2 hi), Nat.zero_add, midsTo_map, List.countP_map]
  have e : List.countP (btwB l i ∘ midR l) (List.range l.length) = List.countP (fun j => j == i) (List.range l.length) := by
    refine List.countP_congr fun j hj => ?_
    have hj := List.mem_range.1 hj
    simp only [Function.comp, beq_iff_eq]
    exact btw_m ho h2 hi hj
  rw [e]
  have : List.count i (List.range l.length) = 1 := List.nodup_range.count.trans (if_pos (List.mem_range.2 hi))
  exact this
theorem refine_ord {L : List RR} (h32 : l.length ≤ 32) (hp : L.Perm (l ++ midsTo l l.length)) (hs : L.Pairwise RR.leq) : Ord L := by
  have hmem : ∀ x ∈ midsTo l l.length, ∃ j, ∃ h : j < l.length, x = midR l j := fun x hx => by
    rw [midsTo_map] at hx
    obtain ⟨j, hj, rfl⟩ := List.mem_map.1 hx
    exact ⟨j, List.mem_range.1 hj, rfl⟩
  have hok : ∀ x ∈ L, x.err = 0 := fun x hx => by
    rcases List.mem_append.1 (hp.mem_iff.1 hx) with h | h
    · exact ho.ok _ h
    · obtain ⟨j, hj, rfl⟩ := hmem x h
      exact midR_err ho hj
  have hnd : L.Nodup := by
    rw [hp.nodup_iff, List.nodup_append]
    refine ⟨?_, ?_, ?_⟩
    · rw [List.nodup_iff_pairwise_ne]
      exact ho.ord.imp_of_mem fun {a b} ha hb h e => by
        subst e; exact Rot.lt_irrefl (RR.err_zero.1 (ho.ok _ ha)).2 h
    · rw [midsTo_map, List.nodup_iff_pairwise_ne, List.pairwise_map]
      have := List.nodup_range (n := l.length)
      rw [List.nodup_iff_pairwise_ne] at this
      refine this.imp_of_mem fun {a b} ha hb h e => h ?_
      have ha := List.mem_range.1 ha
      have hb := List.mem_range.1 hb
      have h1 := midR_arc ho h2 ha
      have h3 := midR_arc ho h2 hb
      rw [e] at h1
      exact arc_one ho ha hb (midR_ok ho hb) h1 h3
    · intro a ha b hb e
      obtain ⟨j, hj, rfl⟩ := hmem b hb
      obtain ⟨k, hk, rfl⟩ := List.getElem_of_mem ha
      exact midR_out ho h2 hj hk e.symm
  have hlen : L.length = l.length + l.length := by rw [hp.length_eq, List.length_append, midsTo_len]
  refine ⟨fun h => by rw [h] at hlen; simp at hlen; omega, by omega, hok, ?_⟩
  rw [List.nodup_iff_pairwise_ne] at hnd
  rw [List.pairwise_iff_getElem] at hs hnd ⊢
  intro i j hi hj hij
  have o1 := RR.err_zero.1 (hok _ (List.getElem_mem hi))
  have o2 := RR.err_zero.1 (hok _ (List.getElem_mem hj))
  rcases Rot.lt_cases o1.2 o2.2 with h | h | h
  · exact h
  · exact absurd (by rw [o1.1, o2.1, h]) (hnd i j hi hj hij)
  · exact absurd h (hs i j hi hj hij)
end
end Go.Proofs.YthhmkaikopdmjaaGreat
namespace Go.Proofs.YthhmkaikopdmjaaGreat
open Go Go.Fw
theorem neighY1 {Y : Array Value → Heap → Heap → Prop} {x : RR} {b0 b i0 c : Nat} {H : Heap} (hb0 : H[b0]? = some ⟨[.slice (some ⟨b, i0, none⟩) 1 c], 1, true⟩) (hA : ElAt 6 H b i0 c ([x].map RR.cells)) :
    SimY Tryz.prog 115 Y #[.pointer (some ⟨b0, 0, none⟩)] H (H ++ [⟨x.cells, 1, true⟩]) := by
  refine simY_of_ax tok mixed Tryz.func115 rfl (by kernel_rfl) (by kernel_rfl) (by simp only [Tryz.ntmps115, List.size_toArray, List.length_cons, List.length_nil]; omega) ?_
  intro y
  have bx : ∀ B, rd (H ++ B) b0 0 1 = some [.slice (some ⟨b, i0, none⟩) 1 c] := fun B => rd_more (rd_cell hb0) B
  have bx0 : rd H b0 0 1 = some [.slice (some ⟨b, i0, none⟩) 1 c] := rd_cell hb0
  have e1 : aLen tt [22] (.slice (some ⟨b, i0, none⟩) 1 c) = some (.int .i64 ((1 : Nat) : Int)) := rfl
  have hr := hA.rdR (j := 0) (by simp)
  have eini : (#[Value.func (Fn.yield y) #[] #[]] ++ #[Value.pointer (some ⟨b0, 0, none⟩)] : Array Value) = #[.func (.yield y) #[] #[], .pointer (some ⟨b0, 0, none⟩)] := rfl
  rw [eini]
  simp -implicitDefEqProofs only [go_sem, simprocAttr, bx0, e1]
  refine ax_loopx (fun (_ : Unit) s T => s 0 = .func (.yield y) #[] #[] ∧ s 1 = .pointer (some ⟨b0, 0, none⟩) ∧ s 5 = .slice (some ⟨b, i0, none⟩) 1 c ∧ s 6 = .int .i64 ((1 : Nat) : Int) ∧ s 7 = .int .i64 0 ∧ T = H) (fun _ => 0) () ?_ ?_
  · simp -implicitDefEqProofs only [go_sem, simprocAttr]
  rintro _ s T ⟨s0, s1, s5, s6, s7, rfl⟩
  have d1 : (0 : Int) < ((1 : Nat) : Int) := by decide
  have d2 : ((1 : Nat) : Int) < 2 := by decide
  simp only [List.getElem_cons_zero, Nat.zero_mul, Nat.add_zero] at hr
  unfold RR.cells at hr ⊢
  simp -implicitDefEqProofs only [go_sem, simprocAttr, wa_cond, axC_t, axC_f, s0, s1, s5, s6, s7, aIndexAddr, d1, hr]
  refine ax_loud (by kernel_rfl) ?_
  simp -implicitDefEqProofs only [go_sem, simprocAttr, wa_cond, axC_t, axC_f, s0, s1, s5, s7, bx, e1, d2, res115]
theorem Refine1 (H : Heap) {v : Value} {x : RR} {k : Nat} (hv : RL H v [x]) (hle : x.le k) (hk : k ≤ 80) (hx : x.err = 0) :
    ∃ w H', Sim Tryz.prog 26 #[v] H w H' ∧ Ext H H' ∧ ∃ b, H.length ≤ b ∧ w = .tuple #[.slice (some ⟨b, 0, none⟩) 1 0, .int .i64 0] ∧ OwnR H' b [x] := by
  have ho : Ord [x] := ⟨by simp, by simp, by simp [hx], by simp⟩
  have o1 := CheckS H hv (l := [x]) (k := k) (by simp [hle]) (by omega) (by simp)
  have hchk := ok_chk ho
  rw [hchk] at o1
  have e1 := hv.len (tt := tt) tt22
  obtain ⟨b, i0, c, rfl, hA⟩ := hv.at ho.ne
  have m2 : ¬ (1 : Int) < (([x] : List RR).length : Int) := by simp
  obtain ⟨vc, T1, ocl, hE1, b1, hb1, rfl, hown1⟩ := cloneR H hA ho.ne (by simp)
  simp only [List.length_cons, List.length_nil, Nat.zero_add] at e1 m2 ocl o1 ⊢
  have q1 : (T1 ++ [(⟨[.slice (some ⟨b1, 0, none⟩) 1 0], 1, true⟩ : Blk)])[T1.length]? = some ⟨[.slice (some ⟨b1, 0, none⟩) 1 0], 1, true⟩ := by simp
  refine sim_exT tok mixed Tryz.func26 rfl (by kernel_rfl) (by kernel_rfl) (by simp only [Tryz.ntmps26, List.size_toArray, List.length_cons, List.length_nil]; omega) ?_
  simp -implicitDefEqProofs only [go_sem, simprocAttr, wt_seq, wt_block, wt_region, wt_loop, wt_skip, wt_exit, wt_ret, wt_cond, axCT_t, axCT_f]
  refine wl_callV _ (by simp -implicitDefEqProofs only [go_sem, simprocAttr]) o1 ?_
  simp -implicitDefEqProofs only [go_sem, simprocAttr, wt_seq, wt_block, wt_region, wt_loop, wt_skip, wt_exit, wt_ret, wt_cond, axCT_t, axCT_f, e1]
  refine wl_callF _ (by simp -implicitDefEqProofs only [go_sem, simprocAttr]) ocl (fun h => by cases h) ?_
  simp -implicitDefEqProofs only [go_sem, simprocAttr, wt_seq, wt_block, wt_region, wt_loop, wt_skip, wt_exit, wt_ret, wt_cond, axCT_t, axCT_f]
  have on := neighboursS (T1 ++ [⟨[.slice (some ⟨b1, 0, none⟩) 1 0], 1, true⟩]) (some ⟨b, i0, none⟩) 1 c
  refine wl_callF _ (by simp -implicitDefEqProofs only [go_sem, simprocAttr]) on (fun h => by cases h) ?_
  simp -implicitDefEqProofs only [go_sem, simprocAttr, wt_seq, wt_block, wt_region, wt_loop, wt_skip, wt_exit, wt_ret, wt_cond, axCT_t, axCT_f]
  have hA1 := (hA.ext hE1).app
  refine axT_range (fun T => T = T1 ++ [⟨[.slice (some ⟨b1, 0, none⟩) 1 0], 1, true⟩, ⟨[.slice (some ⟨b, i0, none⟩) 1 c], 1, true⟩] ++ [⟨x.cells, 1, true⟩]) (by simp -implicitDefEqProofs only [go_sem, simprocAttr]; rfl) ⟨_, neighY1 (x := x) (b := b) (i0 := i0) (c := c) ?_ (hA1 _), rfl⟩ ?_
  · simp
  rintro T rfl
  obtain ⟨T2, hT2⟩ : ∃ T2, T2 = T1 ++ [⟨[.slice (some ⟨b1, 0, none⟩) 1 0], 1, true⟩, ⟨[.slice (some ⟨b, i0, none⟩) 1 c], 1, true⟩] ++ [(⟨x.cells, 1, true⟩ : Blk)] := ⟨_, rfl⟩
  have hown2 : OwnR T2 b1 [x] := by rw [hT2]; exact Own.app (Own.app hown1 _) _
  have hE2 : Ext H T2 := by rw [hT2]; exact (hE1.trans (.app _ _)).trans (.app _ _)
  have rp : rd T2 T1.length 0 1 = some [.slice (some ⟨b1, 0, none⟩) 1 0] := by
    refine rd_cell ?_
    rw [hT2]; simp
  have hb1l := hown1.lt
  obtain ⟨L, os, hperm, _⟩ := sort255 T2 (c := 0) hown2 (k := k) (by simp [hle]) (by omega) (by simp [hx]) (by simp)
  rw [List.perm_singleton.1 hperm] at os
  have hself := putR_self hown2
  rw [hself] at os
  rw [← hT2]
  simp only [List.length_cons, List.length_nil, Nat.zero_add] at os
  simp -implicitDefEqProofs only [go_sem, simprocAttr, wt_seq, wt_block, wt_region, wt_loop, wt_skip, wt_exit, wt_ret, wt_cond, axCT_t, axCT_f, rp]
  refine wl_callF _ (by simp -implicitDefEqProofs only [go_sem, simprocAttr]) os (fun h => by cases h) ?_
  simp -implicitDefEqProofs only [go_sem, simprocAttr, wt_seq, wt_block, wt_region, wt_loop, wt_skip, wt_exit, wt_ret, wt_cond, axCT_t, axCT_f, rp, res26]
  exact ⟨hE2, b1, hb1, rfl, hown2⟩
end Go.Proofs.YthhmkaikopdmjaaGreat
namespace Go.Proofs.YthhmkaikopdmjaaGreat
open Go Go.Fw
theorem ne26 (a b : RR) : aBin tt .neq 26 (.agg #[.bool a.g, .string (bs a.n), .string (bs a.d), .bool a.g', .string (bs a.n'), .string (bs a.d')]) (.agg #[.bool b.g, .string (bs b.n), .string (bs b.d), .bool b.g', .string (bs b.n'), .string (bs b.d')]) = some (.bool (!decide (a = b))) := by
  have e : aBin tt .neq 26 (.agg #[.bool a.g, .string (bs a.n), .string (bs a.d), .bool a.g', .string (bs a.n'), .string (bs a.d')]) (.agg #[.bool b.g, .string (bs b.n), .string (bs b.d), .bool b.g', .string (bs b.n'), .string (bs b.d')]) =
    some (.bool (!((a.g == b.g) && ((bs a.n == bs b.n) && ((bs a.d == bs b.d) && ((a.g' == b.g') && ((bs a.n' == bs b.n') && ((bs a.d' == bs b.d') && true)))))))) := rfl
  have e2 := eq26 a b
  have e3 : aBin tt .eql 26 (.agg #[.bool a.g, .string (bs a.n), .string (bs a.d), .bool a.g', .string (bs a.n'), .string (bs a.d')]) (.agg #[.bool b.g, .string (bs b.n), .string (bs b.d), .bool b.g', .string (bs b.n'), .string (bs b.d')]) =
    some (.bool ((a.g == b.g) && ((bs a.n == bs b.n) && ((bs a.d == bs b.d) && ((a.g' == b.g') && ((bs a.n' == bs b.n') && ((bs a.d' == bs b.d') && true))))))) := rfl
  rw [e3] at e2
  rw [e]
  injection e2 with e2
  injection e2 with e2
  rw [e2]
theorem rd_six {T : Heap} {p : Nat} {x : RR} (h : T[p]? = some ⟨x.cells, 1, true⟩) : rd T p 0 6 = some x.cells := by
  unfold rd
  rw [h]; rfl
theorem fine_parts0 {l : List RR} (h : fineB l [] = true) : (∀ x ∈ l, x.le 64) ∧ l.length ≤ 12 ∧ chkR l = 0 := by
  unfold fineB at h
  simp only [Bool.and_eq_true, Bool.not_eq_true', Bool.or_eq_false_iff, decide_eq_true_eq, List.any_nil, decide_eq_false_iff_not, and_true, ne_eq, Decidable.not_not] at h
  exact ⟨(great_le h.1).1, h.2.1, h.2.2⟩
theorem refinesS (H : Heap) {v : Value} {l : List RR} (hv : RL H v l) : Sim Tryz.prog 6 #[v] H (.bool true) H := by
  refine flat_ex rfl ?_
  have aw := awakeS
  have hw : RL H (.slice none 0 0) [] := .inl ⟨.inl rfl, rfl⟩
  have o1 := fine45 H hv hw (by simp)
  have e1 := hv.len (tt := tt) tt22
  by_cases hf : fineB l [] = true
  case neg =>
    simp only [Bool.not_eq_true] at hf
    rw [hf] at o1
    refine sim_ex tok mixed Tryz.func6 rfl (by kernel_rfl) (by kernel_rfl) (by simp only [Tryz.ntmps6, List.size_toArray, List.length_cons, List.length_nil]; omega) ?_
    simp -implicitDefEqProofs only [go_sem, simprocAttr, mkI, iV, mkQ, qV, fV, ofV, rV, mkR]
    refine wl_callV _ (by simp -implicitDefEqProofs only [go_sem, simprocAttr, mkI, iV, mkQ, qV, fV, ofV, rV, mkR, wa_cond, axC_t, axC_f]) o1 ?_
    simp -implicitDefEqProofs only [go_sem, simprocAttr, mkI, iV, mkQ, qV, fV, ofV, rV, mkR, wa_cond, axC_t, axC_f]
    refine wl_callV _ (by simp -implicitDefEqProofs only [go_sem, simprocAttr, mkI, iV, mkQ, qV, fV, ofV, rV, mkR]) (aw _) ?_
    simp -implicitDefEqProofs only [go_sem, simprocAttr, mkI, iV, mkQ, qV, fV, ofV, rV, mkR]
    simp -implicitDefEqProofs only [go_sem, simprocAttr, mkI, iV, mkQ, qV, fV, ofV, rV, mkR, res6]
    first | exact .app _ _ | exact ⟨.app _ _, rfl⟩ | exact .refl _ | exact ⟨.refl _, rfl⟩
  rw [hf] at o1
  obtain ⟨hle, h12, hchk⟩ := fine_parts0 hf
  have ho := chk_ok hchk
  have hl0 := List.length_pos_iff.2 ho.ne
  by_cases hone : l.length = 1
  · obtain ⟨x, rfl⟩ := List.length_eq_one_iff.1 hone
    refine sim_ex tok mixed Tryz.func6 rfl (by kernel_rfl) (by kernel_rfl) (by simp only [Tryz.ntmps6, List.size_toArray, List.length_cons, List.length_nil]; omega) ?_
    simp -implicitDefEqProofs only [go_sem, simprocAttr, mkI, iV, mkQ, qV, fV, ofV, rV, mkR]
    refine wl_callV _ (by simp -implicitDefEqProofs only [go_sem, simprocAttr, mkI, iV, mkQ, qV, fV, ofV, rV, mkR, wa_cond, axC_t, axC_f]) o1 ?_
    simp -implicitDefEqProofs only [go_sem, simprocAttr, mkI, iV, mkQ, qV, fV, ofV, rV, mkR, wa_cond, axC_t, axC_f]
    refine wl_callT _ (by simp -implicitDefEqProofs only [go_sem, simprocAttr]) (Refine1 H hv (hle x (by simp)) (by decide) (ho.ok x (by simp))) ?_
    rintro _ T hE ⟨b, hb, rfl, hown⟩
    have hr := hown.rl
    simp only [List.length_cons, List.length_nil, Nat.zero_add] at hr e1
    have ock := CheckS T hr hle (by decide) (by simp)
    rw [ok_chk ho] at ock
    have oeq := equalR T hr (hv.ext hE) (by simp)
    rw [decide_eq_true rfl] at oeq
    simp -implicitDefEqProofs only [go_sem, simprocAttr, mkI, iV, mkQ, qV, fV, ofV, rV, mkR]
    refine wl_callV _ (by simp -implicitDefEqProofs only [go_sem, simprocAttr, mkI, iV, mkQ, qV, fV, ofV, rV, mkR, wa_cond, axC_t, axC_f, e1]) ock ?_
    simp -implicitDefEqProofs only [go_sem, simprocAttr, mkI, iV, mkQ, qV, fV, ofV, rV, mkR, wa_cond, axC_t, axC_f, e1]
    refine wl_callV _ (by simp -implicitDefEqProofs only [go_sem, simprocAttr, mkI, iV, mkQ, qV, fV, ofV, rV, mkR]) oeq ?_
    simp -implicitDefEqProofs only [go_sem, simprocAttr, mkI, iV, mkQ, qV, fV, ofV, rV, mkR]
    refine wl_callV _ (by simp -implicitDefEqProofs only [go_sem, simprocAttr, mkI, iV, mkQ, qV, fV, ofV, rV, mkR]) (aw _) ?_
    simp -implicitDefEqProofs only [go_sem, simprocAttr, mkI, iV, mkQ, qV, fV, ofV, rV, mkR]
    simp -implicitDefEqProofs only [go_sem, simprocAttr, res6]
    exact hE
  have h2 : 2 ≤ l.length := by omega
  obtain ⟨b0, i0, c0, rfl, hA⟩ := hv.at ho.ne
  have n1 : ¬ (l.length : Int) = 1 := by omega
  have w1 : IntKind.i64.wrap (2 * (l.length : Int)) = ((2 * l.length : Nat) : Int) := by rw [w64 (by omega) (by omega)]; omega
  refine sim_ex tok mixed Tryz.func6 rfl (by kernel_rfl) (by kernel_rfl) (by simp only [Tryz.ntmps6, List.size_toArray, List.length_cons, List.length_nil]; omega) ?_
  simp -implicitDefEqProofs only [go_sem, simprocAttr, mkI, iV, mkQ, qV, fV, ofV, rV, mkR]
  refine wl_callV _ (by simp -implicitDefEqProofs only [go_sem, simprocAttr, mkI, iV, mkQ, qV, fV, ofV, rV, mkR, wa_cond, axC_t, axC_f]) o1 ?_
  simp -implicitDefEqProofs only [go_sem, simprocAttr, mkI, iV, mkQ, qV, fV, ofV, rV, mkR, wa_cond, axC_t, axC_f]
  refine wl_callT _ (by simp -implicitDefEqProofs only [go_sem, simprocAttr]) (RefineL H hv hle (by decide) ho h2 (by omega)) ?_
  rintro _ T1 hE1 ⟨b, L, hb, rfl, hown, hperm, hpair⟩
  have hLlen : L.length = 2 * l.length := by rw [hperm.length_eq, List.length_append, midsTo_len]; omega
  have hoL := refine_ord ho h2 (by omega) hperm hpair
  have hleL : ∀ r ∈ L, r.le 4700 := fun r hr => by
    rcases List.mem_append.1 (hperm.mem_iff.1 hr) with h | h
    · exact (hle r h).mono (by omega)
    · exact (mids_le2 hle ho.ok (Nat.le_refl _) r h).mono (by omega)
  have hr := hown.rl
  have ock := CheckS T1 hr hleL (by decide) (by omega)
  rw [ok_chk hoL] at ock
  rw [hLlen] at ock hr
  have e2 : ∀ c, aLen tt [22] (.slice (some ⟨b, 0, none⟩) (2 * l.length) c) = some (.int .i64 ((2 * l.length : Nat) : Int)) := fun _ => rfl
  simp -implicitDefEqProofs only [go_sem, simprocAttr, mkI, iV, mkQ, qV, fV, ofV, rV, mkR]
  refine wl_callV _ (by simp -implicitDefEqProofs only [go_sem, simprocAttr, mkI, iV, mkQ, qV, fV, ofV, rV, mkR, wa_cond, axC_t, axC_f, e1, n1, e2, w1]) ock ?_
  simp -implicitDefEqProofs only [go_sem, simprocAttr, mkI, iV, mkQ, qV, fV, ofV, rV, mkR, wa_cond, axC_t, axC_f, e1, n1, e2, w1]
  have hcont := fun (r : RR) (hr' : r ∈ l) => show (L.any fun x => decide (r = x)) = true by
    rw [List.any_eq_true]
    exact ⟨r, hperm.mem_iff.2 (List.mem_append.2 (.inl hr')), by simp⟩
  have hcnt := fun (i : Nat) (hi : i < l.length) => refine_count ho h2 hperm hi
  clear o1 ock hpair hperm hchk hf
  refine ax_midl (fun s T => True ∧ Ext T1 T) ?_ ?_
  · refine ax_loopx (fun (i : Nat) s T => s 0 = .slice (some ⟨b0, i0, none⟩) l.length c0 ∧ s 3 = .slice (some ⟨b, 0, none⟩) (2 * l.length) 0 ∧ s 44 = .slice (some ⟨b0, i0, none⟩) l.length c0 ∧ s 45 = .int .i64 (l.length : Nat) ∧ s 46 = .int .i64 (i : Nat) ∧ i ≤ l.length ∧ Ext T1 T) (fun i => l.length - i) 0 ?_ ?_
    · simp -implicitDefEqProofs only [go_sem, simprocAttr]
      exact .refl _
    rintro i s T ⟨s0, s3, s44, s45, s46, hi, hE⟩
    by_cases hil : i < l.length
    case neg =>
      have : i = l.length := by omega
      subst this
      have d0 : ¬ (l.length : Int) < (l.length : Int) := by omega
      simp -implicitDefEqProofs only [go_sem, simprocAttr, wa_cond, axC_t, axC_f, s45, s46, d0]
      exact hE
    have d0 : (i : Int) < (l.length : Int) := by omega
    have hjl := nextR_lt ho.ne i
    have hAT := (hA.ext hE1).ext hE
    have r1 := hAT.rdR hil
    have r2 := fun G => rd_more (hAT.rdR hjl) G
    have m1 : IntKind.i64.wrap ((i : Int) + 1) = ((i + 1 : Nat) : Int) := by rw [w64 (by omega) (by omega)]; rfl
    have m2 : Int.tmod ((i + 1 : Nat) : Int) (l.length : Int) = ((nextR l i : Nat) : Int) := by rw [tmod_nat]; rfl
    have m3 : ¬ (l.length : Int) = 0 := by omega
    have d1 : (0 : Int) ≤ (i : Int) := by omega
    have d2 : (0 : Int) ≤ (nextR l i : Int) := by omega
    have d3 : (nextR l i : Int) < (l.length : Int) := by omega
    have hci := hcnt i hil
    have hmi := hcont _ (List.getElem_mem hil)
    have lex := hle _ (List.getElem_mem hil)
    have ley := hle _ (List.getElem_mem hjl)
    have erx := ho.ok _ (List.getElem_mem hil)
    have ery := ho.ok _ (List.getElem_mem hjl)
    unfold btwB at hci
    rw [getD_eq hil, getD_eq hjl] at hci
    generalize l[nextR l i] = y at *
    generalize l[i] = x at *
    generalize nextR l i = j at *
    unfold RR.cells at r1 r2
    simp -implicitDefEqProofs only [go_sem, simprocAttr, wa_cond, axC_t, axC_f, s0, s3, s44, s45, s46, d0, d1, d2, d3, aIndexAddr, r1, r2, e1, e2, m1, m2, m3]
    have hTx : ∃ T2, T2 = T ++ [(⟨x.cells, 1, true⟩ : Blk), ⟨y.cells, 1, true⟩] ∧ T2[T.length]? = some ⟨x.cells, 1, true⟩ ∧ T2[T.length + 1]? = some ⟨y.cells, 1, true⟩ ∧ Ext T1 T2 := ⟨_, rfl, by simp, by simp, hE.trans (.app _ _)⟩
    obtain ⟨T2, hT2, c6, c7, hE2⟩ := hTx
    unfold RR.cells at hT2
    rw [← hT2]
    clear hT2 r1 r2
    generalize T.length = p at *
    refine ax_midl (fun s T => s 0 = .slice (some ⟨b0, i0, none⟩) l.length c0 ∧ s 3 = .slice (some ⟨b, 0, none⟩) (2 * l.length) 0 ∧ s 44 = .slice (some ⟨b0, i0, none⟩) l.length c0 ∧ s 45 = .int .i64 (l.length : Nat) ∧ s 46 = .int .i64 (i : Nat) ∧ s 6 = .pointer (some ⟨p, 0, none⟩) ∧ s 8 = .int .i64 1 ∧ Ext T2 T) ?_ ?_
    · refine ax_loopx (fun (q : Nat) s T => s 0 = .slice (some ⟨b0, i0, none⟩) l.length c0 ∧ s 3 = .slice (some ⟨b, 0, none⟩) (2 * l.length) 0 ∧ s 44 = .slice (some ⟨b0, i0, none⟩) l.length c0 ∧ s 45 = .int .i64 (l.length : Nat) ∧ s 46 = .int .i64 (i : Nat) ∧ s 6 = .pointer (some ⟨p, 0, none⟩) ∧ s 7 = .pointer (some ⟨p + 1, 0, none⟩) ∧ s 59 = .slice (some ⟨b, 0, none⟩) (2 * l.length) 0 ∧ s 60 = .int .i64 ((2 * l.length : Nat) : Int) ∧ s 61 = .int .i64 (q : Nat) ∧ q ≤ 2 * l.length ∧ s 8 = .int .i64 ((L.take q).countP (fun m => decide ((x.rot.back.thn m.rot).cmp (x.rot.back.thn y.rot) ≤ 0) && !(decide (m = x)) && !(decide (m = y))) : Nat) ∧ Ext T2 T) (fun q => 2 * l.length - q) 0 ?_ ?_
      · simp -implicitDefEqProofs only [go_sem, simprocAttr, s0, s3, s44, s45, s46, List.countP_nil]
        exact .refl _
      clear s0 s3 s44 s45 s46
      rintro q s T ⟨s0, s3, s44, s45, s46, s6, s7, s59, s60, s61, hq, s8, hE3⟩
      by_cases hql : q < 2 * l.length
      case neg =>
        have : q = 2 * l.length := by omega
        subst this
        have d0 : ¬ ((2 * l.length : Nat) : Int) < ((2 * l.length : Nat) : Int) := by omega
        rw [← hLlen, List.take_length, hci] at s8
        simp -implicitDefEqProofs only [go_sem, simprocAttr, wa_cond, axC_t, axC_f, s0, s3, s44, s45, s46, s6, s7, s8, s60, s61, d0]
        exact hE3
      have hqL : q < L.length := by omega
      have d0 : (q : Int) < ((2 * l.length : Nat) : Int) := by omega
      have d1 : (0 : Int) ≤ (q : Int) := by omega
      have hownT : OwnR T b L := by
        obtain ⟨G, rfl⟩ := hE2.trans hE3
        exact Own.app hown G
      have r1 := (hownT.at (c := 0) (.inl rfl)).rdR hqL
      have m1 : IntKind.i64.wrap ((q : Int) + 1) = ((q + 1 : Nat) : Int) := by rw [w64 (by omega) (by omega)]; rfl
      have lem := hleL _ (List.getElem_mem hqL)
      have erm := hoL.ok _ (List.getElem_mem hqL)
      have htk : L.take (q + 1) = L.take q ++ [L[q]] := by rw [List.take_add_one, List.getElem?_eq_getElem hqL]; rfl
      have hcl : (L.take q).countP (fun m => decide ((x.rot.back.thn m.rot).cmp (x.rot.back.thn y.rot) ≤ 0) && !(decide (m = x)) && !(decide (m = y))) ≤ 24 := by
        refine Nat.le_trans List.countP_le_length ?_
        rw [List.length_take]; omega
      have hc1 : (L.take (q + 1)).countP (fun m => decide ((x.rot.back.thn m.rot).cmp (x.rot.back.thn y.rot) ≤ 0) && !(decide (m = x)) && !(decide (m = y))) = (L.take q).countP (fun m => decide ((x.rot.back.thn m.rot).cmp (x.rot.back.thn y.rot) ≤ 0) && !(decide (m = x)) && !(decide (m = y))) + if (decide ((x.rot.back.thn L[q].rot).cmp (x.rot.back.thn y.rot) ≤ 0) && !(decide (L[q] = x)) && !(decide (L[q] = y))) = true then 1 else 0 := by
        rw [htk, List.countP_append, List.countP_singleton]
      have ob := fun H => BetweenR H (lex.mono (show 64 ≤ 4700 by decide)) lem (ley.mono (show 64 ≤ 4700 by decide)) (by decide)
      rw [erx, ery, erm] at ob
      simp only [ne_eq, not_true_eq_false, or_self, if_false] at ob
      obtain ⟨n', hn'⟩ : ∃ n', (L.take (q + 1)).countP (fun m => decide ((x.rot.back.thn m.rot).cmp (x.rot.back.thn y.rot) ≤ 0) && !(decide (m = x)) && !(decide (m = y))) = n' := ⟨_, rfl⟩
      rw [hn'] at hc1
      generalize (L.take q).countP (fun m => decide ((x.rot.back.thn m.rot).cmp (x.rot.back.thn y.rot) ≤ 0) && !(decide (m = x)) && !(decide (m = y))) = n at *
      generalize L[q] = m at *
      have q1 := ne26 m x
      have q2 := ne26 m y
      have c6' := hE3.get c6
      have c7' := hE3.get c7
      have rx := fun G => rd_more (rd_six c6') G
      have ry := fun G => rd_more (rd_six c7') G
      have m2 : IntKind.i64.wrap ((n : Int) + 1) = ((n + 1 : Nat) : Int) := by rw [w64 (by omega) (by omega)]; rfl
      clear htk
      generalize decide ((x.rot.back.thn m.rot).cmp (x.rot.back.thn y.rot) ≤ 0) = t at *
      generalize decide (m = x) = tx at *
      generalize decide (m = y) = ty at *
      simp only [Nat.zero_add] at r1
      unfold RR.cells at r1 rx ry
      unfold RR.val rV at ob
      simp -implicitDefEqProofs only [go_sem, simprocAttr, wa_cond, axC_t, axC_f, s0, s3, s44, s45, s46, s6, s7, s59, s60, s61, s8, d0, d1, aIndexAddr, r1, rx, ry]
      refine wl_callV _ (by simp -implicitDefEqProofs only [go_sem, simprocAttr]) (ob _) ?_
      cases t <;> cases tx <;> cases ty
      all_goals simp only [Bool.false_and, Bool.true_and, Bool.not_true, Bool.not_false, Bool.and_true, Bool.and_false, if_true, if_false, Bool.false_eq_true, Nat.add_zero] at hc1
      all_goals simp -implicitDefEqProofs only [go_sem, simprocAttr, wa_cond, axC_t, axC_f, s0, s3, s44, s45, s46, s6, s7, s59, s60, s61, s8, rx, ry, q1, q2, m1, m2]
      all_goals exact ⟨q + 1, ⟨rfl, by omega, by rw [hn', hc1], hE3.trans (.app _ _)⟩, by omega⟩
    clear s0 s3 s44 s45 s46
    rintro s T ⟨s0, s3, s44, s45, s46, s6, s8, hE3⟩
    have rx := rd_six (hE3.get c6)
    have hrT := hr.ext (hE2.trans hE3)
    have oc := containsR T (r := x) hrT (by omega)
    rw [hmi] at oc
    unfold RR.cells at rx
    unfold RR.val rV at oc
    simp -implicitDefEqProofs only [go_sem, simprocAttr, s0, s3, s44, s45, s46, s6, s8, rx]
    refine wl_callV _ (by simp -implicitDefEqProofs only [go_sem, simprocAttr]) oc ?_
    simp -implicitDefEqProofs only [go_sem, simprocAttr, wa_cond, axC_t, axC_f, s0, s3, s44, s45, s46, s6, s8, rx, m1]
    exact ⟨i + 1, ⟨rfl, by omega, hE2.trans hE3⟩, by omega⟩
  rintro s T ⟨_, hE⟩
  simp -implicitDefEqProofs only [go_sem, simprocAttr]
  refine wl_callV _ (by simp -implicitDefEqProofs only [go_sem, simprocAttr, mkI, iV, mkQ, qV, fV, ofV, rV, mkR]) (aw _) ?_
  simp -implicitDefEqProofs only [go_sem, simprocAttr, mkI, iV, mkQ, qV, fV, ofV, rV, mkR]
  simp -implicitDefEqProofs only [go_sem, simprocAttr, res6]
  exact hE1.trans hE
end Go.Proofs.YthhmkaikopdmjaaGreat
namespace Go.Proofs.YthhmkaikopdmjaaGreat
open Go Go.Fw Go.ChangeShapes Go.WideShapes Go.ChangeAt Go.RowKit Go.Deep
set_option linter.unusedVariables false
set_option maxRecDepth 100000
theorem own : ownKnob Tryz.prog.godebug = none := by kernel_rfl
theorem laid : laidOutB Tryz.prog = true := by kernel_rfl
theorem cells24 : Tryz.prog.cellsOf 24 = 3 := by kernel_rfl
theorem cells26 : Tryz.prog.cellsOf 26 = 6 := by kernel_rfl
theorem cells4 : Tryz.prog.cellsOf 4 = 1 := by kernel_rfl
theorem cells9 : Tryz.prog.cellsOf 9 = 1 := by kernel_rfl
theorem under4 : Tryz.prog.underlying 4 = some .bool := Tryz.underlying4
theorem under9 : Tryz.prog.underlying 9 = some .string := Tryz.underlying9
section
variable {H : Type} {enc : TypeId × Value → H} {w : World} {base : Nat} {spare : Nat → Bool} {held : Bool}
theorem open_rat {n : Nat} {cs : List Value} {x : DataW H × List MemPlace} (h : DataW.trod enc Tryz.prog w base spare held n 24 cs = some x) : ∃ g a b, cs = [.bool g, .string (bs a), .string (bs b)] := by
  obtain ⟨xs, m, _, _, hl, _, hf⟩ := DataW.trod_struct Tryz.underlying24 h
  rw [cells24] at hl
  match cs, hl with
  | [v0, v1, v2], _ =>
    have f0 : DataW.trod enc Tryz.prog w base spare held m 4 (([v0, v1, v2].drop 0).take (Tryz.prog.cellsOf 4)) = xs[0]? := hf 0 _ rfl
    have f1 : DataW.trod enc Tryz.prog w base spare held m 9 (([v0, v1, v2].drop 1).take (Tryz.prog.cellsOf 9)) = xs[1]? := hf 1 _ rfl
    have f2 : DataW.trod enc Tryz.prog w base spare held m 9 (([v0, v1, v2].drop 2).take (Tryz.prog.cellsOf 9)) = xs[2]? := hf 2 _ rfl
    rw [cells4] at f0
    rw [cells9] at f1 f2
    simp only [List.drop_zero, List.drop_succ_cons, List.take_succ_cons, List.take_zero] at f0 f1 f2
    have e0 : ∃ y, DataW.trod enc Tryz.prog w base spare held m 4 [v0] = some y := by rw [f0]; exact ⟨_, List.getElem?_eq_getElem (by simp_all)⟩
    have e1 : ∃ y, DataW.trod enc Tryz.prog w base spare held m 9 [v1] = some y := by rw [f1]; exact ⟨_, List.getElem?_eq_getElem (by simp_all)⟩
    have e2 : ∃ y, DataW.trod enc Tryz.prog w base spare held m 9 [v2] = some y := by rw [f2]; exact ⟨_, List.getElem?_eq_getElem (by simp_all)⟩
    obtain ⟨y0, e0⟩ := e0
    obtain ⟨y1, e1⟩ := e1
    obtain ⟨y2, e2⟩ := e2
    obtain ⟨g, h0, _⟩ := DataW.trod_bool under4 e0
    obtain ⟨s1, h1, _, _⟩ := DataW.trod_string under9 e1
    obtain ⟨s2, h2, _, _⟩ := DataW.trod_string under9 e2
    injection h0 with h0
    injection h1 with h1
    injection h2 with h2
    subst h0 h1 h2
    exact ⟨g, bl s1, bl s2, by rw [bs_bl, bs_bl]⟩
theorem open_rot {n : Nat} {cs : List Value} {x : DataW H × List MemPlace} (h : DataW.trod enc Tryz.prog w base spare held n 26 cs = some x) : ∃ r : RR, cs = r.cells := by
  obtain ⟨xs, m, _, _, hl, hxl, hf⟩ := DataW.trod_struct Tryz.underlying26 h
  rw [cells26] at hl
  match cs, hl with
  | [v0, v1, v2, v3, v4, v5], _ =>
    have f0 : DataW.trod enc Tryz.prog w base spare held m 24 (([v0, v1, v2, v3, v4, v5].drop 0).take (Tryz.prog.cellsOf 24)) = xs[0]? := hf 0 _ rfl
    have f1 : DataW.trod enc Tryz.prog w base spare held m 24 (([v0, v1, v2, v3, v4, v5].drop 3).take (Tryz.prog.cellsOf 24)) = xs[1]? := hf 1 _ rfl
    rw [cells24] at f0 f1
    simp only [List.drop_zero, List.drop_succ_cons, List.take_succ_cons, List.take_zero] at f0 f1
    have e0 : ∃ y, DataW.trod enc Tryz.prog w base spare held m 24 [v0, v1, v2] = some y := by rw [f0]; exact ⟨_, List.getElem?_eq_getElem (by simp_all)⟩
    have e1 : ∃ y, DataW.trod enc Tryz.prog w base spare held m 24 [v3, v4, v5] = some y := by rw [f1]; exact ⟨_, List.getElem?_eq_getElem (by simp_all)⟩
    obtain ⟨y0, e0⟩ := e0
    obtain ⟨y1, e1⟩ := e1
    obtain ⟨g, a, b, h0⟩ := open_rat e0
    obtain ⟨g', a', b', h1⟩ := open_rat e1
    simp only [List.cons.injEq, and_true] at h0 h1
    obtain ⟨rfl, rfl, rfl⟩ := h0
    obtain ⟨rfl, rfl, rfl⟩ := h1
    exact ⟨⟨g, a, b, g', a', b'⟩, rfl⟩
end
theorem vr_cells {ρ : Inj} (r : RR) : ∀ (i : Nat) (v : Value), r.cells[i]? = some v → VR ρ v v := by
  intro i v h
  unfold RR.cells at h
  match i with
  | 0 => cases h; exact .bool _
  | 1 => cases h; exact .str _
  | 2 => cases h; exact .str _
  | 3 => cases h; exact .bool _
  | 4 => cases h; exact .str _
  | 5 => cases h; exact .str _
  | i + 6 => cases h
def Safe (ρ : Inj) (H : Heap) : Prop := ∀ b p B, ρ b = some (.lies p) → H[b]? = some B → B.own = false
theorem below_of {ρ ρ' : Inj} {H H' : Heap} {W W' : World} (hs : Safe ρ H) (s : Step ρ H W ρ' H' W') : Below W.heap.size W W' :=
  ⟨s.frame.os, s.frame.tape, s.frame.output, s.frame.size, fun k hk => s.frame.block k hk (fun ⟨b, p, B, h1, h2, h3, _⟩ => by rw [hs b p B h1 h2] at h3; cases h3)⟩
theorem mem_nil (W : World) : Mem (fun _ => Option.none) [] W :=
  ⟨(fun b h => absurd rfl h), (fun b h => by cases h), (fun b p h => by cases h), (fun b b' p p' B _ h => by cases h)⟩
theorem flat_get : ∀ {l : List RR} {i : Nat} {v : Value}, (l.map RR.cells).flatten[i]? = some v → ∃ j, ∃ h : j < l.length, ∃ q, q < 6 ∧ i = j * 6 + q ∧ l[j].cells[q]? = some v := by
  intro l
  induction l with
  | nil => intro i v h; simp at h
  | cons r l ih =>
    intro i v h
    simp only [List.map_cons, List.flatten_cons] at h
    by_cases hi : i < 6
    · rw [List.getElem?_append_left (by rw [RR.cells_len]; exact hi)] at h
      exact ⟨0, by simp, i, hi, by omega, h⟩
    · rw [List.getElem?_append_right (by rw [RR.cells_len]; omega), RR.cells_len] at h
      obtain ⟨j, hj, q, hq, e, hv⟩ := ih h
      exact ⟨j + 1, by simpa using hj, q, hq, by omega, hv⟩
theorem choose_below {n : Nat} {α : Type} (d : α) {p : Nat → α → Prop} (h : ∀ i, i < n → ∃ a, p i a) : ∃ f : Nat → α, ∀ i, i < n → p i (f i) :=
  ⟨fun i => if hi : i < n then (h i hi).choose else d, fun i hi => by simp only [dif_pos hi]; exact (h i hi).choose_spec⟩
theorem arg_list {H : Type} {enc : TypeId × Value → H} {W : World} {base : Nat} {held : Bool} {r : Reach} {b0 : Nat} {v : Value} {d : DataW H} {ps : List MemPlace} (hv : Value.okWide Tryz.prog W r b0 22 v)
    (h : DataW.Trod enc Tryz.prog W base (fun _ => true) held 22 v d ps) : ∃ (ρ : Inj) (T : Heap) (u : Value) (l : List RR), Mem ρ T W ∧ Safe ρ T ∧ VR ρ u v ∧ RL T u l := by
  obtain ⟨n, h⟩ := h
  obtain ⟨a, len, cap, rfl⟩ := okWide_slice Tryz.underlying22 hv
  rcases open_slice Tryz.underlying22 h with ⟨hcs, _⟩ | ⟨a, len, cap, m, n, D, Pl, hcs, hb, hl, hm, hmm, _, hx⟩
  · simp [Value.cells] at hcs
    obtain ⟨rfl, rfl, rfl⟩ := hcs
    exact ⟨_, [], .slice none 0 0, [], mem_nil W, (fun b p B h => by cases h), .nilslice, .inl ⟨.inl rfl, rfl⟩⟩
  · simp [Value.cells] at hcs
    obtain ⟨rfl, rfl, rfl⟩ := hcs
    simp only [if_true] at hmm
    subst hmm
    rw [cells26] at hx
    by_cases hc : m = 0
    · subst hc
      obtain rfl : len = 0 := by omega
      refine ⟨fun b => if b = 0 then some .dead else none, [deadBlk], .slice (some ⟨0, 0, none⟩) 0 0, [], ⟨fun b h => ?_, fun b h => ?_, fun b p h => ?_, fun b b' p p' B _ h => ?_⟩, fun b p B h => ?_, .sliceNone _ _ _ (by simp), .inl ⟨.inr ⟨_, _, _, rfl⟩, rfl⟩⟩
      · by_cases h0 : b = 0
        · subst h0; simp
        · simp [h0] at h
      · by_cases h0 : b = 0
        · subst h0; rfl
        · simp [h0] at h
      · by_cases h0 : b = 0 <;> simp [h0] at h
      · by_cases h0 : b = 0 <;> simp [h0] at h
      · by_cases h0 : b = 0 <;> simp [h0] at h
    · obtain ⟨f, hf⟩ := choose_below (⟨false, [], [], false, [], []⟩ : RR) (p := fun i r => W.cells? base (a.add (i * 6)) 6 = some r.cells) (fun i hi => by
        obtain ⟨cs', h1, h2⟩ := hx i hi
        obtain ⟨r, hr⟩ := open_rot h2
        exact ⟨r, by rw [h1, hr]⟩)
      have hcell : ∀ j, j < m → ∀ q, q < 6 → W.cell? (a.add (j * 6 + q)) = (f j).cells[q]? := fun j hj q hq => by
        obtain ⟨_, _, h3⟩ := World.cells?_some (hf j hj)
        have := h3 q hq
        rw [← this, add_add]
      have h00 := hcell 0 (by omega) 0 (by decide)
      have hsp : a.spot = none ∧ a.block < W.heap.size := by
        simp only [Nat.zero_mul, Nat.zero_add] at h00
        have e : (f 0).cells[0]? = some (.bool (f 0).g) := rfl
        rw [e] at h00
        unfold World.cell? at h00
        split at h00
        · rename_i c _ _ hb
          constructor
          · by_cases h1 : a.spot.isSome = true
            · have : (a.add 0).spot = a.spot := rfl
              rw [this, if_pos h1] at h00; cases h00
            · simpa using h1
          · have : (a.add 0).block = a.block := rfl
            rw [this] at hb
            exact (Array.getElem?_eq_some_iff.1 hb).1
        · cases h00
      obtain ⟨blk, off, spot⟩ := a
      simp only at hsp
      obtain ⟨rfl, hlt⟩ := hsp
      have hll : ((List.range len).map f).length = len := by simp
      have hfl : (((List.range len).map f).map RR.cells).flatten.length = len * 6 := by
        rw [flatten_len (RR.cells_all _)]; simp; omega
      refine ⟨fun b => if b = 0 then some (.lies ⟨blk, off, len * 6, 6⟩) else none, [⟨(((List.range len).map f).map RR.cells).flatten, 6, false⟩], .slice (some ⟨0, 0, none⟩) len m, (List.range len).map f,
        ⟨fun b h => ?_, fun b h => ?_, fun b p h => ?_, fun b b' p p' B hne h h' => ?_⟩, fun b p B h hB => ?_, ?_, ?_⟩
      · by_cases h0 : b = 0
        · subst h0; simp
        · simp [h0] at h
      · by_cases h0 : b = 0 <;> simp [h0] at h
      · by_cases h0 : b = 0
        · subst h0
          simp only [if_true, Option.some.injEq, Spot.lies.injEq] at h
          subst h
          refine ⟨_, rfl, hlt, rfl, (show 0 < 6 by decide), by rw [hfl]; exact Nat.le_refl _, fun i v hv => ?_, fun h => by cases h⟩
          obtain ⟨j, hj, q, hq, rfl, hv2⟩ := flat_get hv
          rw [hll] at hj
          have := hcell j (by omega) q hq
          simp only [List.getElem_map, List.getElem_range] at hv2
          rw [hv2, add_plain] at this
          exact ⟨v, this, vr_cells _ _ _ hv2⟩
        · simp [h0] at h
      · by_cases h0 : b = 0
        · by_cases h1 : b' = 0
          · exact absurd (h0.trans h1.symm) hne
          · simp [h1] at h'
        · simp [h0] at h
      · by_cases h0 : b = 0
        · subst h0; cases hB; rfl
        · simp [h0] at h
      · have := VR.slice (ρ := fun b => if b = 0 then some (.lies ⟨blk, off, len * 6, 6⟩) else none) 0 0 len m ⟨blk, off, len * 6, 6⟩ m rfl hl (.inr rfl) (fun h => absurd h hc)
        simpa using this
      · refine .inr ⟨0, 0, m, by simp, .inr (by simpa using hl), by decide, RR.cells_all _, ⟨_, rfl, rfl, ?_, ?_⟩, RR.cells_ok _⟩
        · rw [hfl]; simp; omega
        · simp only [List.drop_zero, List.length_map, List.length_range]
          exact List.take_of_length_le (by rw [hfl]; omega)
end Go.Proofs.YthhmkaikopdmjaaGreat
