/- slices: compare, Equal, Clone, Check, check; slices: Clone, Check, check; slices: check, BinarySearchFunc, Find; slices: Find, List. Conditions: none. -/
import Derived.Test.YthhmkaikopdmjaaGreatMm
import Derived.Test.YthhmkaikopdmjaaGreatFc
set_option linter.unusedSimpArgs false
set_option linter.unusedVariables false
set_option maxRecDepth 8000
namespace Go.Proofs.YthhmkaikopdmjaaGreat
open Go Go.Fw

def cmpS (a b : RR) : Int := if a.err ≠ 0 ∨ b.err ≠ 0 then 0 else a.rot.cmp b.rot
theorem compareS (H : Heap) {a b : RR} {k : Nat} (ha : a.le k) (hb : b.le k) (hk : k ≤ 19000) : Sim Tryz.prog 54 #[a.val, b.val] H (.int .i64 (cmpS a b)) H := by
  refine flat_ex rfl ?_
  obtain ⟨e, o1⟩ : ∃ e : Int, ∀ H, Sim Tryz.prog 109 #[a.val, b.val] H (.tuple #[.int .i64 (cmpS a b), .int .i64 e]) H := by
    unfold cmpS
    by_cases h : a.err ≠ 0 ∨ b.err ≠ 0
    · refine ⟨1, fun H => ?_⟩
      have := CompareR H ha hb hk
      rw [if_pos h] at this ⊢
      exact this
    · refine ⟨0, fun H => ?_⟩
      have := CompareR H ha hb hk
      rw [if_neg h] at this ⊢
      exact this
  generalize cmpS a b = z at *
  unfold RR.val rV at o1 ⊢
  refine sim_ex tok mixed Tryz.func54 rfl (by kernel_rfl) (by kernel_rfl) (by simp only [Tryz.ntmps54, List.size_toArray, List.length_cons, List.length_nil]; omega) ?_
  simp -implicitDefEqProofs only [go_sem, Nat.reduceAdd, Nat.reduceSub, Nat.reduceMul, Nat.reduceLT, Nat.reduceLeDiff, Nat.reduceEqDiff, Nat.reduceBEq, Nat.reduceGT, Nat.reduceMod, Nat.reduceDiv, ↓reduceIte, reduceCtorEq, Int.reduceLE, Int.reduceLT, Int.reduceToNat, Int.reduceEq, Int.reduceNeg, Int.reduceAdd, Int.reduceSub, Int.reduceMul, mkI, iV, mkQ, qV, fV, ofV, rV, mkR]
  refine wl_callV _ (by simp -implicitDefEqProofs only [go_sem, Nat.reduceAdd, Nat.reduceSub, Nat.reduceMul, Nat.reduceLT, Nat.reduceLeDiff, Nat.reduceEqDiff, Nat.reduceBEq, Nat.reduceGT, Nat.reduceMod, Nat.reduceDiv, ↓reduceIte, reduceCtorEq, Int.reduceLE, Int.reduceLT, Int.reduceToNat, Int.reduceEq, Int.reduceNeg, Int.reduceAdd, Int.reduceSub, Int.reduceMul, mkI, iV, mkQ, qV, fV, ofV, rV, mkR]) (o1 _) ?_
  simp -implicitDefEqProofs only [go_sem, Nat.reduceAdd, Nat.reduceSub, Nat.reduceMul, Nat.reduceLT, Nat.reduceLeDiff, Nat.reduceEqDiff, Nat.reduceBEq, Nat.reduceGT, Nat.reduceMod, Nat.reduceDiv, ↓reduceIte, reduceCtorEq, Int.reduceLE, Int.reduceLT, Int.reduceToNat, Int.reduceEq, Int.reduceNeg, Int.reduceAdd, Int.reduceSub, Int.reduceMul, mkI, iV, mkQ, qV, fV, ofV, rV, mkR]
  simp -implicitDefEqProofs only [go_sem, Nat.reduceAdd, Nat.reduceSub, Nat.reduceMul, Nat.reduceLT, Nat.reduceLeDiff, Nat.reduceEqDiff, Nat.reduceBEq, Nat.reduceGT, Nat.reduceMod, Nat.reduceDiv, ↓reduceIte, reduceCtorEq, Int.reduceLE, Int.reduceLT, Int.reduceToNat, Int.reduceEq, Int.reduceNeg, Int.reduceAdd, Int.reduceSub, Int.reduceMul, mkI, iV, mkQ, qV, fV, ofV, rV, mkR, res54]
  first | exact .app _ _ | exact ⟨.app _ _, rfl⟩ | exact .refl _ | exact ⟨.refl _, rfl⟩

theorem neq26 (a b : RR) : aBin tt .neq 26 (.agg #[.bool a.g, .string (bs a.n), .string (bs a.d), .bool a.g', .string (bs a.n'), .string (bs a.d')]) (.agg #[.bool b.g, .string (bs b.n), .string (bs b.d), .bool b.g', .string (bs b.n'), .string (bs b.d')]) = some (.bool (decide (¬ a = b))) := by
  have h := eq26 a b
  have e : ∀ x y c, aBin tt .eql 26 (.agg x) (.agg y) = some (.bool c) → aBin tt .neq 26 (.agg x) (.agg y) = some (.bool !c) := by
    intro x y c h
    unfold aBin at h ⊢
    simp only [Option.map_eq_some_iff] at h ⊢
    obtain ⟨w, h1, h2⟩ := h
    injection h2 with h2
    exact ⟨w, h1, by rw [h2]⟩
  rw [e _ _ _ h]
  simp [decide_not]

theorem equalR (H : Heap) {v w : Value} {l m : List RR} (hv : RL H v l) (hw : RL H w m) (hl : l.length ≤ 1000000) : Sim Tryz.prog 16 #[v, w] H (.bool (decide (l = m))) H := by
  refine flat_ex rfl ?_
  have e1 := hv.len (tt := tt) tt22
  have e2 := hw.len (tt := tt) tt22
  refine sim_ex tok mixed Tryz.func16 rfl (by kernel_rfl) (by kernel_rfl) (by simp only [Tryz.ntmps16, List.size_toArray, List.length_cons, List.length_nil]; omega) ?_
  by_cases hlm : l.length = m.length
  case neg =>
    have h1 : ¬ (l.length : Int) = (m.length : Int) := by omega
    have h2 : ¬ l = m := fun h => hlm (by rw [h])
    rw [decide_eq_false h2]
    simp -implicitDefEqProofs only [go_sem, Nat.reduceAdd, Nat.reduceSub, Nat.reduceMul, Nat.reduceLT, Nat.reduceLeDiff, Nat.reduceEqDiff, Nat.reduceBEq, Nat.reduceGT, Nat.reduceMod, Nat.reduceDiv, ↓reduceIte, reduceCtorEq, Int.reduceLE, Int.reduceLT, Int.reduceToNat, Int.reduceEq, Int.reduceNeg, Int.reduceAdd, Int.reduceSub, Int.reduceMul, wa_cond, axC_t, axC_f, e1, e2, h1, res16]
    exact .refl _
  have h1 : (l.length : Int) = (m.length : Int) := by omega
  simp -implicitDefEqProofs only [go_sem, Nat.reduceAdd, Nat.reduceSub, Nat.reduceMul, Nat.reduceLT, Nat.reduceLeDiff, Nat.reduceEqDiff, Nat.reduceBEq, Nat.reduceGT, Nat.reduceMod, Nat.reduceDiv, ↓reduceIte, reduceCtorEq, Int.reduceLE, Int.reduceLT, Int.reduceToNat, Int.reduceEq, Int.reduceNeg, Int.reduceAdd, Int.reduceSub, Int.reduceMul, wa_cond, axC_t, axC_f, e1, e2, h1]
  refine ax_loopx (fun (i : Nat) s T => s 0 = v ∧ s 1 = w ∧ s 12 = .int .i64 (m.length : Nat) ∧ s 13 = .int .i64 (i : Nat) ∧ i ≤ m.length ∧ l.take i = m.take i ∧ T = H) (fun i => m.length - i) 0 ?_ ?_
  · simp -implicitDefEqProofs only [go_sem, Nat.reduceAdd, Nat.reduceSub, Nat.reduceMul, Nat.reduceLT, Nat.reduceLeDiff, Nat.reduceEqDiff, Nat.reduceBEq, Nat.reduceGT, Nat.reduceMod, Nat.reduceDiv, ↓reduceIte, reduceCtorEq, Int.reduceLE, Int.reduceLT, Int.reduceToNat, Int.reduceEq, Int.reduceNeg, Int.reduceAdd, Int.reduceSub, Int.reduceMul]
  rintro i s T ⟨s0, s1, s12, s13, hi, ht, hT⟩
  subst T
  simp -implicitDefEqProofs only [go_sem, Nat.reduceAdd, Nat.reduceSub, Nat.reduceMul, Nat.reduceLT, Nat.reduceLeDiff, Nat.reduceEqDiff, Nat.reduceBEq, Nat.reduceGT, Nat.reduceMod, Nat.reduceDiv, ↓reduceIte, reduceCtorEq, Int.reduceLE, Int.reduceLT, Int.reduceToNat, Int.reduceEq, Int.reduceNeg, Int.reduceAdd, Int.reduceSub, Int.reduceMul, s12, s13]
  refine ax_cond2 ?_
  simp only [ev_tmp, ev_const, ev_func, upd_at, put_some, put_none, bndB_bool, Nat.reduceEqDiff, if_true, if_false, ↓reduceIte, reduceCtorEq]
  refine ⟨fun hc0 => have hlt := of_decide_eq_true hc0; ?_, fun hc0 => have hlt := of_decide_eq_false hc0; ?_⟩
  · have hil : i < m.length := by omega
    obtain ⟨b, i0, c, rfl, hA⟩ := hv.at (by rintro rfl; simp at hlm; omega)
    obtain ⟨b', i0', c', rfl, hB⟩ := hw.at (by rintro rfl; simp at hil)
    have r1 := hA.rdR (j := i) (by omega)
    have r2 := hB.rdR (j := i) hil
    have g1 := List.take_append_getElem (l := l) (i := i) (by omega)
    have g2 := List.take_append_getElem (l := m) (i := i) hil
    have hne : ¬ l[i]'(by omega) = m[i] → ¬ l = m := fun h e => h (by subst e; rfl)
    generalize l[i]'(by omega) = x at *
    generalize m[i] = y at *
    unfold RR.cells at r1 r2
    have hq := neq26 x y
    have hnn : (0 : Int) ≤ (i : Int) := by omega
    have hlt1 : (i : Int) < (l.length : Int) := by omega
    have w1 : IntKind.i64.wrap ((i : Int) + 1) = ((i + 1 : Nat) : Int) := by rw [w64 (by omega) (by omega)]; rfl
    simp -implicitDefEqProofs only [go_sem, Nat.reduceAdd, Nat.reduceSub, Nat.reduceMul, Nat.reduceLT, Nat.reduceLeDiff, Nat.reduceEqDiff, Nat.reduceBEq, Nat.reduceGT, Nat.reduceMod, Nat.reduceDiv, ↓reduceIte, reduceCtorEq, Int.reduceLE, Int.reduceLT, Int.reduceToNat, Int.reduceEq, Int.reduceNeg, Int.reduceAdd, Int.reduceSub, Int.reduceMul, s0, s1, s13]
    refine ax_quiet (by kernel_rfl) ?_
    by_cases hxy : x = y
    · rw [decide_eq_false (fun h => h hxy)] at hq
      simp -implicitDefEqProofs only [go_sem, Nat.reduceAdd, Nat.reduceSub, Nat.reduceMul, Nat.reduceLT, Nat.reduceLeDiff, Nat.reduceEqDiff, Nat.reduceBEq, Nat.reduceGT, Nat.reduceMod, Nat.reduceDiv, ↓reduceIte, reduceCtorEq, Int.reduceLE, Int.reduceLT, Int.reduceToNat, Int.reduceEq, Int.reduceNeg, Int.reduceAdd, Int.reduceSub, Int.reduceMul, wa_cond, axC_t, axC_f, s0, s1, s12, s13, aIndexAddr, hlt, hlt1, hnn, r1, r2, hq, w1]
      refine ⟨i + 1, ⟨rfl, by omega, ?_⟩, by omega⟩
      rw [← g1, ← g2, ht, hxy]
    · rw [decide_eq_true hxy] at hq
      rw [decide_eq_false (hne hxy)]
      simp -implicitDefEqProofs only [go_sem, Nat.reduceAdd, Nat.reduceSub, Nat.reduceMul, Nat.reduceLT, Nat.reduceLeDiff, Nat.reduceEqDiff, Nat.reduceBEq, Nat.reduceGT, Nat.reduceMod, Nat.reduceDiv, ↓reduceIte, reduceCtorEq, Int.reduceLE, Int.reduceLT, Int.reduceToNat, Int.reduceEq, Int.reduceNeg, Int.reduceAdd, Int.reduceSub, Int.reduceMul, wa_cond, axC_t, axC_f, s0, s1, s12, s13, aIndexAddr, hlt, hlt1, hnn, r1, r2, hq, res16]
      exact .refl _
  · have hil : i = m.length := by omega
    subst hil
    rw [List.take_length, ← hlm, List.take_length] at ht
    rw [decide_eq_true ht]
    simp -implicitDefEqProofs only [go_sem, Nat.reduceAdd, Nat.reduceSub, Nat.reduceMul, Nat.reduceLT, Nat.reduceLeDiff, Nat.reduceEqDiff, Nat.reduceBEq, Nat.reduceGT, Nat.reduceMod, Nat.reduceDiv, ↓reduceIte, reduceCtorEq, Int.reduceLE, Int.reduceLT, Int.reduceToNat, Int.reduceEq, Int.reduceNeg, Int.reduceAdd, Int.reduceSub, Int.reduceMul, res16]
    exact .refl _
end Go.Proofs.YthhmkaikopdmjaaGreat
set_option linter.unusedSimpArgs false
set_option linter.unusedVariables false
set_option maxRecDepth 8000
namespace Go.Proofs.YthhmkaikopdmjaaGreat
open Go Go.Fw

theorem build22_0 (H : Heap) : aBuildSlice tt H 22 0 [] = some (.slice (some ⟨H.length, 0, none⟩) 0 0, H ++ [⟨[], 6, true⟩]) := rfl
theorem eql22_some (a : Addr) (n c : Nat) : aBin tt .eql 22 (.slice (some a) n c) (.slice none 0 0) = some (.bool false) := rfl
theorem eql22_none : aBin tt .eql 22 (.slice none 0 0) (.slice none 0 0) = some (.bool true) := rfl

theorem own_nil (T : Heap) : Own 6 (T ++ [⟨[], 6, true⟩]) T.length [] := ⟨by decide, (fun x h => by cases h), by simp, rfl⟩
/-- a copy: a row of its own, or nothing -/
theorem cloneR (H : Heap) {b i c : Nat} {l : List RR} (hv : ElAt 6 H b i c (l.map RR.cells)) (h0 : l ≠ []) (hl : l.length ≤ 1000000) :
    ∃ w H', Sim Tryz.prog 31 #[.slice (some ⟨b, i, none⟩) l.length c] H w H' ∧ Ext H H' ∧ ∃ b', H.length ≤ b' ∧ w = .slice (some ⟨b', 0, none⟩) l.length 0 ∧ OwnR H' b' l := by
  have happ := append_own (T := H ++ [⟨[], 6, true⟩]) (l := []) tt22 tt26 rfl (by decide) (by decide) (own_nil H) (hv.app [⟨[], 6, true⟩]) (by simpa using h0) (by simp; omega)
  simp only [List.length_nil, List.length_map, Nat.zero_add, List.nil_append, List.length_append, List.length_cons] at happ
  refine sim_ex tok mixed Tryz.func31 rfl (by kernel_rfl) (by kernel_rfl) (by simp only [Tryz.ntmps31, List.size_toArray, List.length_cons, List.length_nil]; omega) ?_
  simp -implicitDefEqProofs only [go_sem, Nat.reduceAdd, Nat.reduceSub, Nat.reduceMul, Nat.reduceLT, Nat.reduceLeDiff, Nat.reduceEqDiff, Nat.reduceBEq, Nat.reduceGT, Nat.reduceMod, Nat.reduceDiv, ↓reduceIte, reduceCtorEq, Int.reduceLE, Int.reduceLT, Int.reduceToNat, Int.reduceEq, Int.reduceNeg, Int.reduceAdd, Int.reduceSub, Int.reduceMul, wa_cond, axC_t, axC_f, eql22_some, build22_0, happ, res31]
  refine ⟨?_, H.length + 1, by omega, rfl, ?_⟩
  · exact ((Ext.app H [(⟨[], 6, true⟩ : Blk)]).set (Nat.le_refl _) _).trans (.app _ _)
  · have := OwnR.new ((H ++ [(⟨[], 6, true⟩ : Blk)]).set H.length deadBlk) l
    simpa using this

def chkFrom : Option RR → List RR → Int
  | _, [] => 0
  | p, r :: l => if r.err ≠ 0 then r.err else if (match p with | some p => decide (cmpS r p ≤ 0) | none => false) = true then 8 else chkFrom (some r) l
def chkR (l : List RR) : Int := if l = [] then 11 else if 64 < l.length then 4 else chkFrom none l
def prevR (l : List RR) (i : Nat) : Option RR := if i = 0 then none else l[i - 1]?

theorem CheckS (H : Heap) {v : Value} {l : List RR} {k : Nat} (hv : RL H v l) (hle : ∀ r ∈ l, r.le k) (hk : k ≤ 19000) (hl : l.length ≤ 1000000) : Sim Tryz.prog 17 #[v] H (.int .i64 (chkR l)) H := by
  refine flat_ex rfl ?_
  have e1 := hv.len (tt := tt) tt22
  unfold chkR
  refine sim_ex tok mixed Tryz.func17 rfl (by kernel_rfl) (by kernel_rfl) (by simp only [Tryz.ntmps17, List.size_toArray, List.length_cons, List.length_nil]; omega) ?_
  by_cases h0 : l = []
  · rw [if_pos h0]
    have h1 : (l.length : Int) = 0 := by rw [h0]; rfl
    simp -implicitDefEqProofs only [go_sem, Nat.reduceAdd, Nat.reduceSub, Nat.reduceMul, Nat.reduceLT, Nat.reduceLeDiff, Nat.reduceEqDiff, Nat.reduceBEq, Nat.reduceGT, Nat.reduceMod, Nat.reduceDiv, ↓reduceIte, reduceCtorEq, Int.reduceLE, Int.reduceLT, Int.reduceToNat, Int.reduceEq, Int.reduceNeg, Int.reduceAdd, Int.reduceSub, Int.reduceMul, wa_cond, axC_t, axC_f, e1, h1, res17]
    exact .refl _
  rw [if_neg h0]
  have hl0 := List.length_pos_iff.2 h0
  have h1 : ¬ (l.length : Int) = 0 := by omega
  by_cases h64 : 64 < l.length
  · rw [if_pos h64]
    have h2 : (64 : Int) < (l.length : Int) := by omega
    simp -implicitDefEqProofs only [go_sem, Nat.reduceAdd, Nat.reduceSub, Nat.reduceMul, Nat.reduceLT, Nat.reduceLeDiff, Nat.reduceEqDiff, Nat.reduceBEq, Nat.reduceGT, Nat.reduceMod, Nat.reduceDiv, ↓reduceIte, reduceCtorEq, Int.reduceLE, Int.reduceLT, Int.reduceToNat, Int.reduceEq, Int.reduceNeg, Int.reduceAdd, Int.reduceSub, Int.reduceMul, wa_cond, axC_t, axC_f, e1, h1, h2, res17]
    exact .refl _
  rw [if_neg h64]
  have h2 : ¬ (64 : Int) < (l.length : Int) := by omega
  simp -implicitDefEqProofs only [go_sem, Nat.reduceAdd, Nat.reduceSub, Nat.reduceMul, Nat.reduceLT, Nat.reduceLeDiff, Nat.reduceEqDiff, Nat.reduceBEq, Nat.reduceGT, Nat.reduceMod, Nat.reduceDiv, ↓reduceIte, reduceCtorEq, Int.reduceLE, Int.reduceLT, Int.reduceToNat, Int.reduceEq, Int.reduceNeg, Int.reduceAdd, Int.reduceSub, Int.reduceMul, wa_cond, axC_t, axC_f, e1, h1, h2]
  obtain ⟨b, i0, c, rfl, hA⟩ := hv.at h0
  refine ax_loopx (fun (i : Nat) s T => ∃ G : Heap, s 0 = .slice (some ⟨b, i0, none⟩) l.length c ∧ s 14 = .slice (some ⟨b, i0, none⟩) l.length c ∧ s 15 = .int .i64 (l.length : Nat) ∧ s 16 = .int .i64 (i : Nat) ∧ i ≤ l.length ∧ chkFrom none l = chkFrom (prevR l i) (l.drop i) ∧ T = H ++ G) (fun i => l.length - i) 0 ?_ ?_
  · refine ⟨[], ?_⟩
    simp -implicitDefEqProofs only [go_sem, Nat.reduceAdd, Nat.reduceSub, Nat.reduceMul, Nat.reduceLT, Nat.reduceLeDiff, Nat.reduceEqDiff, Nat.reduceBEq, Nat.reduceGT, Nat.reduceMod, Nat.reduceDiv, ↓reduceIte, reduceCtorEq, Int.reduceLE, Int.reduceLT, Int.reduceToNat, Int.reduceEq, Int.reduceNeg, Int.reduceAdd, Int.reduceSub, Int.reduceMul]
    rfl
  rintro i s T ⟨G, s0, s14, s15, s16, hi, hch, hT⟩
  subst T
  simp -implicitDefEqProofs only [go_sem, Nat.reduceAdd, Nat.reduceSub, Nat.reduceMul, Nat.reduceLT, Nat.reduceLeDiff, Nat.reduceEqDiff, Nat.reduceBEq, Nat.reduceGT, Nat.reduceMod, Nat.reduceDiv, ↓reduceIte, reduceCtorEq, Int.reduceLE, Int.reduceLT, Int.reduceToNat, Int.reduceEq, Int.reduceNeg, Int.reduceAdd, Int.reduceSub, Int.reduceMul, s15, s16]
  refine ax_cond2 ?_
  simp only [ev_tmp, ev_const, ev_func, upd_at, put_some, put_none, bndB_bool, Nat.reduceEqDiff, if_true, if_false, ↓reduceIte, reduceCtorEq]
  refine ⟨fun hc0 => have hlt := of_decide_eq_true hc0; ?_, fun hc0 => have hlt := of_decide_eq_false hc0; ?_⟩
  · have hil : i < l.length := by omega
    have r1 := fun G => rd_more (hA.rdR hil) G
    have hc := fun H => checkR H (hle _ (List.getElem_mem hil)) (by omega)
    have hdrop := List.drop_eq_getElem_cons hil
    have hx := hle _ (List.getElem_mem hil)
    have hnext : prevR l (i + 1) = some l[i] := by unfold prevR; rw [if_neg (by omega), Nat.add_sub_cancel, List.getElem?_eq_getElem hil]
    rw [hdrop] at hch
    have hnn : (0 : Int) ≤ (i : Int) := by omega
    have w1 : IntKind.i64.wrap ((i : Int) + 1) = ((i + 1 : Nat) : Int) := by rw [w64 (by omega) (by omega)]; rfl
    unfold RR.cells at r1
    unfold RR.val rV at hc
    have hcmp := fun p (hp : RR.le p k) H => compareS H hx hp hk
    unfold RR.val rV at hcmp
    generalize hxx : l[i] = x at *
    simp -implicitDefEqProofs only [go_sem, Nat.reduceAdd, Nat.reduceSub, Nat.reduceMul, Nat.reduceLT, Nat.reduceLeDiff, Nat.reduceEqDiff, Nat.reduceBEq, Nat.reduceGT, Nat.reduceMod, Nat.reduceDiv, ↓reduceIte, reduceCtorEq, Int.reduceLE, Int.reduceLT, Int.reduceToNat, Int.reduceEq, Int.reduceNeg, Int.reduceAdd, Int.reduceSub, Int.reduceMul, s14, s16, aIndexAddr, hlt, hnn, r1]
    refine wl_callV _ (by simp -implicitDefEqProofs only [go_sem, Nat.reduceAdd, Nat.reduceSub, Nat.reduceMul, Nat.reduceLT, Nat.reduceLeDiff, Nat.reduceEqDiff, Nat.reduceBEq, Nat.reduceGT, Nat.reduceMod, Nat.reduceDiv, ↓reduceIte, reduceCtorEq, Int.reduceLE, Int.reduceLT, Int.reduceToNat, Int.reduceEq, Int.reduceNeg, Int.reduceAdd, Int.reduceSub, Int.reduceMul]) (hc _) ?_
    by_cases he : x.err = 0
    case neg =>
      have hch2 : chkFrom none l = x.err := by rw [hch]; unfold chkFrom; rw [if_pos he]
      rw [hch2]
      simp -implicitDefEqProofs only [go_sem, Nat.reduceAdd, Nat.reduceSub, Nat.reduceMul, Nat.reduceLT, Nat.reduceLeDiff, Nat.reduceEqDiff, Nat.reduceBEq, Nat.reduceGT, Nat.reduceMod, Nat.reduceDiv, ↓reduceIte, reduceCtorEq, Int.reduceLE, Int.reduceLT, Int.reduceToNat, Int.reduceEq, Int.reduceNeg, Int.reduceAdd, Int.reduceSub, Int.reduceMul, wa_cond, axC_t, axC_f, he, res17]
      exact .app _ _
    have hch2 : chkFrom none l = if (match prevR l i with | some p => decide (cmpS x p ≤ 0) | none => false) = true then 8 else chkFrom (some x) (l.drop (i + 1)) := by
      rw [hch]; conv => lhs; unfold chkFrom
      rw [if_neg (by simpa using he)]
    simp -implicitDefEqProofs only [go_sem, Nat.reduceAdd, Nat.reduceSub, Nat.reduceMul, Nat.reduceLT, Nat.reduceLeDiff, Nat.reduceEqDiff, Nat.reduceBEq, Nat.reduceGT, Nat.reduceMod, Nat.reduceDiv, ↓reduceIte, reduceCtorEq, Int.reduceLE, Int.reduceLT, Int.reduceToNat, Int.reduceEq, Int.reduceNeg, Int.reduceAdd, Int.reduceSub, Int.reduceMul, wa_cond, axC_t, axC_f, he]
    refine ax_quiet (by kernel_rfl) ?_
    by_cases hi0 : i = 0
    · subst hi0
      have hi1 : ¬ (0 : Int) < ((0 : Nat) : Int) := by decide
      have e2 : prevR l 0 = none := rfl
      rw [e2] at hch2
      simp -implicitDefEqProofs only [go_sem, Nat.reduceAdd, Nat.reduceSub, Nat.reduceMul, Nat.reduceLT, Nat.reduceLeDiff, Nat.reduceEqDiff, Nat.reduceBEq, Nat.reduceGT, Nat.reduceMod, Nat.reduceDiv, ↓reduceIte, reduceCtorEq, Int.reduceLE, Int.reduceLT, Int.reduceToNat, Int.reduceEq, Int.reduceNeg, Int.reduceAdd, Int.reduceSub, Int.reduceMul, wa_cond, axC_t, axC_f, s0, s14, s15, s16, w1, show IntKind.i64.wrap 1 = ((1 : Nat) : Int) from rfl, Int.zero_add, Int.lt_irrefl]
      exact ⟨1, ⟨_, rfl, by omega, by rw [hch2, hnext]; rfl, rfl⟩, by omega⟩
    · obtain ⟨j, rfl⟩ : ∃ j, i = j + 1 := ⟨i - 1, by omega⟩
      have hj : j < l.length := by omega
      have hi1 : (0 : Int) < ((j + 1 : Nat) : Int) := by omega
      have wj : IntKind.i64.wrap (((j + 1 : Nat) : Int) - 1) = (j : Int) := by rw [castS]; exact w64 (by omega) (by omega)
      have r2 := fun G => rd_more (hA.rdR hj) G
      have hp := hle _ (List.getElem_mem hj)
      have e2 : prevR l (j + 1) = some l[j] := by unfold prevR; rw [if_neg (by omega), Nat.add_sub_cancel, List.getElem?_eq_getElem hj]
      rw [e2] at hch2
      simp only at hch2
      unfold RR.cells at r2
      have hcm := hcmp _ hp
      generalize l[j] = p at *
      have hjn : (0 : Int) ≤ (j : Int) := by omega
      have hjl : (j : Int) < (l.length : Int) := by omega
      simp -implicitDefEqProofs only [go_sem, Nat.reduceAdd, Nat.reduceSub, Nat.reduceMul, Nat.reduceLT, Nat.reduceLeDiff, Nat.reduceEqDiff, Nat.reduceBEq, Nat.reduceGT, Nat.reduceMod, Nat.reduceDiv, ↓reduceIte, reduceCtorEq, Int.reduceLE, Int.reduceLT, Int.reduceToNat, Int.reduceEq, Int.reduceNeg, Int.reduceAdd, Int.reduceSub, Int.reduceMul, s0, hi1, wj, aIndexAddr, hjn, hjl, r2]
      refine wl_callV _ (by simp -implicitDefEqProofs only [go_sem, Nat.reduceAdd, Nat.reduceSub, Nat.reduceMul, Nat.reduceLT, Nat.reduceLeDiff, Nat.reduceEqDiff, Nat.reduceBEq, Nat.reduceGT, Nat.reduceMod, Nat.reduceDiv, ↓reduceIte, reduceCtorEq, Int.reduceLE, Int.reduceLT, Int.reduceToNat, Int.reduceEq, Int.reduceNeg, Int.reduceAdd, Int.reduceSub, Int.reduceMul]) (hcm _) ?_
      by_cases hle0 : cmpS x p ≤ 0
      · rw [if_pos (by simpa using hle0)] at hch2
        rw [hch2]
        simp -implicitDefEqProofs only [go_sem, Nat.reduceAdd, Nat.reduceSub, Nat.reduceMul, Nat.reduceLT, Nat.reduceLeDiff, Nat.reduceEqDiff, Nat.reduceBEq, Nat.reduceGT, Nat.reduceMod, Nat.reduceDiv, ↓reduceIte, reduceCtorEq, Int.reduceLE, Int.reduceLT, Int.reduceToNat, Int.reduceEq, Int.reduceNeg, Int.reduceAdd, Int.reduceSub, Int.reduceMul, wa_cond, axC_t, axC_f, hle0, res17]
        exact .app _ _
      · rw [if_neg (by simpa using hle0)] at hch2
        simp -implicitDefEqProofs only [go_sem, Nat.reduceAdd, Nat.reduceSub, Nat.reduceMul, Nat.reduceLT, Nat.reduceLeDiff, Nat.reduceEqDiff, Nat.reduceBEq, Nat.reduceGT, Nat.reduceMod, Nat.reduceDiv, ↓reduceIte, reduceCtorEq, Int.reduceLE, Int.reduceLT, Int.reduceToNat, Int.reduceEq, Int.reduceNeg, Int.reduceAdd, Int.reduceSub, Int.reduceMul, wa_cond, axC_t, axC_f, hle0, s0, s14, s15, s16, w1]
        exact ⟨j + 1 + 1, ⟨_, rfl, by omega, by rw [hch2, hnext], rfl⟩, by omega⟩
  · have hil : i = l.length := by omega
    subst hil
    rw [List.drop_length] at hch
    have : chkFrom none l = 0 := by rw [hch]; unfold chkFrom; rfl
    rw [this]
    simp -implicitDefEqProofs only [go_sem, Nat.reduceAdd, Nat.reduceSub, Nat.reduceMul, Nat.reduceLT, Nat.reduceLeDiff, Nat.reduceEqDiff, Nat.reduceBEq, Nat.reduceGT, Nat.reduceMod, Nat.reduceDiv, ↓reduceIte, reduceCtorEq, Int.reduceLE, Int.reduceLT, Int.reduceToNat, Int.reduceEq, Int.reduceNeg, Int.reduceAdd, Int.reduceSub, Int.reduceMul, res17]
    exact .app _ _
end Go.Proofs.YthhmkaikopdmjaaGreat
set_option linter.unusedSimpArgs false
set_option linter.unusedVariables false
set_option maxRecDepth 8000
namespace Go.Proofs.YthhmkaikopdmjaaGreat
open Go Go.Fw

/-! ### the plain law of a checked list -/
theorem cmpS_ok {a b : RR} (ha : a.err = 0) (hb : b.err = 0) : cmpS a b = a.rot.cmp b.rot := by
  unfold cmpS; rw [if_neg (by simp [ha, hb])]
theorem chkFrom_ok : ∀ (l : List RR) (p : RR), p.err = 0 → chkFrom (some p) l = 0 → (∀ x ∈ l, x.err = 0) ∧ (∀ x ∈ l, p.rot.lt x.rot) ∧ l.Pairwise (fun a b => a.rot.lt b.rot) := by
  intro l
  induction l with
  | nil => intro p _ _; exact ⟨by simp, by simp, List.Pairwise.nil⟩
  | cons r l ih =>
    intro p hp h
    unfold chkFrom at h
    by_cases he : r.err = 0
    · rw [if_neg (by simpa using he)] at h
      by_cases hc : cmpS r p ≤ 0
      · rw [if_pos (by simpa using hc)] at h; omega
      · rw [if_neg (by simpa using hc)] at h
        obtain ⟨h1, h2, h3⟩ := ih r he h
        have hpr : p.rot.lt r.rot := by
          rw [cmpS_ok he hp] at hc
          exact Rot.cmp_pos.1 (by omega)
        have okp := (RR.err_zero.1 hp).2
        have okr := (RR.err_zero.1 he).2
        refine ⟨fun x hx => ?_, fun x hx => ?_, List.Pairwise.cons h2 h3⟩
        · rcases List.mem_cons.1 hx with rfl | hx
          · exact he
          · exact h1 x hx
        · rcases List.mem_cons.1 hx with rfl | hx
          · exact hpr
          · exact Rot.lt_trans okp okr (RR.err_zero.1 (h1 x hx)).2 hpr (h2 x hx)
    · rw [if_pos (by simpa using he)] at h; exact absurd h he
/-- what Check accepts -/
structure Ord (l : List RR) : Prop where
  ne : l ≠ []
  len : l.length ≤ 64
  ok : ∀ x ∈ l, x.err = 0
  ord : l.Pairwise (fun a b => a.rot.lt b.rot)
theorem chk_ok {l : List RR} (h : chkR l = 0) : Ord l := by
  unfold chkR at h
  by_cases h0 : l = []
  · rw [if_pos h0] at h; omega
  rw [if_neg h0] at h
  by_cases h1 : 64 < l.length
  · rw [if_pos h1] at h; omega
  rw [if_neg h1] at h
  cases l with
  | nil => exact absurd rfl h0
  | cons r l =>
    unfold chkFrom at h
    by_cases he : r.err = 0
    · rw [if_neg (by simpa using he)] at h
      simp only [Bool.false_eq_true, if_false] at h
      obtain ⟨g1, g2, g3⟩ := chkFrom_ok l r he h
      refine ⟨h0, by omega, fun x hx => ?_, List.Pairwise.cons g2 g3⟩
      rcases List.mem_cons.1 hx with rfl | hx
      · exact he
      · exact g1 x hx
    · rw [if_pos (by simpa using he)] at h; exact absurd h he
theorem ok_chkFrom : ∀ (l : List RR) (p : RR), p.err = 0 → (∀ x ∈ l, x.err = 0) → (∀ x ∈ l, p.rot.lt x.rot) → l.Pairwise (fun a b => a.rot.lt b.rot) → chkFrom (some p) l = 0 := by
  intro l
  induction l with
  | nil => intro p _ _ _ _; rfl
  | cons r l ih =>
    intro p hp h1 h2 h3
    have he := h1 r (by simp)
    have hlt := h2 r (by simp)
    have hc : ¬ cmpS r p ≤ 0 := by
      rw [cmpS_ok he hp]
      have := Rot.cmp_pos.2 hlt
      omega
    unfold chkFrom
    rw [if_neg (by simpa using he), if_neg (by simpa using hc)]
    exact ih r he (fun x hx => h1 x (by simp [hx])) (List.pairwise_cons.1 h3).1 (List.pairwise_cons.1 h3).2
theorem ok_chk {l : List RR} (h : Ord l) : chkR l = 0 := by
  unfold chkR
  rw [if_neg h.ne, if_neg (by have := h.len; omega)]
  obtain ⟨h0, h1, h2, h3⟩ := h
  cases l with
  | nil => exact absurd rfl h0
  | cons r l =>
    have he := h2 r (by simp)
    unfold chkFrom
    rw [if_neg (by simpa using he)]
    simp only [Bool.false_eq_true, if_false]
    exact ok_chkFrom l r he (fun x hx => h2 x (by simp [hx])) (List.pairwise_cons.1 h3).1 (List.pairwise_cons.1 h3).2
/-- how many are less -/
def cntLess : List RR → RR → Nat
  | [], _ => 0
  | x :: l, r => if cmpS x r < 0 then cntLess l r + 1 else 0
theorem cntLess_le : ∀ (l : List RR) (r : RR), cntLess l r ≤ l.length := by
  intro l r
  induction l with
  | nil => simp [cntLess]
  | cons x l ih =>
    unfold cntLess
    split
    · simp; exact ih
    · simp
theorem cntLess_below : ∀ (l : List RR) (r : RR) (j : Nat), j < cntLess l r → ∀ hl : j < l.length, cmpS l[j] r < 0 := by
  intro l r
  induction l with
  | nil => intro j _ hl; simp at hl
  | cons x l ih =>
    intro j hj hl
    unfold cntLess at hj
    by_cases hc : cmpS x r < 0
    · rw [if_pos hc] at hj
      cases j with
      | zero => exact hc
      | succ j => exact ih j (by omega) (by simpa using hl)
    · rw [if_neg hc] at hj; omega
theorem cntLess_above' (r : RR) (hr : r.err = 0) : ∀ (l : List RR), (∀ x ∈ l, x.err = 0) → l.Pairwise (fun a b => a.rot.lt b.rot) → ∀ j, cntLess l r ≤ j → ∀ hl : j < l.length, ¬ cmpS l[j] r < 0 := by
  have okr := (RR.err_zero.1 hr).2
  intro l
  induction l with
  | nil => intro _ _ j _ hl; simp at hl
  | cons x l ih =>
    intro h2 h3 j hj hl
    have hx := h2 x (by simp)
    have okx := (RR.err_zero.1 hx).2
    unfold cntLess at hj
    by_cases hc : cmpS x r < 0
    · rw [if_pos hc] at hj
      obtain ⟨j, rfl⟩ : ∃ j', j = j' + 1 := ⟨j - 1, by omega⟩
      exact ih (fun y hy => h2 y (by simp [hy])) (List.pairwise_cons.1 h3).2 j (by omega) (by simpa using hl)
    · cases j with
      | zero => exact hc
      | succ j =>
        have hjl : j < l.length := by simpa using hl
        have hm := List.getElem_mem hjl
        have hy := h2 l[j] (by simp)
        have hlt := (List.pairwise_cons.1 h3).1 _ hm
        simp only [List.getElem_cons_succ]
        intro hc2
        rw [cmpS_ok hy hr] at hc2
        rw [cmpS_ok hx hr] at hc
        exact hc (Rot.lt_trans okx (RR.err_zero.1 hy).2 okr hlt hc2)
theorem cntLess_above {l : List RR} {r : RR} (ho : Ord l) (hr : r.err = 0) (j : Nat) (hj : cntLess l r ≤ j) (hl : j < l.length) : ¬ cmpS l[j] r < 0 := cntLess_above' r hr l ho.ok ho.ord j hj hl

def chk2 (l : List RR) (r : RR) : Int := if chkR l = 0 then r.err else 1
theorem check2S (H : Heap) {v : Value} {l : List RR} {r : RR} {k : Nat} (hv : RL H v l) (hle : ∀ r ∈ l, r.le k) (hr : r.le k) (hk : k ≤ 19000) (hl : l.length ≤ 1000000) : Sim Tryz.prog 52 #[v, r.val] H (.int .i64 (chk2 l r)) H := by
  refine flat_ex rfl ?_
  have o1 := fun G => CheckS (H ++ G) (El.app hv G) hle hk hl
  have o2 := fun H => checkR H hr (by omega)
  unfold chk2
  unfold RR.val rV at o2 ⊢
  by_cases h : chkR l = 0
  · rw [if_pos h]
    refine sim_ex tok mixed Tryz.func52 rfl (by kernel_rfl) (by kernel_rfl) (by simp only [Tryz.ntmps52, List.size_toArray, List.length_cons, List.length_nil]; omega) ?_
    simp -implicitDefEqProofs only [go_sem, Nat.reduceAdd, Nat.reduceSub, Nat.reduceMul, Nat.reduceLT, Nat.reduceLeDiff, Nat.reduceEqDiff, Nat.reduceBEq, Nat.reduceGT, Nat.reduceMod, Nat.reduceDiv, ↓reduceIte, reduceCtorEq, Int.reduceLE, Int.reduceLT, Int.reduceToNat, Int.reduceEq, Int.reduceNeg, Int.reduceAdd, Int.reduceSub, Int.reduceMul, mkI, iV, mkQ, qV, fV, ofV, rV, mkR]
    refine wl_callV _ (by simp -implicitDefEqProofs only [go_sem, Nat.reduceAdd, Nat.reduceSub, Nat.reduceMul, Nat.reduceLT, Nat.reduceLeDiff, Nat.reduceEqDiff, Nat.reduceBEq, Nat.reduceGT, Nat.reduceMod, Nat.reduceDiv, ↓reduceIte, reduceCtorEq, Int.reduceLE, Int.reduceLT, Int.reduceToNat, Int.reduceEq, Int.reduceNeg, Int.reduceAdd, Int.reduceSub, Int.reduceMul, mkI, iV, mkQ, qV, fV, ofV, rV, mkR, h, wa_cond, axC_t, axC_f]) (o1 _) ?_
    simp -implicitDefEqProofs only [go_sem, Nat.reduceAdd, Nat.reduceSub, Nat.reduceMul, Nat.reduceLT, Nat.reduceLeDiff, Nat.reduceEqDiff, Nat.reduceBEq, Nat.reduceGT, Nat.reduceMod, Nat.reduceDiv, ↓reduceIte, reduceCtorEq, Int.reduceLE, Int.reduceLT, Int.reduceToNat, Int.reduceEq, Int.reduceNeg, Int.reduceAdd, Int.reduceSub, Int.reduceMul, mkI, iV, mkQ, qV, fV, ofV, rV, mkR, h, wa_cond, axC_t, axC_f]
    refine wl_callV _ (by simp -implicitDefEqProofs only [go_sem, Nat.reduceAdd, Nat.reduceSub, Nat.reduceMul, Nat.reduceLT, Nat.reduceLeDiff, Nat.reduceEqDiff, Nat.reduceBEq, Nat.reduceGT, Nat.reduceMod, Nat.reduceDiv, ↓reduceIte, reduceCtorEq, Int.reduceLE, Int.reduceLT, Int.reduceToNat, Int.reduceEq, Int.reduceNeg, Int.reduceAdd, Int.reduceSub, Int.reduceMul, mkI, iV, mkQ, qV, fV, ofV, rV, mkR]) (o2 _) ?_
    simp -implicitDefEqProofs only [go_sem, Nat.reduceAdd, Nat.reduceSub, Nat.reduceMul, Nat.reduceLT, Nat.reduceLeDiff, Nat.reduceEqDiff, Nat.reduceBEq, Nat.reduceGT, Nat.reduceMod, Nat.reduceDiv, ↓reduceIte, reduceCtorEq, Int.reduceLE, Int.reduceLT, Int.reduceToNat, Int.reduceEq, Int.reduceNeg, Int.reduceAdd, Int.reduceSub, Int.reduceMul, mkI, iV, mkQ, qV, fV, ofV, rV, mkR]
    simp -implicitDefEqProofs only [go_sem, Nat.reduceAdd, Nat.reduceSub, Nat.reduceMul, Nat.reduceLT, Nat.reduceLeDiff, Nat.reduceEqDiff, Nat.reduceBEq, Nat.reduceGT, Nat.reduceMod, Nat.reduceDiv, ↓reduceIte, reduceCtorEq, Int.reduceLE, Int.reduceLT, Int.reduceToNat, Int.reduceEq, Int.reduceNeg, Int.reduceAdd, Int.reduceSub, Int.reduceMul, mkI, iV, mkQ, qV, fV, ofV, rV, mkR, res52]
    first | exact .app _ _ | exact ⟨.app _ _, rfl⟩ | exact .refl _ | exact ⟨.refl _, rfl⟩
  · rw [if_neg h]
    refine sim_ex tok mixed Tryz.func52 rfl (by kernel_rfl) (by kernel_rfl) (by simp only [Tryz.ntmps52, List.size_toArray, List.length_cons, List.length_nil]; omega) ?_
    simp -implicitDefEqProofs only [go_sem, Nat.reduceAdd, Nat.reduceSub, Nat.reduceMul, Nat.reduceLT, Nat.reduceLeDiff, Nat.reduceEqDiff, Nat.reduceBEq, Nat.reduceGT, Nat.reduceMod, Nat.reduceDiv, ↓reduceIte, reduceCtorEq, Int.reduceLE, Int.reduceLT, Int.reduceToNat, Int.reduceEq, Int.reduceNeg, Int.reduceAdd, Int.reduceSub, Int.reduceMul, mkI, iV, mkQ, qV, fV, ofV, rV, mkR]
    refine wl_callV _ (by simp -implicitDefEqProofs only [go_sem, Nat.reduceAdd, Nat.reduceSub, Nat.reduceMul, Nat.reduceLT, Nat.reduceLeDiff, Nat.reduceEqDiff, Nat.reduceBEq, Nat.reduceGT, Nat.reduceMod, Nat.reduceDiv, ↓reduceIte, reduceCtorEq, Int.reduceLE, Int.reduceLT, Int.reduceToNat, Int.reduceEq, Int.reduceNeg, Int.reduceAdd, Int.reduceSub, Int.reduceMul, mkI, iV, mkQ, qV, fV, ofV, rV, mkR, h, wa_cond, axC_t, axC_f]) (o1 _) ?_
    simp -implicitDefEqProofs only [go_sem, Nat.reduceAdd, Nat.reduceSub, Nat.reduceMul, Nat.reduceLT, Nat.reduceLeDiff, Nat.reduceEqDiff, Nat.reduceBEq, Nat.reduceGT, Nat.reduceMod, Nat.reduceDiv, ↓reduceIte, reduceCtorEq, Int.reduceLE, Int.reduceLT, Int.reduceToNat, Int.reduceEq, Int.reduceNeg, Int.reduceAdd, Int.reduceSub, Int.reduceMul, mkI, iV, mkQ, qV, fV, ofV, rV, mkR, h, wa_cond, axC_t, axC_f]
    simp -implicitDefEqProofs only [go_sem, Nat.reduceAdd, Nat.reduceSub, Nat.reduceMul, Nat.reduceLT, Nat.reduceLeDiff, Nat.reduceEqDiff, Nat.reduceBEq, Nat.reduceGT, Nat.reduceMod, Nat.reduceDiv, ↓reduceIte, reduceCtorEq, Int.reduceLE, Int.reduceLT, Int.reduceToNat, Int.reduceEq, Int.reduceNeg, Int.reduceAdd, Int.reduceSub, Int.reduceMul, mkI, iV, mkQ, qV, fV, ofV, rV, mkR, res52]
    first | exact .app _ _ | exact ⟨.app _ _, rfl⟩ | exact .refl _ | exact ⟨.refl _, rfl⟩

theorem binR (H : Heap) {v : Value} {l : List RR} {r : RR} {k : Nat} (hv : RL H v l) (hle : ∀ r ∈ l, r.le k) (hr : r.le k) (hk : k ≤ 19000) (ho : Ord l) (hre : r.err = 0) :
    Sim Tryz.prog 53 #[v, r.val, .func (.func 54) #[] #[]] H
      (.tuple #[.int .i64 (cntLess l r : Nat), .bool (match l[cntLess l r]? with | some x => decide (cmpS x r = 0) | none => false)]) H := by
  refine flat_ex rfl ?_
  have e1 := hv.len (tt := tt) tt22
  have hkl := cntLess_le l r
  have hl64 := ho.len
  have hbelow := cntLess_below l r
  have habove := cntLess_above ho hre
  have hcmp := fun x (hx : RR.le x k) H => compareS H hx hr hk
  obtain ⟨b, i0, c, rfl, hA⟩ := hv.at ho.ne
  unfold RR.val rV at hcmp ⊢
  generalize cntLess l r = q at *
  refine sim_ex tok mixed Tryz.func53 rfl (by kernel_rfl) (by kernel_rfl) (by simp only [Tryz.ntmps53, List.size_toArray, List.length_cons, List.length_nil]; omega) ?_
  simp -implicitDefEqProofs only [go_sem, Nat.reduceAdd, Nat.reduceSub, Nat.reduceMul, Nat.reduceLT, Nat.reduceLeDiff, Nat.reduceEqDiff, Nat.reduceBEq, Nat.reduceGT, Nat.reduceMod, Nat.reduceDiv, ↓reduceIte, reduceCtorEq, Int.reduceLE, Int.reduceLT, Int.reduceToNat, Int.reduceEq, Int.reduceNeg, Int.reduceAdd, Int.reduceSub, Int.reduceMul, e1]
  refine ax_midl (fun s T => s 0 = .slice (some ⟨b, i0, none⟩) l.length c ∧ s 2 = .func (.func 54) #[] #[] ∧ s 4 = .pointer (some ⟨H.length, 0, none⟩) ∧ s 8 = .int .i64 (l.length : Nat) ∧ s 9 = .int .i64 (q : Nat) ∧
    T = H ++ [⟨[.bool r.g, .string (bs r.n), .string (bs r.d), .bool r.g', .string (bs r.n'), .string (bs r.d')], 1, true⟩]) ?_ ?_
  · refine ax_loopx (fun (x : Nat × Nat) s T => s 0 = .slice (some ⟨b, i0, none⟩) l.length c ∧ s 2 = .func (.func 54) #[] #[] ∧ s 4 = .pointer (some ⟨H.length, 0, none⟩) ∧ s 8 = .int .i64 (l.length : Nat) ∧ s 9 = .int .i64 (x.1 : Nat) ∧ s 10 = .int .i64 (x.2 : Nat) ∧
      x.1 ≤ q ∧ q ≤ x.2 ∧ x.2 ≤ l.length ∧ T = H ++ [⟨[.bool r.g, .string (bs r.n), .string (bs r.d), .bool r.g', .string (bs r.n'), .string (bs r.d')], 1, true⟩]) (fun x => x.2 - x.1) (0, l.length) ?_ ?_
    · simp -implicitDefEqProofs only [go_sem, Nat.reduceAdd, Nat.reduceSub, Nat.reduceMul, Nat.reduceLT, Nat.reduceLeDiff, Nat.reduceEqDiff, Nat.reduceBEq, Nat.reduceGT, Nat.reduceMod, Nat.reduceDiv, ↓reduceIte, reduceCtorEq, Int.reduceLE, Int.reduceLT, Int.reduceToNat, Int.reduceEq, Int.reduceNeg, Int.reduceAdd, Int.reduceSub, Int.reduceMul]
      exact hkl
    rintro ⟨i, j⟩ s T ⟨s0, s2, s4, s8, s9, s10, hi, hj, hjl, hT⟩
    subst T
    simp only at s9 s10 hi hj hjl
    simp -implicitDefEqProofs only [go_sem, Nat.reduceAdd, Nat.reduceSub, Nat.reduceMul, Nat.reduceLT, Nat.reduceLeDiff, Nat.reduceEqDiff, Nat.reduceBEq, Nat.reduceGT, Nat.reduceMod, Nat.reduceDiv, ↓reduceIte, reduceCtorEq, Int.reduceLE, Int.reduceLT, Int.reduceToNat, Int.reduceEq, Int.reduceNeg, Int.reduceAdd, Int.reduceSub, Int.reduceMul, s9, s10]
    refine ax_cond2 ?_
    simp only [ev_tmp, ev_const, ev_func, upd_at, put_some, put_none, bndB_bool, Nat.reduceEqDiff, if_true, if_false, ↓reduceIte, reduceCtorEq]
    refine ⟨fun hc0 => have hlt := of_decide_eq_true hc0; ?_, fun hc0 => have hlt := of_decide_eq_false hc0; ?_⟩
    · have hij : i < j := by omega
      have a1 : IntKind.i64.wrap ((i : Int) + (j : Int)) = ((i + j : Nat) : Int) := by rw [addc, w64n (by omega)]
      have a2 := wu64n (n := i + j) (by omega)
      have a3 := fdiv_pow (i + j) 1
      have a4 := w64n (n := (i + j) / 2 ^ 1) (by omega)
      have h1 : ¬ ((1 : Int) < 0) := by omega
      have hhj : (i + j) / 2 ^ 1 < j := by omega
      have hih : i ≤ (i + j) / 2 ^ 1 := by omega
      generalize (i + j) / 2 ^ 1 = h at *
      have hhl : h < l.length := by omega
      have r1 := fun G => rd_more (hA.rdR hhl) G
      have hcm := hcmp _ (hle _ (List.getElem_mem hhl))
      have hnn : (0 : Int) ≤ (h : Int) := by omega
      have hlt2 : (h : Int) < (l.length : Int) := by omega
      have a5 : IntKind.i64.wrap ((h : Int) + 1) = ((h + 1 : Nat) : Int) := by rw [w64 (by omega) (by omega)]; rfl
      have hb := fun hj => hbelow h hj hhl
      have ha := fun hj => habove h hj hhl
      generalize l[h] = x at *
      unfold RR.cells at r1
      simp -implicitDefEqProofs only [go_sem, Nat.reduceAdd, Nat.reduceSub, Nat.reduceMul, Nat.reduceLT, Nat.reduceLeDiff, Nat.reduceEqDiff, Nat.reduceBEq, Nat.reduceGT, Nat.reduceMod, Nat.reduceDiv, ↓reduceIte, reduceCtorEq, Int.reduceLE, Int.reduceLT, Int.reduceToNat, Int.reduceEq, Int.reduceNeg, Int.reduceAdd, Int.reduceSub, Int.reduceMul, s9, s10, aConv, a1, a2, a3, a4, h1, show min 1 64 = 1 from rfl, show Int.toNat 1 = 1 from rfl]
      refine ax_quiet (by kernel_rfl) ?_
      simp -implicitDefEqProofs only [go_sem, Nat.reduceAdd, Nat.reduceSub, Nat.reduceMul, Nat.reduceLT, Nat.reduceLeDiff, Nat.reduceEqDiff, Nat.reduceBEq, Nat.reduceGT, Nat.reduceMod, Nat.reduceDiv, ↓reduceIte, reduceCtorEq, Int.reduceLE, Int.reduceLT, Int.reduceToNat, Int.reduceEq, Int.reduceNeg, Int.reduceAdd, Int.reduceSub, Int.reduceMul, s0, s2, s4, aIndexAddr, hnn, hlt2, r1]
      refine wl_callO _ (by simp -implicitDefEqProofs only [go_sem, Nat.reduceAdd, Nat.reduceSub, Nat.reduceMul, Nat.reduceLT, Nat.reduceLeDiff, Nat.reduceEqDiff, Nat.reduceBEq, Nat.reduceGT, Nat.reduceMod, Nat.reduceDiv, ↓reduceIte, reduceCtorEq, Int.reduceLE, Int.reduceLT, Int.reduceToNat, Int.reduceEq, Int.reduceNeg, Int.reduceAdd, Int.reduceSub, Int.reduceMul, s2]) _ (by simp -implicitDefEqProofs only [go_sem, Nat.reduceAdd, Nat.reduceSub, Nat.reduceMul, Nat.reduceLT, Nat.reduceLeDiff, Nat.reduceEqDiff, Nat.reduceBEq, Nat.reduceGT, Nat.reduceMod, Nat.reduceDiv, ↓reduceIte, reduceCtorEq, Int.reduceLE, Int.reduceLT, Int.reduceToNat, Int.reduceEq, Int.reduceNeg, Int.reduceAdd, Int.reduceSub, Int.reduceMul]) (hcm _) ?_
      by_cases hc : cmpS x r < 0
      · simp -implicitDefEqProofs only [go_sem, Nat.reduceAdd, Nat.reduceSub, Nat.reduceMul, Nat.reduceLT, Nat.reduceLeDiff, Nat.reduceEqDiff, Nat.reduceBEq, Nat.reduceGT, Nat.reduceMod, Nat.reduceDiv, ↓reduceIte, reduceCtorEq, Int.reduceLE, Int.reduceLT, Int.reduceToNat, Int.reduceEq, Int.reduceNeg, Int.reduceAdd, Int.reduceSub, Int.reduceMul, wa_cond, axC_t, axC_f, hc, s0, s2, s4, s8, s9, s10, a5]
        refine ⟨(h + 1, j), ⟨rfl, rfl, ?_, hj, hjl⟩, by simp only; omega⟩
        exact Classical.byContradiction fun hn => ha (by omega) hc
      · simp -implicitDefEqProofs only [go_sem, Nat.reduceAdd, Nat.reduceSub, Nat.reduceMul, Nat.reduceLT, Nat.reduceLeDiff, Nat.reduceEqDiff, Nat.reduceBEq, Nat.reduceGT, Nat.reduceMod, Nat.reduceDiv, ↓reduceIte, reduceCtorEq, Int.reduceLE, Int.reduceLT, Int.reduceToNat, Int.reduceEq, Int.reduceNeg, Int.reduceAdd, Int.reduceSub, Int.reduceMul, wa_cond, axC_t, axC_f, hc, s0, s2, s4, s8, s9, s10, a5]
        refine ⟨(i, h), ⟨rfl, rfl, hi, ?_, by omega⟩, by simp only; omega⟩
        exact Classical.byContradiction fun hn => hc (hb (by omega))
    · have : i = q := by omega
      subst this
      simp -implicitDefEqProofs only [go_sem, Nat.reduceAdd, Nat.reduceSub, Nat.reduceMul, Nat.reduceLT, Nat.reduceLeDiff, Nat.reduceEqDiff, Nat.reduceBEq, Nat.reduceGT, Nat.reduceMod, Nat.reduceDiv, ↓reduceIte, reduceCtorEq, Int.reduceLE, Int.reduceLT, Int.reduceToNat, Int.reduceEq, Int.reduceNeg, Int.reduceAdd, Int.reduceSub, Int.reduceMul, s0, s2, s4, s8, s9]
  rintro s T ⟨s0, s2, s4, s8, s9, hT⟩
  subst T
  simp -implicitDefEqProofs only [go_sem, Nat.reduceAdd, Nat.reduceSub, Nat.reduceMul, Nat.reduceLT, Nat.reduceLeDiff, Nat.reduceEqDiff, Nat.reduceBEq, Nat.reduceGT, Nat.reduceMod, Nat.reduceDiv, ↓reduceIte, reduceCtorEq, Int.reduceLE, Int.reduceLT, Int.reduceToNat, Int.reduceEq, Int.reduceNeg, Int.reduceAdd, Int.reduceSub, Int.reduceMul]
  refine ax_quiet (by kernel_rfl) ?_
  by_cases hq : q < l.length
  · have r1 := fun G => rd_more (hA.rdR hq) G
    have hcm := hcmp _ (hle _ (List.getElem_mem hq))
    have hnn : (0 : Int) ≤ (q : Int) := by omega
    have hlt2 : (q : Int) < (l.length : Int) := by omega
    rw [List.getElem?_eq_getElem hq]
    simp only
    generalize l[q] = x at *
    unfold RR.cells at r1
    simp -implicitDefEqProofs only [go_sem, Nat.reduceAdd, Nat.reduceSub, Nat.reduceMul, Nat.reduceLT, Nat.reduceLeDiff, Nat.reduceEqDiff, Nat.reduceBEq, Nat.reduceGT, Nat.reduceMod, Nat.reduceDiv, ↓reduceIte, reduceCtorEq, Int.reduceLE, Int.reduceLT, Int.reduceToNat, Int.reduceEq, Int.reduceNeg, Int.reduceAdd, Int.reduceSub, Int.reduceMul, s0, s2, s4, s8, s9, aIndexAddr, hnn, hlt2, r1]
    refine wl_callO _ (by simp -implicitDefEqProofs only [go_sem, Nat.reduceAdd, Nat.reduceSub, Nat.reduceMul, Nat.reduceLT, Nat.reduceLeDiff, Nat.reduceEqDiff, Nat.reduceBEq, Nat.reduceGT, Nat.reduceMod, Nat.reduceDiv, ↓reduceIte, reduceCtorEq, Int.reduceLE, Int.reduceLT, Int.reduceToNat, Int.reduceEq, Int.reduceNeg, Int.reduceAdd, Int.reduceSub, Int.reduceMul, s2]) _ (by simp -implicitDefEqProofs only [go_sem, Nat.reduceAdd, Nat.reduceSub, Nat.reduceMul, Nat.reduceLT, Nat.reduceLeDiff, Nat.reduceEqDiff, Nat.reduceBEq, Nat.reduceGT, Nat.reduceMod, Nat.reduceDiv, ↓reduceIte, reduceCtorEq, Int.reduceLE, Int.reduceLT, Int.reduceToNat, Int.reduceEq, Int.reduceNeg, Int.reduceAdd, Int.reduceSub, Int.reduceMul]) (hcm _) ?_
    simp -implicitDefEqProofs only [go_sem, Nat.reduceAdd, Nat.reduceSub, Nat.reduceMul, Nat.reduceLT, Nat.reduceLeDiff, Nat.reduceEqDiff, Nat.reduceBEq, Nat.reduceGT, Nat.reduceMod, Nat.reduceDiv, ↓reduceIte, reduceCtorEq, Int.reduceLE, Int.reduceLT, Int.reduceToNat, Int.reduceEq, Int.reduceNeg, Int.reduceAdd, Int.reduceSub, Int.reduceMul, res53]
    first | exact .app _ _ | exact ⟨.app _ _, rfl⟩
  · have hlt2 : ¬ (q : Int) < (l.length : Int) := by omega
    rw [List.getElem?_eq_none (by omega)]
    simp -implicitDefEqProofs only [go_sem, Nat.reduceAdd, Nat.reduceSub, Nat.reduceMul, Nat.reduceLT, Nat.reduceLeDiff, Nat.reduceEqDiff, Nat.reduceBEq, Nat.reduceGT, Nat.reduceMod, Nat.reduceDiv, ↓reduceIte, reduceCtorEq, Int.reduceLE, Int.reduceLT, Int.reduceToNat, Int.reduceEq, Int.reduceNeg, Int.reduceAdd, Int.reduceSub, Int.reduceMul, s8, s9, hlt2, res53]
    first | exact ⟨.app _ _, rfl⟩ | exact .app _ _
end Go.Proofs.YthhmkaikopdmjaaGreat
set_option linter.unusedSimpArgs false
set_option linter.unusedVariables false
set_option maxRecDepth 8000
namespace Go.Proofs.YthhmkaikopdmjaaGreat
open Go Go.Fw

def hasR (l : List RR) (r : RR) : Bool := match l[cntLess l r]? with | some x => decide (cmpS x r = 0) | none => false
def findV (l : List RR) (r : RR) : Value :=
  if chk2 l r ≠ 0 then .tuple #[.int .i64 0, .bool false, .int .i64 (chk2 l r)] else
  if hasR l r = true then .tuple #[.int .i64 (cntLess l r : Nat), .bool true, .int .i64 0] else .tuple #[.int .i64 ((cntLess l r + l.length - 1) % l.length : Nat), .bool false, .int .i64 0]
theorem flat_find (l : List RR) (r : RR) : flat (findV l r) = true := by
  unfold findV
  by_cases h : chk2 l r ≠ 0
  · rw [if_pos h]; rfl
  · rw [if_neg h]
    by_cases h2 : hasR l r = true
    · rw [if_pos h2]; rfl
    · rw [if_neg h2]; rfl
theorem FindS (H : Heap) {v : Value} {l : List RR} {r : RR} {k : Nat} (hv : RL H v l) (hle : ∀ r ∈ l, r.le k) (hr : r.le k) (hk : k ≤ 19000) (hl : l.length ≤ 1000000) : Sim Tryz.prog 14 #[v, r.val] H (findV l r) H := by
  refine flat_ex (flat_find l r) ?_
  have o1 := fun G => check2S (H ++ G) (El.app hv G) hle hr hk hl
  have e1 := hv.len (tt := tt) tt22
  unfold findV
  by_cases h : chk2 l r = 0
  case neg =>
    rw [if_pos h]
    generalize chk2 l r = c at *
    unfold RR.val rV at o1 ⊢
    refine sim_ex tok mixed Tryz.func14 rfl (by kernel_rfl) (by kernel_rfl) (by simp only [Tryz.ntmps14, List.size_toArray, List.length_cons, List.length_nil]; omega) ?_
    simp -implicitDefEqProofs only [go_sem, Nat.reduceAdd, Nat.reduceSub, Nat.reduceMul, Nat.reduceLT, Nat.reduceLeDiff, Nat.reduceEqDiff, Nat.reduceBEq, Nat.reduceGT, Nat.reduceMod, Nat.reduceDiv, ↓reduceIte, reduceCtorEq, Int.reduceLE, Int.reduceLT, Int.reduceToNat, Int.reduceEq, Int.reduceNeg, Int.reduceAdd, Int.reduceSub, Int.reduceMul, mkI, iV, mkQ, qV, fV, ofV, rV, mkR]
    refine wl_callV _ (by simp -implicitDefEqProofs only [go_sem, Nat.reduceAdd, Nat.reduceSub, Nat.reduceMul, Nat.reduceLT, Nat.reduceLeDiff, Nat.reduceEqDiff, Nat.reduceBEq, Nat.reduceGT, Nat.reduceMod, Nat.reduceDiv, ↓reduceIte, reduceCtorEq, Int.reduceLE, Int.reduceLT, Int.reduceToNat, Int.reduceEq, Int.reduceNeg, Int.reduceAdd, Int.reduceSub, Int.reduceMul, mkI, iV, mkQ, qV, fV, ofV, rV, mkR, h, wa_cond, axC_t, axC_f]) (o1 _) ?_
    simp -implicitDefEqProofs only [go_sem, Nat.reduceAdd, Nat.reduceSub, Nat.reduceMul, Nat.reduceLT, Nat.reduceLeDiff, Nat.reduceEqDiff, Nat.reduceBEq, Nat.reduceGT, Nat.reduceMod, Nat.reduceDiv, ↓reduceIte, reduceCtorEq, Int.reduceLE, Int.reduceLT, Int.reduceToNat, Int.reduceEq, Int.reduceNeg, Int.reduceAdd, Int.reduceSub, Int.reduceMul, mkI, iV, mkQ, qV, fV, ofV, rV, mkR, h, wa_cond, axC_t, axC_f]
    simp -implicitDefEqProofs only [go_sem, Nat.reduceAdd, Nat.reduceSub, Nat.reduceMul, Nat.reduceLT, Nat.reduceLeDiff, Nat.reduceEqDiff, Nat.reduceBEq, Nat.reduceGT, Nat.reduceMod, Nat.reduceDiv, ↓reduceIte, reduceCtorEq, Int.reduceLE, Int.reduceLT, Int.reduceToNat, Int.reduceEq, Int.reduceNeg, Int.reduceAdd, Int.reduceSub, Int.reduceMul, mkI, iV, mkQ, qV, fV, ofV, rV, mkR, res14]
    first | exact .app _ _ | exact ⟨.app _ _, rfl⟩ | exact .refl _ | exact ⟨.refl _, rfl⟩
  rw [if_neg (by simpa using h)]
  have hc1 : chkR l = 0 := by
    unfold chk2 at h
    by_cases hc : chkR l = 0
    · exact hc
    · rw [if_neg hc] at h; omega
  have hc2 : r.err = 0 := by unfold chk2 at h; rw [if_pos hc1] at h; exact h
  have ho := chk_ok hc1
  have o2 : ∀ G, Sim Tryz.prog 53 #[v, r.val, .func (.func 54) #[] #[]] (H ++ G) (.tuple #[.int .i64 (cntLess l r : Nat), .bool (hasR l r)]) (H ++ G) := fun G => binR (H ++ G) (El.app hv G) hle hr hk ho hc2
  have hl0 := List.length_pos_iff.2 ho.ne
  have hcl := cntLess_le l r
  rw [h] at o1
  generalize cntLess l r = q at *
  have a1 : IntKind.i64.wrap ((q : Int) + (l.length : Int)) = ((q + l.length : Nat) : Int) := by rw [addc, w64n (by omega)]
  have a2 : IntKind.i64.wrap (((q + l.length : Nat) : Int) - 1) = ((q + l.length - 1 : Nat) : Int) := by rw [w64 (by omega) (by omega)]; omega
  have a3 := tmod_nat (q + l.length - 1) l.length
  have a4 : ¬ (l.length : Int) = 0 := by omega
  unfold RR.val rV at o1 o2 ⊢
  generalize hasR l r = hb at *
  cases hb
  · rw [if_neg (by decide)]
    refine sim_ex tok mixed Tryz.func14 rfl (by kernel_rfl) (by kernel_rfl) (by simp only [Tryz.ntmps14, List.size_toArray, List.length_cons, List.length_nil]; omega) ?_
    simp -implicitDefEqProofs only [go_sem, Nat.reduceAdd, Nat.reduceSub, Nat.reduceMul, Nat.reduceLT, Nat.reduceLeDiff, Nat.reduceEqDiff, Nat.reduceBEq, Nat.reduceGT, Nat.reduceMod, Nat.reduceDiv, ↓reduceIte, reduceCtorEq, Int.reduceLE, Int.reduceLT, Int.reduceToNat, Int.reduceEq, Int.reduceNeg, Int.reduceAdd, Int.reduceSub, Int.reduceMul, mkI, iV, mkQ, qV, fV, ofV, rV, mkR]
    refine wl_callV _ (by simp -implicitDefEqProofs only [go_sem, Nat.reduceAdd, Nat.reduceSub, Nat.reduceMul, Nat.reduceLT, Nat.reduceLeDiff, Nat.reduceEqDiff, Nat.reduceBEq, Nat.reduceGT, Nat.reduceMod, Nat.reduceDiv, ↓reduceIte, reduceCtorEq, Int.reduceLE, Int.reduceLT, Int.reduceToNat, Int.reduceEq, Int.reduceNeg, Int.reduceAdd, Int.reduceSub, Int.reduceMul, mkI, iV, mkQ, qV, fV, ofV, rV, mkR, wa_cond, axC_t, axC_f]) (o1 _) ?_
    simp -implicitDefEqProofs only [go_sem, Nat.reduceAdd, Nat.reduceSub, Nat.reduceMul, Nat.reduceLT, Nat.reduceLeDiff, Nat.reduceEqDiff, Nat.reduceBEq, Nat.reduceGT, Nat.reduceMod, Nat.reduceDiv, ↓reduceIte, reduceCtorEq, Int.reduceLE, Int.reduceLT, Int.reduceToNat, Int.reduceEq, Int.reduceNeg, Int.reduceAdd, Int.reduceSub, Int.reduceMul, mkI, iV, mkQ, qV, fV, ofV, rV, mkR, wa_cond, axC_t, axC_f]
    refine wl_callV _ (by simp -implicitDefEqProofs only [go_sem, Nat.reduceAdd, Nat.reduceSub, Nat.reduceMul, Nat.reduceLT, Nat.reduceLeDiff, Nat.reduceEqDiff, Nat.reduceBEq, Nat.reduceGT, Nat.reduceMod, Nat.reduceDiv, ↓reduceIte, reduceCtorEq, Int.reduceLE, Int.reduceLT, Int.reduceToNat, Int.reduceEq, Int.reduceNeg, Int.reduceAdd, Int.reduceSub, Int.reduceMul, mkI, iV, mkQ, qV, fV, ofV, rV, mkR, wa_cond, axC_t, axC_f, e1, a1, a2, a3, a4]) (o2 _) ?_
    simp -implicitDefEqProofs only [go_sem, Nat.reduceAdd, Nat.reduceSub, Nat.reduceMul, Nat.reduceLT, Nat.reduceLeDiff, Nat.reduceEqDiff, Nat.reduceBEq, Nat.reduceGT, Nat.reduceMod, Nat.reduceDiv, ↓reduceIte, reduceCtorEq, Int.reduceLE, Int.reduceLT, Int.reduceToNat, Int.reduceEq, Int.reduceNeg, Int.reduceAdd, Int.reduceSub, Int.reduceMul, mkI, iV, mkQ, qV, fV, ofV, rV, mkR, wa_cond, axC_t, axC_f, e1, a1, a2, a3, a4]
    simp -implicitDefEqProofs only [go_sem, Nat.reduceAdd, Nat.reduceSub, Nat.reduceMul, Nat.reduceLT, Nat.reduceLeDiff, Nat.reduceEqDiff, Nat.reduceBEq, Nat.reduceGT, Nat.reduceMod, Nat.reduceDiv, ↓reduceIte, reduceCtorEq, Int.reduceLE, Int.reduceLT, Int.reduceToNat, Int.reduceEq, Int.reduceNeg, Int.reduceAdd, Int.reduceSub, Int.reduceMul, mkI, iV, mkQ, qV, fV, ofV, rV, mkR, res14]
    first | exact .app _ _ | exact ⟨.app _ _, rfl⟩ | exact .refl _ | exact ⟨.refl _, rfl⟩
  · rw [if_pos rfl]
    refine sim_ex tok mixed Tryz.func14 rfl (by kernel_rfl) (by kernel_rfl) (by simp only [Tryz.ntmps14, List.size_toArray, List.length_cons, List.length_nil]; omega) ?_
    simp -implicitDefEqProofs only [go_sem, Nat.reduceAdd, Nat.reduceSub, Nat.reduceMul, Nat.reduceLT, Nat.reduceLeDiff, Nat.reduceEqDiff, Nat.reduceBEq, Nat.reduceGT, Nat.reduceMod, Nat.reduceDiv, ↓reduceIte, reduceCtorEq, Int.reduceLE, Int.reduceLT, Int.reduceToNat, Int.reduceEq, Int.reduceNeg, Int.reduceAdd, Int.reduceSub, Int.reduceMul, mkI, iV, mkQ, qV, fV, ofV, rV, mkR]
    refine wl_callV _ (by simp -implicitDefEqProofs only [go_sem, Nat.reduceAdd, Nat.reduceSub, Nat.reduceMul, Nat.reduceLT, Nat.reduceLeDiff, Nat.reduceEqDiff, Nat.reduceBEq, Nat.reduceGT, Nat.reduceMod, Nat.reduceDiv, ↓reduceIte, reduceCtorEq, Int.reduceLE, Int.reduceLT, Int.reduceToNat, Int.reduceEq, Int.reduceNeg, Int.reduceAdd, Int.reduceSub, Int.reduceMul, mkI, iV, mkQ, qV, fV, ofV, rV, mkR, wa_cond, axC_t, axC_f]) (o1 _) ?_
    simp -implicitDefEqProofs only [go_sem, Nat.reduceAdd, Nat.reduceSub, Nat.reduceMul, Nat.reduceLT, Nat.reduceLeDiff, Nat.reduceEqDiff, Nat.reduceBEq, Nat.reduceGT, Nat.reduceMod, Nat.reduceDiv, ↓reduceIte, reduceCtorEq, Int.reduceLE, Int.reduceLT, Int.reduceToNat, Int.reduceEq, Int.reduceNeg, Int.reduceAdd, Int.reduceSub, Int.reduceMul, mkI, iV, mkQ, qV, fV, ofV, rV, mkR, wa_cond, axC_t, axC_f]
    refine wl_callV _ (by simp -implicitDefEqProofs only [go_sem, Nat.reduceAdd, Nat.reduceSub, Nat.reduceMul, Nat.reduceLT, Nat.reduceLeDiff, Nat.reduceEqDiff, Nat.reduceBEq, Nat.reduceGT, Nat.reduceMod, Nat.reduceDiv, ↓reduceIte, reduceCtorEq, Int.reduceLE, Int.reduceLT, Int.reduceToNat, Int.reduceEq, Int.reduceNeg, Int.reduceAdd, Int.reduceSub, Int.reduceMul, mkI, iV, mkQ, qV, fV, ofV, rV, mkR, wa_cond, axC_t, axC_f]) (o2 _) ?_
    simp -implicitDefEqProofs only [go_sem, Nat.reduceAdd, Nat.reduceSub, Nat.reduceMul, Nat.reduceLT, Nat.reduceLeDiff, Nat.reduceEqDiff, Nat.reduceBEq, Nat.reduceGT, Nat.reduceMod, Nat.reduceDiv, ↓reduceIte, reduceCtorEq, Int.reduceLE, Int.reduceLT, Int.reduceToNat, Int.reduceEq, Int.reduceNeg, Int.reduceAdd, Int.reduceSub, Int.reduceMul, mkI, iV, mkQ, qV, fV, ofV, rV, mkR, wa_cond, axC_t, axC_f]
    simp -implicitDefEqProofs only [go_sem, Nat.reduceAdd, Nat.reduceSub, Nat.reduceMul, Nat.reduceLT, Nat.reduceLeDiff, Nat.reduceEqDiff, Nat.reduceBEq, Nat.reduceGT, Nat.reduceMod, Nat.reduceDiv, ↓reduceIte, reduceCtorEq, Int.reduceLE, Int.reduceLT, Int.reduceToNat, Int.reduceEq, Int.reduceNeg, Int.reduceAdd, Int.reduceSub, Int.reduceMul, mkI, iV, mkQ, qV, fV, ofV, rV, mkR, res14]
    first | exact .app _ _ | exact ⟨.app _ _, rfl⟩ | exact .refl _ | exact ⟨.refl _, rfl⟩

def Rot.qt (r : Rot) : Rot := ⟨-r.s, r.c⟩
/-- a rotation's value is that of its quarter turn -/
theorem quarterS (H : Heap) {r : Rot} {k : Nat} (hr : r.Sz k) (hk : k ≤ 100000) : Sim Tryz.prog 43 #[(RR.of r).val] H (RR.of (Rot.qt r)).val H := by
  refine flat_ex rfl ?_
  have o1 := fun H => negQ H hr.s.qv (by omega)
  unfold Rot.qt
  rw [RR.of_val, RR.of_val]
  simp only
  generalize -r.s = z at *
  generalize r.c = x at *
  generalize r.s = y at *
  unfold mkR rV
  refine sim_ex tok mixed Tryz.func43 rfl (by kernel_rfl) (by kernel_rfl) (by simp only [Tryz.ntmps43, List.size_toArray, List.length_cons, List.length_nil]; omega) ?_
  simp -implicitDefEqProofs only [go_sem, Nat.reduceAdd, Nat.reduceSub, Nat.reduceMul, Nat.reduceLT, Nat.reduceLeDiff, Nat.reduceEqDiff, Nat.reduceBEq, Nat.reduceGT, Nat.reduceMod, Nat.reduceDiv, ↓reduceIte, reduceCtorEq, Int.reduceLE, Int.reduceLT, Int.reduceToNat, Int.reduceEq, Int.reduceNeg, Int.reduceAdd, Int.reduceSub, Int.reduceMul, mkI, iV, mkQ, qV, fV, ofV, rV, mkR]
  refine ax_quiet (by kernel_rfl) ?_
  simp -implicitDefEqProofs only [go_sem, Nat.reduceAdd, Nat.reduceSub, Nat.reduceMul, Nat.reduceLT, Nat.reduceLeDiff, Nat.reduceEqDiff, Nat.reduceBEq, Nat.reduceGT, Nat.reduceMod, Nat.reduceDiv, ↓reduceIte, reduceCtorEq, Int.reduceLE, Int.reduceLT, Int.reduceToNat, Int.reduceEq, Int.reduceNeg, Int.reduceAdd, Int.reduceSub, Int.reduceMul, mkI, iV, mkQ, qV, fV, ofV, rV, mkR]
  refine wl_callV _ (by simp -implicitDefEqProofs only [go_sem, Nat.reduceAdd, Nat.reduceSub, Nat.reduceMul, Nat.reduceLT, Nat.reduceLeDiff, Nat.reduceEqDiff, Nat.reduceBEq, Nat.reduceGT, Nat.reduceMod, Nat.reduceDiv, ↓reduceIte, reduceCtorEq, Int.reduceLE, Int.reduceLT, Int.reduceToNat, Int.reduceEq, Int.reduceNeg, Int.reduceAdd, Int.reduceSub, Int.reduceMul, mkI, iV, mkQ, qV, fV, ofV, rV, mkR]) (o1 _) ?_
  simp -implicitDefEqProofs only [go_sem, Nat.reduceAdd, Nat.reduceSub, Nat.reduceMul, Nat.reduceLT, Nat.reduceLeDiff, Nat.reduceEqDiff, Nat.reduceBEq, Nat.reduceGT, Nat.reduceMod, Nat.reduceDiv, ↓reduceIte, reduceCtorEq, Int.reduceLE, Int.reduceLT, Int.reduceToNat, Int.reduceEq, Int.reduceNeg, Int.reduceAdd, Int.reduceSub, Int.reduceMul, mkI, iV, mkQ, qV, fV, ofV, rV, mkR]
  simp -implicitDefEqProofs only [go_sem, Nat.reduceAdd, Nat.reduceSub, Nat.reduceMul, Nat.reduceLT, Nat.reduceLeDiff, Nat.reduceEqDiff, Nat.reduceBEq, Nat.reduceGT, Nat.reduceMod, Nat.reduceDiv, ↓reduceIte, reduceCtorEq, Int.reduceLE, Int.reduceLT, Int.reduceToNat, Int.reduceEq, Int.reduceNeg, Int.reduceAdd, Int.reduceSub, Int.reduceMul, mkI, iV, mkQ, qV, fV, ofV, rV, mkR, res43]
  first | exact .app _ _ | exact ⟨.app _ _, rfl⟩ | exact .refl _ | exact ⟨.refl _, rfl⟩
end Go.Proofs.YthhmkaikopdmjaaGreat
