/- rational: simplest, Simplest; rational: Simplest. Conditions: none. -/
import Derived.Test.YthhmkaikopdmjaaGreatMi
set_option linter.unusedSimpArgs false
set_option linter.unusedVariables false
set_option maxRecDepth 8000
namespace Go.Proofs.YthhmkaikopdmjaaGreat
open Go Go.Fw

theorem divInt_one (z : Int) : Rat.divInt z 1 = (z : Rat) := by rw [divInt_pos (by decide)]; exact mkRat_one z
theorem simplest_sim {K : Nat} (hK : K ≤ 60000) (h3 : 10 ≤ K) : ∀ (fuel : Nat) (v w : Value) (a b : Rat), QV v a (K + 7) → QV w b (K + 7) → Sz a K → Sz b K → 0 < a → a ≤ b → a.den + b.den ≤ fuel → ∀ H, Sim Tryz.prog 176 #[v, w] H (mkQ (simpQ fuel a b)) H := by
  intro fuel
  induction fuel with
  | zero => intro v w a b _ _ _ _ _ _ h; have := a.den_pos; omega
  | succ fuel ih =>
  intro v w a b hv hw ha hb ha0 hab hf H
  refine flat_ex rfl ?_
  have c1 := ceil_le ha
  have hone : Sz (1 : Rat) K := by
    have := Sz.int (z := 1) (k := K) (by have : 2 ^ 1 ≤ 2 ^ K := Nat.pow_le_pow_right (by decide) (by omega); simp; omega) (by omega)
    simpa using this
  have o1 := fun H => ceilQ H hv (by omega)
  have o2 := fun H => of_sim H (z := 1) (by decide) (by decide)
  have o3 := fun H => new_sim H (IA.mk c1) ((IA.mk (z := 1) (k := 8) (by decide)).mono (show 15 ≤ K + 7 by omega)) (by omega)
  simp only [show ¬ (1 : Int) = 0 by decide, if_false, divInt_one] at o3
  have hv5 := Sz.int (k := K) c1 (by omega)
  have o4 := fun H => cmpR H hv5.qv hw (by omega) (by omega)
  have hb0 : 0 < b := by grind
  by_cases hup : (a.ceil : Rat) ≤ b
  · have h1 : cmpQ (a.ceil : Rat) b ≤ 0 := cmpQ_le.2 hup
    have e1 : simpQ (fuel + 1) a b = (a.ceil : Rat) := by unfold simpQ; rw [if_pos hup]
    rw [e1]
    clear e1
    generalize cmpQ (a.ceil : Rat) b = c at *
    clear hup hv5
    generalize (a.ceil : Rat) = u at *
    generalize a.ceil = z at *
    obtain ⟨g, n, d, rfl, -, -, -⟩ := hv
    obtain ⟨g', n', d', rfl, -, -, -⟩ := hw
    unfold qV at o1 o4 ⊢
    refine sim_ex tok mixed Tryz.func176 rfl (by kernel_rfl) (by kernel_rfl) (by simp only [Tryz.ntmps176, List.size_toArray, List.length_cons, List.length_nil]; omega) ?_
    simp -implicitDefEqProofs only [go_sem, Nat.reduceAdd, Nat.reduceSub, Nat.reduceMul, Nat.reduceLT, Nat.reduceLeDiff, Nat.reduceEqDiff, Nat.reduceBEq, Nat.reduceGT, Nat.reduceMod, Nat.reduceDiv, ↓reduceIte, reduceCtorEq, Int.reduceLE, Int.reduceLT, Int.reduceToNat, Int.reduceEq, Int.reduceNeg, Int.reduceAdd, Int.reduceSub, Int.reduceMul, mkI, iV, mkQ, qV, fV, ofV, rV, mkR]
    refine wl_callV _ (by simp -implicitDefEqProofs only [go_sem, Nat.reduceAdd, Nat.reduceSub, Nat.reduceMul, Nat.reduceLT, Nat.reduceLeDiff, Nat.reduceEqDiff, Nat.reduceBEq, Nat.reduceGT, Nat.reduceMod, Nat.reduceDiv, ↓reduceIte, reduceCtorEq, Int.reduceLE, Int.reduceLT, Int.reduceToNat, Int.reduceEq, Int.reduceNeg, Int.reduceAdd, Int.reduceSub, Int.reduceMul, mkI, iV, mkQ, qV, fV, ofV, rV, mkR]) (o1 _) ?_
    simp -implicitDefEqProofs only [go_sem, Nat.reduceAdd, Nat.reduceSub, Nat.reduceMul, Nat.reduceLT, Nat.reduceLeDiff, Nat.reduceEqDiff, Nat.reduceBEq, Nat.reduceGT, Nat.reduceMod, Nat.reduceDiv, ↓reduceIte, reduceCtorEq, Int.reduceLE, Int.reduceLT, Int.reduceToNat, Int.reduceEq, Int.reduceNeg, Int.reduceAdd, Int.reduceSub, Int.reduceMul, mkI, iV, mkQ, qV, fV, ofV, rV, mkR]
    refine wl_callV _ (by simp -implicitDefEqProofs only [go_sem, Nat.reduceAdd, Nat.reduceSub, Nat.reduceMul, Nat.reduceLT, Nat.reduceLeDiff, Nat.reduceEqDiff, Nat.reduceBEq, Nat.reduceGT, Nat.reduceMod, Nat.reduceDiv, ↓reduceIte, reduceCtorEq, Int.reduceLE, Int.reduceLT, Int.reduceToNat, Int.reduceEq, Int.reduceNeg, Int.reduceAdd, Int.reduceSub, Int.reduceMul, mkI, iV, mkQ, qV, fV, ofV, rV, mkR]) (o2 _) ?_
    simp -implicitDefEqProofs only [go_sem, Nat.reduceAdd, Nat.reduceSub, Nat.reduceMul, Nat.reduceLT, Nat.reduceLeDiff, Nat.reduceEqDiff, Nat.reduceBEq, Nat.reduceGT, Nat.reduceMod, Nat.reduceDiv, ↓reduceIte, reduceCtorEq, Int.reduceLE, Int.reduceLT, Int.reduceToNat, Int.reduceEq, Int.reduceNeg, Int.reduceAdd, Int.reduceSub, Int.reduceMul, mkI, iV, mkQ, qV, fV, ofV, rV, mkR]
    refine wl_callV _ (by simp -implicitDefEqProofs only [go_sem, Nat.reduceAdd, Nat.reduceSub, Nat.reduceMul, Nat.reduceLT, Nat.reduceLeDiff, Nat.reduceEqDiff, Nat.reduceBEq, Nat.reduceGT, Nat.reduceMod, Nat.reduceDiv, ↓reduceIte, reduceCtorEq, Int.reduceLE, Int.reduceLT, Int.reduceToNat, Int.reduceEq, Int.reduceNeg, Int.reduceAdd, Int.reduceSub, Int.reduceMul, mkI, iV, mkQ, qV, fV, ofV, rV, mkR]) (o3 _) ?_
    simp -implicitDefEqProofs only [go_sem, Nat.reduceAdd, Nat.reduceSub, Nat.reduceMul, Nat.reduceLT, Nat.reduceLeDiff, Nat.reduceEqDiff, Nat.reduceBEq, Nat.reduceGT, Nat.reduceMod, Nat.reduceDiv, ↓reduceIte, reduceCtorEq, Int.reduceLE, Int.reduceLT, Int.reduceToNat, Int.reduceEq, Int.reduceNeg, Int.reduceAdd, Int.reduceSub, Int.reduceMul, mkI, iV, mkQ, qV, fV, ofV, rV, mkR]
    refine wl_callV _ (by simp -implicitDefEqProofs only [go_sem, Nat.reduceAdd, Nat.reduceSub, Nat.reduceMul, Nat.reduceLT, Nat.reduceLeDiff, Nat.reduceEqDiff, Nat.reduceBEq, Nat.reduceGT, Nat.reduceMod, Nat.reduceDiv, ↓reduceIte, reduceCtorEq, Int.reduceLE, Int.reduceLT, Int.reduceToNat, Int.reduceEq, Int.reduceNeg, Int.reduceAdd, Int.reduceSub, Int.reduceMul, mkI, iV, mkQ, qV, fV, ofV, rV, mkR, h1, wa_cond, axC_t, axC_f]) (o4 _) ?_
    simp -implicitDefEqProofs only [go_sem, Nat.reduceAdd, Nat.reduceSub, Nat.reduceMul, Nat.reduceLT, Nat.reduceLeDiff, Nat.reduceEqDiff, Nat.reduceBEq, Nat.reduceGT, Nat.reduceMod, Nat.reduceDiv, ↓reduceIte, reduceCtorEq, Int.reduceLE, Int.reduceLT, Int.reduceToNat, Int.reduceEq, Int.reduceNeg, Int.reduceAdd, Int.reduceSub, Int.reduceMul, mkI, iV, mkQ, qV, fV, ofV, rV, mkR, h1, wa_cond, axC_t, axC_f]
    simp -implicitDefEqProofs only [go_sem, Nat.reduceAdd, Nat.reduceSub, Nat.reduceMul, Nat.reduceLT, Nat.reduceLeDiff, Nat.reduceEqDiff, Nat.reduceBEq, Nat.reduceGT, Nat.reduceMod, Nat.reduceDiv, ↓reduceIte, reduceCtorEq, Int.reduceLE, Int.reduceLT, Int.reduceToNat, Int.reduceEq, Int.reduceNeg, Int.reduceAdd, Int.reduceSub, Int.reduceMul, mkI, iV, mkQ, qV, fV, ofV, rV, mkR, res176]
    first | exact .app _ _ | exact ⟨.app _ _, rfl⟩ | exact .refl _ | exact ⟨.refl _, rfl⟩
  · have h1 : ¬ cmpQ (a.ceil : Rat) b ≤ 0 := fun h => hup (cmpQ_le.1 h)
    have hs := Simp.of ha0 hab hup
    obtain ⟨sx, sy⟩ := hs.sz ha hb
    have hl1 := (ceil_bounds a)
    have hcl : (a.ceil : Rat) - ((1 : Int) : Rat) = ((a.ceil - 1 : Int) : Rat) := by rw [Rat.intCast_sub]
    have hc0 := (ceil_num ha0).1
    have hlow : Sz (((a.ceil - 1 : Int) : Rat)) K := Sz.int (by omega) (by omega)
    have e1 : simpQ (fuel + 1) a b = ((a.ceil - 1 : Int) : Rat) + 1 / simpQ fuel (1 / (b - ((a.ceil - 1 : Int) : Rat))) (1 / (a - ((a.ceil - 1 : Int) : Rat))) := by
      conv => lhs; unfold simpQ
      rw [if_neg hup]
    have o5 := fun H => ofN_sim H (n := 1) (by decide) (by decide)
    have h1K : QV (mkQ ((1 : Int) : Rat)) ((1 : Int) : Rat) (K + 7) := (Sz.int (z := 1) (by have : 2 ^ 1 ≤ 2 ^ K := Nat.pow_le_pow_right (by decide) (by omega); simp; omega) (by omega)).qv
    have o6 := fun H => subQ H hv5.qv h1K (by omega) (by omega)
    rw [hcl] at o6
    have up : (a.ceil : Rat) = ((a.ceil - 1 : Int) : Rat) + 1 := by rw [Rat.intCast_sub]; grind
    rw [e1]
    generalize hll : a.ceil - 1 = l at *
    have pb : 0 < b - (l : Rat) := by grind
    have pa : 0 < a - (l : Rat) := by grind
    have lb : b - (l : Rat) < 1 := by grind
    have la : a - (l : Rat) < 1 := by grind
    have tb := hb.subI pb lb
    have ta := ha.subI pa la
    have o7 := fun H => subQ H hw hlow.qv (by omega) (by omega)
    have o8 := fun H => subQ H hv hlow.qv (by omega) (by omega)
    have o9 := fun H => quoQ H h1K tb.qv (by omega) (by omega)
    have o10 := fun H => quoQ H h1K ta.qv (by omega) (by omega)
    have nb : ¬ b - (l : Rat) = 0 := by grind
    have na : ¬ a - (l : Rat) = 0 := by grind
    simp only [nb, if_false] at o9
    simp only [na, if_false] at o10
    have e11 : ((1 : Int) : Rat) = 1 := rfl
    rw [e11] at o9 o10
    have o11 := ih (mkQ (1 / (b - (l : Rat)))) (mkQ (1 / (a - (l : Rat)))) _ _ sy.qv sx.qv sy sx hs.pos hs.le (by have := hs.da; have := hs.db; omega)
    have hz := simpQ_small fuel _ _ hs.pos hs.le (by have := hs.da; have := hs.db; omega)
    have sz := Sz.simp hs.pos hs.le (by have := hs.da; have := hs.db; omega) sy (n := fuel)
    generalize simpQ fuel (1 / (b - (l : Rat))) (1 / (a - (l : Rat))) = z at *
    have o12 := fun H => quoQ H h1K sz.qv (by omega) (by omega)
    have nz : ¬ z = 0 := by grind
    simp only [nz, if_false] at o12
    rw [e11] at o12 o5 o6
    have o13 := fun H => addQ H hlow.qv (sz.inv1 hz.1).qv (by omega) (by omega)
    clear hz sz hs sx sy hl1 up pb pa lb la tb ta nb na nz e1 h1K hlow hv5 e11
    generalize 1 / z = z2 at *
    generalize (l : Rat) + z2 = res at *
    generalize 1 / (b - (l : Rat)) = x at *
    generalize 1 / (a - (l : Rat)) = y at *
    generalize b - (l : Rat) = bl at *
    generalize a - (l : Rat) = al at *
    generalize (l : Rat) = lq at *
    generalize cmpQ (a.ceil : Rat) b = c at *
    clear hup
    generalize (a.ceil : Rat) = u at *
    generalize a.ceil = zc at *
    obtain ⟨g, n, d, rfl, -, -, -⟩ := hv
    obtain ⟨g', n', d', rfl, -, -, -⟩ := hw
    unfold qV at o1 o4 o7 o8 ⊢
    refine sim_ex tok mixed Tryz.func176 rfl (by kernel_rfl) (by kernel_rfl) (by simp only [Tryz.ntmps176, List.size_toArray, List.length_cons, List.length_nil]; omega) ?_
    simp -implicitDefEqProofs only [go_sem, Nat.reduceAdd, Nat.reduceSub, Nat.reduceMul, Nat.reduceLT, Nat.reduceLeDiff, Nat.reduceEqDiff, Nat.reduceBEq, Nat.reduceGT, Nat.reduceMod, Nat.reduceDiv, ↓reduceIte, reduceCtorEq, Int.reduceLE, Int.reduceLT, Int.reduceToNat, Int.reduceEq, Int.reduceNeg, Int.reduceAdd, Int.reduceSub, Int.reduceMul, mkI, iV, mkQ, qV, fV, ofV, rV, mkR]
    refine wl_callV _ (by simp -implicitDefEqProofs only [go_sem, Nat.reduceAdd, Nat.reduceSub, Nat.reduceMul, Nat.reduceLT, Nat.reduceLeDiff, Nat.reduceEqDiff, Nat.reduceBEq, Nat.reduceGT, Nat.reduceMod, Nat.reduceDiv, ↓reduceIte, reduceCtorEq, Int.reduceLE, Int.reduceLT, Int.reduceToNat, Int.reduceEq, Int.reduceNeg, Int.reduceAdd, Int.reduceSub, Int.reduceMul, mkI, iV, mkQ, qV, fV, ofV, rV, mkR]) (o1 _) ?_
    simp -implicitDefEqProofs only [go_sem, Nat.reduceAdd, Nat.reduceSub, Nat.reduceMul, Nat.reduceLT, Nat.reduceLeDiff, Nat.reduceEqDiff, Nat.reduceBEq, Nat.reduceGT, Nat.reduceMod, Nat.reduceDiv, ↓reduceIte, reduceCtorEq, Int.reduceLE, Int.reduceLT, Int.reduceToNat, Int.reduceEq, Int.reduceNeg, Int.reduceAdd, Int.reduceSub, Int.reduceMul, mkI, iV, mkQ, qV, fV, ofV, rV, mkR]
    refine wl_callV _ (by simp -implicitDefEqProofs only [go_sem, Nat.reduceAdd, Nat.reduceSub, Nat.reduceMul, Nat.reduceLT, Nat.reduceLeDiff, Nat.reduceEqDiff, Nat.reduceBEq, Nat.reduceGT, Nat.reduceMod, Nat.reduceDiv, ↓reduceIte, reduceCtorEq, Int.reduceLE, Int.reduceLT, Int.reduceToNat, Int.reduceEq, Int.reduceNeg, Int.reduceAdd, Int.reduceSub, Int.reduceMul, mkI, iV, mkQ, qV, fV, ofV, rV, mkR]) (o2 _) ?_
    simp -implicitDefEqProofs only [go_sem, Nat.reduceAdd, Nat.reduceSub, Nat.reduceMul, Nat.reduceLT, Nat.reduceLeDiff, Nat.reduceEqDiff, Nat.reduceBEq, Nat.reduceGT, Nat.reduceMod, Nat.reduceDiv, ↓reduceIte, reduceCtorEq, Int.reduceLE, Int.reduceLT, Int.reduceToNat, Int.reduceEq, Int.reduceNeg, Int.reduceAdd, Int.reduceSub, Int.reduceMul, mkI, iV, mkQ, qV, fV, ofV, rV, mkR]
    refine wl_callV _ (by simp -implicitDefEqProofs only [go_sem, Nat.reduceAdd, Nat.reduceSub, Nat.reduceMul, Nat.reduceLT, Nat.reduceLeDiff, Nat.reduceEqDiff, Nat.reduceBEq, Nat.reduceGT, Nat.reduceMod, Nat.reduceDiv, ↓reduceIte, reduceCtorEq, Int.reduceLE, Int.reduceLT, Int.reduceToNat, Int.reduceEq, Int.reduceNeg, Int.reduceAdd, Int.reduceSub, Int.reduceMul, mkI, iV, mkQ, qV, fV, ofV, rV, mkR]) (o3 _) ?_
    simp -implicitDefEqProofs only [go_sem, Nat.reduceAdd, Nat.reduceSub, Nat.reduceMul, Nat.reduceLT, Nat.reduceLeDiff, Nat.reduceEqDiff, Nat.reduceBEq, Nat.reduceGT, Nat.reduceMod, Nat.reduceDiv, ↓reduceIte, reduceCtorEq, Int.reduceLE, Int.reduceLT, Int.reduceToNat, Int.reduceEq, Int.reduceNeg, Int.reduceAdd, Int.reduceSub, Int.reduceMul, mkI, iV, mkQ, qV, fV, ofV, rV, mkR]
    refine wl_callV _ (by simp -implicitDefEqProofs only [go_sem, Nat.reduceAdd, Nat.reduceSub, Nat.reduceMul, Nat.reduceLT, Nat.reduceLeDiff, Nat.reduceEqDiff, Nat.reduceBEq, Nat.reduceGT, Nat.reduceMod, Nat.reduceDiv, ↓reduceIte, reduceCtorEq, Int.reduceLE, Int.reduceLT, Int.reduceToNat, Int.reduceEq, Int.reduceNeg, Int.reduceAdd, Int.reduceSub, Int.reduceMul, mkI, iV, mkQ, qV, fV, ofV, rV, mkR, h1, wa_cond, axC_t, axC_f]) (o4 _) ?_
    simp -implicitDefEqProofs only [go_sem, Nat.reduceAdd, Nat.reduceSub, Nat.reduceMul, Nat.reduceLT, Nat.reduceLeDiff, Nat.reduceEqDiff, Nat.reduceBEq, Nat.reduceGT, Nat.reduceMod, Nat.reduceDiv, ↓reduceIte, reduceCtorEq, Int.reduceLE, Int.reduceLT, Int.reduceToNat, Int.reduceEq, Int.reduceNeg, Int.reduceAdd, Int.reduceSub, Int.reduceMul, mkI, iV, mkQ, qV, fV, ofV, rV, mkR, h1, wa_cond, axC_t, axC_f]
    refine ax_quiet (by kernel_rfl) ?_
    simp -implicitDefEqProofs only [go_sem, Nat.reduceAdd, Nat.reduceSub, Nat.reduceMul, Nat.reduceLT, Nat.reduceLeDiff, Nat.reduceEqDiff, Nat.reduceBEq, Nat.reduceGT, Nat.reduceMod, Nat.reduceDiv, ↓reduceIte, reduceCtorEq, Int.reduceLE, Int.reduceLT, Int.reduceToNat, Int.reduceEq, Int.reduceNeg, Int.reduceAdd, Int.reduceSub, Int.reduceMul, mkI, iV, mkQ, qV, fV, ofV, rV, mkR]
    refine wl_callV _ (by simp -implicitDefEqProofs only [go_sem, Nat.reduceAdd, Nat.reduceSub, Nat.reduceMul, Nat.reduceLT, Nat.reduceLeDiff, Nat.reduceEqDiff, Nat.reduceBEq, Nat.reduceGT, Nat.reduceMod, Nat.reduceDiv, ↓reduceIte, reduceCtorEq, Int.reduceLE, Int.reduceLT, Int.reduceToNat, Int.reduceEq, Int.reduceNeg, Int.reduceAdd, Int.reduceSub, Int.reduceMul, mkI, iV, mkQ, qV, fV, ofV, rV, mkR]) (o5 _) ?_
    simp -implicitDefEqProofs only [go_sem, Nat.reduceAdd, Nat.reduceSub, Nat.reduceMul, Nat.reduceLT, Nat.reduceLeDiff, Nat.reduceEqDiff, Nat.reduceBEq, Nat.reduceGT, Nat.reduceMod, Nat.reduceDiv, ↓reduceIte, reduceCtorEq, Int.reduceLE, Int.reduceLT, Int.reduceToNat, Int.reduceEq, Int.reduceNeg, Int.reduceAdd, Int.reduceSub, Int.reduceMul, mkI, iV, mkQ, qV, fV, ofV, rV, mkR]
    refine wl_callV _ (by simp -implicitDefEqProofs only [go_sem, Nat.reduceAdd, Nat.reduceSub, Nat.reduceMul, Nat.reduceLT, Nat.reduceLeDiff, Nat.reduceEqDiff, Nat.reduceBEq, Nat.reduceGT, Nat.reduceMod, Nat.reduceDiv, ↓reduceIte, reduceCtorEq, Int.reduceLE, Int.reduceLT, Int.reduceToNat, Int.reduceEq, Int.reduceNeg, Int.reduceAdd, Int.reduceSub, Int.reduceMul, mkI, iV, mkQ, qV, fV, ofV, rV, mkR]) (o6 _) ?_
    simp -implicitDefEqProofs only [go_sem, Nat.reduceAdd, Nat.reduceSub, Nat.reduceMul, Nat.reduceLT, Nat.reduceLeDiff, Nat.reduceEqDiff, Nat.reduceBEq, Nat.reduceGT, Nat.reduceMod, Nat.reduceDiv, ↓reduceIte, reduceCtorEq, Int.reduceLE, Int.reduceLT, Int.reduceToNat, Int.reduceEq, Int.reduceNeg, Int.reduceAdd, Int.reduceSub, Int.reduceMul, mkI, iV, mkQ, qV, fV, ofV, rV, mkR]
    refine ax_quiet (by kernel_rfl) ?_
    simp -implicitDefEqProofs only [go_sem, Nat.reduceAdd, Nat.reduceSub, Nat.reduceMul, Nat.reduceLT, Nat.reduceLeDiff, Nat.reduceEqDiff, Nat.reduceBEq, Nat.reduceGT, Nat.reduceMod, Nat.reduceDiv, ↓reduceIte, reduceCtorEq, Int.reduceLE, Int.reduceLT, Int.reduceToNat, Int.reduceEq, Int.reduceNeg, Int.reduceAdd, Int.reduceSub, Int.reduceMul, mkI, iV, mkQ, qV, fV, ofV, rV, mkR]
    refine wl_callV _ (by simp -implicitDefEqProofs only [go_sem, Nat.reduceAdd, Nat.reduceSub, Nat.reduceMul, Nat.reduceLT, Nat.reduceLeDiff, Nat.reduceEqDiff, Nat.reduceBEq, Nat.reduceGT, Nat.reduceMod, Nat.reduceDiv, ↓reduceIte, reduceCtorEq, Int.reduceLE, Int.reduceLT, Int.reduceToNat, Int.reduceEq, Int.reduceNeg, Int.reduceAdd, Int.reduceSub, Int.reduceMul, mkI, iV, mkQ, qV, fV, ofV, rV, mkR]) (o5 _) ?_
    simp -implicitDefEqProofs only [go_sem, Nat.reduceAdd, Nat.reduceSub, Nat.reduceMul, Nat.reduceLT, Nat.reduceLeDiff, Nat.reduceEqDiff, Nat.reduceBEq, Nat.reduceGT, Nat.reduceMod, Nat.reduceDiv, ↓reduceIte, reduceCtorEq, Int.reduceLE, Int.reduceLT, Int.reduceToNat, Int.reduceEq, Int.reduceNeg, Int.reduceAdd, Int.reduceSub, Int.reduceMul, mkI, iV, mkQ, qV, fV, ofV, rV, mkR]
    refine wl_callV _ (by simp -implicitDefEqProofs only [go_sem, Nat.reduceAdd, Nat.reduceSub, Nat.reduceMul, Nat.reduceLT, Nat.reduceLeDiff, Nat.reduceEqDiff, Nat.reduceBEq, Nat.reduceGT, Nat.reduceMod, Nat.reduceDiv, ↓reduceIte, reduceCtorEq, Int.reduceLE, Int.reduceLT, Int.reduceToNat, Int.reduceEq, Int.reduceNeg, Int.reduceAdd, Int.reduceSub, Int.reduceMul, mkI, iV, mkQ, qV, fV, ofV, rV, mkR]) (o7 _) ?_
    simp -implicitDefEqProofs only [go_sem, Nat.reduceAdd, Nat.reduceSub, Nat.reduceMul, Nat.reduceLT, Nat.reduceLeDiff, Nat.reduceEqDiff, Nat.reduceBEq, Nat.reduceGT, Nat.reduceMod, Nat.reduceDiv, ↓reduceIte, reduceCtorEq, Int.reduceLE, Int.reduceLT, Int.reduceToNat, Int.reduceEq, Int.reduceNeg, Int.reduceAdd, Int.reduceSub, Int.reduceMul, mkI, iV, mkQ, qV, fV, ofV, rV, mkR]
    refine wl_callV _ (by simp -implicitDefEqProofs only [go_sem, Nat.reduceAdd, Nat.reduceSub, Nat.reduceMul, Nat.reduceLT, Nat.reduceLeDiff, Nat.reduceEqDiff, Nat.reduceBEq, Nat.reduceGT, Nat.reduceMod, Nat.reduceDiv, ↓reduceIte, reduceCtorEq, Int.reduceLE, Int.reduceLT, Int.reduceToNat, Int.reduceEq, Int.reduceNeg, Int.reduceAdd, Int.reduceSub, Int.reduceMul, mkI, iV, mkQ, qV, fV, ofV, rV, mkR]) (o9 _) ?_
    simp -implicitDefEqProofs only [go_sem, Nat.reduceAdd, Nat.reduceSub, Nat.reduceMul, Nat.reduceLT, Nat.reduceLeDiff, Nat.reduceEqDiff, Nat.reduceBEq, Nat.reduceGT, Nat.reduceMod, Nat.reduceDiv, ↓reduceIte, reduceCtorEq, Int.reduceLE, Int.reduceLT, Int.reduceToNat, Int.reduceEq, Int.reduceNeg, Int.reduceAdd, Int.reduceSub, Int.reduceMul, mkI, iV, mkQ, qV, fV, ofV, rV, mkR]
    refine ax_quiet (by kernel_rfl) ?_
    simp -implicitDefEqProofs only [go_sem, Nat.reduceAdd, Nat.reduceSub, Nat.reduceMul, Nat.reduceLT, Nat.reduceLeDiff, Nat.reduceEqDiff, Nat.reduceBEq, Nat.reduceGT, Nat.reduceMod, Nat.reduceDiv, ↓reduceIte, reduceCtorEq, Int.reduceLE, Int.reduceLT, Int.reduceToNat, Int.reduceEq, Int.reduceNeg, Int.reduceAdd, Int.reduceSub, Int.reduceMul, mkI, iV, mkQ, qV, fV, ofV, rV, mkR]
    refine wl_callV _ (by simp -implicitDefEqProofs only [go_sem, Nat.reduceAdd, Nat.reduceSub, Nat.reduceMul, Nat.reduceLT, Nat.reduceLeDiff, Nat.reduceEqDiff, Nat.reduceBEq, Nat.reduceGT, Nat.reduceMod, Nat.reduceDiv, ↓reduceIte, reduceCtorEq, Int.reduceLE, Int.reduceLT, Int.reduceToNat, Int.reduceEq, Int.reduceNeg, Int.reduceAdd, Int.reduceSub, Int.reduceMul, mkI, iV, mkQ, qV, fV, ofV, rV, mkR]) (o5 _) ?_
    simp -implicitDefEqProofs only [go_sem, Nat.reduceAdd, Nat.reduceSub, Nat.reduceMul, Nat.reduceLT, Nat.reduceLeDiff, Nat.reduceEqDiff, Nat.reduceBEq, Nat.reduceGT, Nat.reduceMod, Nat.reduceDiv, ↓reduceIte, reduceCtorEq, Int.reduceLE, Int.reduceLT, Int.reduceToNat, Int.reduceEq, Int.reduceNeg, Int.reduceAdd, Int.reduceSub, Int.reduceMul, mkI, iV, mkQ, qV, fV, ofV, rV, mkR]
    refine wl_callV _ (by simp -implicitDefEqProofs only [go_sem, Nat.reduceAdd, Nat.reduceSub, Nat.reduceMul, Nat.reduceLT, Nat.reduceLeDiff, Nat.reduceEqDiff, Nat.reduceBEq, Nat.reduceGT, Nat.reduceMod, Nat.reduceDiv, ↓reduceIte, reduceCtorEq, Int.reduceLE, Int.reduceLT, Int.reduceToNat, Int.reduceEq, Int.reduceNeg, Int.reduceAdd, Int.reduceSub, Int.reduceMul, mkI, iV, mkQ, qV, fV, ofV, rV, mkR]) (o8 _) ?_
    simp -implicitDefEqProofs only [go_sem, Nat.reduceAdd, Nat.reduceSub, Nat.reduceMul, Nat.reduceLT, Nat.reduceLeDiff, Nat.reduceEqDiff, Nat.reduceBEq, Nat.reduceGT, Nat.reduceMod, Nat.reduceDiv, ↓reduceIte, reduceCtorEq, Int.reduceLE, Int.reduceLT, Int.reduceToNat, Int.reduceEq, Int.reduceNeg, Int.reduceAdd, Int.reduceSub, Int.reduceMul, mkI, iV, mkQ, qV, fV, ofV, rV, mkR]
    refine wl_callV _ (by simp -implicitDefEqProofs only [go_sem, Nat.reduceAdd, Nat.reduceSub, Nat.reduceMul, Nat.reduceLT, Nat.reduceLeDiff, Nat.reduceEqDiff, Nat.reduceBEq, Nat.reduceGT, Nat.reduceMod, Nat.reduceDiv, ↓reduceIte, reduceCtorEq, Int.reduceLE, Int.reduceLT, Int.reduceToNat, Int.reduceEq, Int.reduceNeg, Int.reduceAdd, Int.reduceSub, Int.reduceMul, mkI, iV, mkQ, qV, fV, ofV, rV, mkR]) (o10 _) ?_
    simp -implicitDefEqProofs only [go_sem, Nat.reduceAdd, Nat.reduceSub, Nat.reduceMul, Nat.reduceLT, Nat.reduceLeDiff, Nat.reduceEqDiff, Nat.reduceBEq, Nat.reduceGT, Nat.reduceMod, Nat.reduceDiv, ↓reduceIte, reduceCtorEq, Int.reduceLE, Int.reduceLT, Int.reduceToNat, Int.reduceEq, Int.reduceNeg, Int.reduceAdd, Int.reduceSub, Int.reduceMul, mkI, iV, mkQ, qV, fV, ofV, rV, mkR]
    refine ax_quiet (by kernel_rfl) ?_
    simp -implicitDefEqProofs only [go_sem, Nat.reduceAdd, Nat.reduceSub, Nat.reduceMul, Nat.reduceLT, Nat.reduceLeDiff, Nat.reduceEqDiff, Nat.reduceBEq, Nat.reduceGT, Nat.reduceMod, Nat.reduceDiv, ↓reduceIte, reduceCtorEq, Int.reduceLE, Int.reduceLT, Int.reduceToNat, Int.reduceEq, Int.reduceNeg, Int.reduceAdd, Int.reduceSub, Int.reduceMul, mkI, iV, mkQ, qV, fV, ofV, rV, mkR]
    refine wl_callV _ (by simp -implicitDefEqProofs only [go_sem, Nat.reduceAdd, Nat.reduceSub, Nat.reduceMul, Nat.reduceLT, Nat.reduceLeDiff, Nat.reduceEqDiff, Nat.reduceBEq, Nat.reduceGT, Nat.reduceMod, Nat.reduceDiv, ↓reduceIte, reduceCtorEq, Int.reduceLE, Int.reduceLT, Int.reduceToNat, Int.reduceEq, Int.reduceNeg, Int.reduceAdd, Int.reduceSub, Int.reduceMul, mkI, iV, mkQ, qV, fV, ofV, rV, mkR]) (o5 _) ?_
    simp -implicitDefEqProofs only [go_sem, Nat.reduceAdd, Nat.reduceSub, Nat.reduceMul, Nat.reduceLT, Nat.reduceLeDiff, Nat.reduceEqDiff, Nat.reduceBEq, Nat.reduceGT, Nat.reduceMod, Nat.reduceDiv, ↓reduceIte, reduceCtorEq, Int.reduceLE, Int.reduceLT, Int.reduceToNat, Int.reduceEq, Int.reduceNeg, Int.reduceAdd, Int.reduceSub, Int.reduceMul, mkI, iV, mkQ, qV, fV, ofV, rV, mkR]
    refine wl_callV _ (by simp -implicitDefEqProofs only [go_sem, Nat.reduceAdd, Nat.reduceSub, Nat.reduceMul, Nat.reduceLT, Nat.reduceLeDiff, Nat.reduceEqDiff, Nat.reduceBEq, Nat.reduceGT, Nat.reduceMod, Nat.reduceDiv, ↓reduceIte, reduceCtorEq, Int.reduceLE, Int.reduceLT, Int.reduceToNat, Int.reduceEq, Int.reduceNeg, Int.reduceAdd, Int.reduceSub, Int.reduceMul, mkI, iV, mkQ, qV, fV, ofV, rV, mkR]) (o11 _) ?_
    simp -implicitDefEqProofs only [go_sem, Nat.reduceAdd, Nat.reduceSub, Nat.reduceMul, Nat.reduceLT, Nat.reduceLeDiff, Nat.reduceEqDiff, Nat.reduceBEq, Nat.reduceGT, Nat.reduceMod, Nat.reduceDiv, ↓reduceIte, reduceCtorEq, Int.reduceLE, Int.reduceLT, Int.reduceToNat, Int.reduceEq, Int.reduceNeg, Int.reduceAdd, Int.reduceSub, Int.reduceMul, mkI, iV, mkQ, qV, fV, ofV, rV, mkR]
    refine wl_callV _ (by simp -implicitDefEqProofs only [go_sem, Nat.reduceAdd, Nat.reduceSub, Nat.reduceMul, Nat.reduceLT, Nat.reduceLeDiff, Nat.reduceEqDiff, Nat.reduceBEq, Nat.reduceGT, Nat.reduceMod, Nat.reduceDiv, ↓reduceIte, reduceCtorEq, Int.reduceLE, Int.reduceLT, Int.reduceToNat, Int.reduceEq, Int.reduceNeg, Int.reduceAdd, Int.reduceSub, Int.reduceMul, mkI, iV, mkQ, qV, fV, ofV, rV, mkR]) (o12 _) ?_
    simp -implicitDefEqProofs only [go_sem, Nat.reduceAdd, Nat.reduceSub, Nat.reduceMul, Nat.reduceLT, Nat.reduceLeDiff, Nat.reduceEqDiff, Nat.reduceBEq, Nat.reduceGT, Nat.reduceMod, Nat.reduceDiv, ↓reduceIte, reduceCtorEq, Int.reduceLE, Int.reduceLT, Int.reduceToNat, Int.reduceEq, Int.reduceNeg, Int.reduceAdd, Int.reduceSub, Int.reduceMul, mkI, iV, mkQ, qV, fV, ofV, rV, mkR]
    refine wl_callV _ (by simp -implicitDefEqProofs only [go_sem, Nat.reduceAdd, Nat.reduceSub, Nat.reduceMul, Nat.reduceLT, Nat.reduceLeDiff, Nat.reduceEqDiff, Nat.reduceBEq, Nat.reduceGT, Nat.reduceMod, Nat.reduceDiv, ↓reduceIte, reduceCtorEq, Int.reduceLE, Int.reduceLT, Int.reduceToNat, Int.reduceEq, Int.reduceNeg, Int.reduceAdd, Int.reduceSub, Int.reduceMul, mkI, iV, mkQ, qV, fV, ofV, rV, mkR]) (o13 _) ?_
    simp -implicitDefEqProofs only [go_sem, Nat.reduceAdd, Nat.reduceSub, Nat.reduceMul, Nat.reduceLT, Nat.reduceLeDiff, Nat.reduceEqDiff, Nat.reduceBEq, Nat.reduceGT, Nat.reduceMod, Nat.reduceDiv, ↓reduceIte, reduceCtorEq, Int.reduceLE, Int.reduceLT, Int.reduceToNat, Int.reduceEq, Int.reduceNeg, Int.reduceAdd, Int.reduceSub, Int.reduceMul, mkI, iV, mkQ, qV, fV, ofV, rV, mkR]
    simp -implicitDefEqProofs only [go_sem, Nat.reduceAdd, Nat.reduceSub, Nat.reduceMul, Nat.reduceLT, Nat.reduceLeDiff, Nat.reduceEqDiff, Nat.reduceBEq, Nat.reduceGT, Nat.reduceMod, Nat.reduceDiv, ↓reduceIte, reduceCtorEq, Int.reduceLE, Int.reduceLT, Int.reduceToNat, Int.reduceEq, Int.reduceNeg, Int.reduceAdd, Int.reduceSub, Int.reduceMul, mkI, iV, mkQ, qV, fV, ofV, rV, mkR, res176]
    first | exact .app _ _ | exact ⟨.app _ _, rfl⟩ | exact .refl _ | exact ⟨.refl _, rfl⟩
end Go.Proofs.YthhmkaikopdmjaaGreat
set_option linter.unusedSimpArgs false
set_option linter.unusedVariables false
set_option maxRecDepth 8000
namespace Go.Proofs.YthhmkaikopdmjaaGreat
open Go Go.Fw

theorem smpR (H : Heap) {v w : Value} {a b : Rat} {k : Nat} (hv : QV v a k) (hw : QV w b k) (hk : k ≤ 50000) :
    Sim Tryz.prog 117 #[v, w] H (if b < a then .tuple #[mkQ 0, .int .i64 8] else .tuple #[mkQ (smpQ a b), .int .i64 0]) H := by
  refine flat_ex (by split <;> rfl) ?_
  have hv' := hv.mono (show k ≤ k + 17 by omega)
  have hw' := hw.mono (show k ≤ k + 17 by omega)
  have sa := hv.sz.mono (show k + 1 ≤ k + 10 by omega)
  have sb := hw.sz.mono (show k + 1 ≤ k + 10 by omega)
  have o1 := fun H => cmpR H hv hw (by omega) (by omega)
  have o2 := fun H => signQ H hv (by omega)
  have o3 := fun H => signQ H hw (by omega)
  have n1 := fun H => negQ H hv (by omega)
  have n2 := fun H => negQ H hw (by omega)
  by_cases h1 : b < a
  · have c1 : 0 < cmpQ a b := cmpQ_pos.2 h1
    simp only [h1, if_true]
    rw [mkQ_zero]
    generalize cmpQ a b = c at *
    clear h1 o2 o3 n1 n2
    obtain ⟨g, n, d, rfl, -, -, -⟩ := hv
    obtain ⟨g', n', d', rfl, -, -, -⟩ := hw
    unfold qV at o1 ⊢
    refine sim_ex tok mixed Tryz.func117 rfl (by kernel_rfl) (by kernel_rfl) (by simp only [Tryz.ntmps117, List.size_toArray, List.length_cons, List.length_nil]; omega) ?_
    simp -implicitDefEqProofs only [go_sem, Nat.reduceAdd, Nat.reduceSub, Nat.reduceMul, Nat.reduceLT, Nat.reduceLeDiff, Nat.reduceEqDiff, Nat.reduceBEq, Nat.reduceGT, Nat.reduceMod, Nat.reduceDiv, ↓reduceIte, reduceCtorEq, Int.reduceLE, Int.reduceLT, Int.reduceToNat, Int.reduceEq, Int.reduceNeg, Int.reduceAdd, Int.reduceSub, Int.reduceMul, mkI, iV, mkQ, qV, fV, ofV, rV, mkR]
    refine wl_callV _ (by simp -implicitDefEqProofs only [go_sem, Nat.reduceAdd, Nat.reduceSub, Nat.reduceMul, Nat.reduceLT, Nat.reduceLeDiff, Nat.reduceEqDiff, Nat.reduceBEq, Nat.reduceGT, Nat.reduceMod, Nat.reduceDiv, ↓reduceIte, reduceCtorEq, Int.reduceLE, Int.reduceLT, Int.reduceToNat, Int.reduceEq, Int.reduceNeg, Int.reduceAdd, Int.reduceSub, Int.reduceMul, mkI, iV, mkQ, qV, fV, ofV, rV, mkR, c1, wa_cond, axC_t, axC_f]) (o1 _) ?_
    simp -implicitDefEqProofs only [go_sem, Nat.reduceAdd, Nat.reduceSub, Nat.reduceMul, Nat.reduceLT, Nat.reduceLeDiff, Nat.reduceEqDiff, Nat.reduceBEq, Nat.reduceGT, Nat.reduceMod, Nat.reduceDiv, ↓reduceIte, reduceCtorEq, Int.reduceLE, Int.reduceLT, Int.reduceToNat, Int.reduceEq, Int.reduceNeg, Int.reduceAdd, Int.reduceSub, Int.reduceMul, mkI, iV, mkQ, qV, fV, ofV, rV, mkR, c1, wa_cond, axC_t, axC_f]
    simp -implicitDefEqProofs only [go_sem, Nat.reduceAdd, Nat.reduceSub, Nat.reduceMul, Nat.reduceLT, Nat.reduceLeDiff, Nat.reduceEqDiff, Nat.reduceBEq, Nat.reduceGT, Nat.reduceMod, Nat.reduceDiv, ↓reduceIte, reduceCtorEq, Int.reduceLE, Int.reduceLT, Int.reduceToNat, Int.reduceEq, Int.reduceNeg, Int.reduceAdd, Int.reduceSub, Int.reduceMul, mkI, iV, mkQ, qV, fV, ofV, rV, mkR, res117]
    first | exact .app _ _ | exact ⟨.app _ _, rfl⟩ | exact .refl _ | exact ⟨.refl _, rfl⟩
  have hab : a ≤ b := by grind
  have c1 : ¬ 0 < cmpQ a b := fun h => h1 (cmpQ_pos.1 h)
  simp only [h1, if_false]
  by_cases h2 : a ≤ 0
  · have c2 := cmpQ_le.2 h2
    by_cases h3 : 0 ≤ b
    · have c3 := cmpQ_ge.2 h3
      have e : smpQ a b = 0 := by unfold smpQ; rw [if_pos ⟨h2, h3⟩]
      rw [e, mkQ_zero]
      generalize cmpQ a b = c at *
      generalize cmpQ a 0 = c' at *
      generalize cmpQ b 0 = c'' at *
      obtain ⟨g, n, d, rfl, -, -, -⟩ := hv
      obtain ⟨g', n', d', rfl, -, -, -⟩ := hw
      unfold qV at o1 o2 o3 ⊢
      refine sim_ex tok mixed Tryz.func117 rfl (by kernel_rfl) (by kernel_rfl) (by simp only [Tryz.ntmps117, List.size_toArray, List.length_cons, List.length_nil]; omega) ?_
      simp -implicitDefEqProofs only [go_sem, Nat.reduceAdd, Nat.reduceSub, Nat.reduceMul, Nat.reduceLT, Nat.reduceLeDiff, Nat.reduceEqDiff, Nat.reduceBEq, Nat.reduceGT, Nat.reduceMod, Nat.reduceDiv, ↓reduceIte, reduceCtorEq, Int.reduceLE, Int.reduceLT, Int.reduceToNat, Int.reduceEq, Int.reduceNeg, Int.reduceAdd, Int.reduceSub, Int.reduceMul, mkI, iV, mkQ, qV, fV, ofV, rV, mkR]
      refine wl_callV _ (by simp -implicitDefEqProofs only [go_sem, Nat.reduceAdd, Nat.reduceSub, Nat.reduceMul, Nat.reduceLT, Nat.reduceLeDiff, Nat.reduceEqDiff, Nat.reduceBEq, Nat.reduceGT, Nat.reduceMod, Nat.reduceDiv, ↓reduceIte, reduceCtorEq, Int.reduceLE, Int.reduceLT, Int.reduceToNat, Int.reduceEq, Int.reduceNeg, Int.reduceAdd, Int.reduceSub, Int.reduceMul, mkI, iV, mkQ, qV, fV, ofV, rV, mkR, c1, wa_cond, axC_t, axC_f]) (o1 _) ?_
      simp -implicitDefEqProofs only [go_sem, Nat.reduceAdd, Nat.reduceSub, Nat.reduceMul, Nat.reduceLT, Nat.reduceLeDiff, Nat.reduceEqDiff, Nat.reduceBEq, Nat.reduceGT, Nat.reduceMod, Nat.reduceDiv, ↓reduceIte, reduceCtorEq, Int.reduceLE, Int.reduceLT, Int.reduceToNat, Int.reduceEq, Int.reduceNeg, Int.reduceAdd, Int.reduceSub, Int.reduceMul, mkI, iV, mkQ, qV, fV, ofV, rV, mkR, c1, wa_cond, axC_t, axC_f]
      refine wl_callV _ (by simp -implicitDefEqProofs only [go_sem, Nat.reduceAdd, Nat.reduceSub, Nat.reduceMul, Nat.reduceLT, Nat.reduceLeDiff, Nat.reduceEqDiff, Nat.reduceBEq, Nat.reduceGT, Nat.reduceMod, Nat.reduceDiv, ↓reduceIte, reduceCtorEq, Int.reduceLE, Int.reduceLT, Int.reduceToNat, Int.reduceEq, Int.reduceNeg, Int.reduceAdd, Int.reduceSub, Int.reduceMul, mkI, iV, mkQ, qV, fV, ofV, rV, mkR, c2, wa_cond, axC_t, axC_f]) (o2 _) ?_
      simp -implicitDefEqProofs only [go_sem, Nat.reduceAdd, Nat.reduceSub, Nat.reduceMul, Nat.reduceLT, Nat.reduceLeDiff, Nat.reduceEqDiff, Nat.reduceBEq, Nat.reduceGT, Nat.reduceMod, Nat.reduceDiv, ↓reduceIte, reduceCtorEq, Int.reduceLE, Int.reduceLT, Int.reduceToNat, Int.reduceEq, Int.reduceNeg, Int.reduceAdd, Int.reduceSub, Int.reduceMul, mkI, iV, mkQ, qV, fV, ofV, rV, mkR, c2, wa_cond, axC_t, axC_f]
      refine wl_callV _ (by simp -implicitDefEqProofs only [go_sem, Nat.reduceAdd, Nat.reduceSub, Nat.reduceMul, Nat.reduceLT, Nat.reduceLeDiff, Nat.reduceEqDiff, Nat.reduceBEq, Nat.reduceGT, Nat.reduceMod, Nat.reduceDiv, ↓reduceIte, reduceCtorEq, Int.reduceLE, Int.reduceLT, Int.reduceToNat, Int.reduceEq, Int.reduceNeg, Int.reduceAdd, Int.reduceSub, Int.reduceMul, mkI, iV, mkQ, qV, fV, ofV, rV, mkR, c3, wa_cond, axC_t, axC_f]) (o3 _) ?_
      simp -implicitDefEqProofs only [go_sem, Nat.reduceAdd, Nat.reduceSub, Nat.reduceMul, Nat.reduceLT, Nat.reduceLeDiff, Nat.reduceEqDiff, Nat.reduceBEq, Nat.reduceGT, Nat.reduceMod, Nat.reduceDiv, ↓reduceIte, reduceCtorEq, Int.reduceLE, Int.reduceLT, Int.reduceToNat, Int.reduceEq, Int.reduceNeg, Int.reduceAdd, Int.reduceSub, Int.reduceMul, mkI, iV, mkQ, qV, fV, ofV, rV, mkR, c3, wa_cond, axC_t, axC_f]
      simp -implicitDefEqProofs only [go_sem, Nat.reduceAdd, Nat.reduceSub, Nat.reduceMul, Nat.reduceLT, Nat.reduceLeDiff, Nat.reduceEqDiff, Nat.reduceBEq, Nat.reduceGT, Nat.reduceMod, Nat.reduceDiv, ↓reduceIte, reduceCtorEq, Int.reduceLE, Int.reduceLT, Int.reduceToNat, Int.reduceEq, Int.reduceNeg, Int.reduceAdd, Int.reduceSub, Int.reduceMul, mkI, iV, mkQ, qV, fV, ofV, rV, mkR, res117]
      first | exact .app _ _ | exact ⟨.app _ _, rfl⟩ | exact .refl _ | exact ⟨.refl _, rfl⟩
    · have c3 : ¬ 0 ≤ cmpQ b 0 := fun h => h3 (cmpQ_ge.1 h)
      have c4 : cmpQ b 0 < 0 := by omega
      have e : smpQ a b = -(simpQ (a.den + b.den) (-b) (-a)) := by unfold smpQ; rw [if_neg (fun h => h3 h.2), if_pos (by grind)]
      have o4 := fun H => simplest_sim (K := k + 10) (by omega) (by omega) (a.den + b.den) (mkQ (-b)) (mkQ (-a)) (-b) (-a) sb.neg.qv sa.neg.qv sb.neg sa.neg (by grind) (by grind) (by rw [Rat.neg_den, Rat.neg_den]; omega) H
      have sz := Sz.simp (a := -b) (b := -a) (n := a.den + b.den) (by grind) (by grind) (by rw [Rat.neg_den, Rat.neg_den]; omega) sb.neg
      have o5 := fun H => negQ H sz.qv (by omega)
      rw [e]
      clear e sz
      generalize simpQ (a.den + b.den) (-b) (-a) = z at *
      generalize -z = z2 at *
      generalize cmpQ a b = c at *
      generalize cmpQ a 0 = c' at *
      generalize cmpQ b 0 = c'' at *
      generalize -a = na at *
      generalize -b = nb at *
      obtain ⟨g, n, d, rfl, -, -, -⟩ := hv
      obtain ⟨g', n', d', rfl, -, -, -⟩ := hw
      unfold qV at o1 o2 o3 n1 n2 ⊢
      refine sim_ex tok mixed Tryz.func117 rfl (by kernel_rfl) (by kernel_rfl) (by simp only [Tryz.ntmps117, List.size_toArray, List.length_cons, List.length_nil]; omega) ?_
      simp -implicitDefEqProofs only [go_sem, Nat.reduceAdd, Nat.reduceSub, Nat.reduceMul, Nat.reduceLT, Nat.reduceLeDiff, Nat.reduceEqDiff, Nat.reduceBEq, Nat.reduceGT, Nat.reduceMod, Nat.reduceDiv, ↓reduceIte, reduceCtorEq, Int.reduceLE, Int.reduceLT, Int.reduceToNat, Int.reduceEq, Int.reduceNeg, Int.reduceAdd, Int.reduceSub, Int.reduceMul, mkI, iV, mkQ, qV, fV, ofV, rV, mkR]
      refine wl_callV _ (by simp -implicitDefEqProofs only [go_sem, Nat.reduceAdd, Nat.reduceSub, Nat.reduceMul, Nat.reduceLT, Nat.reduceLeDiff, Nat.reduceEqDiff, Nat.reduceBEq, Nat.reduceGT, Nat.reduceMod, Nat.reduceDiv, ↓reduceIte, reduceCtorEq, Int.reduceLE, Int.reduceLT, Int.reduceToNat, Int.reduceEq, Int.reduceNeg, Int.reduceAdd, Int.reduceSub, Int.reduceMul, mkI, iV, mkQ, qV, fV, ofV, rV, mkR, c1, wa_cond, axC_t, axC_f]) (o1 _) ?_
      simp -implicitDefEqProofs only [go_sem, Nat.reduceAdd, Nat.reduceSub, Nat.reduceMul, Nat.reduceLT, Nat.reduceLeDiff, Nat.reduceEqDiff, Nat.reduceBEq, Nat.reduceGT, Nat.reduceMod, Nat.reduceDiv, ↓reduceIte, reduceCtorEq, Int.reduceLE, Int.reduceLT, Int.reduceToNat, Int.reduceEq, Int.reduceNeg, Int.reduceAdd, Int.reduceSub, Int.reduceMul, mkI, iV, mkQ, qV, fV, ofV, rV, mkR, c1, wa_cond, axC_t, axC_f]
      refine wl_callV _ (by simp -implicitDefEqProofs only [go_sem, Nat.reduceAdd, Nat.reduceSub, Nat.reduceMul, Nat.reduceLT, Nat.reduceLeDiff, Nat.reduceEqDiff, Nat.reduceBEq, Nat.reduceGT, Nat.reduceMod, Nat.reduceDiv, ↓reduceIte, reduceCtorEq, Int.reduceLE, Int.reduceLT, Int.reduceToNat, Int.reduceEq, Int.reduceNeg, Int.reduceAdd, Int.reduceSub, Int.reduceMul, mkI, iV, mkQ, qV, fV, ofV, rV, mkR, c2, wa_cond, axC_t, axC_f]) (o2 _) ?_
      simp -implicitDefEqProofs only [go_sem, Nat.reduceAdd, Nat.reduceSub, Nat.reduceMul, Nat.reduceLT, Nat.reduceLeDiff, Nat.reduceEqDiff, Nat.reduceBEq, Nat.reduceGT, Nat.reduceMod, Nat.reduceDiv, ↓reduceIte, reduceCtorEq, Int.reduceLE, Int.reduceLT, Int.reduceToNat, Int.reduceEq, Int.reduceNeg, Int.reduceAdd, Int.reduceSub, Int.reduceMul, mkI, iV, mkQ, qV, fV, ofV, rV, mkR, c2, wa_cond, axC_t, axC_f]
      refine wl_callV _ (by simp -implicitDefEqProofs only [go_sem, Nat.reduceAdd, Nat.reduceSub, Nat.reduceMul, Nat.reduceLT, Nat.reduceLeDiff, Nat.reduceEqDiff, Nat.reduceBEq, Nat.reduceGT, Nat.reduceMod, Nat.reduceDiv, ↓reduceIte, reduceCtorEq, Int.reduceLE, Int.reduceLT, Int.reduceToNat, Int.reduceEq, Int.reduceNeg, Int.reduceAdd, Int.reduceSub, Int.reduceMul, mkI, iV, mkQ, qV, fV, ofV, rV, mkR, c3, wa_cond, axC_t, axC_f]) (o3 _) ?_
      simp -implicitDefEqProofs only [go_sem, Nat.reduceAdd, Nat.reduceSub, Nat.reduceMul, Nat.reduceLT, Nat.reduceLeDiff, Nat.reduceEqDiff, Nat.reduceBEq, Nat.reduceGT, Nat.reduceMod, Nat.reduceDiv, ↓reduceIte, reduceCtorEq, Int.reduceLE, Int.reduceLT, Int.reduceToNat, Int.reduceEq, Int.reduceNeg, Int.reduceAdd, Int.reduceSub, Int.reduceMul, mkI, iV, mkQ, qV, fV, ofV, rV, mkR, c3, wa_cond, axC_t, axC_f]
      refine wl_callV _ (by simp -implicitDefEqProofs only [go_sem, Nat.reduceAdd, Nat.reduceSub, Nat.reduceMul, Nat.reduceLT, Nat.reduceLeDiff, Nat.reduceEqDiff, Nat.reduceBEq, Nat.reduceGT, Nat.reduceMod, Nat.reduceDiv, ↓reduceIte, reduceCtorEq, Int.reduceLE, Int.reduceLT, Int.reduceToNat, Int.reduceEq, Int.reduceNeg, Int.reduceAdd, Int.reduceSub, Int.reduceMul, mkI, iV, mkQ, qV, fV, ofV, rV, mkR, c4, wa_cond, axC_t, axC_f]) (o3 _) ?_
      simp -implicitDefEqProofs only [go_sem, Nat.reduceAdd, Nat.reduceSub, Nat.reduceMul, Nat.reduceLT, Nat.reduceLeDiff, Nat.reduceEqDiff, Nat.reduceBEq, Nat.reduceGT, Nat.reduceMod, Nat.reduceDiv, ↓reduceIte, reduceCtorEq, Int.reduceLE, Int.reduceLT, Int.reduceToNat, Int.reduceEq, Int.reduceNeg, Int.reduceAdd, Int.reduceSub, Int.reduceMul, mkI, iV, mkQ, qV, fV, ofV, rV, mkR, c4, wa_cond, axC_t, axC_f]
      refine ax_quiet (by kernel_rfl) ?_
      simp -implicitDefEqProofs only [go_sem, Nat.reduceAdd, Nat.reduceSub, Nat.reduceMul, Nat.reduceLT, Nat.reduceLeDiff, Nat.reduceEqDiff, Nat.reduceBEq, Nat.reduceGT, Nat.reduceMod, Nat.reduceDiv, ↓reduceIte, reduceCtorEq, Int.reduceLE, Int.reduceLT, Int.reduceToNat, Int.reduceEq, Int.reduceNeg, Int.reduceAdd, Int.reduceSub, Int.reduceMul, mkI, iV, mkQ, qV, fV, ofV, rV, mkR]
      refine wl_callV _ (by simp -implicitDefEqProofs only [go_sem, Nat.reduceAdd, Nat.reduceSub, Nat.reduceMul, Nat.reduceLT, Nat.reduceLeDiff, Nat.reduceEqDiff, Nat.reduceBEq, Nat.reduceGT, Nat.reduceMod, Nat.reduceDiv, ↓reduceIte, reduceCtorEq, Int.reduceLE, Int.reduceLT, Int.reduceToNat, Int.reduceEq, Int.reduceNeg, Int.reduceAdd, Int.reduceSub, Int.reduceMul, mkI, iV, mkQ, qV, fV, ofV, rV, mkR]) (n2 _) ?_
      simp -implicitDefEqProofs only [go_sem, Nat.reduceAdd, Nat.reduceSub, Nat.reduceMul, Nat.reduceLT, Nat.reduceLeDiff, Nat.reduceEqDiff, Nat.reduceBEq, Nat.reduceGT, Nat.reduceMod, Nat.reduceDiv, ↓reduceIte, reduceCtorEq, Int.reduceLE, Int.reduceLT, Int.reduceToNat, Int.reduceEq, Int.reduceNeg, Int.reduceAdd, Int.reduceSub, Int.reduceMul, mkI, iV, mkQ, qV, fV, ofV, rV, mkR]
      refine wl_callV _ (by simp -implicitDefEqProofs only [go_sem, Nat.reduceAdd, Nat.reduceSub, Nat.reduceMul, Nat.reduceLT, Nat.reduceLeDiff, Nat.reduceEqDiff, Nat.reduceBEq, Nat.reduceGT, Nat.reduceMod, Nat.reduceDiv, ↓reduceIte, reduceCtorEq, Int.reduceLE, Int.reduceLT, Int.reduceToNat, Int.reduceEq, Int.reduceNeg, Int.reduceAdd, Int.reduceSub, Int.reduceMul, mkI, iV, mkQ, qV, fV, ofV, rV, mkR]) (n1 _) ?_
      simp -implicitDefEqProofs only [go_sem, Nat.reduceAdd, Nat.reduceSub, Nat.reduceMul, Nat.reduceLT, Nat.reduceLeDiff, Nat.reduceEqDiff, Nat.reduceBEq, Nat.reduceGT, Nat.reduceMod, Nat.reduceDiv, ↓reduceIte, reduceCtorEq, Int.reduceLE, Int.reduceLT, Int.reduceToNat, Int.reduceEq, Int.reduceNeg, Int.reduceAdd, Int.reduceSub, Int.reduceMul, mkI, iV, mkQ, qV, fV, ofV, rV, mkR]
      refine wl_callV _ (by simp -implicitDefEqProofs only [go_sem, Nat.reduceAdd, Nat.reduceSub, Nat.reduceMul, Nat.reduceLT, Nat.reduceLeDiff, Nat.reduceEqDiff, Nat.reduceBEq, Nat.reduceGT, Nat.reduceMod, Nat.reduceDiv, ↓reduceIte, reduceCtorEq, Int.reduceLE, Int.reduceLT, Int.reduceToNat, Int.reduceEq, Int.reduceNeg, Int.reduceAdd, Int.reduceSub, Int.reduceMul, mkI, iV, mkQ, qV, fV, ofV, rV, mkR]) (o4 _) ?_
      simp -implicitDefEqProofs only [go_sem, Nat.reduceAdd, Nat.reduceSub, Nat.reduceMul, Nat.reduceLT, Nat.reduceLeDiff, Nat.reduceEqDiff, Nat.reduceBEq, Nat.reduceGT, Nat.reduceMod, Nat.reduceDiv, ↓reduceIte, reduceCtorEq, Int.reduceLE, Int.reduceLT, Int.reduceToNat, Int.reduceEq, Int.reduceNeg, Int.reduceAdd, Int.reduceSub, Int.reduceMul, mkI, iV, mkQ, qV, fV, ofV, rV, mkR]
      refine wl_callV _ (by simp -implicitDefEqProofs only [go_sem, Nat.reduceAdd, Nat.reduceSub, Nat.reduceMul, Nat.reduceLT, Nat.reduceLeDiff, Nat.reduceEqDiff, Nat.reduceBEq, Nat.reduceGT, Nat.reduceMod, Nat.reduceDiv, ↓reduceIte, reduceCtorEq, Int.reduceLE, Int.reduceLT, Int.reduceToNat, Int.reduceEq, Int.reduceNeg, Int.reduceAdd, Int.reduceSub, Int.reduceMul, mkI, iV, mkQ, qV, fV, ofV, rV, mkR]) (o5 _) ?_
      simp -implicitDefEqProofs only [go_sem, Nat.reduceAdd, Nat.reduceSub, Nat.reduceMul, Nat.reduceLT, Nat.reduceLeDiff, Nat.reduceEqDiff, Nat.reduceBEq, Nat.reduceGT, Nat.reduceMod, Nat.reduceDiv, ↓reduceIte, reduceCtorEq, Int.reduceLE, Int.reduceLT, Int.reduceToNat, Int.reduceEq, Int.reduceNeg, Int.reduceAdd, Int.reduceSub, Int.reduceMul, mkI, iV, mkQ, qV, fV, ofV, rV, mkR]
      simp -implicitDefEqProofs only [go_sem, Nat.reduceAdd, Nat.reduceSub, Nat.reduceMul, Nat.reduceLT, Nat.reduceLeDiff, Nat.reduceEqDiff, Nat.reduceBEq, Nat.reduceGT, Nat.reduceMod, Nat.reduceDiv, ↓reduceIte, reduceCtorEq, Int.reduceLE, Int.reduceLT, Int.reduceToNat, Int.reduceEq, Int.reduceNeg, Int.reduceAdd, Int.reduceSub, Int.reduceMul, mkI, iV, mkQ, qV, fV, ofV, rV, mkR, res117]
      first | exact .app _ _ | exact ⟨.app _ _, rfl⟩ | exact .refl _ | exact ⟨.refl _, rfl⟩
  · have c2 : ¬ cmpQ a 0 ≤ 0 := fun h => h2 (cmpQ_le.1 h)
    have c4 : ¬ cmpQ b 0 < 0 := fun h => by have := cmpQ_lt.1 h; grind
    have e : smpQ a b = simpQ (a.den + b.den) a b := by unfold smpQ; rw [if_neg (fun h => h2 h.1), if_neg (by grind)]
    have o4 := fun H => simplest_sim (K := k + 10) (by omega) (by omega) (a.den + b.den) v w a b hv' hw' sa sb (by grind) hab (Nat.le_refl _) H
    rw [e]
    clear e
    generalize simpQ (a.den + b.den) a b = z at *
    generalize cmpQ a b = c at *
    generalize cmpQ a 0 = c' at *
    generalize cmpQ b 0 = c'' at *
    obtain ⟨g, n, d, rfl, -, -, -⟩ := hv
    obtain ⟨g', n', d', rfl, -, -, -⟩ := hw
    unfold qV at o1 o2 o3 o4 ⊢
    refine sim_ex tok mixed Tryz.func117 rfl (by kernel_rfl) (by kernel_rfl) (by simp only [Tryz.ntmps117, List.size_toArray, List.length_cons, List.length_nil]; omega) ?_
    simp -implicitDefEqProofs only [go_sem, Nat.reduceAdd, Nat.reduceSub, Nat.reduceMul, Nat.reduceLT, Nat.reduceLeDiff, Nat.reduceEqDiff, Nat.reduceBEq, Nat.reduceGT, Nat.reduceMod, Nat.reduceDiv, ↓reduceIte, reduceCtorEq, Int.reduceLE, Int.reduceLT, Int.reduceToNat, Int.reduceEq, Int.reduceNeg, Int.reduceAdd, Int.reduceSub, Int.reduceMul, mkI, iV, mkQ, qV, fV, ofV, rV, mkR]
    refine wl_callV _ (by simp -implicitDefEqProofs only [go_sem, Nat.reduceAdd, Nat.reduceSub, Nat.reduceMul, Nat.reduceLT, Nat.reduceLeDiff, Nat.reduceEqDiff, Nat.reduceBEq, Nat.reduceGT, Nat.reduceMod, Nat.reduceDiv, ↓reduceIte, reduceCtorEq, Int.reduceLE, Int.reduceLT, Int.reduceToNat, Int.reduceEq, Int.reduceNeg, Int.reduceAdd, Int.reduceSub, Int.reduceMul, mkI, iV, mkQ, qV, fV, ofV, rV, mkR, c1, wa_cond, axC_t, axC_f]) (o1 _) ?_
    simp -implicitDefEqProofs only [go_sem, Nat.reduceAdd, Nat.reduceSub, Nat.reduceMul, Nat.reduceLT, Nat.reduceLeDiff, Nat.reduceEqDiff, Nat.reduceBEq, Nat.reduceGT, Nat.reduceMod, Nat.reduceDiv, ↓reduceIte, reduceCtorEq, Int.reduceLE, Int.reduceLT, Int.reduceToNat, Int.reduceEq, Int.reduceNeg, Int.reduceAdd, Int.reduceSub, Int.reduceMul, mkI, iV, mkQ, qV, fV, ofV, rV, mkR, c1, wa_cond, axC_t, axC_f]
    refine wl_callV _ (by simp -implicitDefEqProofs only [go_sem, Nat.reduceAdd, Nat.reduceSub, Nat.reduceMul, Nat.reduceLT, Nat.reduceLeDiff, Nat.reduceEqDiff, Nat.reduceBEq, Nat.reduceGT, Nat.reduceMod, Nat.reduceDiv, ↓reduceIte, reduceCtorEq, Int.reduceLE, Int.reduceLT, Int.reduceToNat, Int.reduceEq, Int.reduceNeg, Int.reduceAdd, Int.reduceSub, Int.reduceMul, mkI, iV, mkQ, qV, fV, ofV, rV, mkR, c2, wa_cond, axC_t, axC_f]) (o2 _) ?_
    simp -implicitDefEqProofs only [go_sem, Nat.reduceAdd, Nat.reduceSub, Nat.reduceMul, Nat.reduceLT, Nat.reduceLeDiff, Nat.reduceEqDiff, Nat.reduceBEq, Nat.reduceGT, Nat.reduceMod, Nat.reduceDiv, ↓reduceIte, reduceCtorEq, Int.reduceLE, Int.reduceLT, Int.reduceToNat, Int.reduceEq, Int.reduceNeg, Int.reduceAdd, Int.reduceSub, Int.reduceMul, mkI, iV, mkQ, qV, fV, ofV, rV, mkR, c2, wa_cond, axC_t, axC_f]
    refine wl_callV _ (by simp -implicitDefEqProofs only [go_sem, Nat.reduceAdd, Nat.reduceSub, Nat.reduceMul, Nat.reduceLT, Nat.reduceLeDiff, Nat.reduceEqDiff, Nat.reduceBEq, Nat.reduceGT, Nat.reduceMod, Nat.reduceDiv, ↓reduceIte, reduceCtorEq, Int.reduceLE, Int.reduceLT, Int.reduceToNat, Int.reduceEq, Int.reduceNeg, Int.reduceAdd, Int.reduceSub, Int.reduceMul, mkI, iV, mkQ, qV, fV, ofV, rV, mkR, c4, wa_cond, axC_t, axC_f]) (o3 _) ?_
    simp -implicitDefEqProofs only [go_sem, Nat.reduceAdd, Nat.reduceSub, Nat.reduceMul, Nat.reduceLT, Nat.reduceLeDiff, Nat.reduceEqDiff, Nat.reduceBEq, Nat.reduceGT, Nat.reduceMod, Nat.reduceDiv, ↓reduceIte, reduceCtorEq, Int.reduceLE, Int.reduceLT, Int.reduceToNat, Int.reduceEq, Int.reduceNeg, Int.reduceAdd, Int.reduceSub, Int.reduceMul, mkI, iV, mkQ, qV, fV, ofV, rV, mkR, c4, wa_cond, axC_t, axC_f]
    refine wl_callV _ (by simp -implicitDefEqProofs only [go_sem, Nat.reduceAdd, Nat.reduceSub, Nat.reduceMul, Nat.reduceLT, Nat.reduceLeDiff, Nat.reduceEqDiff, Nat.reduceBEq, Nat.reduceGT, Nat.reduceMod, Nat.reduceDiv, ↓reduceIte, reduceCtorEq, Int.reduceLE, Int.reduceLT, Int.reduceToNat, Int.reduceEq, Int.reduceNeg, Int.reduceAdd, Int.reduceSub, Int.reduceMul, mkI, iV, mkQ, qV, fV, ofV, rV, mkR]) (o4 _) ?_
    simp -implicitDefEqProofs only [go_sem, Nat.reduceAdd, Nat.reduceSub, Nat.reduceMul, Nat.reduceLT, Nat.reduceLeDiff, Nat.reduceEqDiff, Nat.reduceBEq, Nat.reduceGT, Nat.reduceMod, Nat.reduceDiv, ↓reduceIte, reduceCtorEq, Int.reduceLE, Int.reduceLT, Int.reduceToNat, Int.reduceEq, Int.reduceNeg, Int.reduceAdd, Int.reduceSub, Int.reduceMul, mkI, iV, mkQ, qV, fV, ofV, rV, mkR]
    simp -implicitDefEqProofs only [go_sem, Nat.reduceAdd, Nat.reduceSub, Nat.reduceMul, Nat.reduceLT, Nat.reduceLeDiff, Nat.reduceEqDiff, Nat.reduceBEq, Nat.reduceGT, Nat.reduceMod, Nat.reduceDiv, ↓reduceIte, reduceCtorEq, Int.reduceLE, Int.reduceLT, Int.reduceToNat, Int.reduceEq, Int.reduceNeg, Int.reduceAdd, Int.reduceSub, Int.reduceMul, mkI, iV, mkQ, qV, fV, ofV, rV, mkR, res117]
    first | exact .app _ _ | exact ⟨.app _ _, rfl⟩ | exact .refl _ | exact ⟨.refl _, rfl⟩
end Go.Proofs.YthhmkaikopdmjaaGreat
