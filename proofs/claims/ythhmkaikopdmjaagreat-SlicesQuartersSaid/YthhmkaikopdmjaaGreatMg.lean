/- rational: integer, is, of; rational: number; rational: digits, machine, text; rational: ratio. Conditions: none. -/
import Derived.Test.YthhmkaikopdmjaaGreatMf
set_option linter.unusedSimpArgs false
set_option linter.unusedVariables false
set_option maxRecDepth 8000
namespace Go.Proofs.YthhmkaikopdmjaaGreat
open Go Go.Fw

theorem integer_sim (H : Heap) (g : Bool) (m : List UInt8) : Sim Tryz.prog 156 #[.bool g, .string (bs m)] H (iV g m) H := by
  refine flat_ex rfl ?_
  unfold iV
  refine sim_ex tok mixed Tryz.func156 rfl (by kernel_rfl) (by kernel_rfl) (by simp only [Tryz.ntmps156, List.size_toArray, List.length_cons, List.length_nil]; omega) ?_
  simp -implicitDefEqProofs only [go_sem, Nat.reduceAdd, Nat.reduceSub, Nat.reduceMul, Nat.reduceLT, Nat.reduceLeDiff, Nat.reduceEqDiff, Nat.reduceBEq, Nat.reduceGT, Nat.reduceMod, Nat.reduceDiv, ↓reduceIte, reduceCtorEq, Int.reduceLE, Int.reduceLT, Int.reduceToNat, Int.reduceEq, Int.reduceNeg, Int.reduceAdd, Int.reduceSub, Int.reduceMul, res156]
  first | exact .app _ _ | exact ⟨.app _ _, rfl⟩
theorem sgn_zero {x y : Int} : sgn (x - y) = 0 ↔ x = y := by
  unfold sgn
  by_cases h : x - y < 0
  · rw [if_pos h]; omega
  · rw [if_neg h]
    by_cases h2 : 0 < x - y
    · rw [if_pos h2]; omega
    · rw [if_neg h2]; omega
theorem is_sim (H : Heap) {v : Value} {z n : Int} {k : Nat} (hv : IA v z k) (hk : k ≤ 480000) (h1 : -9223372036854775808 ≤ n) (h2 : n < 9223372036854775808) : Sim Tryz.prog 157 #[v, .int .i64 n] H (.bool (decide (z = n))) H := by
  refine flat_ex rfl ?_
  have hn : n.natAbs < 2 ^ 64 := by omega
  have hc := fun H => cmpI H hv (IA.mk hn) hk (by decide)
  have hz := @sgn_zero z n
  generalize sgn (z - n) = c at *
  obtain ⟨g, m, rfl, rfl, h⟩ := hv
  unfold iV at hc ⊢
  refine sim_ex tok mixed Tryz.func157 rfl (by kernel_rfl) (by kernel_rfl) (by simp only [Tryz.ntmps157, List.size_toArray, List.length_cons, List.length_nil]; omega) ?_
  simp -implicitDefEqProofs only [go_sem, Nat.reduceAdd, Nat.reduceSub, Nat.reduceMul, Nat.reduceLT, Nat.reduceLeDiff, Nat.reduceEqDiff, Nat.reduceBEq, Nat.reduceGT, Nat.reduceMod, Nat.reduceDiv, ↓reduceIte, reduceCtorEq, Int.reduceLE, Int.reduceLT, Int.reduceToNat, Int.reduceEq, Int.reduceNeg, Int.reduceAdd, Int.reduceSub, Int.reduceMul]
  refine ax_quiet (by kernel_rfl) ?_
  simp -implicitDefEqProofs only [go_sem, Nat.reduceAdd, Nat.reduceSub, Nat.reduceMul, Nat.reduceLT, Nat.reduceLeDiff, Nat.reduceEqDiff, Nat.reduceBEq, Nat.reduceGT, Nat.reduceMod, Nat.reduceDiv, ↓reduceIte, reduceCtorEq, Int.reduceLE, Int.reduceLT, Int.reduceToNat, Int.reduceEq, Int.reduceNeg, Int.reduceAdd, Int.reduceSub, Int.reduceMul]
  refine wl_callV #[.int .i64 n] (by simp -implicitDefEqProofs only [go_sem, Nat.reduceAdd, Nat.reduceSub, Nat.reduceMul, Nat.reduceLT, Nat.reduceLeDiff, Nat.reduceEqDiff, Nat.reduceBEq, Nat.reduceGT, Nat.reduceMod, Nat.reduceDiv, ↓reduceIte, reduceCtorEq, Int.reduceLE, Int.reduceLT, Int.reduceToNat, Int.reduceEq, Int.reduceNeg, Int.reduceAdd, Int.reduceSub, Int.reduceMul]) (of_sim _ h1 h2) ?_
  simp -implicitDefEqProofs only [go_sem, Nat.reduceAdd, Nat.reduceSub, Nat.reduceMul, Nat.reduceLT, Nat.reduceLeDiff, Nat.reduceEqDiff, Nat.reduceBEq, Nat.reduceGT, Nat.reduceMod, Nat.reduceDiv, ↓reduceIte, reduceCtorEq, Int.reduceLE, Int.reduceLT, Int.reduceToNat, Int.reduceEq, Int.reduceNeg, Int.reduceAdd, Int.reduceSub, Int.reduceMul]
  refine wl_callV #[_, mkI n] (by simp -implicitDefEqProofs only [go_sem, Nat.reduceAdd, Nat.reduceSub, Nat.reduceMul, Nat.reduceLT, Nat.reduceLeDiff, Nat.reduceEqDiff, Nat.reduceBEq, Nat.reduceGT, Nat.reduceMod, Nat.reduceDiv, ↓reduceIte, reduceCtorEq, Int.reduceLE, Int.reduceLT, Int.reduceToNat, Int.reduceEq, Int.reduceNeg, Int.reduceAdd, Int.reduceSub, Int.reduceMul]) (hc _) ?_
  simp -implicitDefEqProofs only [go_sem, Nat.reduceAdd, Nat.reduceSub, Nat.reduceMul, Nat.reduceLT, Nat.reduceLeDiff, Nat.reduceEqDiff, Nat.reduceBEq, Nat.reduceGT, Nat.reduceMod, Nat.reduceDiv, ↓reduceIte, reduceCtorEq, Int.reduceLE, Int.reduceLT, Int.reduceToNat, Int.reduceEq, Int.reduceNeg, Int.reduceAdd, Int.reduceSub, Int.reduceMul, res157, hz]
  first | exact .app _ _ | exact ⟨.app _ _, rfl⟩

theorem of_rat (H : Heap) {g : Bool} {n d : List UInt8} (hd : d.length ≤ 60000) : Sim Tryz.prog 96 #[qV g n d] H (ofV g n d) H := by
  refine flat_ex rfl ?_
  have his := fun H => is_sim H (n := 0) (IA.raw false d (k := 480000) (by omega)) (by decide) (by decide) (by decide)
  have hof := fun H => of_sim H (z := 1) (by decide) (by decide)
  have hz : ival false d = 0 ↔ valB d = 0 := by unfold ival; simp
  simp only [hz] at his
  unfold qV ofV fV
  unfold iV at his
  refine sim_ex tok mixed Tryz.func96 rfl (by kernel_rfl) (by kernel_rfl) (by simp only [Tryz.ntmps96, List.size_toArray, List.length_cons, List.length_nil]; omega) ?_
  simp -implicitDefEqProofs only [go_sem, Nat.reduceAdd, Nat.reduceSub, Nat.reduceMul, Nat.reduceLT, Nat.reduceLeDiff, Nat.reduceEqDiff, Nat.reduceBEq, Nat.reduceGT, Nat.reduceMod, Nat.reduceDiv, ↓reduceIte, reduceCtorEq, Int.reduceLE, Int.reduceLT, Int.reduceToNat, Int.reduceEq, Int.reduceNeg, Int.reduceAdd, Int.reduceSub, Int.reduceMul]
  refine ax_quiet (by kernel_rfl) ?_
  simp -implicitDefEqProofs only [go_sem, Nat.reduceAdd, Nat.reduceSub, Nat.reduceMul, Nat.reduceLT, Nat.reduceLeDiff, Nat.reduceEqDiff, Nat.reduceBEq, Nat.reduceGT, Nat.reduceMod, Nat.reduceDiv, ↓reduceIte, reduceCtorEq, Int.reduceLE, Int.reduceLT, Int.reduceToNat, Int.reduceEq, Int.reduceNeg, Int.reduceAdd, Int.reduceSub, Int.reduceMul]
  refine wl_callV #[.bool g, .string (bs n)] (by simp -implicitDefEqProofs only [go_sem, Nat.reduceAdd, Nat.reduceSub, Nat.reduceMul, Nat.reduceLT, Nat.reduceLeDiff, Nat.reduceEqDiff, Nat.reduceBEq, Nat.reduceGT, Nat.reduceMod, Nat.reduceDiv, ↓reduceIte, reduceCtorEq, Int.reduceLE, Int.reduceLT, Int.reduceToNat, Int.reduceEq, Int.reduceNeg, Int.reduceAdd, Int.reduceSub, Int.reduceMul]) (integer_sim _ _ _) ?_
  simp -implicitDefEqProofs only [go_sem, Nat.reduceAdd, Nat.reduceSub, Nat.reduceMul, Nat.reduceLT, Nat.reduceLeDiff, Nat.reduceEqDiff, Nat.reduceBEq, Nat.reduceGT, Nat.reduceMod, Nat.reduceDiv, ↓reduceIte, reduceCtorEq, Int.reduceLE, Int.reduceLT, Int.reduceToNat, Int.reduceEq, Int.reduceNeg, Int.reduceAdd, Int.reduceSub, Int.reduceMul, iV]
  refine wl_callV #[.bool false, .string (bs d)] (by simp -implicitDefEqProofs only [go_sem, Nat.reduceAdd, Nat.reduceSub, Nat.reduceMul, Nat.reduceLT, Nat.reduceLeDiff, Nat.reduceEqDiff, Nat.reduceBEq, Nat.reduceGT, Nat.reduceMod, Nat.reduceDiv, ↓reduceIte, reduceCtorEq, Int.reduceLE, Int.reduceLT, Int.reduceToNat, Int.reduceEq, Int.reduceNeg, Int.reduceAdd, Int.reduceSub, Int.reduceMul]) (integer_sim _ _ _) ?_
  simp -implicitDefEqProofs only [go_sem, Nat.reduceAdd, Nat.reduceSub, Nat.reduceMul, Nat.reduceLT, Nat.reduceLeDiff, Nat.reduceEqDiff, Nat.reduceBEq, Nat.reduceGT, Nat.reduceMod, Nat.reduceDiv, ↓reduceIte, reduceCtorEq, Int.reduceLE, Int.reduceLT, Int.reduceToNat, Int.reduceEq, Int.reduceNeg, Int.reduceAdd, Int.reduceSub, Int.reduceMul, iV]
  refine wl_callV #[_, .int .i64 0] (by simp -implicitDefEqProofs only [go_sem, Nat.reduceAdd, Nat.reduceSub, Nat.reduceMul, Nat.reduceLT, Nat.reduceLeDiff, Nat.reduceEqDiff, Nat.reduceBEq, Nat.reduceGT, Nat.reduceMod, Nat.reduceDiv, ↓reduceIte, reduceCtorEq, Int.reduceLE, Int.reduceLT, Int.reduceToNat, Int.reduceEq, Int.reduceNeg, Int.reduceAdd, Int.reduceSub, Int.reduceMul]) (his _) ?_
  by_cases h0 : valB d = 0
  · simp -implicitDefEqProofs only [go_sem, Nat.reduceAdd, Nat.reduceSub, Nat.reduceMul, Nat.reduceLT, Nat.reduceLeDiff, Nat.reduceEqDiff, Nat.reduceBEq, Nat.reduceGT, Nat.reduceMod, Nat.reduceDiv, ↓reduceIte, reduceCtorEq, Int.reduceLE, Int.reduceLT, Int.reduceToNat, Int.reduceEq, Int.reduceNeg, Int.reduceAdd, Int.reduceSub, Int.reduceMul, wa_cond, axC_t, axC_f, h0]
    refine wl_callV #[.int .i64 1] (by simp -implicitDefEqProofs only [go_sem, Nat.reduceAdd, Nat.reduceSub, Nat.reduceMul, Nat.reduceLT, Nat.reduceLeDiff, Nat.reduceEqDiff, Nat.reduceBEq, Nat.reduceGT, Nat.reduceMod, Nat.reduceDiv, ↓reduceIte, reduceCtorEq, Int.reduceLE, Int.reduceLT, Int.reduceToNat, Int.reduceEq, Int.reduceNeg, Int.reduceAdd, Int.reduceSub, Int.reduceMul]) (hof _) ?_
    simp -implicitDefEqProofs only [go_sem, Nat.reduceAdd, Nat.reduceSub, Nat.reduceMul, Nat.reduceLT, Nat.reduceLeDiff, Nat.reduceEqDiff, Nat.reduceBEq, Nat.reduceGT, Nat.reduceMod, Nat.reduceDiv, ↓reduceIte, reduceCtorEq, Int.reduceLE, Int.reduceLT, Int.reduceToNat, Int.reduceEq, Int.reduceNeg, Int.reduceAdd, Int.reduceSub, Int.reduceMul, mkI, iV, res96]
    first | exact .app _ _ | exact ⟨.app _ _, rfl⟩
  · simp -implicitDefEqProofs only [go_sem, Nat.reduceAdd, Nat.reduceSub, Nat.reduceMul, Nat.reduceLT, Nat.reduceLeDiff, Nat.reduceEqDiff, Nat.reduceBEq, Nat.reduceGT, Nat.reduceMod, Nat.reduceDiv, ↓reduceIte, reduceCtorEq, Int.reduceLE, Int.reduceLT, Int.reduceToNat, Int.reduceEq, Int.reduceNeg, Int.reduceAdd, Int.reduceSub, Int.reduceMul, wa_cond, axC_t, axC_f, h0, res96]
    first | exact .app _ _ | exact ⟨.app _ _, rfl⟩
end Go.Proofs.YthhmkaikopdmjaaGreat
set_option linter.unusedSimpArgs false
set_option linter.unusedVariables false
set_option maxRecDepth 8000
namespace Go.Proofs.YthhmkaikopdmjaaGreat
open Go Go.Fw

theorem number_sim (H : Heap) {v : Value} {n : Int} {d k : Nat} (hv : FV v n d k) (hk : k ≤ 390000) (hd : 0 < d) : Sim Tryz.prog 97 #[v] H (mkQ (mkRat n d)) H := by
  refine flat_ex rfl ?_
  obtain ⟨g, m, g', m', rfl, hn, hdv, h1, h2⟩ := hv
  have hN : IA (iV g m) n k := ⟨g, m, rfl, hn, h1⟩
  have hD : IA (iV g' m') d k := ⟨g', m', rfl, hdv, h2⟩
  have his := fun H => is_sim H (n := 0) hN (by omega) (by decide) (by decide)
  have hg := fun H => gcdI H hN hD (by omega) (by omega)
  rw [Int.natAbs_natCast] at hg
  have hgp : 0 < Nat.gcd n.natAbs d := Nat.gcd_pos_of_pos_right _ hd
  have hgd : Nat.gcd n.natAbs d ≤ d := Nat.gcd_le_right _ hd
  have hds := hD.sz
  rw [Int.natAbs_natCast] at hds
  have hG : IA (mkI (Nat.gcd n.natAbs d : Nat)) (Nat.gcd n.natAbs d : Nat) (k + 7) := IA.mk (by rw [Int.natAbs_natCast]; omega)
  have hdn : (Nat.gcd n.natAbs d) ∣ d := Nat.gcd_dvd_right _ _
  rw [mkQ_pos hd]
  have hG0 : n = 0 → Nat.gcd n.natAbs d = d := by rintro rfl; simp
  have hneg : (n / ((Nat.gcd n.natAbs d : Nat) : Int) < 0) ↔ n < 0 := by rw [← mkRat_num' n hd]; exact mkRat_neg_iff n hd
  generalize Nat.gcd n.natAbs d = G at *
  have hv1 := fun H => divI H hN hG (by omega) (by omega) (by omega)
  have hv2 := fun H => divI H hD hG (by omega) (by omega) (by omega)
  rw [gcd_fdiv _ _ hgp] at hv1 hv2
  have hq : ((d : Int) / (G : Int)) = ((d / G : Nat) : Int) := rfl
  rw [hq] at hv2
  have hQ : IA (mkI (d / G : Nat)) (d / G : Nat) (k + 7) := IA.mk (by rw [Int.natAbs_natCast]; have := Nat.div_le_self d G; omega)
  have his2 := fun H => is_sim H (n := 1) hQ (by omega) (by decide) (by decide)
  generalize hQd : d / G = D at *
  have hD1 : (((D : Nat) : Int) = 1) ↔ D = 1 := by omega
  simp only [hD1] at his2
  unfold iV at his hg hv1 hv2
  have hm2 : mkI ((D : Nat) : Int) = .agg #[.bool false, .string (bs (digB D))] := by unfold mkI iV; simp
  have hm1 : mkI (n / (G : Int)) = .agg #[.bool (decide (n < 0)), .string (bs (digB (n / (G : Int)).natAbs))] := by unfold mkI iV; simp only [hneg]
  rw [hm1] at hv1
  rw [hm2] at hv2 his2
  unfold fV qV
  refine sim_ex tok mixed Tryz.func97 rfl (by kernel_rfl) (by kernel_rfl) (by simp only [Tryz.ntmps97, List.size_toArray, List.length_cons, List.length_nil]; omega) ?_
  simp -implicitDefEqProofs only [go_sem, Nat.reduceAdd, Nat.reduceSub, Nat.reduceMul, Nat.reduceLT, Nat.reduceLeDiff, Nat.reduceEqDiff, Nat.reduceBEq, Nat.reduceGT, Nat.reduceMod, Nat.reduceDiv, ↓reduceIte, reduceCtorEq, Int.reduceLE, Int.reduceLT, Int.reduceToNat, Int.reduceEq, Int.reduceNeg, Int.reduceAdd, Int.reduceSub, Int.reduceMul]
  refine wl_callV #[_, .int .i64 0] (by simp -implicitDefEqProofs only [go_sem, Nat.reduceAdd, Nat.reduceSub, Nat.reduceMul, Nat.reduceLT, Nat.reduceLeDiff, Nat.reduceEqDiff, Nat.reduceBEq, Nat.reduceGT, Nat.reduceMod, Nat.reduceDiv, ↓reduceIte, reduceCtorEq, Int.reduceLE, Int.reduceLT, Int.reduceToNat, Int.reduceEq, Int.reduceNeg, Int.reduceAdd, Int.reduceSub, Int.reduceMul]) (his _) ?_
  by_cases h0 : n = 0
  · simp -implicitDefEqProofs only [go_sem, Nat.reduceAdd, Nat.reduceSub, Nat.reduceMul, Nat.reduceLT, Nat.reduceLeDiff, Nat.reduceEqDiff, Nat.reduceBEq, Nat.reduceGT, Nat.reduceMod, Nat.reduceDiv, ↓reduceIte, reduceCtorEq, Int.reduceLE, Int.reduceLT, Int.reduceToNat, Int.reduceEq, Int.reduceNeg, Int.reduceAdd, Int.reduceSub, Int.reduceMul, wa_cond, axC_t, axC_f, h0, res97]
    subst h0
    have e0 : (digB (0 / (G : Int)).natAbs) = [] := by simp [digB_zero]
    have hD1 : D = 1 := by rw [← hQd, hG0 rfl]; exact Nat.div_self hd
    subst hD1
    rw [e0]
    first | exact .app _ _ | exact ⟨.app _ _, rfl⟩
  · simp -implicitDefEqProofs only [go_sem, Nat.reduceAdd, Nat.reduceSub, Nat.reduceMul, Nat.reduceLT, Nat.reduceLeDiff, Nat.reduceEqDiff, Nat.reduceBEq, Nat.reduceGT, Nat.reduceMod, Nat.reduceDiv, ↓reduceIte, reduceCtorEq, Int.reduceLE, Int.reduceLT, Int.reduceToNat, Int.reduceEq, Int.reduceNeg, Int.reduceAdd, Int.reduceSub, Int.reduceMul, wa_cond, axC_t, axC_f, h0]
    refine wl_callV #[_, _] (by simp -implicitDefEqProofs only [go_sem, Nat.reduceAdd, Nat.reduceSub, Nat.reduceMul, Nat.reduceLT, Nat.reduceLeDiff, Nat.reduceEqDiff, Nat.reduceBEq, Nat.reduceGT, Nat.reduceMod, Nat.reduceDiv, ↓reduceIte, reduceCtorEq, Int.reduceLE, Int.reduceLT, Int.reduceToNat, Int.reduceEq, Int.reduceNeg, Int.reduceAdd, Int.reduceSub, Int.reduceMul]) (hg _) ?_
    simp -implicitDefEqProofs only [go_sem, Nat.reduceAdd, Nat.reduceSub, Nat.reduceMul, Nat.reduceLT, Nat.reduceLeDiff, Nat.reduceEqDiff, Nat.reduceBEq, Nat.reduceGT, Nat.reduceMod, Nat.reduceDiv, ↓reduceIte, reduceCtorEq, Int.reduceLE, Int.reduceLT, Int.reduceToNat, Int.reduceEq, Int.reduceNeg, Int.reduceAdd, Int.reduceSub, Int.reduceMul, mkI, iV]
    refine wl_callV #[_, mkI (G : Nat)] (by simp -implicitDefEqProofs only [go_sem, Nat.reduceAdd, Nat.reduceSub, Nat.reduceMul, Nat.reduceLT, Nat.reduceLeDiff, Nat.reduceEqDiff, Nat.reduceBEq, Nat.reduceGT, Nat.reduceMod, Nat.reduceDiv, ↓reduceIte, reduceCtorEq, Int.reduceLE, Int.reduceLT, Int.reduceToNat, Int.reduceEq, Int.reduceNeg, Int.reduceAdd, Int.reduceSub, Int.reduceMul, mkI, iV]) (hv1 _) ?_
    simp -implicitDefEqProofs only [go_sem, Nat.reduceAdd, Nat.reduceSub, Nat.reduceMul, Nat.reduceLT, Nat.reduceLeDiff, Nat.reduceEqDiff, Nat.reduceBEq, Nat.reduceGT, Nat.reduceMod, Nat.reduceDiv, ↓reduceIte, reduceCtorEq, Int.reduceLE, Int.reduceLT, Int.reduceToNat, Int.reduceEq, Int.reduceNeg, Int.reduceAdd, Int.reduceSub, Int.reduceMul, mkI, iV]
    refine wl_callV #[_, mkI (G : Nat)] (by simp -implicitDefEqProofs only [go_sem, Nat.reduceAdd, Nat.reduceSub, Nat.reduceMul, Nat.reduceLT, Nat.reduceLeDiff, Nat.reduceEqDiff, Nat.reduceBEq, Nat.reduceGT, Nat.reduceMod, Nat.reduceDiv, ↓reduceIte, reduceCtorEq, Int.reduceLE, Int.reduceLT, Int.reduceToNat, Int.reduceEq, Int.reduceNeg, Int.reduceAdd, Int.reduceSub, Int.reduceMul, mkI, iV]) (hv2 _) ?_
    simp -implicitDefEqProofs only [go_sem, Nat.reduceAdd, Nat.reduceSub, Nat.reduceMul, Nat.reduceLT, Nat.reduceLeDiff, Nat.reduceEqDiff, Nat.reduceBEq, Nat.reduceGT, Nat.reduceMod, Nat.reduceDiv, ↓reduceIte, reduceCtorEq, Int.reduceLE, Int.reduceLT, Int.reduceToNat, Int.reduceEq, Int.reduceNeg, Int.reduceAdd, Int.reduceSub, Int.reduceMul, mkI, iV]
    refine wl_callV #[_, .int .i64 1] (by simp -implicitDefEqProofs only [go_sem, Nat.reduceAdd, Nat.reduceSub, Nat.reduceMul, Nat.reduceLT, Nat.reduceLeDiff, Nat.reduceEqDiff, Nat.reduceBEq, Nat.reduceGT, Nat.reduceMod, Nat.reduceDiv, ↓reduceIte, reduceCtorEq, Int.reduceLE, Int.reduceLT, Int.reduceToNat, Int.reduceEq, Int.reduceNeg, Int.reduceAdd, Int.reduceSub, Int.reduceMul, mkI, iV]) (his2 _) ?_
    by_cases h1 : D = 1
    · simp -implicitDefEqProofs only [go_sem, Nat.reduceAdd, Nat.reduceSub, Nat.reduceMul, Nat.reduceLT, Nat.reduceLeDiff, Nat.reduceEqDiff, Nat.reduceBEq, Nat.reduceGT, Nat.reduceMod, Nat.reduceDiv, ↓reduceIte, reduceCtorEq, Int.reduceLE, Int.reduceLT, Int.reduceToNat, Int.reduceEq, Int.reduceNeg, Int.reduceAdd, Int.reduceSub, Int.reduceMul, wa_cond, axC_t, axC_f, h1, res97, denB]
      first | exact .app _ _ | exact ⟨.app _ _, rfl⟩
    · simp -implicitDefEqProofs only [go_sem, Nat.reduceAdd, Nat.reduceSub, Nat.reduceMul, Nat.reduceLT, Nat.reduceLeDiff, Nat.reduceEqDiff, Nat.reduceBEq, Nat.reduceGT, Nat.reduceMod, Nat.reduceDiv, ↓reduceIte, reduceCtorEq, Int.reduceLE, Int.reduceLT, Int.reduceToNat, Int.reduceEq, Int.reduceNeg, Int.reduceAdd, Int.reduceSub, Int.reduceMul, wa_cond, axC_t, axC_f, h1, res97, denB]
      first | exact .app _ _ | exact ⟨.app _ _, rfl⟩
end Go.Proofs.YthhmkaikopdmjaaGreat
set_option linter.unusedSimpArgs false
set_option linter.unusedVariables false
set_option maxRecDepth 8000
namespace Go.Proofs.YthhmkaikopdmjaaGreat
open Go Go.Fw

theorem pow256_le {i : Nat} (hi : i ≤ 7) : 256 ^ i ≤ 72057594037927936 := by
  have : 256 ^ i ≤ 256 ^ 7 := Nat.pow_le_pow_right (by decide) hi
  exact this
theorem digits_sim (H : Heap) {m : List UInt8} (hm : m.length ≤ 7) : Sim Tryz.prog 248 #[.string (bs m)] H (.int .i64 (valB m : Nat)) H := by
  refine flat_ex rfl ?_
  refine sim_ex tok mixed Tryz.func248 rfl (by kernel_rfl) (by kernel_rfl) (by simp only [Tryz.ntmps248, List.size_toArray, List.length_cons, List.length_nil]; omega) ?_
  simp -implicitDefEqProofs only [go_sem, Nat.reduceAdd, Nat.reduceSub, Nat.reduceMul, Nat.reduceLT, Nat.reduceLeDiff, Nat.reduceEqDiff, Nat.reduceBEq, Nat.reduceGT, Nat.reduceMod, Nat.reduceDiv, ↓reduceIte, reduceCtorEq, Int.reduceLE, Int.reduceLT, Int.reduceToNat, Int.reduceEq, Int.reduceNeg, Int.reduceAdd, Int.reduceSub, Int.reduceMul, aLen]
  refine ax_loopx (fun (i : Nat) s T => s 0 = .string (bs m) ∧ s 3 = .int .i64 (valB (m.take i) : Nat) ∧ s 6 = .int .i64 (m.length : Nat) ∧ s 7 = .int .i64 (i : Nat) ∧ i ≤ m.length ∧ T = H) (fun i => m.length - i) 0 ?_ ?_
  · simp -implicitDefEqProofs only [go_sem, Nat.reduceAdd, Nat.reduceSub, Nat.reduceMul, Nat.reduceLT, Nat.reduceLeDiff, Nat.reduceEqDiff, Nat.reduceBEq, Nat.reduceGT, Nat.reduceMod, Nat.reduceDiv, ↓reduceIte, reduceCtorEq, Int.reduceLE, Int.reduceLT, Int.reduceToNat, Int.reduceEq, Int.reduceNeg, Int.reduceAdd, Int.reduceSub, Int.reduceMul]
    trivial
  rintro i s T ⟨h0, h3, h6, h7, hi, hT⟩
  subst T
  simp -implicitDefEqProofs only [go_sem, Nat.reduceAdd, Nat.reduceSub, Nat.reduceMul, Nat.reduceLT, Nat.reduceLeDiff, Nat.reduceEqDiff, Nat.reduceBEq, Nat.reduceGT, Nat.reduceMod, Nat.reduceDiv, ↓reduceIte, reduceCtorEq, Int.reduceLE, Int.reduceLT, Int.reduceToNat, Int.reduceEq, Int.reduceNeg, Int.reduceAdd, Int.reduceSub, Int.reduceMul, h6, h7]
  refine ax_cond2 ?_
  simp only [ev_tmp, ev_const, ev_func, upd_at, put_some, put_none, bndB_bool, Nat.reduceEqDiff, if_true, if_false, ↓reduceIte, reduceCtorEq]
  refine ⟨fun hc0 => have hlt := of_decide_eq_true hc0; ?_, fun hc0 => have hlt := of_decide_eq_false hc0; ?_⟩
  · have hil : i < m.length := by omega
    have hg : m[i]? = some m[i] := List.getElem?_eq_getElem hil
    have hts := valB_take_succ hil
    have hvl := valB_take_lt m i
    have hvl2 := valB_take_lt m (i + 1)
    have hm1 := pow256_le (i := i) (by omega)
    have hm2 := pow256_le (i := i + 1) (by omega)
    have hb : m[i].toNat < 256 := UInt8.toNat_lt _
    generalize m[i] = x at *
    generalize valB (m.take i) = n at *
    have a1 : IntKind.i64.wrap ((n : Int) * 2 ^ 8) = ((n * 2 ^ 8 : Nat) : Int) := by
      rw [show ((n : Int) * 2 ^ 8) = ((n * 2 ^ 8 : Nat) : Int) by simp, w64n (by omega)]
    have a2 := w64n (n := x.toNat) (by omega)
    have a3 := or_i64 (a := n * 2 ^ 8) (b := x.toNat) (by omega) (by omega)
    have a4 : n * 2 ^ 8 ||| x.toNat = valB (m.take (i + 1)) := by rw [Nat.or_comm, or_add (by omega), hts]; omega
    rw [a4] at a3
    have a5 : IntKind.i64.wrap ((i : Int) + 1) = ((i + 1 : Nat) : Int) := by rw [w64 (by omega) (by omega)]; rfl
    have h8 : ¬ ((8 : Int) < 0) := by omega
    have hnn : (0 : Int) ≤ (i : Int) := by omega
    simp -implicitDefEqProofs only [go_sem, Nat.reduceAdd, Nat.reduceSub, Nat.reduceMul, Nat.reduceLT, Nat.reduceLeDiff, Nat.reduceEqDiff, Nat.reduceBEq, Nat.reduceGT, Nat.reduceMod, Nat.reduceDiv, ↓reduceIte, reduceCtorEq, Int.reduceLE, Int.reduceLT, Int.reduceToNat, Int.reduceEq, Int.reduceNeg, Int.reduceAdd, Int.reduceSub, Int.reduceMul, h0, h3, h6, h7, hg, aConv, a1, a2, a3, a5, h8, hnn, show min 8 64 = 8 from rfl]
    exact ⟨i + 1, ⟨rfl, rfl, by omega⟩, by omega⟩
  · have hil : i = m.length := by omega
    subst hil
    rw [List.take_length] at h3
    simp -implicitDefEqProofs only [go_sem, Nat.reduceAdd, Nat.reduceSub, Nat.reduceMul, Nat.reduceLT, Nat.reduceLeDiff, Nat.reduceEqDiff, Nat.reduceBEq, Nat.reduceGT, Nat.reduceMod, Nat.reduceDiv, ↓reduceIte, reduceCtorEq, Int.reduceLE, Int.reduceLT, Int.reduceToNat, Int.reduceEq, Int.reduceNeg, Int.reduceAdd, Int.reduceSub, Int.reduceMul, h3, res248]
    first | exact .refl _ | exact ⟨.refl _, rfl⟩

theorem machine_big (H : Heap) {g : Bool} {n d : List UInt8} (h : 3 < n.length ∨ 3 < d.length) : Sim Tryz.prog 194 #[qV g n d] H (.tuple #[.int .i64 0, .int .i64 0, .bool false]) H := by
  refine flat_ex rfl ?_
  unfold qV
  refine sim_ex tok mixed Tryz.func194 rfl (by kernel_rfl) (by kernel_rfl) (by simp only [Tryz.ntmps194, List.size_toArray, List.length_cons, List.length_nil]; omega) ?_
  by_cases h1 : 3 < n.length
  · have h2 : (3 : Int) < (n.length : Int) := by omega
    simp -implicitDefEqProofs only [go_sem, Nat.reduceAdd, Nat.reduceSub, Nat.reduceMul, Nat.reduceLT, Nat.reduceLeDiff, Nat.reduceEqDiff, Nat.reduceBEq, Nat.reduceGT, Nat.reduceMod, Nat.reduceDiv, ↓reduceIte, reduceCtorEq, Int.reduceLE, Int.reduceLT, Int.reduceToNat, Int.reduceEq, Int.reduceNeg, Int.reduceAdd, Int.reduceSub, Int.reduceMul, wa_cond, axC_t, axC_f, aLen, h2, res194]
    first | exact .app _ _ | exact ⟨.app _ _, rfl⟩
  · have h2 : ¬ (3 : Int) < (n.length : Int) := by omega
    have h3 : (3 : Int) < (d.length : Int) := by omega
    simp -implicitDefEqProofs only [go_sem, Nat.reduceAdd, Nat.reduceSub, Nat.reduceMul, Nat.reduceLT, Nat.reduceLeDiff, Nat.reduceEqDiff, Nat.reduceBEq, Nat.reduceGT, Nat.reduceMod, Nat.reduceDiv, ↓reduceIte, reduceCtorEq, Int.reduceLE, Int.reduceLT, Int.reduceToNat, Int.reduceEq, Int.reduceNeg, Int.reduceAdd, Int.reduceSub, Int.reduceMul, wa_cond, axC_t, axC_f, aLen, h2, h3, res194]
    first | exact .app _ _ | exact ⟨.app _ _, rfl⟩
theorem machine_small (H : Heap) {g : Bool} {n d : List UInt8} (hn : n.length ≤ 3) (hd : d.length ≤ 3) : Sim Tryz.prog 194 #[qV g n d] H (.tuple #[.int .i64 (ival g n), .int .i64 (dval d : Nat), .bool true]) H := by
  refine flat_ex rfl ?_
  have h2 : ¬ (3 : Int) < (n.length : Int) := by omega
  have h3 : ¬ (3 : Int) < (d.length : Int) := by omega
  have hv := valB_lt n
  have hp := pow256_le (i := n.length) (by omega)
  have a1 : IntKind.i64.wrap (0 - (valB n : Int)) = -(valB n : Int) := by rw [w64 (by omega) (by omega)]; omega
  have hmx : ∀ H, aBuiltin tt H .max [3, 3] [.int .i64 (valB d : Nat), .int .i64 1] = some (.int .i64 (dval d : Nat), H) := by
    intro H
    unfold dval aBuiltin
    by_cases h0 : valB d = 0
    · simp [maxInts, h0]
    · have : ¬ (1 : Int) > (valB d : Int) := by omega
      simp [maxInts, h0, this]
  unfold qV ival
  refine sim_ex tok mixed Tryz.func194 rfl (by kernel_rfl) (by kernel_rfl) (by simp only [Tryz.ntmps194, List.size_toArray, List.length_cons, List.length_nil]; omega) ?_
  simp -implicitDefEqProofs only [go_sem, Nat.reduceAdd, Nat.reduceSub, Nat.reduceMul, Nat.reduceLT, Nat.reduceLeDiff, Nat.reduceEqDiff, Nat.reduceBEq, Nat.reduceGT, Nat.reduceMod, Nat.reduceDiv, ↓reduceIte, reduceCtorEq, Int.reduceLE, Int.reduceLT, Int.reduceToNat, Int.reduceEq, Int.reduceNeg, Int.reduceAdd, Int.reduceSub, Int.reduceMul, wa_cond, axC_t, axC_f, aLen, h2, h3]
  refine ax_quiet (by kernel_rfl) ?_
  simp -implicitDefEqProofs only [go_sem, Nat.reduceAdd, Nat.reduceSub, Nat.reduceMul, Nat.reduceLT, Nat.reduceLeDiff, Nat.reduceEqDiff, Nat.reduceBEq, Nat.reduceGT, Nat.reduceMod, Nat.reduceDiv, ↓reduceIte, reduceCtorEq, Int.reduceLE, Int.reduceLT, Int.reduceToNat, Int.reduceEq, Int.reduceNeg, Int.reduceAdd, Int.reduceSub, Int.reduceMul]
  refine wl_callV #[.string (bs n)] (by simp -implicitDefEqProofs only [go_sem, Nat.reduceAdd, Nat.reduceSub, Nat.reduceMul, Nat.reduceLT, Nat.reduceLeDiff, Nat.reduceEqDiff, Nat.reduceBEq, Nat.reduceGT, Nat.reduceMod, Nat.reduceDiv, ↓reduceIte, reduceCtorEq, Int.reduceLE, Int.reduceLT, Int.reduceToNat, Int.reduceEq, Int.reduceNeg, Int.reduceAdd, Int.reduceSub, Int.reduceMul]) (digits_sim _ (by omega)) ?_
  simp -implicitDefEqProofs only [go_sem, Nat.reduceAdd, Nat.reduceSub, Nat.reduceMul, Nat.reduceLT, Nat.reduceLeDiff, Nat.reduceEqDiff, Nat.reduceBEq, Nat.reduceGT, Nat.reduceMod, Nat.reduceDiv, ↓reduceIte, reduceCtorEq, Int.reduceLE, Int.reduceLT, Int.reduceToNat, Int.reduceEq, Int.reduceNeg, Int.reduceAdd, Int.reduceSub, Int.reduceMul]
  refine wl_callV #[.string (bs d)] (by simp -implicitDefEqProofs only [go_sem, Nat.reduceAdd, Nat.reduceSub, Nat.reduceMul, Nat.reduceLT, Nat.reduceLeDiff, Nat.reduceEqDiff, Nat.reduceBEq, Nat.reduceGT, Nat.reduceMod, Nat.reduceDiv, ↓reduceIte, reduceCtorEq, Int.reduceLE, Int.reduceLT, Int.reduceToNat, Int.reduceEq, Int.reduceNeg, Int.reduceAdd, Int.reduceSub, Int.reduceMul]) (digits_sim _ (by omega)) ?_
  cases g
  · simp -implicitDefEqProofs only [go_sem, Nat.reduceAdd, Nat.reduceSub, Nat.reduceMul, Nat.reduceLT, Nat.reduceLeDiff, Nat.reduceEqDiff, Nat.reduceBEq, Nat.reduceGT, Nat.reduceMod, Nat.reduceDiv, ↓reduceIte, reduceCtorEq, Int.reduceLE, Int.reduceLT, Int.reduceToNat, Int.reduceEq, Int.reduceNeg, Int.reduceAdd, Int.reduceSub, Int.reduceMul, wa_cond, axC_t, axC_f, hmx, res194]
    first | exact .app _ _ | exact ⟨.app _ _, rfl⟩
  · simp -implicitDefEqProofs only [go_sem, Nat.reduceAdd, Nat.reduceSub, Nat.reduceMul, Nat.reduceLT, Nat.reduceLeDiff, Nat.reduceEqDiff, Nat.reduceBEq, Nat.reduceGT, Nat.reduceMod, Nat.reduceDiv, ↓reduceIte, reduceCtorEq, Int.reduceLE, Int.reduceLT, Int.reduceToNat, Int.reduceEq, Int.reduceNeg, Int.reduceAdd, Int.reduceSub, Int.reduceMul, wa_cond, axC_t, axC_f, hmx, a1, res194]
    first | exact .app _ _ | exact ⟨.app _ _, rfl⟩

theorem text_sim (H : Heap) {n : Nat} (h0 : 0 < n) (hn : n < 9223372036854775808) : Sim Tryz.prog 195 #[.int .i64 (n : Nat)] H (.string (bs (digB n))) H := by
  refine flat_ex rfl ?_
  refine sim_ex tok mixed Tryz.func195 rfl (by kernel_rfl) (by kernel_rfl) (by simp only [Tryz.ntmps195, List.size_toArray, List.length_cons, List.length_nil]; omega) ?_
  simp -implicitDefEqProofs only [go_sem, Nat.reduceAdd, Nat.reduceSub, Nat.reduceMul, Nat.reduceLT, Nat.reduceLeDiff, Nat.reduceEqDiff, Nat.reduceBEq, Nat.reduceGT, Nat.reduceMod, Nat.reduceDiv, ↓reduceIte, reduceCtorEq, Int.reduceLE, Int.reduceLT, Int.reduceToNat, Int.reduceEq, Int.reduceNeg, Int.reduceAdd, Int.reduceSub, Int.reduceMul]
  refine ax_loopx (fun (r : Nat) s T => ∃ (i : Nat) (o : List UInt8), s 0 = .int .i64 (r : Nat) ∧ s 3 = .pointer (some ⟨H.length, 0, none⟩) ∧ s 4 = .int .i64 (i : Nat) ∧ i ≤ 8 ∧ o.length = 8 ∧ r < 256 ^ i ∧ r < 9223372036854775808 ∧ digB n = digB r ++ o.drop i ∧ (r = 0 → i < 8) ∧
    T = H ++ [⟨u8s o, 1, true⟩]) id n ?_ ?_
  · refine ⟨8, List.replicate 8 0, ?_⟩
    simp -implicitDefEqProofs only [go_sem, Nat.reduceAdd, Nat.reduceSub, Nat.reduceMul, Nat.reduceLT, Nat.reduceLeDiff, Nat.reduceEqDiff, Nat.reduceBEq, Nat.reduceGT, Nat.reduceMod, Nat.reduceDiv, ↓reduceIte, reduceCtorEq, Int.reduceLE, Int.reduceLT, Int.reduceToNat, Int.reduceEq, Int.reduceNeg, Int.reduceAdd, Int.reduceSub, Int.reduceMul]
    exact ⟨rfl, by simp, by rw [show 256 ^ 8 = 18446744073709551616 from rfl]; omega, hn, by simp, by omega, rfl⟩
  rintro r s T ⟨i, o, s0, s3, s4, hi, ho, hr, hr2, hd, h8, hT⟩
  subst T
  simp -implicitDefEqProofs only [go_sem, Nat.reduceAdd, Nat.reduceSub, Nat.reduceMul, Nat.reduceLT, Nat.reduceLeDiff, Nat.reduceEqDiff, Nat.reduceBEq, Nat.reduceGT, Nat.reduceMod, Nat.reduceDiv, ↓reduceIte, reduceCtorEq, Int.reduceLE, Int.reduceLT, Int.reduceToNat, Int.reduceEq, Int.reduceNeg, Int.reduceAdd, Int.reduceSub, Int.reduceMul, s0]
  refine ax_cond2 ?_
  simp only [ev_tmp, ev_const, ev_func, upd_at, put_some, put_none, bndB_bool, Nat.reduceEqDiff, if_true, if_false, ↓reduceIte, reduceCtorEq]
  refine ⟨fun hc0 => have hc := of_decide_eq_true hc0; ?_, fun hc0 => have hc := of_decide_eq_false hc0; ?_⟩
  · have hr0 : r ≠ 0 := by omega
    obtain ⟨i, rfl⟩ : ∃ i', i = i' + 1 := ⟨i - 1, by
      cases i with
      | zero => simp at hr; omega
      | succ i => omega⟩
    have a1 : IntKind.i64.wrap (((i + 1 : Nat) : Int) - 1) = (i : Int) := by rw [castS]; exact w64 (by omega) (by omega)
    have a2 := low_u8 r
    have a3 := fdiv_pow r 8
    have hi2 : (0 : Int) ≤ (i : Int) ∧ (i : Int) < ((8 : Nat) : Int) := by omega
    have hw := u8_wr (L := []) (l := o) (k := i) (b := UInt8.ofNat r) (by omega)
    have hd8 : ¬ ((8 : Int) < 0) := by omega
    simp -implicitDefEqProofs only [go_sem, Nat.reduceAdd, Nat.reduceSub, Nat.reduceMul, Nat.reduceLT, Nat.reduceLeDiff, Nat.reduceEqDiff, Nat.reduceBEq, Nat.reduceGT, Nat.reduceMod, Nat.reduceDiv, ↓reduceIte, reduceCtorEq, Int.reduceLE, Int.reduceLT, Int.reduceToNat, Int.reduceEq, Int.reduceNeg, Int.reduceAdd, Int.reduceSub, Int.reduceMul, s0, s3, s4, a1, aConv, a2, aIndexAddr, hi2, Nat.mul_one, hw, a3, hd8, show min 8 64 = 8 from rfl]
    refine ⟨r / 2 ^ 8, ⟨i, o.set i (UInt8.ofNat r), ?_⟩, Nat.div_lt_self (by omega) (by decide)⟩
    refine ⟨rfl, rfl, by omega, by simpa using ho, ?_, by omega, ?_, by omega, rfl⟩
    · rw [Nat.div_lt_iff_lt_mul (by decide)]
      rw [Nat.pow_succ] at hr
      exact hr
    · rw [hd, digB_step hr0, List.append_assoc]
      congr 1
      rw [List.drop_eq_getElem_cons (l := o.set i (UInt8.ofNat r)) (i := i) (by simp; omega), List.getElem_set_self, List.drop_set_of_lt (by omega)]
      rfl
  · have hr0 : r = 0 := by omega
    subst hr0
    have hi8 := h8 rfl
    rw [digB_zero, List.nil_append] at hd
    have hs : aSlice tt (H ++ [⟨u8s o, 1, true⟩]) 204 (.pointer (some ⟨H.length, 0, none⟩)) (some (.int .i64 (i : Nat))) none none = some (.slice (some ⟨H.length, i, none⟩) (8 - i) (8 - i)) := by
      simp only [aSlice, tt204, sizeT, tt5, bnd, Option.map_some, Int.toNat_natCast]
      simp [show i ≤ 8 by omega, hi8]
    have hrd := u8_rd (L := []) (l := o) (k := i) (n := 8 - i) (by omega)
    simp -implicitDefEqProofs only [go_sem, Nat.reduceAdd, Nat.reduceSub, Nat.reduceMul, Nat.reduceLT, Nat.reduceLeDiff, Nat.reduceEqDiff, Nat.reduceBEq, Nat.reduceGT, Nat.reduceMod, Nat.reduceDiv, ↓reduceIte, reduceCtorEq, Int.reduceLE, Int.reduceLT, Int.reduceToNat, Int.reduceEq, Int.reduceNeg, Int.reduceAdd, Int.reduceSub, Int.reduceMul, s3, s4, hs, aConv, hrd, bytesOf_u8s, res195]
    rw [hd]
    first | exact .app _ _ | exact ⟨.app _ _, rfl⟩
end Go.Proofs.YthhmkaikopdmjaaGreat
set_option linter.unusedSimpArgs false
set_option linter.unusedVariables false
set_option maxRecDepth 8000
namespace Go.Proofs.YthhmkaikopdmjaaGreat
open Go Go.Fw

theorem max_abs (H : Heap) (a : Int) (ha : a.natAbs < 4611686018427387904) : aBuiltin tt H .max [3, 3] [.int .i64 a, .int .i64 (IntKind.i64.wrap (0 - a))] = some (.int .i64 (a.natAbs : Nat), H) := by
  rw [w64 (by omega) (by omega)]
  unfold aBuiltin
  simp only [maxInts, Option.map_some]
  congr 3
  split <;> omega

theorem ratio_sim (H : Heap) {n : Int} {d : Nat} (hn : n.natAbs < 4611686018427387904) (hd : d < 4611686018427387904) (h0 : 0 < d) : Sim Tryz.prog 129 #[.int .i64 n, .int .i64 (d : Nat)] H (mkQ (mkRat n d)) H := by
  refine flat_ex rfl ?_
  have hgp : 0 < Nat.gcd n.natAbs d := Nat.gcd_pos_of_pos_right _ h0
  have hgd : Nat.gcd n.natAbs d ≤ d := Nat.gcd_le_right _ h0
  have hd1 : Nat.gcd n.natAbs d ∣ d := Nat.gcd_dvd_right _ _
  have hd2 : Nat.gcd n.natAbs d ∣ n.natAbs := Nat.gcd_dvd_left _ _
  have hG0 : n = 0 → Nat.gcd n.natAbs d = d := by rintro rfl; simp
  refine sim_ex tok mixed Tryz.func129 rfl (by kernel_rfl) (by kernel_rfl) (by simp only [Tryz.ntmps129, List.size_toArray, List.length_cons, List.length_nil]; omega) ?_
  simp -implicitDefEqProofs only [go_sem, Nat.reduceAdd, Nat.reduceSub, Nat.reduceMul, Nat.reduceLT, Nat.reduceLeDiff, Nat.reduceEqDiff, Nat.reduceBEq, Nat.reduceGT, Nat.reduceMod, Nat.reduceDiv, ↓reduceIte, reduceCtorEq, Int.reduceLE, Int.reduceLT, Int.reduceToNat, Int.reduceEq, Int.reduceNeg, Int.reduceAdd, Int.reduceSub, Int.reduceMul]
  refine ax_loopx (fun (k : Nat) s T => ∃ (a b : Int), s 0 = .int .i64 n ∧ s 1 = .int .i64 (d : Nat) ∧ s 4 = .pointer (some ⟨H.length, 0, none⟩) ∧ s 5 = .int .i64 a ∧ s 6 = .int .i64 b ∧ b.natAbs = k ∧ a.natAbs < 4611686018427387904 ∧ k < 4611686018427387904 ∧
    Nat.gcd a.natAbs k = Nat.gcd n.natAbs d ∧ T = H ++ [⟨[.bool false, .string (bs []), .string (bs [])], 1, true⟩]) id d ?_ ?_
  · refine ⟨n, (d : Nat), ?_⟩
    simp -implicitDefEqProofs only [go_sem, Nat.reduceAdd, Nat.reduceSub, Nat.reduceMul, Nat.reduceLT, Nat.reduceLeDiff, Nat.reduceEqDiff, Nat.reduceBEq, Nat.reduceGT, Nat.reduceMod, Nat.reduceDiv, ↓reduceIte, reduceCtorEq, Int.reduceLE, Int.reduceLT, Int.reduceToNat, Int.reduceEq, Int.reduceNeg, Int.reduceAdd, Int.reduceSub, Int.reduceMul]
    exact ⟨by simp, hn, hd⟩
  rintro k s T ⟨a, b, s0, s1, s4, s5, s6, hb, ha, hk, hg, hT⟩
  subst T
  simp -implicitDefEqProofs only [go_sem, Nat.reduceAdd, Nat.reduceSub, Nat.reduceMul, Nat.reduceLT, Nat.reduceLeDiff, Nat.reduceEqDiff, Nat.reduceBEq, Nat.reduceGT, Nat.reduceMod, Nat.reduceDiv, ↓reduceIte, reduceCtorEq, Int.reduceLE, Int.reduceLT, Int.reduceToNat, Int.reduceEq, Int.reduceNeg, Int.reduceAdd, Int.reduceSub, Int.reduceMul, s6]
  refine ax_cond2 ?_
  simp only [ev_tmp, ev_const, ev_func, upd_at, put_some, put_none, bndB_bool, Nat.reduceEqDiff, if_true, if_false, ↓reduceIte, reduceCtorEq]
  refine ⟨fun hc0 => have hc := of_decide_eq_true hc0; ?_, fun hc0 => have hc := of_decide_eq_false hc0; ?_⟩
  · have hkp : 0 < k := by omega
    simp -implicitDefEqProofs only [go_sem, Nat.reduceAdd, Nat.reduceSub, Nat.reduceMul, Nat.reduceLT, Nat.reduceLeDiff, Nat.reduceEqDiff, Nat.reduceBEq, Nat.reduceGT, Nat.reduceMod, Nat.reduceDiv, ↓reduceIte, reduceCtorEq, Int.reduceLE, Int.reduceLT, Int.reduceToNat, Int.reduceEq, Int.reduceNeg, Int.reduceAdd, Int.reduceSub, Int.reduceMul]
    refine ax_quiet (by kernel_rfl) ?_
    simp -implicitDefEqProofs only [go_sem, Nat.reduceAdd, Nat.reduceSub, Nat.reduceMul, Nat.reduceLT, Nat.reduceLeDiff, Nat.reduceEqDiff, Nat.reduceBEq, Nat.reduceGT, Nat.reduceMod, Nat.reduceDiv, ↓reduceIte, reduceCtorEq, Int.reduceLE, Int.reduceLT, Int.reduceToNat, Int.reduceEq, Int.reduceNeg, Int.reduceAdd, Int.reduceSub, Int.reduceMul, s0, s1, s4, s5, s6, hc]
    have hm : (a.tmod b).natAbs = a.natAbs % k := by rw [Int.natAbs_tmod, hb]
    have hml := Nat.mod_lt a.natAbs hkp
    refine ⟨a.natAbs % k, ⟨b, a.tmod b, ?_⟩, hml⟩
    refine ⟨rfl, rfl, hm, by omega, by omega, ?_⟩
    rw [hb, ← hg, Nat.gcd_comm a.natAbs k, Nat.gcd_comm k, ← Nat.gcd_rec]
  · have hk0 : k = 0 := by omega
    subst hk0
    rw [Nat.gcd_zero_right] at hg
    have hma := max_abs (H ++ [⟨[.bool false, .string (bs []), .string (bs [])], 1, true⟩]) a ha
    have hmn := max_abs (H ++ [⟨[.bool false, .string (bs []), .string (bs [])], 1, true⟩]) n hn
    rw [hg] at hma
    rw [mkQ_pos h0]
    generalize Nat.gcd n.natAbs d = G at *
    simp -implicitDefEqProofs only [go_sem, Nat.reduceAdd, Nat.reduceSub, Nat.reduceMul, Nat.reduceLT, Nat.reduceLeDiff, Nat.reduceEqDiff, Nat.reduceBEq, Nat.reduceGT, Nat.reduceMod, Nat.reduceDiv, ↓reduceIte, reduceCtorEq, Int.reduceLE, Int.reduceLT, Int.reduceToNat, Int.reduceEq, Int.reduceNeg, Int.reduceAdd, Int.reduceSub, Int.reduceMul, s0, s1, s4, s5, hma]
    by_cases hn0 : n = 0
    · subst hn0
      have e0 : (digB (0 / (G : Int)).natAbs) = [] := by simp [digB_zero]
      have e1 : denB (d / G) = [] := by rw [hG0 rfl, Nat.div_self h0]; rfl
      rw [e0, e1]
      simp -implicitDefEqProofs only [go_sem, Nat.reduceAdd, Nat.reduceSub, Nat.reduceMul, Nat.reduceLT, Nat.reduceLeDiff, Nat.reduceEqDiff, Nat.reduceBEq, Nat.reduceGT, Nat.reduceMod, Nat.reduceDiv, ↓reduceIte, reduceCtorEq, Int.reduceLE, Int.reduceLT, Int.reduceToNat, Int.reduceEq, Int.reduceNeg, Int.reduceAdd, Int.reduceSub, Int.reduceMul, wa_cond, axC_t, axC_f, s0, s1, s4, res129]
      first | exact .app _ _ | exact ⟨.app _ _, rfl⟩
    have hz : ¬ (G : Int) = 0 := by omega
    have t1 := tdiv_nat n.natAbs G
    have t2 := tdiv_nat d G
    have hq1 : n.natAbs / G < 9223372036854775808 := by have := Nat.div_le_self n.natAbs G; omega
    have hq2 : d / G < 9223372036854775808 := by have := Nat.div_le_self d G; omega
    have q1 : 0 < n.natAbs / G := Nat.div_pos (Nat.le_of_dvd (by omega) hd2) hgp
    have q2 : 0 < d / G := Nat.div_pos hgd hgp
    have wq1 := w64n hq1
    have wq2 := w64n hq2
    have e0 : (n / (G : Int)).natAbs = n.natAbs / G := by
      rw [Int.natAbs_ediv_of_dvd (Int.ofNat_dvd_left.2 hd2)]; rfl
    rw [e0]
    have hdG : d / G = 1 ↔ d = G := by
      constructor
      · intro h
        have := Nat.div_mul_cancel hd1
        rw [h] at this; omega
      · rintro rfl; exact Nat.div_self h0
    simp -implicitDefEqProofs only [go_sem, Nat.reduceAdd, Nat.reduceSub, Nat.reduceMul, Nat.reduceLT, Nat.reduceLeDiff, Nat.reduceEqDiff, Nat.reduceBEq, Nat.reduceGT, Nat.reduceMod, Nat.reduceDiv, ↓reduceIte, reduceCtorEq, Int.reduceLE, Int.reduceLT, Int.reduceToNat, Int.reduceEq, Int.reduceNeg, Int.reduceAdd, Int.reduceSub, Int.reduceMul, wa_cond, axC_t, axC_f, hn0, s0, s1, s4, hmn, hz, t1, wq1]
    refine wl_callV #[.int .i64 (n.natAbs / G : Nat)] (by simp -implicitDefEqProofs only [go_sem, Nat.reduceAdd, Nat.reduceSub, Nat.reduceMul, Nat.reduceLT, Nat.reduceLeDiff, Nat.reduceEqDiff, Nat.reduceBEq, Nat.reduceGT, Nat.reduceMod, Nat.reduceDiv, ↓reduceIte, reduceCtorEq, Int.reduceLE, Int.reduceLT, Int.reduceToNat, Int.reduceEq, Int.reduceNeg, Int.reduceAdd, Int.reduceSub, Int.reduceMul]) (text_sim _ q1 hq1) ?_
    simp -implicitDefEqProofs only [go_sem, Nat.reduceAdd, Nat.reduceSub, Nat.reduceMul, Nat.reduceLT, Nat.reduceLeDiff, Nat.reduceEqDiff, Nat.reduceBEq, Nat.reduceGT, Nat.reduceMod, Nat.reduceDiv, ↓reduceIte, reduceCtorEq, Int.reduceLE, Int.reduceLT, Int.reduceToNat, Int.reduceEq, Int.reduceNeg, Int.reduceAdd, Int.reduceSub, Int.reduceMul, s0, s1, s4]
    by_cases hdg : d = G
    · have hdg2 : (d : Int) = (G : Int) := by omega
      have e1 : denB (d / G) = [] := by unfold denB; rw [if_pos (hdG.2 hdg)]
      rw [e1]
      simp -implicitDefEqProofs only [go_sem, Nat.reduceAdd, Nat.reduceSub, Nat.reduceMul, Nat.reduceLT, Nat.reduceLeDiff, Nat.reduceEqDiff, Nat.reduceBEq, Nat.reduceGT, Nat.reduceMod, Nat.reduceDiv, ↓reduceIte, reduceCtorEq, Int.reduceLE, Int.reduceLT, Int.reduceToNat, Int.reduceEq, Int.reduceNeg, Int.reduceAdd, Int.reduceSub, Int.reduceMul, wa_cond, axC_t, axC_f, hdg2, s4, res129]
      first | exact .app _ _ | exact ⟨.app _ _, rfl⟩
    · have hdg2 : ¬ (d : Int) = (G : Int) := by omega
      have e1 : denB (d / G) = digB (d / G) := by unfold denB; rw [if_neg (fun h => hdg (hdG.1 h))]
      rw [e1]
      simp -implicitDefEqProofs only [go_sem, Nat.reduceAdd, Nat.reduceSub, Nat.reduceMul, Nat.reduceLT, Nat.reduceLeDiff, Nat.reduceEqDiff, Nat.reduceBEq, Nat.reduceGT, Nat.reduceMod, Nat.reduceDiv, ↓reduceIte, reduceCtorEq, Int.reduceLE, Int.reduceLT, Int.reduceToNat, Int.reduceEq, Int.reduceNeg, Int.reduceAdd, Int.reduceSub, Int.reduceMul, wa_cond, axC_t, axC_f, hdg2, s1, hz, t2, wq2]
      refine wl_callV #[.int .i64 (d / G : Nat)] (by simp -implicitDefEqProofs only [go_sem, Nat.reduceAdd, Nat.reduceSub, Nat.reduceMul, Nat.reduceLT, Nat.reduceLeDiff, Nat.reduceEqDiff, Nat.reduceBEq, Nat.reduceGT, Nat.reduceMod, Nat.reduceDiv, ↓reduceIte, reduceCtorEq, Int.reduceLE, Int.reduceLT, Int.reduceToNat, Int.reduceEq, Int.reduceNeg, Int.reduceAdd, Int.reduceSub, Int.reduceMul]) (text_sim _ q2 hq2) ?_
      simp -implicitDefEqProofs only [go_sem, Nat.reduceAdd, Nat.reduceSub, Nat.reduceMul, Nat.reduceLT, Nat.reduceLeDiff, Nat.reduceEqDiff, Nat.reduceBEq, Nat.reduceGT, Nat.reduceMod, Nat.reduceDiv, ↓reduceIte, reduceCtorEq, Int.reduceLE, Int.reduceLT, Int.reduceToNat, Int.reduceEq, Int.reduceNeg, Int.reduceAdd, Int.reduceSub, Int.reduceMul, wa_cond, axC_t, axC_f, s4, res129]
      first | exact .app _ _ | exact ⟨.app _ _, rfl⟩
end Go.Proofs.YthhmkaikopdmjaaGreat
