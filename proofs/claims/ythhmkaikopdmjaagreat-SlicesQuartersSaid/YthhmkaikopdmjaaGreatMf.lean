/- bigint: Compare, Gcd; bigint: Gcd, Div; bigint: Div; the contracts on integers. Conditions: none. -/
import Derived.Test.YthhmkaikopdmjaaGreatMe
import Derived.Test.YthhmkaikopdmjaaGreatFc
set_option linter.unusedSimpArgs false
set_option linter.unusedVariables false
set_option maxRecDepth 8000
namespace Go.Proofs.YthhmkaikopdmjaaGreat
open Go Go.Fw

theorem sgn_cmp {n k : Nat} : cmpN n k = sgn ((n : Int) - k) := by
  unfold cmpN sgn
  by_cases h : n < k
  · rw [if_pos h, if_pos (by omega)]
  · rw [if_neg h, if_neg (show ¬ ((n : Int) - k < 0) by omega)]
    by_cases h2 : k < n
    · rw [if_pos h2, if_pos (by omega)]
    · rw [if_neg h2, if_neg (by omega)]
theorem sgn_pos {z : Int} (h : 0 < z) : sgn z = 1 := by unfold sgn; rw [if_neg (by omega), if_pos h]
theorem sgn_neg {z : Int} (h : z < 0) : sgn z = -1 := by unfold sgn; rw [if_pos h]

theorem compareI_sim (H : Heap) {g g' : Bool} {m m' : List UInt8} (hm : m.length ≤ 60000) (hm' : m'.length ≤ 60000) : Sim Tryz.prog 149 #[iV g m, iV g' m'] H (.int .i64 (sgn (ival g m - ival g' m'))) H := by
  refine flat_ex rfl ?_
  unfold iV
  refine sim_ex tok mixed Tryz.func149 rfl (by kernel_rfl) (by kernel_rfl) (by simp only [Tryz.ntmps149, List.size_toArray, List.length_cons, List.length_nil]; omega) ?_
  simp -implicitDefEqProofs only [go_sem, Nat.reduceAdd, Nat.reduceSub, Nat.reduceMul, Nat.reduceLT, Nat.reduceLeDiff, Nat.reduceEqDiff, Nat.reduceBEq, Nat.reduceGT, Nat.reduceMod, Nat.reduceDiv, ↓reduceIte, reduceCtorEq, Int.reduceLE, Int.reduceLT, Int.reduceToNat, Int.reduceEq, Int.reduceNeg, Int.reduceAdd, Int.reduceSub, Int.reduceMul]
  refine ax_quiet (by kernel_rfl) ?_
  simp -implicitDefEqProofs only [go_sem, Nat.reduceAdd, Nat.reduceSub, Nat.reduceMul, Nat.reduceLT, Nat.reduceLeDiff, Nat.reduceEqDiff, Nat.reduceBEq, Nat.reduceGT, Nat.reduceMod, Nat.reduceDiv, ↓reduceIte, reduceCtorEq, Int.reduceLE, Int.reduceLT, Int.reduceToNat, Int.reduceEq, Int.reduceNeg, Int.reduceAdd, Int.reduceSub, Int.reduceMul]
  refine wl_callX #[.string (bs m)] (by simp -implicitDefEqProofs only [go_sem, Nat.reduceAdd, Nat.reduceSub, Nat.reduceMul, Nat.reduceLT, Nat.reduceLeDiff, Nat.reduceEqDiff, Nat.reduceBEq, Nat.reduceGT, Nat.reduceMod, Nat.reduceDiv, ↓reduceIte, reduceCtorEq, Int.reduceLE, Int.reduceLT, Int.reduceToNat, Int.reduceEq, Int.reduceNeg, Int.reduceAdd, Int.reduceSub, Int.reduceMul]) (load60 m _ hm) ?_
  intro v G hv
  simp -implicitDefEqProofs only [go_sem, Nat.reduceAdd, Nat.reduceSub, Nat.reduceMul, Nat.reduceLT, Nat.reduceLeDiff, Nat.reduceEqDiff, Nat.reduceBEq, Nat.reduceGT, Nat.reduceMod, Nat.reduceDiv, ↓reduceIte, reduceCtorEq, Int.reduceLE, Int.reduceLT, Int.reduceToNat, Int.reduceEq, Int.reduceNeg, Int.reduceAdd, Int.reduceSub, Int.reduceMul]
  simp only [List.append_assoc, List.cons_append, List.nil_append] at hv
  refine wl_callX #[.string (bs m')] (by simp -implicitDefEqProofs only [go_sem, Nat.reduceAdd, Nat.reduceSub, Nat.reduceMul, Nat.reduceLT, Nat.reduceLeDiff, Nat.reduceEqDiff, Nat.reduceBEq, Nat.reduceGT, Nat.reduceMod, Nat.reduceDiv, ↓reduceIte, reduceCtorEq, Int.reduceLE, Int.reduceLT, Int.reduceToNat, Int.reduceEq, Int.reduceNeg, Int.reduceAdd, Int.reduceSub, Int.reduceMul]) (load60 m' _ hm') ?_
  intro w G' hw
  have hv := hv.app G'
  simp only [List.append_assoc, List.cons_append, List.nil_append] at hv hw
  obtain ⟨l, hl, hlc⟩ := hv
  obtain ⟨k, hk, hkc⟩ := hw
  have e1 := hl.len (tt := tt) tt163
  have e2 := hk.len (tt := tt) tt163
  have z1 := hlc.nil_iff
  have z2 := hkc.nil_iff
  have sw : ∀ {v : Value} {l : List Nat} (b b' : Bool), Lim (H ++ ⟨[.bool g, .string (bs m)], 1, true⟩ :: ⟨[.bool g', .string (bs m')], 1, true⟩ :: (G ++ G')) v l → Lim (H ++ ⟨[.bool b, .string (bs m)], 1, true⟩ :: ⟨[.bool b', .string (bs m')], 1, true⟩ :: (G ++ G')) v l := by
    intro v l b b' h
    have h1 := h.swap (cs' := [.bool b, .string (bs m)]) rfl rfl
    have h2 : Lim ((H ++ [⟨[.bool b, .string (bs m)], 1, true⟩]) ++ ⟨[.bool g', .string (bs m')], 1, true⟩ :: (G ++ G')) v l := by simpa using h1
    simpa using h2.swap (cs' := [.bool b', .string (bs m')]) rfl rfl
  have c1 := fun b b' => compare_sim (sw b b' hl) (sw b b' hk) hlc hkc (hlc.short (fitB hm)) (hkc.short (fitB hm'))
  have c2 := fun b b' => compare_sim (sw b b' hk) (sw b b' hl) hkc hlc (hkc.short (fitB hm')) (hlc.short (fitB hm))
  rw [sgn_cmp] at c1 c2
  clear sw hl hk hlc hkc
  have l0 : valB m = 0 → ¬ (0 : Int) < (l.length : Int) := fun h => by rw [z1.2 h]; simp
  have l1 : valB m ≠ 0 → (0 : Int) < (l.length : Int) := fun h => by
    have : l ≠ [] := fun e => h (z1.1 e)
    have := List.length_pos_iff.2 this
    omega
  have k0 : valB m' = 0 → ¬ (0 : Int) < (k.length : Int) := fun h => by rw [z2.2 h]; simp
  have k1 : valB m' ≠ 0 → (0 : Int) < (k.length : Int) := fun h => by
    have : k ≠ [] := fun e => h (z2.1 e)
    have := List.length_pos_iff.2 this
    omega
  unfold ival
  by_cases n0 : valB m = 0 <;> by_cases d0 : valB m' = 0
  · have f1 := l0 n0
    have f2 := k0 d0
    have s1 : sgn ((valB m : Int) - -(valB m' : Int)) = sgn ((valB m : Int) - (valB m' : Int)) := by rw [d0]; simp
    have s2 : sgn (-(valB m : Int) - (valB m' : Int)) = sgn ((valB m : Int) - (valB m' : Int)) := by rw [n0]; simp
    have s3 : sgn (-(valB m : Int) - -(valB m' : Int)) = sgn ((valB m : Int) - (valB m' : Int)) := by rw [n0, d0]; simp
    cases g <;> cases g' <;> simp -implicitDefEqProofs only [go_sem, Nat.reduceAdd, Nat.reduceSub, Nat.reduceMul, Nat.reduceLT, Nat.reduceLeDiff, Nat.reduceEqDiff, Nat.reduceBEq, Nat.reduceGT, Nat.reduceMod, Nat.reduceDiv, ↓reduceIte, reduceCtorEq, Int.reduceLE, Int.reduceLT, Int.reduceToNat, Int.reduceEq, Int.reduceNeg, Int.reduceAdd, Int.reduceSub, Int.reduceMul, wa_cond, axC_t, axC_f, e1, e2, f1, f2, s1, s2, s3]
    all_goals refine wl_callV #[v, w] (by simp -implicitDefEqProofs only [go_sem, Nat.reduceAdd, Nat.reduceSub, Nat.reduceMul, Nat.reduceLT, Nat.reduceLeDiff, Nat.reduceEqDiff, Nat.reduceBEq, Nat.reduceGT, Nat.reduceMod, Nat.reduceDiv, ↓reduceIte, reduceCtorEq, Int.reduceLE, Int.reduceLT, Int.reduceToNat, Int.reduceEq, Int.reduceNeg, Int.reduceAdd, Int.reduceSub, Int.reduceMul]) (c1 _ _) ?_
    all_goals simp -implicitDefEqProofs only [go_sem, Nat.reduceAdd, Nat.reduceSub, Nat.reduceMul, Nat.reduceLT, Nat.reduceLeDiff, Nat.reduceEqDiff, Nat.reduceBEq, Nat.reduceGT, Nat.reduceMod, Nat.reduceDiv, ↓reduceIte, reduceCtorEq, Int.reduceLE, Int.reduceLT, Int.reduceToNat, Int.reduceEq, Int.reduceNeg, Int.reduceAdd, Int.reduceSub, Int.reduceMul, res149]
    all_goals first | exact .app _ _ | exact ⟨.app _ _, rfl⟩
  · have f1 := l0 n0
    have f2 := k1 d0
    have s1 : sgn ((valB m : Int) - -(valB m' : Int)) = 1 := sgn_pos (by omega)
    have s2 : sgn (-(valB m : Int) - -(valB m' : Int)) = 1 := sgn_pos (by omega)
    have s3 : sgn (-(valB m : Int) - (valB m' : Int)) = sgn ((valB m : Int) - (valB m' : Int)) := by rw [n0]; simp
    cases g <;> cases g' <;> simp -implicitDefEqProofs only [go_sem, Nat.reduceAdd, Nat.reduceSub, Nat.reduceMul, Nat.reduceLT, Nat.reduceLeDiff, Nat.reduceEqDiff, Nat.reduceBEq, Nat.reduceGT, Nat.reduceMod, Nat.reduceDiv, ↓reduceIte, reduceCtorEq, Int.reduceLE, Int.reduceLT, Int.reduceToNat, Int.reduceEq, Int.reduceNeg, Int.reduceAdd, Int.reduceSub, Int.reduceMul, wa_cond, axC_t, axC_f, e1, e2, f1, f2, s1, s2, s3, res149]
    · refine wl_callV #[v, w] (by simp -implicitDefEqProofs only [go_sem, Nat.reduceAdd, Nat.reduceSub, Nat.reduceMul, Nat.reduceLT, Nat.reduceLeDiff, Nat.reduceEqDiff, Nat.reduceBEq, Nat.reduceGT, Nat.reduceMod, Nat.reduceDiv, ↓reduceIte, reduceCtorEq, Int.reduceLE, Int.reduceLT, Int.reduceToNat, Int.reduceEq, Int.reduceNeg, Int.reduceAdd, Int.reduceSub, Int.reduceMul]) (c1 _ _) ?_
      simp -implicitDefEqProofs only [go_sem, Nat.reduceAdd, Nat.reduceSub, Nat.reduceMul, Nat.reduceLT, Nat.reduceLeDiff, Nat.reduceEqDiff, Nat.reduceBEq, Nat.reduceGT, Nat.reduceMod, Nat.reduceDiv, ↓reduceIte, reduceCtorEq, Int.reduceLE, Int.reduceLT, Int.reduceToNat, Int.reduceEq, Int.reduceNeg, Int.reduceAdd, Int.reduceSub, Int.reduceMul, res149]
      first | exact .app _ _ | exact ⟨.app _ _, rfl⟩
    · first | exact .app _ _ | exact ⟨.app _ _, rfl⟩
    · refine wl_callV #[v, w] (by simp -implicitDefEqProofs only [go_sem, Nat.reduceAdd, Nat.reduceSub, Nat.reduceMul, Nat.reduceLT, Nat.reduceLeDiff, Nat.reduceEqDiff, Nat.reduceBEq, Nat.reduceGT, Nat.reduceMod, Nat.reduceDiv, ↓reduceIte, reduceCtorEq, Int.reduceLE, Int.reduceLT, Int.reduceToNat, Int.reduceEq, Int.reduceNeg, Int.reduceAdd, Int.reduceSub, Int.reduceMul]) (c1 _ _) ?_
      simp -implicitDefEqProofs only [go_sem, Nat.reduceAdd, Nat.reduceSub, Nat.reduceMul, Nat.reduceLT, Nat.reduceLeDiff, Nat.reduceEqDiff, Nat.reduceBEq, Nat.reduceGT, Nat.reduceMod, Nat.reduceDiv, ↓reduceIte, reduceCtorEq, Int.reduceLE, Int.reduceLT, Int.reduceToNat, Int.reduceEq, Int.reduceNeg, Int.reduceAdd, Int.reduceSub, Int.reduceMul, res149]
      first | exact .app _ _ | exact ⟨.app _ _, rfl⟩
    · first | exact .app _ _ | exact ⟨.app _ _, rfl⟩
  · have f1 := l1 n0
    have f2 := k0 d0
    have s1 : sgn (-(valB m : Int) - -(valB m' : Int)) = -1 := sgn_neg (by omega)
    have s2 : sgn (-(valB m : Int) - (valB m' : Int)) = -1 := sgn_neg (by omega)
    have s3 : sgn ((valB m : Int) - -(valB m' : Int)) = sgn ((valB m : Int) - (valB m' : Int)) := by rw [d0]; simp
    cases g <;> cases g' <;> simp -implicitDefEqProofs only [go_sem, Nat.reduceAdd, Nat.reduceSub, Nat.reduceMul, Nat.reduceLT, Nat.reduceLeDiff, Nat.reduceEqDiff, Nat.reduceBEq, Nat.reduceGT, Nat.reduceMod, Nat.reduceDiv, ↓reduceIte, reduceCtorEq, Int.reduceLE, Int.reduceLT, Int.reduceToNat, Int.reduceEq, Int.reduceNeg, Int.reduceAdd, Int.reduceSub, Int.reduceMul, wa_cond, axC_t, axC_f, e1, e2, f1, f2, s1, s2, s3, res149]
    · refine wl_callV #[v, w] (by simp -implicitDefEqProofs only [go_sem, Nat.reduceAdd, Nat.reduceSub, Nat.reduceMul, Nat.reduceLT, Nat.reduceLeDiff, Nat.reduceEqDiff, Nat.reduceBEq, Nat.reduceGT, Nat.reduceMod, Nat.reduceDiv, ↓reduceIte, reduceCtorEq, Int.reduceLE, Int.reduceLT, Int.reduceToNat, Int.reduceEq, Int.reduceNeg, Int.reduceAdd, Int.reduceSub, Int.reduceMul]) (c1 _ _) ?_
      simp -implicitDefEqProofs only [go_sem, Nat.reduceAdd, Nat.reduceSub, Nat.reduceMul, Nat.reduceLT, Nat.reduceLeDiff, Nat.reduceEqDiff, Nat.reduceBEq, Nat.reduceGT, Nat.reduceMod, Nat.reduceDiv, ↓reduceIte, reduceCtorEq, Int.reduceLE, Int.reduceLT, Int.reduceToNat, Int.reduceEq, Int.reduceNeg, Int.reduceAdd, Int.reduceSub, Int.reduceMul, res149]
      first | exact .app _ _ | exact ⟨.app _ _, rfl⟩
    · refine wl_callV #[v, w] (by simp -implicitDefEqProofs only [go_sem, Nat.reduceAdd, Nat.reduceSub, Nat.reduceMul, Nat.reduceLT, Nat.reduceLeDiff, Nat.reduceEqDiff, Nat.reduceBEq, Nat.reduceGT, Nat.reduceMod, Nat.reduceDiv, ↓reduceIte, reduceCtorEq, Int.reduceLE, Int.reduceLT, Int.reduceToNat, Int.reduceEq, Int.reduceNeg, Int.reduceAdd, Int.reduceSub, Int.reduceMul]) (c1 _ _) ?_
      simp -implicitDefEqProofs only [go_sem, Nat.reduceAdd, Nat.reduceSub, Nat.reduceMul, Nat.reduceLT, Nat.reduceLeDiff, Nat.reduceEqDiff, Nat.reduceBEq, Nat.reduceGT, Nat.reduceMod, Nat.reduceDiv, ↓reduceIte, reduceCtorEq, Int.reduceLE, Int.reduceLT, Int.reduceToNat, Int.reduceEq, Int.reduceNeg, Int.reduceAdd, Int.reduceSub, Int.reduceMul, res149]
      first | exact .app _ _ | exact ⟨.app _ _, rfl⟩
    · first | exact .app _ _ | exact ⟨.app _ _, rfl⟩
    · first | exact .app _ _ | exact ⟨.app _ _, rfl⟩
  · have f1 := l1 n0
    have f2 := k1 d0
    have s1 : sgn ((valB m : Int) - -(valB m' : Int)) = 1 := sgn_pos (by omega)
    have s2 : sgn (-(valB m : Int) - (valB m' : Int)) = -1 := sgn_neg (by omega)
    have s3 : sgn (-(valB m : Int) - -(valB m' : Int)) = sgn ((valB m' : Int) - (valB m : Int)) := by congr 1; omega
    cases g <;> cases g' <;> simp -implicitDefEqProofs only [go_sem, Nat.reduceAdd, Nat.reduceSub, Nat.reduceMul, Nat.reduceLT, Nat.reduceLeDiff, Nat.reduceEqDiff, Nat.reduceBEq, Nat.reduceGT, Nat.reduceMod, Nat.reduceDiv, ↓reduceIte, reduceCtorEq, Int.reduceLE, Int.reduceLT, Int.reduceToNat, Int.reduceEq, Int.reduceNeg, Int.reduceAdd, Int.reduceSub, Int.reduceMul, wa_cond, axC_t, axC_f, e1, e2, f1, f2, s1, s2, s3, res149]
    · refine wl_callV #[v, w] (by simp -implicitDefEqProofs only [go_sem, Nat.reduceAdd, Nat.reduceSub, Nat.reduceMul, Nat.reduceLT, Nat.reduceLeDiff, Nat.reduceEqDiff, Nat.reduceBEq, Nat.reduceGT, Nat.reduceMod, Nat.reduceDiv, ↓reduceIte, reduceCtorEq, Int.reduceLE, Int.reduceLT, Int.reduceToNat, Int.reduceEq, Int.reduceNeg, Int.reduceAdd, Int.reduceSub, Int.reduceMul]) (c1 _ _) ?_
      simp -implicitDefEqProofs only [go_sem, Nat.reduceAdd, Nat.reduceSub, Nat.reduceMul, Nat.reduceLT, Nat.reduceLeDiff, Nat.reduceEqDiff, Nat.reduceBEq, Nat.reduceGT, Nat.reduceMod, Nat.reduceDiv, ↓reduceIte, reduceCtorEq, Int.reduceLE, Int.reduceLT, Int.reduceToNat, Int.reduceEq, Int.reduceNeg, Int.reduceAdd, Int.reduceSub, Int.reduceMul, res149]
      first | exact .app _ _ | exact ⟨.app _ _, rfl⟩
    · first | exact .app _ _ | exact ⟨.app _ _, rfl⟩
    · first | exact .app _ _ | exact ⟨.app _ _, rfl⟩
    · refine wl_callV #[w, v] (by simp -implicitDefEqProofs only [go_sem, Nat.reduceAdd, Nat.reduceSub, Nat.reduceMul, Nat.reduceLT, Nat.reduceLeDiff, Nat.reduceEqDiff, Nat.reduceBEq, Nat.reduceGT, Nat.reduceMod, Nat.reduceDiv, ↓reduceIte, reduceCtorEq, Int.reduceLE, Int.reduceLT, Int.reduceToNat, Int.reduceEq, Int.reduceNeg, Int.reduceAdd, Int.reduceSub, Int.reduceMul]) (c2 _ _) ?_
      simp -implicitDefEqProofs only [go_sem, Nat.reduceAdd, Nat.reduceSub, Nat.reduceMul, Nat.reduceLT, Nat.reduceLeDiff, Nat.reduceEqDiff, Nat.reduceBEq, Nat.reduceGT, Nat.reduceMod, Nat.reduceDiv, ↓reduceIte, reduceCtorEq, Int.reduceLE, Int.reduceLT, Int.reduceToNat, Int.reduceEq, Int.reduceNeg, Int.reduceAdd, Int.reduceSub, Int.reduceMul, res149]
      first | exact .app _ _ | exact ⟨.app _ _, rfl⟩
end Go.Proofs.YthhmkaikopdmjaaGreat
set_option linter.unusedSimpArgs false
set_option linter.unusedVariables false
set_option maxRecDepth 8000
namespace Go.Proofs.YthhmkaikopdmjaaGreat
open Go Go.Fw

theorem divide_LN {H : Heap} {v w : Value} {n d : Nat} (hv : LN H v n) (hw : LN H w d) (hn : Fit n) (hd : Fit d) (h0 : 0 < d) :
    ∃ u H', Sim Tryz.prog 216 #[v, w] H u H' ∧ Ext H H' ∧ ∃ a b, u = .tuple #[a, b] ∧ LN H' a (n / d) ∧ LN H' b (n % d) := by
  obtain ⟨l, h1, h2⟩ := hv
  obtain ⟨m, h3, h4⟩ := hw
  exact divide_sim h1 h3 h2 h4 (h2.short hn) (h4.short hd) h0
theorem LN_len {H : Heap} {v : Value} {n : Nat} (h : LN H v n) : ∃ k : Nat, aLen tt [163] v = some (.int .i64 (k : Nat)) ∧ (k = 0 ↔ n = 0) := by
  obtain ⟨l, h1, h2⟩ := h
  refine ⟨l.length, h1.len tt163, ?_⟩
  rw [← h2.nil_iff, List.length_eq_zero_iff]

theorem gcd_sim (H : Heap) {g g' : Bool} {m m' : List UInt8} (hm : m.length ≤ 60000) (hm' : m'.length ≤ 60000) : Sim Tryz.prog 158 #[iV g m, iV g' m'] H (mkI (Nat.gcd (valB m) (valB m') : Nat)) H := by
  refine flat_ex (flat_mkI _) ?_
  unfold iV
  refine sim_ex tok mixed Tryz.func158 rfl (by kernel_rfl) (by kernel_rfl) (by simp only [Tryz.ntmps158, List.size_toArray, List.length_cons, List.length_nil]; omega) ?_
  simp -implicitDefEqProofs only [go_sem, Nat.reduceAdd, Nat.reduceSub, Nat.reduceMul, Nat.reduceLT, Nat.reduceLeDiff, Nat.reduceEqDiff, Nat.reduceBEq, Nat.reduceGT, Nat.reduceMod, Nat.reduceDiv, ↓reduceIte, reduceCtorEq, Int.reduceLE, Int.reduceLT, Int.reduceToNat, Int.reduceEq, Int.reduceNeg, Int.reduceAdd, Int.reduceSub, Int.reduceMul]
  refine ax_quiet (by kernel_rfl) ?_
  simp -implicitDefEqProofs only [go_sem, Nat.reduceAdd, Nat.reduceSub, Nat.reduceMul, Nat.reduceLT, Nat.reduceLeDiff, Nat.reduceEqDiff, Nat.reduceBEq, Nat.reduceGT, Nat.reduceMod, Nat.reduceDiv, ↓reduceIte, reduceCtorEq, Int.reduceLE, Int.reduceLT, Int.reduceToNat, Int.reduceEq, Int.reduceNeg, Int.reduceAdd, Int.reduceSub, Int.reduceMul]
  refine wl_callX #[.string (bs m)] (by simp -implicitDefEqProofs only [go_sem, Nat.reduceAdd, Nat.reduceSub, Nat.reduceMul, Nat.reduceLT, Nat.reduceLeDiff, Nat.reduceEqDiff, Nat.reduceBEq, Nat.reduceGT, Nat.reduceMod, Nat.reduceDiv, ↓reduceIte, reduceCtorEq, Int.reduceLE, Int.reduceLT, Int.reduceToNat, Int.reduceEq, Int.reduceNeg, Int.reduceAdd, Int.reduceSub, Int.reduceMul]) (load60 m _ hm) ?_
  intro v G hv
  simp -implicitDefEqProofs only [go_sem, Nat.reduceAdd, Nat.reduceSub, Nat.reduceMul, Nat.reduceLT, Nat.reduceLeDiff, Nat.reduceEqDiff, Nat.reduceBEq, Nat.reduceGT, Nat.reduceMod, Nat.reduceDiv, ↓reduceIte, reduceCtorEq, Int.reduceLE, Int.reduceLT, Int.reduceToNat, Int.reduceEq, Int.reduceNeg, Int.reduceAdd, Int.reduceSub, Int.reduceMul]
  simp only [List.append_assoc, List.cons_append, List.nil_append] at hv
  refine wl_callX #[.string (bs m')] (by simp -implicitDefEqProofs only [go_sem, Nat.reduceAdd, Nat.reduceSub, Nat.reduceMul, Nat.reduceLT, Nat.reduceLeDiff, Nat.reduceEqDiff, Nat.reduceBEq, Nat.reduceGT, Nat.reduceMod, Nat.reduceDiv, ↓reduceIte, reduceCtorEq, Int.reduceLE, Int.reduceLT, Int.reduceToNat, Int.reduceEq, Int.reduceNeg, Int.reduceAdd, Int.reduceSub, Int.reduceMul]) (load60 m' _ hm') ?_
  intro w G' hw
  have hv := hv.app G'
  simp only [List.append_assoc, List.cons_append, List.nil_append] at hv hw
  simp -implicitDefEqProofs only [go_sem, Nat.reduceAdd, Nat.reduceSub, Nat.reduceMul, Nat.reduceLT, Nat.reduceLeDiff, Nat.reduceEqDiff, Nat.reduceBEq, Nat.reduceGT, Nat.reduceMod, Nat.reduceDiv, ↓reduceIte, reduceCtorEq, Int.reduceLE, Int.reduceLT, Int.reduceToNat, Int.reduceEq, Int.reduceNeg, Int.reduceAdd, Int.reduceSub, Int.reduceMul]
  refine ax_loopx (fun (k : Nat) s T => ∃ n G, s 4 = .pointer (some ⟨H.length + 2, 0, none⟩) ∧ LN T (s 5) n ∧ LN T (s 6) k ∧ Nat.gcd n k = Nat.gcd (valB m) (valB m') ∧ Fit n ∧ Fit k ∧
    T = H ++ ⟨[.bool g, .string (bs m)], 1, true⟩ :: ⟨[.bool g', .string (bs m')], 1, true⟩ :: ⟨[.bool false, .string (bs [])], 1, true⟩ :: G) id (valB m') ?_ ?_
  · refine ⟨valB m, G ++ G', ?_⟩
    simp -implicitDefEqProofs only [go_sem, Nat.reduceAdd, Nat.reduceSub, Nat.reduceMul, Nat.reduceLT, Nat.reduceLeDiff, Nat.reduceEqDiff, Nat.reduceBEq, Nat.reduceGT, Nat.reduceMod, Nat.reduceDiv, ↓reduceIte, reduceCtorEq, Int.reduceLE, Int.reduceLT, Int.reduceToNat, Int.reduceEq, Int.reduceNeg, Int.reduceAdd, Int.reduceSub, Int.reduceMul]
    exact ⟨hv, hw, fitB hm, fitB hm'⟩
  clear hv hw
  rintro k s T ⟨n, G, h4, h5, h6, hg, hfn, hfk, hT⟩
  subst T
  obtain ⟨v, hs5⟩ : ∃ v, s 5 = v := ⟨_, rfl⟩
  obtain ⟨w, hs6⟩ : ∃ w, s 6 = w := ⟨_, rfl⟩
  rw [hs5] at h5
  rw [hs6] at h6
  obtain ⟨j, e1, e2⟩ := LN_len h6
  simp -implicitDefEqProofs only [go_sem, Nat.reduceAdd, Nat.reduceSub, Nat.reduceMul, Nat.reduceLT, Nat.reduceLeDiff, Nat.reduceEqDiff, Nat.reduceBEq, Nat.reduceGT, Nat.reduceMod, Nat.reduceDiv, ↓reduceIte, reduceCtorEq, Int.reduceLE, Int.reduceLT, Int.reduceToNat, Int.reduceEq, Int.reduceNeg, Int.reduceAdd, Int.reduceSub, Int.reduceMul, hs5, hs6, e1]
  refine ax_cond2 ?_
  simp only [ev_tmp, ev_const, ev_func, upd_at, put_some, put_none, bndB_bool, Nat.reduceEqDiff, if_true, if_false, ↓reduceIte, reduceCtorEq]
  refine ⟨fun hc0 => have hc := of_decide_eq_true hc0; ?_, fun hc0 => have hc := of_decide_eq_false hc0; ?_⟩
  · have hk : 0 < k := by
      refine Nat.pos_of_ne_zero fun h => ?_
      have := e2.2 h
      omega
    simp -implicitDefEqProofs only [go_sem, Nat.reduceAdd, Nat.reduceSub, Nat.reduceMul, Nat.reduceLT, Nat.reduceLeDiff, Nat.reduceEqDiff, Nat.reduceBEq, Nat.reduceGT, Nat.reduceMod, Nat.reduceDiv, ↓reduceIte, reduceCtorEq, Int.reduceLE, Int.reduceLT, Int.reduceToNat, Int.reduceEq, Int.reduceNeg, Int.reduceAdd, Int.reduceSub, Int.reduceMul, hs5, hs6]
    refine wl_callX #[v, w] (by simp -implicitDefEqProofs only [go_sem, Nat.reduceAdd, Nat.reduceSub, Nat.reduceMul, Nat.reduceLT, Nat.reduceLeDiff, Nat.reduceEqDiff, Nat.reduceBEq, Nat.reduceGT, Nat.reduceMod, Nat.reduceDiv, ↓reduceIte, reduceCtorEq, Int.reduceLE, Int.reduceLT, Int.reduceToNat, Int.reduceEq, Int.reduceNeg, Int.reduceAdd, Int.reduceSub, Int.reduceMul]) (divide_LN h5 h6 hfn hfk hk) ?_
    rintro u G2 ⟨a, b, rfl, ha, hb⟩
    have h6 := h6.app G2
    simp only [List.append_assoc, List.cons_append, List.nil_append] at h6 hb
    simp -implicitDefEqProofs only [go_sem, Nat.reduceAdd, Nat.reduceSub, Nat.reduceMul, Nat.reduceLT, Nat.reduceLeDiff, Nat.reduceEqDiff, Nat.reduceBEq, Nat.reduceGT, Nat.reduceMod, Nat.reduceDiv, ↓reduceIte, reduceCtorEq, Int.reduceLE, Int.reduceLT, Int.reduceToNat, Int.reduceEq, Int.reduceNeg, Int.reduceAdd, Int.reduceSub, Int.reduceMul, h4, hs5, hs6]
    refine ⟨n % k, ⟨k, G ++ G2, h6, hb, ?_, hfk, fit_le hfk (Nat.le_of_lt (Nat.mod_lt _ hk)), rfl⟩, Nat.mod_lt _ hk⟩
    rw [← hg, Nat.gcd_comm n k, Nat.gcd_comm k (n % k), ← Nat.gcd_rec]
  · have hk : k = 0 := by
      refine e2.1 ?_
      omega
    subst hk
    simp -implicitDefEqProofs only [go_sem, Nat.reduceAdd, Nat.reduceSub, Nat.reduceMul, Nat.reduceLT, Nat.reduceLeDiff, Nat.reduceEqDiff, Nat.reduceBEq, Nat.reduceGT, Nat.reduceMod, Nat.reduceDiv, ↓reduceIte, reduceCtorEq, Int.reduceLE, Int.reduceLT, Int.reduceToNat, Int.reduceEq, Int.reduceNeg, Int.reduceAdd, Int.reduceSub, Int.reduceMul, h4, hs5]
    refine wl_callV #[.bool false, v] (by simp -implicitDefEqProofs only [go_sem, Nat.reduceAdd, Nat.reduceSub, Nat.reduceMul, Nat.reduceLT, Nat.reduceLeDiff, Nat.reduceEqDiff, Nat.reduceBEq, Nat.reduceGT, Nat.reduceMod, Nat.reduceDiv, ↓reduceIte, reduceCtorEq, Int.reduceLE, Int.reduceLT, Int.reduceToNat, Int.reduceEq, Int.reduceNeg, Int.reduceAdd, Int.reduceSub, Int.reduceMul]) (pack_LN h5 hfn) ?_
    have e : (if false = true then -(n : Int) else (n : Int)) = ((Nat.gcd (valB m) (valB m') : Nat) : Int) := by
      rw [← hg, Nat.gcd_zero_right]; simp
    rw [e]
    unfold mkI iV
    simp -implicitDefEqProofs only [go_sem, Nat.reduceAdd, Nat.reduceSub, Nat.reduceMul, Nat.reduceLT, Nat.reduceLeDiff, Nat.reduceEqDiff, Nat.reduceBEq, Nat.reduceGT, Nat.reduceMod, Nat.reduceDiv, ↓reduceIte, reduceCtorEq, Int.reduceLE, Int.reduceLT, Int.reduceToNat, Int.reduceEq, Int.reduceNeg, Int.reduceAdd, Int.reduceSub, Int.reduceMul, h4, res158]
    first | exact .app _ _ | exact ⟨.app _ _, rfl⟩

theorem div_zero (H : Heap) {g g' : Bool} {m m' : List UInt8} (hm : m.length ≤ 60000) (hm' : m'.length ≤ 60000) (h0 : valB m' = 0) : Sim Tryz.prog 159 #[iV g m, iV g' m'] H (.tuple #[iV false [], iV false [], .int .i64 10]) H := by
  refine flat_ex rfl ?_
  unfold iV
  refine sim_ex tok mixed Tryz.func159 rfl (by kernel_rfl) (by kernel_rfl) (by simp only [Tryz.ntmps159, List.size_toArray, List.length_cons, List.length_nil]; omega) ?_
  simp -implicitDefEqProofs only [go_sem, Nat.reduceAdd, Nat.reduceSub, Nat.reduceMul, Nat.reduceLT, Nat.reduceLeDiff, Nat.reduceEqDiff, Nat.reduceBEq, Nat.reduceGT, Nat.reduceMod, Nat.reduceDiv, ↓reduceIte, reduceCtorEq, Int.reduceLE, Int.reduceLT, Int.reduceToNat, Int.reduceEq, Int.reduceNeg, Int.reduceAdd, Int.reduceSub, Int.reduceMul]
  refine wl_callX #[.string (bs m')] (by simp -implicitDefEqProofs only [go_sem, Nat.reduceAdd, Nat.reduceSub, Nat.reduceMul, Nat.reduceLT, Nat.reduceLeDiff, Nat.reduceEqDiff, Nat.reduceBEq, Nat.reduceGT, Nat.reduceMod, Nat.reduceDiv, ↓reduceIte, reduceCtorEq, Int.reduceLE, Int.reduceLT, Int.reduceToNat, Int.reduceEq, Int.reduceNeg, Int.reduceAdd, Int.reduceSub, Int.reduceMul]) (load60 m' _ hm') ?_
  intro v G hv
  simp only [List.append_assoc, List.cons_append, List.nil_append] at hv
  obtain ⟨j, e1, e2⟩ := LN_len hv
  have hj : (j : Int) = 0 := by have := e2.2 h0; omega
  simp -implicitDefEqProofs only [go_sem, Nat.reduceAdd, Nat.reduceSub, Nat.reduceMul, Nat.reduceLT, Nat.reduceLeDiff, Nat.reduceEqDiff, Nat.reduceBEq, Nat.reduceGT, Nat.reduceMod, Nat.reduceDiv, ↓reduceIte, reduceCtorEq, Int.reduceLE, Int.reduceLT, Int.reduceToNat, Int.reduceEq, Int.reduceNeg, Int.reduceAdd, Int.reduceSub, Int.reduceMul, e1, hj]
  refine ax_cond2 ?_
  simp only [ev_tmp, ev_const, ev_func, upd_at, put_some, put_none, bndB_bool, Nat.reduceEqDiff, if_true, if_false, ↓reduceIte, reduceCtorEq]
  refine ⟨fun _ => ?_, fun hc => hc.elim⟩
  simp -implicitDefEqProofs only [go_sem, Nat.reduceAdd, Nat.reduceSub, Nat.reduceMul, Nat.reduceLT, Nat.reduceLeDiff, Nat.reduceEqDiff, Nat.reduceBEq, Nat.reduceGT, Nat.reduceMod, Nat.reduceDiv, ↓reduceIte, reduceCtorEq, Int.reduceLE, Int.reduceLT, Int.reduceToNat, Int.reduceEq, Int.reduceNeg, Int.reduceAdd, Int.reduceSub, Int.reduceMul, res159]
  first | exact .app _ _ | exact ⟨.app _ _, rfl⟩

/-- rounding down -/
theorem floor_uniq {a b q r : Int} (h : a = b * q + r) (hr : (0 ≤ r ∧ r < b) ∨ (b < r ∧ r ≤ 0)) : q = a.fdiv b ∧ r = a.fmod b := by
  rcases hr with ⟨h1, h2⟩ | ⟨h1, h2⟩
  · have hb : 0 < b := by omega
    have := (Int.ediv_emod_unique (a := a) (q := q) (r := r) hb).2 ⟨by omega, h1, h2⟩
    rw [Int.fdiv_eq_ediv_of_nonneg _ (by omega), Int.fmod_eq_emod_of_nonneg _ (by omega)]
    exact ⟨this.1.symm, this.2.symm⟩
  · have hb : 0 < -b := by omega
    have := (Int.ediv_emod_unique (a := -a) (b := -b) (q := q) (r := -r) hb).2 ⟨by rw [h, Int.neg_mul]; omega, by omega, by omega⟩
    rw [← Int.neg_fdiv_neg, Int.fdiv_eq_ediv_of_nonneg _ (by omega : (0 : Int) ≤ -b)]
    refine ⟨this.1.symm, ?_⟩
    have e := Int.mul_fdiv_add_fmod a b
    rw [← Int.neg_fdiv_neg, Int.fdiv_eq_ediv_of_nonneg _ (by omega : (0 : Int) ≤ -b), this.1] at e
    omega
end Go.Proofs.YthhmkaikopdmjaaGreat
set_option linter.unusedSimpArgs false
set_option linter.unusedVariables false
set_option maxRecDepth 8000
namespace Go.Proofs.YthhmkaikopdmjaaGreat
open Go Go.Fw

def sgI (g : Bool) (n : Nat) : Int := if g then -(n : Int) else n
theorem pack_sg {H : Heap} {v : Value} {n : Nat} {g : Bool} (h : LN H v n) (hf : Fit n) : Sim Tryz.prog 161 #[.bool g, v] H (mkI (sgI g n)) H := pack_LN h hf
theorem sgI_abs (g : Bool) (n : Nat) : (sgI g n).natAbs = n := by unfold sgI; cases g <;> simp
theorem ival_sg (g : Bool) (m : List UInt8) : ival g m = sgI g (valB m) := rfl
theorem div_law (g g' : Bool) (n d : Nat) (hd : 0 < d) :
    (g = g' ∨ n % d = 0 → sgI (!(g == g')) (n / d) = (sgI g n).fdiv (sgI g' d) ∧ sgI g (n % d) = (sgI g n).fmod (sgI g' d)) ∧
    (¬ (g = g' ∨ n % d = 0) → sgI (!(g == g')) (n / d) - 1 = (sgI g n).fdiv (sgI g' d) ∧ sgI g (n % d) + sgI g' d = (sgI g n).fmod (sgI g' d)) := by
  have e : (d : Int) * ((n / d : Nat) : Int) + ((n % d : Nat) : Int) = n := by
    have := Nat.div_add_mod n d
    exact_mod_cast this
  have hm := Nat.mod_lt n hd
  generalize n / d = q at *
  generalize n % d = r at *
  have e2 : (d : Int) * -(q : Int) = -((d : Int) * q) := Int.mul_neg _ _
  have e3 : -(d : Int) * -(q : Int) = (d : Int) * q := Int.neg_mul_neg _ _
  have e4 : -(d : Int) * (q : Int) = -((d : Int) * q) := Int.neg_mul _ _
  have e5 : (d : Int) * (-(q : Int) - 1) = -((d : Int) * q) - d := by rw [Int.mul_sub, e2, Int.mul_one]
  have e6 : -(d : Int) * (-(q : Int) - 1) = (d : Int) * q + d := by rw [Int.mul_sub, e3, Int.mul_one]; omega
  unfold sgI
  constructor
  · intro h
    cases g <;> cases g' <;> simp only [reduceCtorEq, false_or, true_or, Bool.false_eq_true, if_false, if_true, beq_self_eq_true, Bool.not_true, Bool.not_false, show (true == false) = false from rfl, show (false == true) = false from rfl] at h ⊢
    · exact floor_uniq (by omega) (by omega)
    · exact floor_uniq (by omega) (by omega)
    · exact floor_uniq (by omega) (by omega)
    · exact floor_uniq (by omega) (by omega)
  · intro h
    cases g <;> cases g' <;> simp only [reduceCtorEq, false_or, true_or, not_true_eq_false, not_false_eq_true, Bool.false_eq_true, if_false, if_true, beq_self_eq_true, Bool.not_true, Bool.not_false, show (true == false) = false from rfl, show (false == true) = false from rfl] at h ⊢
    · exact floor_uniq (by omega) (by omega)
    · exact floor_uniq (by omega) (by omega)

theorem subI (H : Heap) {v w : Value} {x y : Int} {k k' : Nat} (hv : IA v x k) (hw : IA w y k') (hk : k ≤ 480000) (hk' : k' ≤ 480000) : Sim Tryz.prog 217 #[v, w] H (mkI (x - y)) H := by
  obtain ⟨g, m, rfl, rfl, h⟩ := hv
  obtain ⟨g', m', rfl, rfl, h'⟩ := hw
  exact sub_sim H (by omega) (by omega)
theorem addI (H : Heap) {v w : Value} {x y : Int} {k k' : Nat} (hv : IA v x k) (hw : IA w y k') (hk : k ≤ 480000) (hk' : k' ≤ 480000) : Sim Tryz.prog 193 #[v, w] H (mkI (x + y)) H := by
  obtain ⟨g, m, rfl, rfl, h⟩ := hv
  obtain ⟨g', m', rfl, rfl, h'⟩ := hw
  exact add_sim H (by omega) (by omega)
theorem mulI (H : Heap) {v w : Value} {x y : Int} {k k' : Nat} (hv : IA v x k) (hw : IA w y k') (hk : k ≤ 480000) (hk' : k' ≤ 480000) : Sim Tryz.prog 131 #[v, w] H (mkI (x * y)) H := by
  obtain ⟨g, m, rfl, rfl, h⟩ := hv
  obtain ⟨g', m', rfl, rfl, h'⟩ := hw
  exact mul_sim H (by omega) (by omega)
theorem negI (H : Heap) {v : Value} {x : Int} {k : Nat} (hv : IA v x k) (hk : k ≤ 480000) : Sim Tryz.prog 160 #[v] H (mkI (-x)) H := by
  obtain ⟨g, m, rfl, rfl, h⟩ := hv
  exact neg_sim H (by omega)
theorem gcdI (H : Heap) {v w : Value} {x y : Int} {k k' : Nat} (hv : IA v x k) (hw : IA w y k') (hk : k ≤ 480000) (hk' : k' ≤ 480000) : Sim Tryz.prog 158 #[v, w] H (mkI (Nat.gcd x.natAbs y.natAbs : Nat)) H := by
  obtain ⟨g, m, rfl, rfl, h⟩ := hv
  obtain ⟨g', m', rfl, rfl, h'⟩ := hw
  rw [ival_abs, ival_abs]
  exact gcd_sim H (by omega) (by omega)
theorem cmpI (H : Heap) {v w : Value} {x y : Int} {k k' : Nat} (hv : IA v x k) (hw : IA w y k') (hk : k ≤ 480000) (hk' : k' ≤ 480000) : Sim Tryz.prog 149 #[v, w] H (.int .i64 (sgn (x - y))) H := by
  obtain ⟨g, m, rfl, rfl, h⟩ := hv
  obtain ⟨g', m', rfl, rfl, h'⟩ := hw
  exact compareI_sim H (by omega) (by omega)

theorem div_sim (H : Heap) {g g' : Bool} {m m' : List UInt8} (hm : m.length ≤ 50000) (hm' : m'.length ≤ 50000) (h0 : 0 < valB m') :
    Sim Tryz.prog 159 #[iV g m, iV g' m'] H (.tuple #[mkI ((ival g m).fdiv (ival g' m')), mkI ((ival g m).fmod (ival g' m')), .int .i64 0]) H := by
  refine flat_ex rfl ?_
  have hlaw := div_law g g' (valB m) (valB m') h0
  have hq : (digB (valB m / valB m')).length ≤ 60000 := by
    refine Nat.le_trans (digB_len _ m.length ?_) (by omega)
    exact Nat.lt_of_le_of_lt (Nat.div_le_self _ _) (valB_lt m)
  have hr : (digB (valB m % valB m')).length ≤ 60000 := by
    refine Nat.le_trans (digB_len _ m'.length ?_) (by omega)
    exact Nat.lt_trans (Nat.mod_lt _ h0) (valB_lt m')
  have hqI : ∀ g, IA (mkI (sgI g (valB m / valB m'))) (sgI g (valB m / valB m')) 480000 := fun g => ⟨_, _, rfl, ival_mk _, by rw [sgI_abs]; omega⟩
  have hrI : ∀ g, IA (mkI (sgI g (valB m % valB m'))) (sgI g (valB m % valB m')) 480000 := fun g => ⟨_, _, rfl, ival_mk _, by rw [sgI_abs]; omega⟩
  have hrm : (∃ x, mkI (sgI g (valB m % valB m')) = .agg #[.bool x, .string (bs (digB (valB m % valB m')))]) := ⟨_, by
    unfold mkI iV
    rw [sgI_abs]⟩
  have hqm : (∃ x n, mkI (sgI (!(g == g')) (valB m / valB m')) = .agg #[.bool x, .string n]) := ⟨_, _, rfl⟩
  have hnil : (bs (digB (valB m % valB m')) = bs []) ↔ valB m % valB m' = 0 := by rw [bs_inj, digB_nil_iff]
  rw [ival_sg, ival_sg]
  have hbI : sgI g' (valB m') = ival g' m' := rfl
  unfold iV
  refine sim_ex tok mixed Tryz.func159 rfl (by kernel_rfl) (by kernel_rfl) (by simp only [Tryz.ntmps159, List.size_toArray, List.length_cons, List.length_nil]; omega) ?_
  simp -implicitDefEqProofs only [go_sem, Nat.reduceAdd, Nat.reduceSub, Nat.reduceMul, Nat.reduceLT, Nat.reduceLeDiff, Nat.reduceEqDiff, Nat.reduceBEq, Nat.reduceGT, Nat.reduceMod, Nat.reduceDiv, ↓reduceIte, reduceCtorEq, Int.reduceLE, Int.reduceLT, Int.reduceToNat, Int.reduceEq, Int.reduceNeg, Int.reduceAdd, Int.reduceSub, Int.reduceMul]
  refine wl_callX #[.string (bs m')] (by simp -implicitDefEqProofs only [go_sem, Nat.reduceAdd, Nat.reduceSub, Nat.reduceMul, Nat.reduceLT, Nat.reduceLeDiff, Nat.reduceEqDiff, Nat.reduceBEq, Nat.reduceGT, Nat.reduceMod, Nat.reduceDiv, ↓reduceIte, reduceCtorEq, Int.reduceLE, Int.reduceLT, Int.reduceToNat, Int.reduceEq, Int.reduceNeg, Int.reduceAdd, Int.reduceSub, Int.reduceMul]) (load60 m' _ (by omega)) ?_
  intro v G hv
  simp only [List.append_assoc, List.cons_append, List.nil_append] at hv
  obtain ⟨j, e1, e2⟩ := LN_len hv
  have hj : ¬ (j : Int) = 0 := fun h => by have := e2.1 (by omega); omega
  simp -implicitDefEqProofs only [go_sem, Nat.reduceAdd, Nat.reduceSub, Nat.reduceMul, Nat.reduceLT, Nat.reduceLeDiff, Nat.reduceEqDiff, Nat.reduceBEq, Nat.reduceGT, Nat.reduceMod, Nat.reduceDiv, ↓reduceIte, reduceCtorEq, Int.reduceLE, Int.reduceLT, Int.reduceToNat, Int.reduceEq, Int.reduceNeg, Int.reduceAdd, Int.reduceSub, Int.reduceMul, e1, hj]
  refine ax_cond2 ?_
  simp only [ev_tmp, ev_const, ev_func, upd_at, put_some, put_none, bndB_bool, Nat.reduceEqDiff, if_true, if_false, ↓reduceIte, reduceCtorEq]
  refine ⟨fun hc => hc.elim, fun _ => ?_⟩
  simp -implicitDefEqProofs only [go_sem, Nat.reduceAdd, Nat.reduceSub, Nat.reduceMul, Nat.reduceLT, Nat.reduceLeDiff, Nat.reduceEqDiff, Nat.reduceBEq, Nat.reduceGT, Nat.reduceMod, Nat.reduceDiv, ↓reduceIte, reduceCtorEq, Int.reduceLE, Int.reduceLT, Int.reduceToNat, Int.reduceEq, Int.reduceNeg, Int.reduceAdd, Int.reduceSub, Int.reduceMul]
  refine wl_callX #[.string (bs m)] (by simp -implicitDefEqProofs only [go_sem, Nat.reduceAdd, Nat.reduceSub, Nat.reduceMul, Nat.reduceLT, Nat.reduceLeDiff, Nat.reduceEqDiff, Nat.reduceBEq, Nat.reduceGT, Nat.reduceMod, Nat.reduceDiv, ↓reduceIte, reduceCtorEq, Int.reduceLE, Int.reduceLT, Int.reduceToNat, Int.reduceEq, Int.reduceNeg, Int.reduceAdd, Int.reduceSub, Int.reduceMul]) (load60 m _ (by omega)) ?_
  intro w G' hw
  have hv := hv.app G'
  simp only [List.append_assoc, List.cons_append, List.nil_append] at hv hw
  simp -implicitDefEqProofs only [go_sem, Nat.reduceAdd, Nat.reduceSub, Nat.reduceMul, Nat.reduceLT, Nat.reduceLeDiff, Nat.reduceEqDiff, Nat.reduceBEq, Nat.reduceGT, Nat.reduceMod, Nat.reduceDiv, ↓reduceIte, reduceCtorEq, Int.reduceLE, Int.reduceLT, Int.reduceToNat, Int.reduceEq, Int.reduceNeg, Int.reduceAdd, Int.reduceSub, Int.reduceMul]
  refine wl_callX #[w, v] (by simp -implicitDefEqProofs only [go_sem, Nat.reduceAdd, Nat.reduceSub, Nat.reduceMul, Nat.reduceLT, Nat.reduceLeDiff, Nat.reduceEqDiff, Nat.reduceBEq, Nat.reduceGT, Nat.reduceMod, Nat.reduceDiv, ↓reduceIte, reduceCtorEq, Int.reduceLE, Int.reduceLT, Int.reduceToNat, Int.reduceEq, Int.reduceNeg, Int.reduceAdd, Int.reduceSub, Int.reduceMul]) (divide_LN hw hv (fitB (by omega)) (fitB (by omega)) h0) ?_
  rintro u G2 ⟨a, b, rfl, ha, hb⟩
  simp only [List.append_assoc, List.cons_append, List.nil_append] at ha hb
  have fq : Fit (valB m / valB m') := fit_le (fitB (m := m) (by omega)) (Nat.div_le_self _ _)
  have fr : Fit (valB m % valB m') := fit_le (fitB (m := m) (by omega)) (Nat.mod_le _ _)
  simp -implicitDefEqProofs only [go_sem, Nat.reduceAdd, Nat.reduceSub, Nat.reduceMul, Nat.reduceLT, Nat.reduceLeDiff, Nat.reduceEqDiff, Nat.reduceBEq, Nat.reduceGT, Nat.reduceMod, Nat.reduceDiv, ↓reduceIte, reduceCtorEq, Int.reduceLE, Int.reduceLT, Int.reduceToNat, Int.reduceEq, Int.reduceNeg, Int.reduceAdd, Int.reduceSub, Int.reduceMul]
  refine ax_quiet (by kernel_rfl) ?_
  simp -implicitDefEqProofs only [go_sem, Nat.reduceAdd, Nat.reduceSub, Nat.reduceMul, Nat.reduceLT, Nat.reduceLeDiff, Nat.reduceEqDiff, Nat.reduceBEq, Nat.reduceGT, Nat.reduceMod, Nat.reduceDiv, ↓reduceIte, reduceCtorEq, Int.reduceLE, Int.reduceLT, Int.reduceToNat, Int.reduceEq, Int.reduceNeg, Int.reduceAdd, Int.reduceSub, Int.reduceMul, bne4]
  refine wl_callV #[.bool (!(g == g')), a] (by simp -implicitDefEqProofs only [go_sem, Nat.reduceAdd, Nat.reduceSub, Nat.reduceMul, Nat.reduceLT, Nat.reduceLeDiff, Nat.reduceEqDiff, Nat.reduceBEq, Nat.reduceGT, Nat.reduceMod, Nat.reduceDiv, ↓reduceIte, reduceCtorEq, Int.reduceLE, Int.reduceLT, Int.reduceToNat, Int.reduceEq, Int.reduceNeg, Int.reduceAdd, Int.reduceSub, Int.reduceMul]) (pack_sg ha fq) ?_
  simp -implicitDefEqProofs only [go_sem, Nat.reduceAdd, Nat.reduceSub, Nat.reduceMul, Nat.reduceLT, Nat.reduceLeDiff, Nat.reduceEqDiff, Nat.reduceBEq, Nat.reduceGT, Nat.reduceMod, Nat.reduceDiv, ↓reduceIte, reduceCtorEq, Int.reduceLE, Int.reduceLT, Int.reduceToNat, Int.reduceEq, Int.reduceNeg, Int.reduceAdd, Int.reduceSub, Int.reduceMul]
  refine wl_callV #[.bool g, b] (by simp -implicitDefEqProofs only [go_sem, Nat.reduceAdd, Nat.reduceSub, Nat.reduceMul, Nat.reduceLT, Nat.reduceLeDiff, Nat.reduceEqDiff, Nat.reduceBEq, Nat.reduceGT, Nat.reduceMod, Nat.reduceDiv, ↓reduceIte, reduceCtorEq, Int.reduceLE, Int.reduceLT, Int.reduceToNat, Int.reduceEq, Int.reduceNeg, Int.reduceAdd, Int.reduceSub, Int.reduceMul]) (pack_sg hb fr) ?_
  clear ha hb hv hw fq fr e1 e2 hj
  generalize G ++ (G' ++ G2) = G3
  obtain ⟨rg, hrm⟩ := hrm
  obtain ⟨qg, qn, hqm⟩ := hqm
  simp -implicitDefEqProofs only [go_sem, Nat.reduceAdd, Nat.reduceSub, Nat.reduceMul, Nat.reduceLT, Nat.reduceLeDiff, Nat.reduceEqDiff, Nat.reduceBEq, Nat.reduceGT, Nat.reduceMod, Nat.reduceDiv, ↓reduceIte, reduceCtorEq, Int.reduceLE, Int.reduceLT, Int.reduceToNat, Int.reduceEq, Int.reduceNeg, Int.reduceAdd, Int.reduceSub, Int.reduceMul, hrm, hqm]
  generalize bs (digB (valB m % valB m')) = rs at hnil hrm ⊢
  have hQ := hqI (!(g == g'))
  have hR := hrI g
  rw [hqm] at hQ
  rw [hrm] at hR
  by_cases hz : valB m % valB m' = 0
  · have hz2 := hnil.2 hz
    subst hz2
    obtain ⟨x1, x2⟩ := hlaw.1 (.inr hz)
    simp -implicitDefEqProofs only [go_sem, Nat.reduceAdd, Nat.reduceSub, Nat.reduceMul, Nat.reduceLT, Nat.reduceLeDiff, Nat.reduceEqDiff, Nat.reduceBEq, Nat.reduceGT, Nat.reduceMod, Nat.reduceDiv, ↓reduceIte, reduceCtorEq, Int.reduceLE, Int.reduceLT, Int.reduceToNat, Int.reduceEq, Int.reduceNeg, Int.reduceAdd, Int.reduceSub, Int.reduceMul, wa_cond, axC_t, axC_f]
    refine ax_cross5 (v0 := .agg #[.bool qg, .string qn]) (v1 := .agg #[.bool rg, .string (bs [])]) ⟨by kernel_rfl, by kernel_rfl, by kernel_rfl, by kernel_rfl, by kernel_rfl, by kernel_rfl⟩ (by kernel_rfl) (by kernel_rfl) (by decide)
      (by simp -implicitDefEqProofs only [go_sem, Nat.reduceAdd, Nat.reduceSub, Nat.reduceMul, Nat.reduceLT, Nat.reduceLeDiff, Nat.reduceEqDiff, Nat.reduceBEq, Nat.reduceGT, Nat.reduceMod, Nat.reduceDiv, ↓reduceIte, reduceCtorEq, Int.reduceLE, Int.reduceLT, Int.reduceToNat, Int.reduceEq, Int.reduceNeg, Int.reduceAdd, Int.reduceSub, Int.reduceMul]) (by simp -implicitDefEqProofs only [go_sem, Nat.reduceAdd, Nat.reduceSub, Nat.reduceMul, Nat.reduceLT, Nat.reduceLeDiff, Nat.reduceEqDiff, Nat.reduceBEq, Nat.reduceGT, Nat.reduceMod, Nat.reduceDiv, ↓reduceIte, reduceCtorEq, Int.reduceLE, Int.reduceLT, Int.reduceToNat, Int.reduceEq, Int.reduceNeg, Int.reduceAdd, Int.reduceSub, Int.reduceMul]) (by simp -implicitDefEqProofs only [go_sem, Nat.reduceAdd, Nat.reduceSub, Nat.reduceMul, Nat.reduceLT, Nat.reduceLeDiff, Nat.reduceEqDiff, Nat.reduceBEq, Nat.reduceGT, Nat.reduceMod, Nat.reduceDiv, ↓reduceIte, reduceCtorEq, Int.reduceLE, Int.reduceLT, Int.reduceToNat, Int.reduceEq, Int.reduceNeg, Int.reduceAdd, Int.reduceSub, Int.reduceMul]; rfl) (by simp -implicitDefEqProofs only [go_sem, Nat.reduceAdd, Nat.reduceSub, Nat.reduceMul, Nat.reduceLT, Nat.reduceLeDiff, Nat.reduceEqDiff, Nat.reduceBEq, Nat.reduceGT, Nat.reduceMod, Nat.reduceDiv, ↓reduceIte, reduceCtorEq, Int.reduceLE, Int.reduceLT, Int.reduceToNat, Int.reduceEq, Int.reduceNeg, Int.reduceAdd, Int.reduceSub, Int.reduceMul]) (by simp -implicitDefEqProofs only [go_sem, Nat.reduceAdd, Nat.reduceSub, Nat.reduceMul, Nat.reduceLT, Nat.reduceLeDiff, Nat.reduceEqDiff, Nat.reduceBEq, Nat.reduceGT, Nat.reduceMod, Nat.reduceDiv, ↓reduceIte, reduceCtorEq, Int.reduceLE, Int.reduceLT, Int.reduceToNat, Int.reduceEq, Int.reduceNeg, Int.reduceAdd, Int.reduceSub, Int.reduceMul]; rfl) ?_
    simp -implicitDefEqProofs only [go_sem, Nat.reduceAdd, Nat.reduceSub, Nat.reduceMul, Nat.reduceLT, Nat.reduceLeDiff, Nat.reduceEqDiff, Nat.reduceBEq, Nat.reduceGT, Nat.reduceMod, Nat.reduceDiv, ↓reduceIte, reduceCtorEq, Int.reduceLE, Int.reduceLT, Int.reduceToNat, Int.reduceEq, Int.reduceNeg, Int.reduceAdd, Int.reduceSub, Int.reduceMul, res159]
    rw [← x1, ← x2, hqm, hrm]
    first | exact .app _ _ | exact ⟨.app _ _, rfl⟩
  have hz2 : ¬ rs = bs [] := fun h => hz (hnil.1 h)
  by_cases hg : g = g'
  · obtain ⟨x1, x2⟩ := hlaw.1 (.inl hg)
    have hbb : (!(g == g')) = false := by subst hg; cases g <;> rfl
    simp -implicitDefEqProofs only [go_sem, Nat.reduceAdd, Nat.reduceSub, Nat.reduceMul, Nat.reduceLT, Nat.reduceLeDiff, Nat.reduceEqDiff, Nat.reduceBEq, Nat.reduceGT, Nat.reduceMod, Nat.reduceDiv, ↓reduceIte, reduceCtorEq, Int.reduceLE, Int.reduceLT, Int.reduceToNat, Int.reduceEq, Int.reduceNeg, Int.reduceAdd, Int.reduceSub, Int.reduceMul, wa_cond, axC_t, axC_f, hz2, bne4, hbb]
    refine ax_cross5 (v0 := .agg #[.bool qg, .string qn]) (v1 := .agg #[.bool rg, .string rs]) ⟨by kernel_rfl, by kernel_rfl, by kernel_rfl, by kernel_rfl, by kernel_rfl, by kernel_rfl⟩ (by kernel_rfl) (by kernel_rfl) (by decide)
      (by simp -implicitDefEqProofs only [go_sem, Nat.reduceAdd, Nat.reduceSub, Nat.reduceMul, Nat.reduceLT, Nat.reduceLeDiff, Nat.reduceEqDiff, Nat.reduceBEq, Nat.reduceGT, Nat.reduceMod, Nat.reduceDiv, ↓reduceIte, reduceCtorEq, Int.reduceLE, Int.reduceLT, Int.reduceToNat, Int.reduceEq, Int.reduceNeg, Int.reduceAdd, Int.reduceSub, Int.reduceMul]) (by simp -implicitDefEqProofs only [go_sem, Nat.reduceAdd, Nat.reduceSub, Nat.reduceMul, Nat.reduceLT, Nat.reduceLeDiff, Nat.reduceEqDiff, Nat.reduceBEq, Nat.reduceGT, Nat.reduceMod, Nat.reduceDiv, ↓reduceIte, reduceCtorEq, Int.reduceLE, Int.reduceLT, Int.reduceToNat, Int.reduceEq, Int.reduceNeg, Int.reduceAdd, Int.reduceSub, Int.reduceMul]) (by simp -implicitDefEqProofs only [go_sem, Nat.reduceAdd, Nat.reduceSub, Nat.reduceMul, Nat.reduceLT, Nat.reduceLeDiff, Nat.reduceEqDiff, Nat.reduceBEq, Nat.reduceGT, Nat.reduceMod, Nat.reduceDiv, ↓reduceIte, reduceCtorEq, Int.reduceLE, Int.reduceLT, Int.reduceToNat, Int.reduceEq, Int.reduceNeg, Int.reduceAdd, Int.reduceSub, Int.reduceMul]; rfl) (by simp -implicitDefEqProofs only [go_sem, Nat.reduceAdd, Nat.reduceSub, Nat.reduceMul, Nat.reduceLT, Nat.reduceLeDiff, Nat.reduceEqDiff, Nat.reduceBEq, Nat.reduceGT, Nat.reduceMod, Nat.reduceDiv, ↓reduceIte, reduceCtorEq, Int.reduceLE, Int.reduceLT, Int.reduceToNat, Int.reduceEq, Int.reduceNeg, Int.reduceAdd, Int.reduceSub, Int.reduceMul]) (by simp -implicitDefEqProofs only [go_sem, Nat.reduceAdd, Nat.reduceSub, Nat.reduceMul, Nat.reduceLT, Nat.reduceLeDiff, Nat.reduceEqDiff, Nat.reduceBEq, Nat.reduceGT, Nat.reduceMod, Nat.reduceDiv, ↓reduceIte, reduceCtorEq, Int.reduceLE, Int.reduceLT, Int.reduceToNat, Int.reduceEq, Int.reduceNeg, Int.reduceAdd, Int.reduceSub, Int.reduceMul]; rfl) ?_
    simp -implicitDefEqProofs only [go_sem, Nat.reduceAdd, Nat.reduceSub, Nat.reduceMul, Nat.reduceLT, Nat.reduceLeDiff, Nat.reduceEqDiff, Nat.reduceBEq, Nat.reduceGT, Nat.reduceMod, Nat.reduceDiv, ↓reduceIte, reduceCtorEq, Int.reduceLE, Int.reduceLT, Int.reduceToNat, Int.reduceEq, Int.reduceNeg, Int.reduceAdd, Int.reduceSub, Int.reduceMul, res159]
    rw [← x1, ← x2, hqm, hrm]
    first | exact .app _ _ | exact ⟨.app _ _, rfl⟩
  · obtain ⟨x1, x2⟩ := hlaw.2 (fun h => h.elim hg hz)
    have hbb : (!(g == g')) = true := by cases g <;> cases g' <;> simp_all
    have hs1 := fun H => subI H hQ (IA.mk (z := 1) (k := 8) (by decide)) (Nat.le_refl _) (by decide)
    have hs2 := fun H => addI H hR (IA.raw g' m' (k := 480000) (by omega)) (Nat.le_refl _) (Nat.le_refl _)
    unfold iV at hs2
    rw [x1] at hs1
    rw [← hbI, x2] at hs2
    have hof := fun H => of_sim H (z := 1) (by decide) (by decide)
    obtain ⟨b1, s1, h1⟩ : ∃ b s, mkI ((sgI g (valB m)).fdiv (sgI g' (valB m'))) = .agg #[.bool b, .string s] := ⟨_, _, rfl⟩
    obtain ⟨b2, s2, h2⟩ : ∃ b s, mkI ((sgI g (valB m)).fmod (sgI g' (valB m'))) = .agg #[.bool b, .string s] := ⟨_, _, rfl⟩
    rw [h1] at hs1 ⊢
    rw [h2] at hs2 ⊢
    simp -implicitDefEqProofs only [go_sem, Nat.reduceAdd, Nat.reduceSub, Nat.reduceMul, Nat.reduceLT, Nat.reduceLeDiff, Nat.reduceEqDiff, Nat.reduceBEq, Nat.reduceGT, Nat.reduceMod, Nat.reduceDiv, ↓reduceIte, reduceCtorEq, Int.reduceLE, Int.reduceLT, Int.reduceToNat, Int.reduceEq, Int.reduceNeg, Int.reduceAdd, Int.reduceSub, Int.reduceMul, wa_cond, axC_t, axC_f, hz2, bne4, hbb]
    refine ax_quiet (by kernel_rfl) ?_
    simp -implicitDefEqProofs only [go_sem, Nat.reduceAdd, Nat.reduceSub, Nat.reduceMul, Nat.reduceLT, Nat.reduceLeDiff, Nat.reduceEqDiff, Nat.reduceBEq, Nat.reduceGT, Nat.reduceMod, Nat.reduceDiv, ↓reduceIte, reduceCtorEq, Int.reduceLE, Int.reduceLT, Int.reduceToNat, Int.reduceEq, Int.reduceNeg, Int.reduceAdd, Int.reduceSub, Int.reduceMul]
    refine wl_callV #[.int .i64 1] (by simp -implicitDefEqProofs only [go_sem, Nat.reduceAdd, Nat.reduceSub, Nat.reduceMul, Nat.reduceLT, Nat.reduceLeDiff, Nat.reduceEqDiff, Nat.reduceBEq, Nat.reduceGT, Nat.reduceMod, Nat.reduceDiv, ↓reduceIte, reduceCtorEq, Int.reduceLE, Int.reduceLT, Int.reduceToNat, Int.reduceEq, Int.reduceNeg, Int.reduceAdd, Int.reduceSub, Int.reduceMul]) (hof _) ?_
    simp -implicitDefEqProofs only [go_sem, Nat.reduceAdd, Nat.reduceSub, Nat.reduceMul, Nat.reduceLT, Nat.reduceLeDiff, Nat.reduceEqDiff, Nat.reduceBEq, Nat.reduceGT, Nat.reduceMod, Nat.reduceDiv, ↓reduceIte, reduceCtorEq, Int.reduceLE, Int.reduceLT, Int.reduceToNat, Int.reduceEq, Int.reduceNeg, Int.reduceAdd, Int.reduceSub, Int.reduceMul]
    refine wl_callV #[.agg #[.bool qg, .string qn], mkI 1] (by simp -implicitDefEqProofs only [go_sem, Nat.reduceAdd, Nat.reduceSub, Nat.reduceMul, Nat.reduceLT, Nat.reduceLeDiff, Nat.reduceEqDiff, Nat.reduceBEq, Nat.reduceGT, Nat.reduceMod, Nat.reduceDiv, ↓reduceIte, reduceCtorEq, Int.reduceLE, Int.reduceLT, Int.reduceToNat, Int.reduceEq, Int.reduceNeg, Int.reduceAdd, Int.reduceSub, Int.reduceMul]) (hs1 _) ?_
    simp -implicitDefEqProofs only [go_sem, Nat.reduceAdd, Nat.reduceSub, Nat.reduceMul, Nat.reduceLT, Nat.reduceLeDiff, Nat.reduceEqDiff, Nat.reduceBEq, Nat.reduceGT, Nat.reduceMod, Nat.reduceDiv, ↓reduceIte, reduceCtorEq, Int.reduceLE, Int.reduceLT, Int.reduceToNat, Int.reduceEq, Int.reduceNeg, Int.reduceAdd, Int.reduceSub, Int.reduceMul]
    refine wl_callV #[.agg #[.bool rg, .string rs], .agg #[.bool g', .string (bs m')]] (by simp -implicitDefEqProofs only [go_sem, Nat.reduceAdd, Nat.reduceSub, Nat.reduceMul, Nat.reduceLT, Nat.reduceLeDiff, Nat.reduceEqDiff, Nat.reduceBEq, Nat.reduceGT, Nat.reduceMod, Nat.reduceDiv, ↓reduceIte, reduceCtorEq, Int.reduceLE, Int.reduceLT, Int.reduceToNat, Int.reduceEq, Int.reduceNeg, Int.reduceAdd, Int.reduceSub, Int.reduceMul]) (hs2 _) ?_
    simp -implicitDefEqProofs only [go_sem, Nat.reduceAdd, Nat.reduceSub, Nat.reduceMul, Nat.reduceLT, Nat.reduceLeDiff, Nat.reduceEqDiff, Nat.reduceBEq, Nat.reduceGT, Nat.reduceMod, Nat.reduceDiv, ↓reduceIte, reduceCtorEq, Int.reduceLE, Int.reduceLT, Int.reduceToNat, Int.reduceEq, Int.reduceNeg, Int.reduceAdd, Int.reduceSub, Int.reduceMul]
    refine ax_cross5 (v0 := .agg #[.bool b1, .string s1]) (v1 := .agg #[.bool b2, .string s2]) ⟨by kernel_rfl, by kernel_rfl, by kernel_rfl, by kernel_rfl, by kernel_rfl, by kernel_rfl⟩ (by kernel_rfl) (by kernel_rfl) (by decide)
      (by simp -implicitDefEqProofs only [go_sem, Nat.reduceAdd, Nat.reduceSub, Nat.reduceMul, Nat.reduceLT, Nat.reduceLeDiff, Nat.reduceEqDiff, Nat.reduceBEq, Nat.reduceGT, Nat.reduceMod, Nat.reduceDiv, ↓reduceIte, reduceCtorEq, Int.reduceLE, Int.reduceLT, Int.reduceToNat, Int.reduceEq, Int.reduceNeg, Int.reduceAdd, Int.reduceSub, Int.reduceMul]) (by simp -implicitDefEqProofs only [go_sem, Nat.reduceAdd, Nat.reduceSub, Nat.reduceMul, Nat.reduceLT, Nat.reduceLeDiff, Nat.reduceEqDiff, Nat.reduceBEq, Nat.reduceGT, Nat.reduceMod, Nat.reduceDiv, ↓reduceIte, reduceCtorEq, Int.reduceLE, Int.reduceLT, Int.reduceToNat, Int.reduceEq, Int.reduceNeg, Int.reduceAdd, Int.reduceSub, Int.reduceMul]) (by simp -implicitDefEqProofs only [go_sem, Nat.reduceAdd, Nat.reduceSub, Nat.reduceMul, Nat.reduceLT, Nat.reduceLeDiff, Nat.reduceEqDiff, Nat.reduceBEq, Nat.reduceGT, Nat.reduceMod, Nat.reduceDiv, ↓reduceIte, reduceCtorEq, Int.reduceLE, Int.reduceLT, Int.reduceToNat, Int.reduceEq, Int.reduceNeg, Int.reduceAdd, Int.reduceSub, Int.reduceMul]; rfl) (by simp -implicitDefEqProofs only [go_sem, Nat.reduceAdd, Nat.reduceSub, Nat.reduceMul, Nat.reduceLT, Nat.reduceLeDiff, Nat.reduceEqDiff, Nat.reduceBEq, Nat.reduceGT, Nat.reduceMod, Nat.reduceDiv, ↓reduceIte, reduceCtorEq, Int.reduceLE, Int.reduceLT, Int.reduceToNat, Int.reduceEq, Int.reduceNeg, Int.reduceAdd, Int.reduceSub, Int.reduceMul]) (by simp -implicitDefEqProofs only [go_sem, Nat.reduceAdd, Nat.reduceSub, Nat.reduceMul, Nat.reduceLT, Nat.reduceLeDiff, Nat.reduceEqDiff, Nat.reduceBEq, Nat.reduceGT, Nat.reduceMod, Nat.reduceDiv, ↓reduceIte, reduceCtorEq, Int.reduceLE, Int.reduceLT, Int.reduceToNat, Int.reduceEq, Int.reduceNeg, Int.reduceAdd, Int.reduceSub, Int.reduceMul]; rfl) ?_
    simp -implicitDefEqProofs only [go_sem, Nat.reduceAdd, Nat.reduceSub, Nat.reduceMul, Nat.reduceLT, Nat.reduceLeDiff, Nat.reduceEqDiff, Nat.reduceBEq, Nat.reduceGT, Nat.reduceMod, Nat.reduceDiv, ↓reduceIte, reduceCtorEq, Int.reduceLE, Int.reduceLT, Int.reduceToNat, Int.reduceEq, Int.reduceNeg, Int.reduceAdd, Int.reduceSub, Int.reduceMul, res159]
    first | exact .app _ _ | exact ⟨.app _ _, rfl⟩

theorem divI (H : Heap) {v w : Value} {x y : Int} {k k' : Nat} (hv : IA v x k) (hw : IA w y k') (hk : k ≤ 400000) (hk' : k' ≤ 400000) (h0 : y ≠ 0) : Sim Tryz.prog 159 #[v, w] H (.tuple #[mkI (x.fdiv y), mkI (x.fmod y), .int .i64 0]) H := by
  obtain ⟨g, m, rfl, rfl, h⟩ := hv
  obtain ⟨g', m', rfl, rfl, h'⟩ := hw
  exact div_sim H (by omega) (by omega) (by have := ival_abs g' m'; omega)
end Go.Proofs.YthhmkaikopdmjaaGreat
