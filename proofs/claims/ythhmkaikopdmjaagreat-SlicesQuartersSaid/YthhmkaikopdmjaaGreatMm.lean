/- rotation: Then, Compare, Between, Of, Tangent, Middle; rotation: Tangent, Middle. Conditions: none. -/
import Derived.Test.YthhmkaikopdmjaaGreatMl
set_option linter.unusedSimpArgs false
set_option linter.unusedVariables false
set_option maxRecDepth 8000
namespace Go.Proofs.YthhmkaikopdmjaaGreat
open Go Go.Fw

theorem build22_1 (H : Heap) (a b c d e f : Value) : aBuildSlice tt H 22 1 [(0, .agg #[a, b, c, d, e, f])] = some (.slice (some ⟨H.length, 0, none⟩) 1 1, H ++ [⟨[a, b, c, d, e, f], 6, true⟩]) := rfl
theorem build22_2 (H : Heap) (a b c d e f a' b' c' d' e' f' : Value) : aBuildSlice tt H 22 2 [(0, .agg #[a, b, c, d, e, f]), (1, .agg #[a', b', c', d', e', f'])] = some (.slice (some ⟨H.length, 0, none⟩) 2 2, H ++ [⟨[a, b, c, d, e, f, a', b', c', d', e', f'], 6, true⟩]) := rfl
theorem build22_3 (H : Heap) (a b c d e f a' b' c' d' e' f' x1 x2 x3 x4 x5 x6 : Value) : aBuildSlice tt H 22 3 [(0, .agg #[a, b, c, d, e, f]), (1, .agg #[a', b', c', d', e', f']), (2, .agg #[x1, x2, x3, x4, x5, x6])] =
  some (.slice (some ⟨H.length, 0, none⟩) 3 3, H ++ [⟨[a, b, c, d, e, f, a', b', c', d', e', f', x1, x2, x3, x4, x5, x6], 6, true⟩]) := rfl

def zeroR : Value := rV false [] [] false [] []
theorem zeroR_eq : zeroR = mkR 0 0 := by
  have h := mkQ_zero
  unfold mkQ at h
  obtain ⟨h1, h2, h3⟩ := qV_inj.1 h
  unfold zeroR mkR
  rw [h1, h2, h3]

theorem ThenR (H : Heap) {a b : RR} {k : Nat} (ha : a.le k) (hb : b.le k) (hk : k ≤ 20000) :
    Sim Tryz.prog 19 #[a.val, b.val] H (if a.err ≠ 0 ∨ b.err ≠ 0 then .tuple #[zeroR, .int .i64 1] else .tuple #[(RR.of (a.rot.thn b.rot)).val, .int .i64 0]) H := by
  refine flat_ex (by split <;> rfl) ?_
  have w := fun {T : Heap} {b1 : Nat} r0 r1 => wrong2 ha hb hk (T := T) (bb := b1) r0 r1
  have w := fun {T : Heap} {b : Nat} r0 r1 => @w T b r0 r1
  have o1 := fun H => thenR H ha hb hk
  rw [RR.of_val] at o1 ⊢
  unfold zeroR
  unfold RR.cells at w
  unfold RR.val rV at o1 ⊢
  by_cases h : a.err ≠ 0 ∨ b.err ≠ 0
  · rw [if_pos h]
    rw [decide_eq_true h] at w
    refine sim_ex tok mixed Tryz.func19 rfl (by kernel_rfl) (by kernel_rfl) (by simp only [Tryz.ntmps19, List.size_toArray, List.length_cons, List.length_nil]; omega) ?_
    simp -implicitDefEqProofs only [go_sem, Nat.reduceAdd, Nat.reduceSub, Nat.reduceMul, Nat.reduceLT, Nat.reduceLeDiff, Nat.reduceEqDiff, Nat.reduceBEq, Nat.reduceGT, Nat.reduceMod, Nat.reduceDiv, ↓reduceIte, reduceCtorEq, Int.reduceLE, Int.reduceLT, Int.reduceToNat, Int.reduceEq, Int.reduceNeg, Int.reduceAdd, Int.reduceSub, Int.reduceMul, mkI, iV, mkQ, qV, fV, ofV, rV, mkR, build22_2]
    refine wl_callV #[.slice (some ⟨H.length + 3, 0, none⟩) 2 2] (by simp -implicitDefEqProofs only [go_sem, Nat.reduceAdd, Nat.reduceSub, Nat.reduceMul, Nat.reduceLT, Nat.reduceLeDiff, Nat.reduceEqDiff, Nat.reduceBEq, Nat.reduceGT, Nat.reduceMod, Nat.reduceDiv, ↓reduceIte, reduceCtorEq, Int.reduceLE, Int.reduceLT, Int.reduceToNat, Int.reduceEq, Int.reduceNeg, Int.reduceAdd, Int.reduceSub, Int.reduceMul, mkI, iV, mkQ, qV, fV, ofV, rV, mkR, wa_cond, axC_t, axC_f]) (w (b := H.length + 3) (by simp -implicitDefEqProofs only [go_sem, Nat.reduceAdd, Nat.reduceSub, Nat.reduceMul, Nat.reduceLT, Nat.reduceLeDiff, Nat.reduceEqDiff, Nat.reduceBEq, Nat.reduceGT, Nat.reduceMod, Nat.reduceDiv, ↓reduceIte, reduceCtorEq, Int.reduceLE, Int.reduceLT, Int.reduceToNat, Int.reduceEq, Int.reduceNeg, Int.reduceAdd, Int.reduceSub, Int.reduceMul, mkI, iV, mkQ, qV, fV, ofV, rV, mkR, wa_cond, axC_t, axC_f]) (by simp -implicitDefEqProofs only [go_sem, Nat.reduceAdd, Nat.reduceSub, Nat.reduceMul, Nat.reduceLT, Nat.reduceLeDiff, Nat.reduceEqDiff, Nat.reduceBEq, Nat.reduceGT, Nat.reduceMod, Nat.reduceDiv, ↓reduceIte, reduceCtorEq, Int.reduceLE, Int.reduceLT, Int.reduceToNat, Int.reduceEq, Int.reduceNeg, Int.reduceAdd, Int.reduceSub, Int.reduceMul, mkI, iV, mkQ, qV, fV, ofV, rV, mkR, wa_cond, axC_t, axC_f])) ?_
    simp -implicitDefEqProofs only [go_sem, Nat.reduceAdd, Nat.reduceSub, Nat.reduceMul, Nat.reduceLT, Nat.reduceLeDiff, Nat.reduceEqDiff, Nat.reduceBEq, Nat.reduceGT, Nat.reduceMod, Nat.reduceDiv, ↓reduceIte, reduceCtorEq, Int.reduceLE, Int.reduceLT, Int.reduceToNat, Int.reduceEq, Int.reduceNeg, Int.reduceAdd, Int.reduceSub, Int.reduceMul, mkI, iV, mkQ, qV, fV, ofV, rV, mkR, wa_cond, axC_t, axC_f]
    simp -implicitDefEqProofs only [go_sem, Nat.reduceAdd, Nat.reduceSub, Nat.reduceMul, Nat.reduceLT, Nat.reduceLeDiff, Nat.reduceEqDiff, Nat.reduceBEq, Nat.reduceGT, Nat.reduceMod, Nat.reduceDiv, ↓reduceIte, reduceCtorEq, Int.reduceLE, Int.reduceLT, Int.reduceToNat, Int.reduceEq, Int.reduceNeg, Int.reduceAdd, Int.reduceSub, Int.reduceMul, mkI, iV, mkQ, qV, fV, ofV, rV, mkR, res19]
    first | exact .app _ _ | exact ⟨.app _ _, rfl⟩ | exact .refl _ | exact ⟨.refl _, rfl⟩
  · rw [if_neg h]
    rw [decide_eq_false h] at w
    refine sim_ex tok mixed Tryz.func19 rfl (by kernel_rfl) (by kernel_rfl) (by simp only [Tryz.ntmps19, List.size_toArray, List.length_cons, List.length_nil]; omega) ?_
    simp -implicitDefEqProofs only [go_sem, Nat.reduceAdd, Nat.reduceSub, Nat.reduceMul, Nat.reduceLT, Nat.reduceLeDiff, Nat.reduceEqDiff, Nat.reduceBEq, Nat.reduceGT, Nat.reduceMod, Nat.reduceDiv, ↓reduceIte, reduceCtorEq, Int.reduceLE, Int.reduceLT, Int.reduceToNat, Int.reduceEq, Int.reduceNeg, Int.reduceAdd, Int.reduceSub, Int.reduceMul, mkI, iV, mkQ, qV, fV, ofV, rV, mkR, build22_2]
    refine wl_callV #[.slice (some ⟨H.length + 3, 0, none⟩) 2 2] (by simp -implicitDefEqProofs only [go_sem, Nat.reduceAdd, Nat.reduceSub, Nat.reduceMul, Nat.reduceLT, Nat.reduceLeDiff, Nat.reduceEqDiff, Nat.reduceBEq, Nat.reduceGT, Nat.reduceMod, Nat.reduceDiv, ↓reduceIte, reduceCtorEq, Int.reduceLE, Int.reduceLT, Int.reduceToNat, Int.reduceEq, Int.reduceNeg, Int.reduceAdd, Int.reduceSub, Int.reduceMul, mkI, iV, mkQ, qV, fV, ofV, rV, mkR, wa_cond, axC_t, axC_f]) (w (b := H.length + 3) (by simp -implicitDefEqProofs only [go_sem, Nat.reduceAdd, Nat.reduceSub, Nat.reduceMul, Nat.reduceLT, Nat.reduceLeDiff, Nat.reduceEqDiff, Nat.reduceBEq, Nat.reduceGT, Nat.reduceMod, Nat.reduceDiv, ↓reduceIte, reduceCtorEq, Int.reduceLE, Int.reduceLT, Int.reduceToNat, Int.reduceEq, Int.reduceNeg, Int.reduceAdd, Int.reduceSub, Int.reduceMul, mkI, iV, mkQ, qV, fV, ofV, rV, mkR, wa_cond, axC_t, axC_f]) (by simp -implicitDefEqProofs only [go_sem, Nat.reduceAdd, Nat.reduceSub, Nat.reduceMul, Nat.reduceLT, Nat.reduceLeDiff, Nat.reduceEqDiff, Nat.reduceBEq, Nat.reduceGT, Nat.reduceMod, Nat.reduceDiv, ↓reduceIte, reduceCtorEq, Int.reduceLE, Int.reduceLT, Int.reduceToNat, Int.reduceEq, Int.reduceNeg, Int.reduceAdd, Int.reduceSub, Int.reduceMul, mkI, iV, mkQ, qV, fV, ofV, rV, mkR, wa_cond, axC_t, axC_f])) ?_
    simp -implicitDefEqProofs only [go_sem, Nat.reduceAdd, Nat.reduceSub, Nat.reduceMul, Nat.reduceLT, Nat.reduceLeDiff, Nat.reduceEqDiff, Nat.reduceBEq, Nat.reduceGT, Nat.reduceMod, Nat.reduceDiv, ↓reduceIte, reduceCtorEq, Int.reduceLE, Int.reduceLT, Int.reduceToNat, Int.reduceEq, Int.reduceNeg, Int.reduceAdd, Int.reduceSub, Int.reduceMul, mkI, iV, mkQ, qV, fV, ofV, rV, mkR, wa_cond, axC_t, axC_f]
    refine wl_callV _ (by simp -implicitDefEqProofs only [go_sem, Nat.reduceAdd, Nat.reduceSub, Nat.reduceMul, Nat.reduceLT, Nat.reduceLeDiff, Nat.reduceEqDiff, Nat.reduceBEq, Nat.reduceGT, Nat.reduceMod, Nat.reduceDiv, ↓reduceIte, reduceCtorEq, Int.reduceLE, Int.reduceLT, Int.reduceToNat, Int.reduceEq, Int.reduceNeg, Int.reduceAdd, Int.reduceSub, Int.reduceMul, mkI, iV, mkQ, qV, fV, ofV, rV, mkR]) (o1 _) ?_
    simp -implicitDefEqProofs only [go_sem, Nat.reduceAdd, Nat.reduceSub, Nat.reduceMul, Nat.reduceLT, Nat.reduceLeDiff, Nat.reduceEqDiff, Nat.reduceBEq, Nat.reduceGT, Nat.reduceMod, Nat.reduceDiv, ↓reduceIte, reduceCtorEq, Int.reduceLE, Int.reduceLT, Int.reduceToNat, Int.reduceEq, Int.reduceNeg, Int.reduceAdd, Int.reduceSub, Int.reduceMul, mkI, iV, mkQ, qV, fV, ofV, rV, mkR]
    simp -implicitDefEqProofs only [go_sem, Nat.reduceAdd, Nat.reduceSub, Nat.reduceMul, Nat.reduceLT, Nat.reduceLeDiff, Nat.reduceEqDiff, Nat.reduceBEq, Nat.reduceGT, Nat.reduceMod, Nat.reduceDiv, ↓reduceIte, reduceCtorEq, Int.reduceLE, Int.reduceLT, Int.reduceToNat, Int.reduceEq, Int.reduceNeg, Int.reduceAdd, Int.reduceSub, Int.reduceMul, mkI, iV, mkQ, qV, fV, ofV, rV, mkR, res19]
    first | exact .app _ _ | exact ⟨.app _ _, rfl⟩ | exact .refl _ | exact ⟨.refl _, rfl⟩
theorem CompareR (H : Heap) {a b : RR} {k : Nat} (ha : a.le k) (hb : b.le k) (hk : k ≤ 19000) :
    Sim Tryz.prog 109 #[a.val, b.val] H (if a.err ≠ 0 ∨ b.err ≠ 0 then .tuple #[.int .i64 0, .int .i64 1] else .tuple #[.int .i64 (a.rot.cmp b.rot), .int .i64 0]) H := by
  refine flat_ex (by split <;> rfl) ?_
  have w := fun {T : Heap} {b1 : Nat} r0 r1 => wrong2 ha hb (by omega) (T := T) (bb := b1) r0 r1
  have w := fun {T : Heap} {b : Nat} r0 r1 => @w T b r0 r1
  have o1 := fun H => compareR H ha hb hk
  generalize a.rot.cmp b.rot = z at *
  unfold RR.cells at w
  unfold RR.val rV at o1 ⊢
  by_cases h : a.err ≠ 0 ∨ b.err ≠ 0
  · rw [if_pos h]
    rw [decide_eq_true h] at w
    refine sim_ex tok mixed Tryz.func109 rfl (by kernel_rfl) (by kernel_rfl) (by simp only [Tryz.ntmps109, List.size_toArray, List.length_cons, List.length_nil]; omega) ?_
    simp -implicitDefEqProofs only [go_sem, Nat.reduceAdd, Nat.reduceSub, Nat.reduceMul, Nat.reduceLT, Nat.reduceLeDiff, Nat.reduceEqDiff, Nat.reduceBEq, Nat.reduceGT, Nat.reduceMod, Nat.reduceDiv, ↓reduceIte, reduceCtorEq, Int.reduceLE, Int.reduceLT, Int.reduceToNat, Int.reduceEq, Int.reduceNeg, Int.reduceAdd, Int.reduceSub, Int.reduceMul, mkI, iV, mkQ, qV, fV, ofV, rV, mkR, build22_2]
    refine wl_callV #[.slice (some ⟨H.length + 2, 0, none⟩) 2 2] (by simp -implicitDefEqProofs only [go_sem, Nat.reduceAdd, Nat.reduceSub, Nat.reduceMul, Nat.reduceLT, Nat.reduceLeDiff, Nat.reduceEqDiff, Nat.reduceBEq, Nat.reduceGT, Nat.reduceMod, Nat.reduceDiv, ↓reduceIte, reduceCtorEq, Int.reduceLE, Int.reduceLT, Int.reduceToNat, Int.reduceEq, Int.reduceNeg, Int.reduceAdd, Int.reduceSub, Int.reduceMul, mkI, iV, mkQ, qV, fV, ofV, rV, mkR, wa_cond, axC_t, axC_f]) (w (b := H.length + 2) (by simp -implicitDefEqProofs only [go_sem, Nat.reduceAdd, Nat.reduceSub, Nat.reduceMul, Nat.reduceLT, Nat.reduceLeDiff, Nat.reduceEqDiff, Nat.reduceBEq, Nat.reduceGT, Nat.reduceMod, Nat.reduceDiv, ↓reduceIte, reduceCtorEq, Int.reduceLE, Int.reduceLT, Int.reduceToNat, Int.reduceEq, Int.reduceNeg, Int.reduceAdd, Int.reduceSub, Int.reduceMul, mkI, iV, mkQ, qV, fV, ofV, rV, mkR, wa_cond, axC_t, axC_f]) (by simp -implicitDefEqProofs only [go_sem, Nat.reduceAdd, Nat.reduceSub, Nat.reduceMul, Nat.reduceLT, Nat.reduceLeDiff, Nat.reduceEqDiff, Nat.reduceBEq, Nat.reduceGT, Nat.reduceMod, Nat.reduceDiv, ↓reduceIte, reduceCtorEq, Int.reduceLE, Int.reduceLT, Int.reduceToNat, Int.reduceEq, Int.reduceNeg, Int.reduceAdd, Int.reduceSub, Int.reduceMul, mkI, iV, mkQ, qV, fV, ofV, rV, mkR, wa_cond, axC_t, axC_f])) ?_
    simp -implicitDefEqProofs only [go_sem, Nat.reduceAdd, Nat.reduceSub, Nat.reduceMul, Nat.reduceLT, Nat.reduceLeDiff, Nat.reduceEqDiff, Nat.reduceBEq, Nat.reduceGT, Nat.reduceMod, Nat.reduceDiv, ↓reduceIte, reduceCtorEq, Int.reduceLE, Int.reduceLT, Int.reduceToNat, Int.reduceEq, Int.reduceNeg, Int.reduceAdd, Int.reduceSub, Int.reduceMul, mkI, iV, mkQ, qV, fV, ofV, rV, mkR, wa_cond, axC_t, axC_f]
    simp -implicitDefEqProofs only [go_sem, Nat.reduceAdd, Nat.reduceSub, Nat.reduceMul, Nat.reduceLT, Nat.reduceLeDiff, Nat.reduceEqDiff, Nat.reduceBEq, Nat.reduceGT, Nat.reduceMod, Nat.reduceDiv, ↓reduceIte, reduceCtorEq, Int.reduceLE, Int.reduceLT, Int.reduceToNat, Int.reduceEq, Int.reduceNeg, Int.reduceAdd, Int.reduceSub, Int.reduceMul, mkI, iV, mkQ, qV, fV, ofV, rV, mkR, res109]
    first | exact .app _ _ | exact ⟨.app _ _, rfl⟩ | exact .refl _ | exact ⟨.refl _, rfl⟩
  · rw [if_neg h]
    rw [decide_eq_false h] at w
    refine sim_ex tok mixed Tryz.func109 rfl (by kernel_rfl) (by kernel_rfl) (by simp only [Tryz.ntmps109, List.size_toArray, List.length_cons, List.length_nil]; omega) ?_
    simp -implicitDefEqProofs only [go_sem, Nat.reduceAdd, Nat.reduceSub, Nat.reduceMul, Nat.reduceLT, Nat.reduceLeDiff, Nat.reduceEqDiff, Nat.reduceBEq, Nat.reduceGT, Nat.reduceMod, Nat.reduceDiv, ↓reduceIte, reduceCtorEq, Int.reduceLE, Int.reduceLT, Int.reduceToNat, Int.reduceEq, Int.reduceNeg, Int.reduceAdd, Int.reduceSub, Int.reduceMul, mkI, iV, mkQ, qV, fV, ofV, rV, mkR, build22_2]
    refine wl_callV #[.slice (some ⟨H.length + 2, 0, none⟩) 2 2] (by simp -implicitDefEqProofs only [go_sem, Nat.reduceAdd, Nat.reduceSub, Nat.reduceMul, Nat.reduceLT, Nat.reduceLeDiff, Nat.reduceEqDiff, Nat.reduceBEq, Nat.reduceGT, Nat.reduceMod, Nat.reduceDiv, ↓reduceIte, reduceCtorEq, Int.reduceLE, Int.reduceLT, Int.reduceToNat, Int.reduceEq, Int.reduceNeg, Int.reduceAdd, Int.reduceSub, Int.reduceMul, mkI, iV, mkQ, qV, fV, ofV, rV, mkR, wa_cond, axC_t, axC_f]) (w (b := H.length + 2) (by simp -implicitDefEqProofs only [go_sem, Nat.reduceAdd, Nat.reduceSub, Nat.reduceMul, Nat.reduceLT, Nat.reduceLeDiff, Nat.reduceEqDiff, Nat.reduceBEq, Nat.reduceGT, Nat.reduceMod, Nat.reduceDiv, ↓reduceIte, reduceCtorEq, Int.reduceLE, Int.reduceLT, Int.reduceToNat, Int.reduceEq, Int.reduceNeg, Int.reduceAdd, Int.reduceSub, Int.reduceMul, mkI, iV, mkQ, qV, fV, ofV, rV, mkR, wa_cond, axC_t, axC_f]) (by simp -implicitDefEqProofs only [go_sem, Nat.reduceAdd, Nat.reduceSub, Nat.reduceMul, Nat.reduceLT, Nat.reduceLeDiff, Nat.reduceEqDiff, Nat.reduceBEq, Nat.reduceGT, Nat.reduceMod, Nat.reduceDiv, ↓reduceIte, reduceCtorEq, Int.reduceLE, Int.reduceLT, Int.reduceToNat, Int.reduceEq, Int.reduceNeg, Int.reduceAdd, Int.reduceSub, Int.reduceMul, mkI, iV, mkQ, qV, fV, ofV, rV, mkR, wa_cond, axC_t, axC_f])) ?_
    simp -implicitDefEqProofs only [go_sem, Nat.reduceAdd, Nat.reduceSub, Nat.reduceMul, Nat.reduceLT, Nat.reduceLeDiff, Nat.reduceEqDiff, Nat.reduceBEq, Nat.reduceGT, Nat.reduceMod, Nat.reduceDiv, ↓reduceIte, reduceCtorEq, Int.reduceLE, Int.reduceLT, Int.reduceToNat, Int.reduceEq, Int.reduceNeg, Int.reduceAdd, Int.reduceSub, Int.reduceMul, mkI, iV, mkQ, qV, fV, ofV, rV, mkR, wa_cond, axC_t, axC_f]
    refine wl_callV _ (by simp -implicitDefEqProofs only [go_sem, Nat.reduceAdd, Nat.reduceSub, Nat.reduceMul, Nat.reduceLT, Nat.reduceLeDiff, Nat.reduceEqDiff, Nat.reduceBEq, Nat.reduceGT, Nat.reduceMod, Nat.reduceDiv, ↓reduceIte, reduceCtorEq, Int.reduceLE, Int.reduceLT, Int.reduceToNat, Int.reduceEq, Int.reduceNeg, Int.reduceAdd, Int.reduceSub, Int.reduceMul, mkI, iV, mkQ, qV, fV, ofV, rV, mkR]) (o1 _) ?_
    simp -implicitDefEqProofs only [go_sem, Nat.reduceAdd, Nat.reduceSub, Nat.reduceMul, Nat.reduceLT, Nat.reduceLeDiff, Nat.reduceEqDiff, Nat.reduceBEq, Nat.reduceGT, Nat.reduceMod, Nat.reduceDiv, ↓reduceIte, reduceCtorEq, Int.reduceLE, Int.reduceLT, Int.reduceToNat, Int.reduceEq, Int.reduceNeg, Int.reduceAdd, Int.reduceSub, Int.reduceMul, mkI, iV, mkQ, qV, fV, ofV, rV, mkR]
    simp -implicitDefEqProofs only [go_sem, Nat.reduceAdd, Nat.reduceSub, Nat.reduceMul, Nat.reduceLT, Nat.reduceLeDiff, Nat.reduceEqDiff, Nat.reduceBEq, Nat.reduceGT, Nat.reduceMod, Nat.reduceDiv, ↓reduceIte, reduceCtorEq, Int.reduceLE, Int.reduceLT, Int.reduceToNat, Int.reduceEq, Int.reduceNeg, Int.reduceAdd, Int.reduceSub, Int.reduceMul, mkI, iV, mkQ, qV, fV, ofV, rV, mkR, res109]
    first | exact .app _ _ | exact ⟨.app _ _, rfl⟩ | exact .refl _ | exact ⟨.refl _, rfl⟩
theorem BetweenR (H : Heap) {a x b : RR} {k : Nat} (ha : a.le k) (hx : x.le k) (hb : b.le k) (hk : k ≤ 4000) :
    Sim Tryz.prog 25 #[a.val, x.val, b.val] H (if a.err ≠ 0 ∨ x.err ≠ 0 ∨ b.err ≠ 0 then .tuple #[.bool false, .int .i64 1] else .tuple #[.bool (decide ((a.rot.back.thn x.rot).cmp (a.rot.back.thn b.rot) ≤ 0)), .int .i64 0]) H := by
  refine flat_ex (by split <;> rfl) ?_
  have w := fun {T : Heap} {b1 : Nat} r0 r1 r2 => wrong3 ha hx hb (by omega) (T := T) (bb := b1) r0 r1 r2
  have w := fun {T : Heap} {b : Nat} r0 r1 r2 => @w T b r0 r1 r2
  have o1 := fun H => backR H ha (by omega)
  have o2 := fun H => thenR H ha.bk (hx.mono (show k ≤ k + 8 by omega)) (by omega)
  have o3 := fun H => thenR H ha.bk (hb.mono (show k ≤ k + 8 by omega)) (by omega)
  have z1 := (ha.bk.sz.thn hx.sz).le
  have z2 := (ha.bk.sz.thn hb.sz).le
  have o4 := fun H => compareR H z1 z2 (by omega)
  rw [RR.of_rot, RR.of_rot, RR.of_val, RR.of_val] at o4
  rw [RR.bk_rot] at o2 o3 o4
  rw [RR.of_val] at o2 o3
  clear z1 z2
  generalize (a.rot.back.thn x.rot).cmp (a.rot.back.thn b.rot) = z at *
  generalize (a.rot.back.thn x.rot).c = c1 at *
  generalize (a.rot.back.thn x.rot).s = s1 at *
  generalize (a.rot.back.thn b.rot).c = c2 at *
  generalize (a.rot.back.thn b.rot).s = s2 at *
  unfold RR.cells at w
  unfold RR.bk at o2 o3
  unfold RR.val rV at o1 o2 o3 ⊢
  by_cases h : a.err ≠ 0 ∨ x.err ≠ 0 ∨ b.err ≠ 0
  · rw [if_pos h]
    rw [decide_eq_true h] at w
    refine sim_ex tok mixed Tryz.func25 rfl (by kernel_rfl) (by kernel_rfl) (by simp only [Tryz.ntmps25, List.size_toArray, List.length_cons, List.length_nil]; omega) ?_
    simp -implicitDefEqProofs only [go_sem, Nat.reduceAdd, Nat.reduceSub, Nat.reduceMul, Nat.reduceLT, Nat.reduceLeDiff, Nat.reduceEqDiff, Nat.reduceBEq, Nat.reduceGT, Nat.reduceMod, Nat.reduceDiv, ↓reduceIte, reduceCtorEq, Int.reduceLE, Int.reduceLT, Int.reduceToNat, Int.reduceEq, Int.reduceNeg, Int.reduceAdd, Int.reduceSub, Int.reduceMul, mkI, iV, mkQ, qV, fV, ofV, rV, mkR, build22_3]
    refine wl_callV #[.slice (some ⟨H.length + 3, 0, none⟩) 3 3] (by simp -implicitDefEqProofs only [go_sem, Nat.reduceAdd, Nat.reduceSub, Nat.reduceMul, Nat.reduceLT, Nat.reduceLeDiff, Nat.reduceEqDiff, Nat.reduceBEq, Nat.reduceGT, Nat.reduceMod, Nat.reduceDiv, ↓reduceIte, reduceCtorEq, Int.reduceLE, Int.reduceLT, Int.reduceToNat, Int.reduceEq, Int.reduceNeg, Int.reduceAdd, Int.reduceSub, Int.reduceMul, mkI, iV, mkQ, qV, fV, ofV, rV, mkR, wa_cond, axC_t, axC_f]) (w (b := H.length + 3) (by simp -implicitDefEqProofs only [go_sem, Nat.reduceAdd, Nat.reduceSub, Nat.reduceMul, Nat.reduceLT, Nat.reduceLeDiff, Nat.reduceEqDiff, Nat.reduceBEq, Nat.reduceGT, Nat.reduceMod, Nat.reduceDiv, ↓reduceIte, reduceCtorEq, Int.reduceLE, Int.reduceLT, Int.reduceToNat, Int.reduceEq, Int.reduceNeg, Int.reduceAdd, Int.reduceSub, Int.reduceMul, mkI, iV, mkQ, qV, fV, ofV, rV, mkR, wa_cond, axC_t, axC_f]) (by simp -implicitDefEqProofs only [go_sem, Nat.reduceAdd, Nat.reduceSub, Nat.reduceMul, Nat.reduceLT, Nat.reduceLeDiff, Nat.reduceEqDiff, Nat.reduceBEq, Nat.reduceGT, Nat.reduceMod, Nat.reduceDiv, ↓reduceIte, reduceCtorEq, Int.reduceLE, Int.reduceLT, Int.reduceToNat, Int.reduceEq, Int.reduceNeg, Int.reduceAdd, Int.reduceSub, Int.reduceMul, mkI, iV, mkQ, qV, fV, ofV, rV, mkR, wa_cond, axC_t, axC_f]) (by simp -implicitDefEqProofs only [go_sem, Nat.reduceAdd, Nat.reduceSub, Nat.reduceMul, Nat.reduceLT, Nat.reduceLeDiff, Nat.reduceEqDiff, Nat.reduceBEq, Nat.reduceGT, Nat.reduceMod, Nat.reduceDiv, ↓reduceIte, reduceCtorEq, Int.reduceLE, Int.reduceLT, Int.reduceToNat, Int.reduceEq, Int.reduceNeg, Int.reduceAdd, Int.reduceSub, Int.reduceMul, mkI, iV, mkQ, qV, fV, ofV, rV, mkR, wa_cond, axC_t, axC_f])) ?_
    simp -implicitDefEqProofs only [go_sem, Nat.reduceAdd, Nat.reduceSub, Nat.reduceMul, Nat.reduceLT, Nat.reduceLeDiff, Nat.reduceEqDiff, Nat.reduceBEq, Nat.reduceGT, Nat.reduceMod, Nat.reduceDiv, ↓reduceIte, reduceCtorEq, Int.reduceLE, Int.reduceLT, Int.reduceToNat, Int.reduceEq, Int.reduceNeg, Int.reduceAdd, Int.reduceSub, Int.reduceMul, mkI, iV, mkQ, qV, fV, ofV, rV, mkR, wa_cond, axC_t, axC_f]
    simp -implicitDefEqProofs only [go_sem, Nat.reduceAdd, Nat.reduceSub, Nat.reduceMul, Nat.reduceLT, Nat.reduceLeDiff, Nat.reduceEqDiff, Nat.reduceBEq, Nat.reduceGT, Nat.reduceMod, Nat.reduceDiv, ↓reduceIte, reduceCtorEq, Int.reduceLE, Int.reduceLT, Int.reduceToNat, Int.reduceEq, Int.reduceNeg, Int.reduceAdd, Int.reduceSub, Int.reduceMul, mkI, iV, mkQ, qV, fV, ofV, rV, mkR, res25]
    first | exact .app _ _ | exact ⟨.app _ _, rfl⟩ | exact .refl _ | exact ⟨.refl _, rfl⟩
  · rw [if_neg h]
    rw [decide_eq_false h] at w
    refine sim_ex tok mixed Tryz.func25 rfl (by kernel_rfl) (by kernel_rfl) (by simp only [Tryz.ntmps25, List.size_toArray, List.length_cons, List.length_nil]; omega) ?_
    simp -implicitDefEqProofs only [go_sem, Nat.reduceAdd, Nat.reduceSub, Nat.reduceMul, Nat.reduceLT, Nat.reduceLeDiff, Nat.reduceEqDiff, Nat.reduceBEq, Nat.reduceGT, Nat.reduceMod, Nat.reduceDiv, ↓reduceIte, reduceCtorEq, Int.reduceLE, Int.reduceLT, Int.reduceToNat, Int.reduceEq, Int.reduceNeg, Int.reduceAdd, Int.reduceSub, Int.reduceMul, mkI, iV, mkQ, qV, fV, ofV, rV, mkR, build22_3]
    refine wl_callV #[.slice (some ⟨H.length + 3, 0, none⟩) 3 3] (by simp -implicitDefEqProofs only [go_sem, Nat.reduceAdd, Nat.reduceSub, Nat.reduceMul, Nat.reduceLT, Nat.reduceLeDiff, Nat.reduceEqDiff, Nat.reduceBEq, Nat.reduceGT, Nat.reduceMod, Nat.reduceDiv, ↓reduceIte, reduceCtorEq, Int.reduceLE, Int.reduceLT, Int.reduceToNat, Int.reduceEq, Int.reduceNeg, Int.reduceAdd, Int.reduceSub, Int.reduceMul, mkI, iV, mkQ, qV, fV, ofV, rV, mkR, wa_cond, axC_t, axC_f]) (w (b := H.length + 3) (by simp -implicitDefEqProofs only [go_sem, Nat.reduceAdd, Nat.reduceSub, Nat.reduceMul, Nat.reduceLT, Nat.reduceLeDiff, Nat.reduceEqDiff, Nat.reduceBEq, Nat.reduceGT, Nat.reduceMod, Nat.reduceDiv, ↓reduceIte, reduceCtorEq, Int.reduceLE, Int.reduceLT, Int.reduceToNat, Int.reduceEq, Int.reduceNeg, Int.reduceAdd, Int.reduceSub, Int.reduceMul, mkI, iV, mkQ, qV, fV, ofV, rV, mkR, wa_cond, axC_t, axC_f]) (by simp -implicitDefEqProofs only [go_sem, Nat.reduceAdd, Nat.reduceSub, Nat.reduceMul, Nat.reduceLT, Nat.reduceLeDiff, Nat.reduceEqDiff, Nat.reduceBEq, Nat.reduceGT, Nat.reduceMod, Nat.reduceDiv, ↓reduceIte, reduceCtorEq, Int.reduceLE, Int.reduceLT, Int.reduceToNat, Int.reduceEq, Int.reduceNeg, Int.reduceAdd, Int.reduceSub, Int.reduceMul, mkI, iV, mkQ, qV, fV, ofV, rV, mkR, wa_cond, axC_t, axC_f]) (by simp -implicitDefEqProofs only [go_sem, Nat.reduceAdd, Nat.reduceSub, Nat.reduceMul, Nat.reduceLT, Nat.reduceLeDiff, Nat.reduceEqDiff, Nat.reduceBEq, Nat.reduceGT, Nat.reduceMod, Nat.reduceDiv, ↓reduceIte, reduceCtorEq, Int.reduceLE, Int.reduceLT, Int.reduceToNat, Int.reduceEq, Int.reduceNeg, Int.reduceAdd, Int.reduceSub, Int.reduceMul, mkI, iV, mkQ, qV, fV, ofV, rV, mkR, wa_cond, axC_t, axC_f])) ?_
    simp -implicitDefEqProofs only [go_sem, Nat.reduceAdd, Nat.reduceSub, Nat.reduceMul, Nat.reduceLT, Nat.reduceLeDiff, Nat.reduceEqDiff, Nat.reduceBEq, Nat.reduceGT, Nat.reduceMod, Nat.reduceDiv, ↓reduceIte, reduceCtorEq, Int.reduceLE, Int.reduceLT, Int.reduceToNat, Int.reduceEq, Int.reduceNeg, Int.reduceAdd, Int.reduceSub, Int.reduceMul, mkI, iV, mkQ, qV, fV, ofV, rV, mkR, wa_cond, axC_t, axC_f]
    refine ax_quiet (by kernel_rfl) ?_
    simp -implicitDefEqProofs only [go_sem, Nat.reduceAdd, Nat.reduceSub, Nat.reduceMul, Nat.reduceLT, Nat.reduceLeDiff, Nat.reduceEqDiff, Nat.reduceBEq, Nat.reduceGT, Nat.reduceMod, Nat.reduceDiv, ↓reduceIte, reduceCtorEq, Int.reduceLE, Int.reduceLT, Int.reduceToNat, Int.reduceEq, Int.reduceNeg, Int.reduceAdd, Int.reduceSub, Int.reduceMul, mkI, iV, mkQ, qV, fV, ofV, rV, mkR]
    refine wl_callV _ (by simp -implicitDefEqProofs only [go_sem, Nat.reduceAdd, Nat.reduceSub, Nat.reduceMul, Nat.reduceLT, Nat.reduceLeDiff, Nat.reduceEqDiff, Nat.reduceBEq, Nat.reduceGT, Nat.reduceMod, Nat.reduceDiv, ↓reduceIte, reduceCtorEq, Int.reduceLE, Int.reduceLT, Int.reduceToNat, Int.reduceEq, Int.reduceNeg, Int.reduceAdd, Int.reduceSub, Int.reduceMul, mkI, iV, mkQ, qV, fV, ofV, rV, mkR]) (o1 _) ?_
    simp -implicitDefEqProofs only [go_sem, Nat.reduceAdd, Nat.reduceSub, Nat.reduceMul, Nat.reduceLT, Nat.reduceLeDiff, Nat.reduceEqDiff, Nat.reduceBEq, Nat.reduceGT, Nat.reduceMod, Nat.reduceDiv, ↓reduceIte, reduceCtorEq, Int.reduceLE, Int.reduceLT, Int.reduceToNat, Int.reduceEq, Int.reduceNeg, Int.reduceAdd, Int.reduceSub, Int.reduceMul, mkI, iV, mkQ, qV, fV, ofV, rV, mkR]
    refine wl_callV _ (by simp -implicitDefEqProofs only [go_sem, Nat.reduceAdd, Nat.reduceSub, Nat.reduceMul, Nat.reduceLT, Nat.reduceLeDiff, Nat.reduceEqDiff, Nat.reduceBEq, Nat.reduceGT, Nat.reduceMod, Nat.reduceDiv, ↓reduceIte, reduceCtorEq, Int.reduceLE, Int.reduceLT, Int.reduceToNat, Int.reduceEq, Int.reduceNeg, Int.reduceAdd, Int.reduceSub, Int.reduceMul, mkI, iV, mkQ, qV, fV, ofV, rV, mkR]) (o2 _) ?_
    simp -implicitDefEqProofs only [go_sem, Nat.reduceAdd, Nat.reduceSub, Nat.reduceMul, Nat.reduceLT, Nat.reduceLeDiff, Nat.reduceEqDiff, Nat.reduceBEq, Nat.reduceGT, Nat.reduceMod, Nat.reduceDiv, ↓reduceIte, reduceCtorEq, Int.reduceLE, Int.reduceLT, Int.reduceToNat, Int.reduceEq, Int.reduceNeg, Int.reduceAdd, Int.reduceSub, Int.reduceMul, mkI, iV, mkQ, qV, fV, ofV, rV, mkR]
    refine wl_callV _ (by simp -implicitDefEqProofs only [go_sem, Nat.reduceAdd, Nat.reduceSub, Nat.reduceMul, Nat.reduceLT, Nat.reduceLeDiff, Nat.reduceEqDiff, Nat.reduceBEq, Nat.reduceGT, Nat.reduceMod, Nat.reduceDiv, ↓reduceIte, reduceCtorEq, Int.reduceLE, Int.reduceLT, Int.reduceToNat, Int.reduceEq, Int.reduceNeg, Int.reduceAdd, Int.reduceSub, Int.reduceMul, mkI, iV, mkQ, qV, fV, ofV, rV, mkR]) (o1 _) ?_
    simp -implicitDefEqProofs only [go_sem, Nat.reduceAdd, Nat.reduceSub, Nat.reduceMul, Nat.reduceLT, Nat.reduceLeDiff, Nat.reduceEqDiff, Nat.reduceBEq, Nat.reduceGT, Nat.reduceMod, Nat.reduceDiv, ↓reduceIte, reduceCtorEq, Int.reduceLE, Int.reduceLT, Int.reduceToNat, Int.reduceEq, Int.reduceNeg, Int.reduceAdd, Int.reduceSub, Int.reduceMul, mkI, iV, mkQ, qV, fV, ofV, rV, mkR]
    refine wl_callV _ (by simp -implicitDefEqProofs only [go_sem, Nat.reduceAdd, Nat.reduceSub, Nat.reduceMul, Nat.reduceLT, Nat.reduceLeDiff, Nat.reduceEqDiff, Nat.reduceBEq, Nat.reduceGT, Nat.reduceMod, Nat.reduceDiv, ↓reduceIte, reduceCtorEq, Int.reduceLE, Int.reduceLT, Int.reduceToNat, Int.reduceEq, Int.reduceNeg, Int.reduceAdd, Int.reduceSub, Int.reduceMul, mkI, iV, mkQ, qV, fV, ofV, rV, mkR]) (o3 _) ?_
    simp -implicitDefEqProofs only [go_sem, Nat.reduceAdd, Nat.reduceSub, Nat.reduceMul, Nat.reduceLT, Nat.reduceLeDiff, Nat.reduceEqDiff, Nat.reduceBEq, Nat.reduceGT, Nat.reduceMod, Nat.reduceDiv, ↓reduceIte, reduceCtorEq, Int.reduceLE, Int.reduceLT, Int.reduceToNat, Int.reduceEq, Int.reduceNeg, Int.reduceAdd, Int.reduceSub, Int.reduceMul, mkI, iV, mkQ, qV, fV, ofV, rV, mkR]
    refine wl_callV _ (by simp -implicitDefEqProofs only [go_sem, Nat.reduceAdd, Nat.reduceSub, Nat.reduceMul, Nat.reduceLT, Nat.reduceLeDiff, Nat.reduceEqDiff, Nat.reduceBEq, Nat.reduceGT, Nat.reduceMod, Nat.reduceDiv, ↓reduceIte, reduceCtorEq, Int.reduceLE, Int.reduceLT, Int.reduceToNat, Int.reduceEq, Int.reduceNeg, Int.reduceAdd, Int.reduceSub, Int.reduceMul, mkI, iV, mkQ, qV, fV, ofV, rV, mkR]) (o4 _) ?_
    simp -implicitDefEqProofs only [go_sem, Nat.reduceAdd, Nat.reduceSub, Nat.reduceMul, Nat.reduceLT, Nat.reduceLeDiff, Nat.reduceEqDiff, Nat.reduceBEq, Nat.reduceGT, Nat.reduceMod, Nat.reduceDiv, ↓reduceIte, reduceCtorEq, Int.reduceLE, Int.reduceLT, Int.reduceToNat, Int.reduceEq, Int.reduceNeg, Int.reduceAdd, Int.reduceSub, Int.reduceMul, mkI, iV, mkQ, qV, fV, ofV, rV, mkR]
    simp -implicitDefEqProofs only [go_sem, Nat.reduceAdd, Nat.reduceSub, Nat.reduceMul, Nat.reduceLT, Nat.reduceLeDiff, Nat.reduceEqDiff, Nat.reduceBEq, Nat.reduceGT, Nat.reduceMod, Nat.reduceDiv, ↓reduceIte, reduceCtorEq, Int.reduceLE, Int.reduceLT, Int.reduceToNat, Int.reduceEq, Int.reduceNeg, Int.reduceAdd, Int.reduceSub, Int.reduceMul, mkI, iV, mkQ, qV, fV, ofV, rV, mkR, res25]
    first | exact .app _ _ | exact ⟨.app _ _, rfl⟩ | exact .refl _ | exact ⟨.refl _, rfl⟩
theorem OfR (H : Heap) {v : Value} {t : Rat} {k : Nat} (hv : QV v t k) (hk : k ≤ 20000) : Sim Tryz.prog 46 #[v] H (RR.of (Rot.ofT t)).val H := by
  refine flat_ex rfl ?_
  have o1 := fun H => ofN_sim H (n := 1) (by decide) (by decide)
  rw [show ((1 : Int) : Rat) = 1 from rfl] at o1
  have o2 := fun H => mulQ H hv hv (by omega) (by omega)
  have z1 := (sz_one (k := 2) (by decide)).qv.mono (show 2 + 7 ≤ 2 * k + 9 by omega)
  have z2 := (hv.sz.mul hv.sz).qv.mono (show k + 1 + (k + 1) + 7 ≤ 2 * k + 9 by omega)
  have s1 := fun {T : Heap} {b : Nat} r0 r1 => sum2 (H := T) (b := b) (c := 2) r0 r1 z1 z2 (by omega)
  have o3 := fun H => subQ H z1 z2 (by omega) (by omega)
  have z3 := ((sz_one (k := 2) (by decide)).add (hv.sz.mul hv.sz)).qv
  have z4 := ((sz_one (k := 2) (by decide)).sub (hv.sz.mul hv.sz)).qv
  have o4 := fun H => overQ H z4 z3 (by omega) (by omega)
  have z5 := (hv.sz.add hv.sz).qv
  have o5 := fun H => overQ H z5 z3 (by omega) (by omega)
  obtain ⟨g, n, d, rfl, ht, h1, h2⟩ := hv
  have hv2 : QV (qV g n d) t k := ⟨_, _, _, rfl, ht, h1, h2⟩
  have s2 := fun {T : Heap} {b : Nat} r0 r1 => sum2 (H := T) (b := b) (c := 2) r0 r1 hv2 hv2 (by omega)
  rw [RR.of_val]
  unfold Rot.ofT
  clear z1 z2 z3 z4 z5 ht
  simp only
  generalize (1 - t * t) / (1 + t * t) = x at *
  generalize (t + t) / (1 + t * t) = y at *
  generalize 1 + t * t = al at *
  generalize 1 - t * t = mi at *
  generalize t + t = tw at *
  generalize t * t = sq at *
  unfold qV at o2 ⊢
  refine sim_ex tok mixed Tryz.func46 rfl (by kernel_rfl) (by kernel_rfl) (by simp only [Tryz.ntmps46, List.size_toArray, List.length_cons, List.length_nil]; omega) ?_
  simp -implicitDefEqProofs only [go_sem, Nat.reduceAdd, Nat.reduceSub, Nat.reduceMul, Nat.reduceLT, Nat.reduceLeDiff, Nat.reduceEqDiff, Nat.reduceBEq, Nat.reduceGT, Nat.reduceMod, Nat.reduceDiv, ↓reduceIte, reduceCtorEq, Int.reduceLE, Int.reduceLT, Int.reduceToNat, Int.reduceEq, Int.reduceNeg, Int.reduceAdd, Int.reduceSub, Int.reduceMul, mkI, iV, mkQ, qV, fV, ofV, rV, mkR]
  refine ax_quiet (by kernel_rfl) ?_
  simp -implicitDefEqProofs only [go_sem, Nat.reduceAdd, Nat.reduceSub, Nat.reduceMul, Nat.reduceLT, Nat.reduceLeDiff, Nat.reduceEqDiff, Nat.reduceBEq, Nat.reduceGT, Nat.reduceMod, Nat.reduceDiv, ↓reduceIte, reduceCtorEq, Int.reduceLE, Int.reduceLT, Int.reduceToNat, Int.reduceEq, Int.reduceNeg, Int.reduceAdd, Int.reduceSub, Int.reduceMul, mkI, iV, mkQ, qV, fV, ofV, rV, mkR]
  refine wl_callV _ (by simp -implicitDefEqProofs only [go_sem, Nat.reduceAdd, Nat.reduceSub, Nat.reduceMul, Nat.reduceLT, Nat.reduceLeDiff, Nat.reduceEqDiff, Nat.reduceBEq, Nat.reduceGT, Nat.reduceMod, Nat.reduceDiv, ↓reduceIte, reduceCtorEq, Int.reduceLE, Int.reduceLT, Int.reduceToNat, Int.reduceEq, Int.reduceNeg, Int.reduceAdd, Int.reduceSub, Int.reduceMul, mkI, iV, mkQ, qV, fV, ofV, rV, mkR]) (o1 _) ?_
  simp -implicitDefEqProofs only [go_sem, Nat.reduceAdd, Nat.reduceSub, Nat.reduceMul, Nat.reduceLT, Nat.reduceLeDiff, Nat.reduceEqDiff, Nat.reduceBEq, Nat.reduceGT, Nat.reduceMod, Nat.reduceDiv, ↓reduceIte, reduceCtorEq, Int.reduceLE, Int.reduceLT, Int.reduceToNat, Int.reduceEq, Int.reduceNeg, Int.reduceAdd, Int.reduceSub, Int.reduceMul, mkI, iV, mkQ, qV, fV, ofV, rV, mkR]
  refine wl_callV _ (by simp -implicitDefEqProofs only [go_sem, Nat.reduceAdd, Nat.reduceSub, Nat.reduceMul, Nat.reduceLT, Nat.reduceLeDiff, Nat.reduceEqDiff, Nat.reduceBEq, Nat.reduceGT, Nat.reduceMod, Nat.reduceDiv, ↓reduceIte, reduceCtorEq, Int.reduceLE, Int.reduceLT, Int.reduceToNat, Int.reduceEq, Int.reduceNeg, Int.reduceAdd, Int.reduceSub, Int.reduceMul, mkI, iV, mkQ, qV, fV, ofV, rV, mkR, build125]) (o2 _) ?_
  simp -implicitDefEqProofs only [go_sem, Nat.reduceAdd, Nat.reduceSub, Nat.reduceMul, Nat.reduceLT, Nat.reduceLeDiff, Nat.reduceEqDiff, Nat.reduceBEq, Nat.reduceGT, Nat.reduceMod, Nat.reduceDiv, ↓reduceIte, reduceCtorEq, Int.reduceLE, Int.reduceLT, Int.reduceToNat, Int.reduceEq, Int.reduceNeg, Int.reduceAdd, Int.reduceSub, Int.reduceMul, mkI, iV, mkQ, qV, fV, ofV, rV, mkR, build125]
  refine wl_callV #[.slice (some ⟨H.length + 4, 0, none⟩) 2 2] (by simp -implicitDefEqProofs only [go_sem, Nat.reduceAdd, Nat.reduceSub, Nat.reduceMul, Nat.reduceLT, Nat.reduceLeDiff, Nat.reduceEqDiff, Nat.reduceBEq, Nat.reduceGT, Nat.reduceMod, Nat.reduceDiv, ↓reduceIte, reduceCtorEq, Int.reduceLE, Int.reduceLT, Int.reduceToNat, Int.reduceEq, Int.reduceNeg, Int.reduceAdd, Int.reduceSub, Int.reduceMul, mkI, iV, mkQ, qV, fV, ofV, rV, mkR]) (s1 (b := H.length + 4) (by simp -implicitDefEqProofs only [go_sem, Nat.reduceAdd, Nat.reduceSub, Nat.reduceMul, Nat.reduceLT, Nat.reduceLeDiff, Nat.reduceEqDiff, Nat.reduceBEq, Nat.reduceGT, Nat.reduceMod, Nat.reduceDiv, ↓reduceIte, reduceCtorEq, Int.reduceLE, Int.reduceLT, Int.reduceToNat, Int.reduceEq, Int.reduceNeg, Int.reduceAdd, Int.reduceSub, Int.reduceMul, mkI, iV, mkQ, qV, fV, ofV, rV, mkR]) (by simp -implicitDefEqProofs only [go_sem, Nat.reduceAdd, Nat.reduceSub, Nat.reduceMul, Nat.reduceLT, Nat.reduceLeDiff, Nat.reduceEqDiff, Nat.reduceBEq, Nat.reduceGT, Nat.reduceMod, Nat.reduceDiv, ↓reduceIte, reduceCtorEq, Int.reduceLE, Int.reduceLT, Int.reduceToNat, Int.reduceEq, Int.reduceNeg, Int.reduceAdd, Int.reduceSub, Int.reduceMul, mkI, iV, mkQ, qV, fV, ofV, rV, mkR])) ?_
  simp -implicitDefEqProofs only [go_sem, Nat.reduceAdd, Nat.reduceSub, Nat.reduceMul, Nat.reduceLT, Nat.reduceLeDiff, Nat.reduceEqDiff, Nat.reduceBEq, Nat.reduceGT, Nat.reduceMod, Nat.reduceDiv, ↓reduceIte, reduceCtorEq, Int.reduceLE, Int.reduceLT, Int.reduceToNat, Int.reduceEq, Int.reduceNeg, Int.reduceAdd, Int.reduceSub, Int.reduceMul, mkI, iV, mkQ, qV, fV, ofV, rV, mkR]
  refine ax_quiet (by kernel_rfl) ?_
  simp -implicitDefEqProofs only [go_sem, Nat.reduceAdd, Nat.reduceSub, Nat.reduceMul, Nat.reduceLT, Nat.reduceLeDiff, Nat.reduceEqDiff, Nat.reduceBEq, Nat.reduceGT, Nat.reduceMod, Nat.reduceDiv, ↓reduceIte, reduceCtorEq, Int.reduceLE, Int.reduceLT, Int.reduceToNat, Int.reduceEq, Int.reduceNeg, Int.reduceAdd, Int.reduceSub, Int.reduceMul, mkI, iV, mkQ, qV, fV, ofV, rV, mkR]
  refine wl_callV _ (by simp -implicitDefEqProofs only [go_sem, Nat.reduceAdd, Nat.reduceSub, Nat.reduceMul, Nat.reduceLT, Nat.reduceLeDiff, Nat.reduceEqDiff, Nat.reduceBEq, Nat.reduceGT, Nat.reduceMod, Nat.reduceDiv, ↓reduceIte, reduceCtorEq, Int.reduceLE, Int.reduceLT, Int.reduceToNat, Int.reduceEq, Int.reduceNeg, Int.reduceAdd, Int.reduceSub, Int.reduceMul, mkI, iV, mkQ, qV, fV, ofV, rV, mkR]) (o3 _) ?_
  simp -implicitDefEqProofs only [go_sem, Nat.reduceAdd, Nat.reduceSub, Nat.reduceMul, Nat.reduceLT, Nat.reduceLeDiff, Nat.reduceEqDiff, Nat.reduceBEq, Nat.reduceGT, Nat.reduceMod, Nat.reduceDiv, ↓reduceIte, reduceCtorEq, Int.reduceLE, Int.reduceLT, Int.reduceToNat, Int.reduceEq, Int.reduceNeg, Int.reduceAdd, Int.reduceSub, Int.reduceMul, mkI, iV, mkQ, qV, fV, ofV, rV, mkR]
  refine wl_callV _ (by simp -implicitDefEqProofs only [go_sem, Nat.reduceAdd, Nat.reduceSub, Nat.reduceMul, Nat.reduceLT, Nat.reduceLeDiff, Nat.reduceEqDiff, Nat.reduceBEq, Nat.reduceGT, Nat.reduceMod, Nat.reduceDiv, ↓reduceIte, reduceCtorEq, Int.reduceLE, Int.reduceLT, Int.reduceToNat, Int.reduceEq, Int.reduceNeg, Int.reduceAdd, Int.reduceSub, Int.reduceMul, mkI, iV, mkQ, qV, fV, ofV, rV, mkR, build125]) (o4 _) ?_
  simp -implicitDefEqProofs only [go_sem, Nat.reduceAdd, Nat.reduceSub, Nat.reduceMul, Nat.reduceLT, Nat.reduceLeDiff, Nat.reduceEqDiff, Nat.reduceBEq, Nat.reduceGT, Nat.reduceMod, Nat.reduceDiv, ↓reduceIte, reduceCtorEq, Int.reduceLE, Int.reduceLT, Int.reduceToNat, Int.reduceEq, Int.reduceNeg, Int.reduceAdd, Int.reduceSub, Int.reduceMul, mkI, iV, mkQ, qV, fV, ofV, rV, mkR, build125]
  refine wl_callV #[.slice (some ⟨H.length + 6, 0, none⟩) 2 2] (by simp -implicitDefEqProofs only [go_sem, Nat.reduceAdd, Nat.reduceSub, Nat.reduceMul, Nat.reduceLT, Nat.reduceLeDiff, Nat.reduceEqDiff, Nat.reduceBEq, Nat.reduceGT, Nat.reduceMod, Nat.reduceDiv, ↓reduceIte, reduceCtorEq, Int.reduceLE, Int.reduceLT, Int.reduceToNat, Int.reduceEq, Int.reduceNeg, Int.reduceAdd, Int.reduceSub, Int.reduceMul, mkI, iV, mkQ, qV, fV, ofV, rV, mkR]) (s2 (b := H.length + 6) (by simp -implicitDefEqProofs only [go_sem, Nat.reduceAdd, Nat.reduceSub, Nat.reduceMul, Nat.reduceLT, Nat.reduceLeDiff, Nat.reduceEqDiff, Nat.reduceBEq, Nat.reduceGT, Nat.reduceMod, Nat.reduceDiv, ↓reduceIte, reduceCtorEq, Int.reduceLE, Int.reduceLT, Int.reduceToNat, Int.reduceEq, Int.reduceNeg, Int.reduceAdd, Int.reduceSub, Int.reduceMul, mkI, iV, mkQ, qV, fV, ofV, rV, mkR]) (by simp -implicitDefEqProofs only [go_sem, Nat.reduceAdd, Nat.reduceSub, Nat.reduceMul, Nat.reduceLT, Nat.reduceLeDiff, Nat.reduceEqDiff, Nat.reduceBEq, Nat.reduceGT, Nat.reduceMod, Nat.reduceDiv, ↓reduceIte, reduceCtorEq, Int.reduceLE, Int.reduceLT, Int.reduceToNat, Int.reduceEq, Int.reduceNeg, Int.reduceAdd, Int.reduceSub, Int.reduceMul, mkI, iV, mkQ, qV, fV, ofV, rV, mkR])) ?_
  simp -implicitDefEqProofs only [go_sem, Nat.reduceAdd, Nat.reduceSub, Nat.reduceMul, Nat.reduceLT, Nat.reduceLeDiff, Nat.reduceEqDiff, Nat.reduceBEq, Nat.reduceGT, Nat.reduceMod, Nat.reduceDiv, ↓reduceIte, reduceCtorEq, Int.reduceLE, Int.reduceLT, Int.reduceToNat, Int.reduceEq, Int.reduceNeg, Int.reduceAdd, Int.reduceSub, Int.reduceMul, mkI, iV, mkQ, qV, fV, ofV, rV, mkR]
  refine wl_callV _ (by simp -implicitDefEqProofs only [go_sem, Nat.reduceAdd, Nat.reduceSub, Nat.reduceMul, Nat.reduceLT, Nat.reduceLeDiff, Nat.reduceEqDiff, Nat.reduceBEq, Nat.reduceGT, Nat.reduceMod, Nat.reduceDiv, ↓reduceIte, reduceCtorEq, Int.reduceLE, Int.reduceLT, Int.reduceToNat, Int.reduceEq, Int.reduceNeg, Int.reduceAdd, Int.reduceSub, Int.reduceMul, mkI, iV, mkQ, qV, fV, ofV, rV, mkR]) (o5 _) ?_
  simp -implicitDefEqProofs only [go_sem, Nat.reduceAdd, Nat.reduceSub, Nat.reduceMul, Nat.reduceLT, Nat.reduceLeDiff, Nat.reduceEqDiff, Nat.reduceBEq, Nat.reduceGT, Nat.reduceMod, Nat.reduceDiv, ↓reduceIte, reduceCtorEq, Int.reduceLE, Int.reduceLT, Int.reduceToNat, Int.reduceEq, Int.reduceNeg, Int.reduceAdd, Int.reduceSub, Int.reduceMul, mkI, iV, mkQ, qV, fV, ofV, rV, mkR]
  simp -implicitDefEqProofs only [go_sem, Nat.reduceAdd, Nat.reduceSub, Nat.reduceMul, Nat.reduceLT, Nat.reduceLeDiff, Nat.reduceEqDiff, Nat.reduceBEq, Nat.reduceGT, Nat.reduceMod, Nat.reduceDiv, ↓reduceIte, reduceCtorEq, Int.reduceLE, Int.reduceLT, Int.reduceToNat, Int.reduceEq, Int.reduceNeg, Int.reduceAdd, Int.reduceSub, Int.reduceMul, mkI, iV, mkQ, qV, fV, ofV, rV, mkR, res46]
  first | exact .app _ _ | exact ⟨.app _ _, rfl⟩ | exact .refl _ | exact ⟨.refl _, rfl⟩
end Go.Proofs.YthhmkaikopdmjaaGreat
set_option linter.unusedSimpArgs false
set_option linter.unusedVariables false
set_option maxRecDepth 8000
namespace Go.Proofs.YthhmkaikopdmjaaGreat
open Go Go.Fw

theorem TangentR (H : Heap) {r : RR} {k : Nat} (hr : r.le k) (hk : k ≤ 20000) (he : r.err = 0) (hc : 1 + r.rot.c ≠ 0) :
    Sim Tryz.prog 116 #[r.val] H (.tuple #[mkQ (r.rot.s / (1 + r.rot.c)), .int .i64 0]) H := by
  refine flat_ex rfl ?_
  have w := fun {T : Heap} {b1 : Nat} r0 => wrong1 hr hk (T := T) (b := b1) r0
  have w := fun {T : Heap} {b : Nat} r0 => @w T b r0
  have o1 := fun H => ofN_sim H (n := 1) (by decide) (by decide)
  rw [show ((1 : Int) : Rat) = 1 from rfl] at o1
  have z1 := (sz_one (k := 2) (by decide)).qv.mono (show 2 + 7 ≤ k + 9 by omega)
  have z2 := hr.c.mono (show k ≤ k + 9 by omega)
  have s1 := fun {T : Heap} {b : Nat} r0 r1 => sum2 (H := T) (b := b) (c := 2) r0 r1 z1 z2 (by omega)
  have z3 := ((sz_one (k := 2) (by decide)).add hr.c.sz).qv
  have o2 := fun H => signQ H z3 (by omega)
  have hz : ¬ cmpQ (1 + r.rot.c) 0 = 0 := fun h => hc (cmpQ_zero_eq.1 h)
  have o3 := fun H => overQ H hr.s z3 (by omega) (by omega)
  rw [he] at w
  simp only [ne_eq, not_true_eq_false, decide_false] at w
  clear z1 z2 z3
  generalize r.rot.s / (1 + r.rot.c) = t at *
  generalize cmpQ (1 + r.rot.c) 0 = c at *
  generalize 1 + r.rot.c = al at *
  unfold RR.cells at w
  unfold qV at o3
  unfold RR.val rV
  refine sim_ex tok mixed Tryz.func116 rfl (by kernel_rfl) (by kernel_rfl) (by simp only [Tryz.ntmps116, List.size_toArray, List.length_cons, List.length_nil]; omega) ?_
  simp -implicitDefEqProofs only [go_sem, Nat.reduceAdd, Nat.reduceSub, Nat.reduceMul, Nat.reduceLT, Nat.reduceLeDiff, Nat.reduceEqDiff, Nat.reduceBEq, Nat.reduceGT, Nat.reduceMod, Nat.reduceDiv, ↓reduceIte, reduceCtorEq, Int.reduceLE, Int.reduceLT, Int.reduceToNat, Int.reduceEq, Int.reduceNeg, Int.reduceAdd, Int.reduceSub, Int.reduceMul, mkI, iV, mkQ, qV, fV, ofV, rV, mkR, build22_1]
  refine wl_callV #[.slice (some ⟨H.length + 2, 0, none⟩) 1 1] (by simp -implicitDefEqProofs only [go_sem, Nat.reduceAdd, Nat.reduceSub, Nat.reduceMul, Nat.reduceLT, Nat.reduceLeDiff, Nat.reduceEqDiff, Nat.reduceBEq, Nat.reduceGT, Nat.reduceMod, Nat.reduceDiv, ↓reduceIte, reduceCtorEq, Int.reduceLE, Int.reduceLT, Int.reduceToNat, Int.reduceEq, Int.reduceNeg, Int.reduceAdd, Int.reduceSub, Int.reduceMul, mkI, iV, mkQ, qV, fV, ofV, rV, mkR, wa_cond, axC_t, axC_f]) (w (b := H.length + 2) (by simp -implicitDefEqProofs only [go_sem, Nat.reduceAdd, Nat.reduceSub, Nat.reduceMul, Nat.reduceLT, Nat.reduceLeDiff, Nat.reduceEqDiff, Nat.reduceBEq, Nat.reduceGT, Nat.reduceMod, Nat.reduceDiv, ↓reduceIte, reduceCtorEq, Int.reduceLE, Int.reduceLT, Int.reduceToNat, Int.reduceEq, Int.reduceNeg, Int.reduceAdd, Int.reduceSub, Int.reduceMul, mkI, iV, mkQ, qV, fV, ofV, rV, mkR, wa_cond, axC_t, axC_f])) ?_
  simp -implicitDefEqProofs only [go_sem, Nat.reduceAdd, Nat.reduceSub, Nat.reduceMul, Nat.reduceLT, Nat.reduceLeDiff, Nat.reduceEqDiff, Nat.reduceBEq, Nat.reduceGT, Nat.reduceMod, Nat.reduceDiv, ↓reduceIte, reduceCtorEq, Int.reduceLE, Int.reduceLT, Int.reduceToNat, Int.reduceEq, Int.reduceNeg, Int.reduceAdd, Int.reduceSub, Int.reduceMul, mkI, iV, mkQ, qV, fV, ofV, rV, mkR, wa_cond, axC_t, axC_f]
  refine ax_quiet (by kernel_rfl) ?_
  simp -implicitDefEqProofs only [go_sem, Nat.reduceAdd, Nat.reduceSub, Nat.reduceMul, Nat.reduceLT, Nat.reduceLeDiff, Nat.reduceEqDiff, Nat.reduceBEq, Nat.reduceGT, Nat.reduceMod, Nat.reduceDiv, ↓reduceIte, reduceCtorEq, Int.reduceLE, Int.reduceLT, Int.reduceToNat, Int.reduceEq, Int.reduceNeg, Int.reduceAdd, Int.reduceSub, Int.reduceMul, mkI, iV, mkQ, qV, fV, ofV, rV, mkR]
  refine wl_callV _ (by simp -implicitDefEqProofs only [go_sem, Nat.reduceAdd, Nat.reduceSub, Nat.reduceMul, Nat.reduceLT, Nat.reduceLeDiff, Nat.reduceEqDiff, Nat.reduceBEq, Nat.reduceGT, Nat.reduceMod, Nat.reduceDiv, ↓reduceIte, reduceCtorEq, Int.reduceLE, Int.reduceLT, Int.reduceToNat, Int.reduceEq, Int.reduceNeg, Int.reduceAdd, Int.reduceSub, Int.reduceMul, mkI, iV, mkQ, qV, fV, ofV, rV, mkR, build125]) (o1 _) ?_
  simp -implicitDefEqProofs only [go_sem, Nat.reduceAdd, Nat.reduceSub, Nat.reduceMul, Nat.reduceLT, Nat.reduceLeDiff, Nat.reduceEqDiff, Nat.reduceBEq, Nat.reduceGT, Nat.reduceMod, Nat.reduceDiv, ↓reduceIte, reduceCtorEq, Int.reduceLE, Int.reduceLT, Int.reduceToNat, Int.reduceEq, Int.reduceNeg, Int.reduceAdd, Int.reduceSub, Int.reduceMul, mkI, iV, mkQ, qV, fV, ofV, rV, mkR, build125]
  refine wl_callV #[.slice (some ⟨H.length + 3, 0, none⟩) 2 2] (by simp -implicitDefEqProofs only [go_sem, Nat.reduceAdd, Nat.reduceSub, Nat.reduceMul, Nat.reduceLT, Nat.reduceLeDiff, Nat.reduceEqDiff, Nat.reduceBEq, Nat.reduceGT, Nat.reduceMod, Nat.reduceDiv, ↓reduceIte, reduceCtorEq, Int.reduceLE, Int.reduceLT, Int.reduceToNat, Int.reduceEq, Int.reduceNeg, Int.reduceAdd, Int.reduceSub, Int.reduceMul, mkI, iV, mkQ, qV, fV, ofV, rV, mkR]) (s1 (b := H.length + 3) (by simp -implicitDefEqProofs only [go_sem, Nat.reduceAdd, Nat.reduceSub, Nat.reduceMul, Nat.reduceLT, Nat.reduceLeDiff, Nat.reduceEqDiff, Nat.reduceBEq, Nat.reduceGT, Nat.reduceMod, Nat.reduceDiv, ↓reduceIte, reduceCtorEq, Int.reduceLE, Int.reduceLT, Int.reduceToNat, Int.reduceEq, Int.reduceNeg, Int.reduceAdd, Int.reduceSub, Int.reduceMul, mkI, iV, mkQ, qV, fV, ofV, rV, mkR]) (by simp -implicitDefEqProofs only [go_sem, Nat.reduceAdd, Nat.reduceSub, Nat.reduceMul, Nat.reduceLT, Nat.reduceLeDiff, Nat.reduceEqDiff, Nat.reduceBEq, Nat.reduceGT, Nat.reduceMod, Nat.reduceDiv, ↓reduceIte, reduceCtorEq, Int.reduceLE, Int.reduceLT, Int.reduceToNat, Int.reduceEq, Int.reduceNeg, Int.reduceAdd, Int.reduceSub, Int.reduceMul, mkI, iV, mkQ, qV, fV, ofV, rV, mkR])) ?_
  simp -implicitDefEqProofs only [go_sem, Nat.reduceAdd, Nat.reduceSub, Nat.reduceMul, Nat.reduceLT, Nat.reduceLeDiff, Nat.reduceEqDiff, Nat.reduceBEq, Nat.reduceGT, Nat.reduceMod, Nat.reduceDiv, ↓reduceIte, reduceCtorEq, Int.reduceLE, Int.reduceLT, Int.reduceToNat, Int.reduceEq, Int.reduceNeg, Int.reduceAdd, Int.reduceSub, Int.reduceMul, mkI, iV, mkQ, qV, fV, ofV, rV, mkR]
  refine wl_callV _ (by simp -implicitDefEqProofs only [go_sem, Nat.reduceAdd, Nat.reduceSub, Nat.reduceMul, Nat.reduceLT, Nat.reduceLeDiff, Nat.reduceEqDiff, Nat.reduceBEq, Nat.reduceGT, Nat.reduceMod, Nat.reduceDiv, ↓reduceIte, reduceCtorEq, Int.reduceLE, Int.reduceLT, Int.reduceToNat, Int.reduceEq, Int.reduceNeg, Int.reduceAdd, Int.reduceSub, Int.reduceMul, mkI, iV, mkQ, qV, fV, ofV, rV, mkR, hz, wa_cond, axC_t, axC_f]) (o2 _) ?_
  simp -implicitDefEqProofs only [go_sem, Nat.reduceAdd, Nat.reduceSub, Nat.reduceMul, Nat.reduceLT, Nat.reduceLeDiff, Nat.reduceEqDiff, Nat.reduceBEq, Nat.reduceGT, Nat.reduceMod, Nat.reduceDiv, ↓reduceIte, reduceCtorEq, Int.reduceLE, Int.reduceLT, Int.reduceToNat, Int.reduceEq, Int.reduceNeg, Int.reduceAdd, Int.reduceSub, Int.reduceMul, mkI, iV, mkQ, qV, fV, ofV, rV, mkR, hz, wa_cond, axC_t, axC_f]
  refine wl_callV _ (by simp -implicitDefEqProofs only [go_sem, Nat.reduceAdd, Nat.reduceSub, Nat.reduceMul, Nat.reduceLT, Nat.reduceLeDiff, Nat.reduceEqDiff, Nat.reduceBEq, Nat.reduceGT, Nat.reduceMod, Nat.reduceDiv, ↓reduceIte, reduceCtorEq, Int.reduceLE, Int.reduceLT, Int.reduceToNat, Int.reduceEq, Int.reduceNeg, Int.reduceAdd, Int.reduceSub, Int.reduceMul, mkI, iV, mkQ, qV, fV, ofV, rV, mkR]) (o3 _) ?_
  simp -implicitDefEqProofs only [go_sem, Nat.reduceAdd, Nat.reduceSub, Nat.reduceMul, Nat.reduceLT, Nat.reduceLeDiff, Nat.reduceEqDiff, Nat.reduceBEq, Nat.reduceGT, Nat.reduceMod, Nat.reduceDiv, ↓reduceIte, reduceCtorEq, Int.reduceLE, Int.reduceLT, Int.reduceToNat, Int.reduceEq, Int.reduceNeg, Int.reduceAdd, Int.reduceSub, Int.reduceMul, mkI, iV, mkQ, qV, fV, ofV, rV, mkR]
  simp -implicitDefEqProofs only [go_sem, Nat.reduceAdd, Nat.reduceSub, Nat.reduceMul, Nat.reduceLT, Nat.reduceLeDiff, Nat.reduceEqDiff, Nat.reduceBEq, Nat.reduceGT, Nat.reduceMod, Nat.reduceDiv, ↓reduceIte, reduceCtorEq, Int.reduceLE, Int.reduceLT, Int.reduceToNat, Int.reduceEq, Int.reduceNeg, Int.reduceAdd, Int.reduceSub, Int.reduceMul, mkI, iV, mkQ, qV, fV, ofV, rV, mkR, res116]
  first | exact .app _ _ | exact ⟨.app _ _, rfl⟩ | exact .refl _ | exact ⟨.refl _, rfl⟩

theorem eq26 (a b : RR) : aBin tt .eql 26 (.agg #[.bool a.g, .string (bs a.n), .string (bs a.d), .bool a.g', .string (bs a.n'), .string (bs a.d')]) (.agg #[.bool b.g, .string (bs b.n), .string (bs b.d), .bool b.g', .string (bs b.n'), .string (bs b.d')]) = some (.bool (decide (a = b))) := by
  have e : aBin tt .eql 26 (.agg #[.bool a.g, .string (bs a.n), .string (bs a.d), .bool a.g', .string (bs a.n'), .string (bs a.d')]) (.agg #[.bool b.g, .string (bs b.n), .string (bs b.d), .bool b.g', .string (bs b.n'), .string (bs b.d')]) =
    some (.bool ((a.g == b.g) && ((bs a.n == bs b.n) && ((bs a.d == bs b.d) && ((a.g' == b.g') && ((bs a.n' == bs b.n') && ((bs a.d' == bs b.d') && true))))))) := rfl
  rw [e]
  congr 2
  obtain ⟨g, n, d, g', n', d'⟩ := a
  obtain ⟨h, m, c, h', m', c'⟩ := b
  simp only [bs_beq, RR.mk.injEq]
  by_cases h1 : g = h <;> by_cases h2 : n = m <;> by_cases h3 : d = c <;> by_cases h4 : g' = h' <;> by_cases h5 : n' = m' <;> by_cases h6 : d' = c' <;> simp [h1, h2, h3, h4, h5, h6]

theorem quarterR_val : (RR.of ⟨0, 1⟩).val = .agg #[.bool false, .string (bs []), .string (bs []), .bool (decide ((1 : Rat).num < 0)), .string (bs (digB (1 : Rat).num.natAbs)), .string (bs (denB (1 : Rat).den))] := by
  have h := mkQ_zero
  unfold mkQ at h
  obtain ⟨h1, h2, h3⟩ := qV_inj.1 h
  unfold RR.of RR.val rV
  simp only [h1, h2, h3]
theorem MiddleR (H : Heap) {a b : RR} {k : Nat} (ha : a.le k) (hb : b.le k) (hk : k ≤ 180) (ea : a.err = 0) (eb : b.err = 0) (hne : a.rot ≠ b.rot) :
    Sim Tryz.prog 66 #[a.val, b.val] H (.tuple #[(RR.of (Rot.mid a.rot b.rot)).val, .int .i64 0]) H := by
  refine flat_ex rfl ?_
  have w := fun {T : Heap} {b1 : Nat} r0 r1 => wrong2 ha hb (by omega) (T := T) (bb := b1) r0 r1
  have w := fun {T : Heap} {b : Nat} r0 r1 => @w T b r0 r1
  rw [ea, eb] at w
  simp only [ne_eq, not_true_eq_false, or_self, decide_false] at w
  have hq := eq26 a b
  rw [decide_eq_false (fun h : a = b => hne (by rw [h]))] at hq
  have o1 := fun H => backR H ha (by omega)
  have o2 := fun H => thenR H ha.bk (hb.mono (show k ≤ k + 8 by omega)) (by omega)
  rw [RR.bk_rot] at o2
  have oka := (RR.err_zero.1 ea).2
  have okb := (RR.err_zero.1 eb).2
  have okd : (a.rot.back.thn b.rot).ok := Rot.thn_ok (Rot.back_ok oka) okb
  have zd : (a.rot.back.thn b.rot).Sz (4 * k + 21) := by
    have := ha.bk.sz.thn hb.sz
    rw [RR.bk_rot] at this
    exact this.mono (by omega)
  have o3 := fun H => halfR H zd.le (by omega)
  rw [RR.of_rot] at o3
  unfold Rot.mid
  have hhalf := Rot.half_one okd
  generalize hdd : a.rot.back.thn b.rot = d at *
  unfold RR.cells at w
  unfold RR.bk at o2
  have o4 := fun H => ofN_sim H (n := 1) (by decide) (by decide)
  rw [show ((1 : Int) : Rat) = 1 from rfl] at o4
  by_cases hh : d.half = 1
  · rw [if_pos hh]
    have hq0 : (Rot.mk 0 1).Sz 2 := ⟨⟨by decide, by decide⟩, sz_one (by decide)⟩
    have o5 := fun H => thenR H (ha.mono (show k ≤ k + 9 by omega)) (hq0.le.mono (show 2 + 7 ≤ k + 9 by omega)) (by omega)
    rw [RR.of_rot, quarterR_val] at o5
    rw [RR.of_val] at o5 o2 o3 ⊢
    generalize (a.rot.thn ⟨0, 1⟩).c = x at *
    generalize (a.rot.thn ⟨0, 1⟩).s = y at *
    generalize d.half = z at *
    generalize d.c = dc at *
    generalize d.s = ds at *
    unfold RR.val rV at o1 o2 o5 ⊢
    refine sim_ex tok mixed Tryz.func66 rfl (by kernel_rfl) (by kernel_rfl) (by simp only [Tryz.ntmps66, List.size_toArray, List.length_cons, List.length_nil]; omega) ?_
    simp -implicitDefEqProofs only [go_sem, Nat.reduceAdd, Nat.reduceSub, Nat.reduceMul, Nat.reduceLT, Nat.reduceLeDiff, Nat.reduceEqDiff, Nat.reduceBEq, Nat.reduceGT, Nat.reduceMod, Nat.reduceDiv, ↓reduceIte, reduceCtorEq, Int.reduceLE, Int.reduceLT, Int.reduceToNat, Int.reduceEq, Int.reduceNeg, Int.reduceAdd, Int.reduceSub, Int.reduceMul, mkI, iV, mkQ, qV, fV, ofV, rV, mkR, build22_2]
    refine wl_callV #[.slice (some ⟨H.length + 3, 0, none⟩) 2 2] (by simp -implicitDefEqProofs only [go_sem, Nat.reduceAdd, Nat.reduceSub, Nat.reduceMul, Nat.reduceLT, Nat.reduceLeDiff, Nat.reduceEqDiff, Nat.reduceBEq, Nat.reduceGT, Nat.reduceMod, Nat.reduceDiv, ↓reduceIte, reduceCtorEq, Int.reduceLE, Int.reduceLT, Int.reduceToNat, Int.reduceEq, Int.reduceNeg, Int.reduceAdd, Int.reduceSub, Int.reduceMul, mkI, iV, mkQ, qV, fV, ofV, rV, mkR, hq, wa_cond, axC_t, axC_f]) (w (b := H.length + 3) (by simp -implicitDefEqProofs only [go_sem, Nat.reduceAdd, Nat.reduceSub, Nat.reduceMul, Nat.reduceLT, Nat.reduceLeDiff, Nat.reduceEqDiff, Nat.reduceBEq, Nat.reduceGT, Nat.reduceMod, Nat.reduceDiv, ↓reduceIte, reduceCtorEq, Int.reduceLE, Int.reduceLT, Int.reduceToNat, Int.reduceEq, Int.reduceNeg, Int.reduceAdd, Int.reduceSub, Int.reduceMul, mkI, iV, mkQ, qV, fV, ofV, rV, mkR, hq, wa_cond, axC_t, axC_f]) (by simp -implicitDefEqProofs only [go_sem, Nat.reduceAdd, Nat.reduceSub, Nat.reduceMul, Nat.reduceLT, Nat.reduceLeDiff, Nat.reduceEqDiff, Nat.reduceBEq, Nat.reduceGT, Nat.reduceMod, Nat.reduceDiv, ↓reduceIte, reduceCtorEq, Int.reduceLE, Int.reduceLT, Int.reduceToNat, Int.reduceEq, Int.reduceNeg, Int.reduceAdd, Int.reduceSub, Int.reduceMul, mkI, iV, mkQ, qV, fV, ofV, rV, mkR, hq, wa_cond, axC_t, axC_f])) ?_
    simp -implicitDefEqProofs only [go_sem, Nat.reduceAdd, Nat.reduceSub, Nat.reduceMul, Nat.reduceLT, Nat.reduceLeDiff, Nat.reduceEqDiff, Nat.reduceBEq, Nat.reduceGT, Nat.reduceMod, Nat.reduceDiv, ↓reduceIte, reduceCtorEq, Int.reduceLE, Int.reduceLT, Int.reduceToNat, Int.reduceEq, Int.reduceNeg, Int.reduceAdd, Int.reduceSub, Int.reduceMul, mkI, iV, mkQ, qV, fV, ofV, rV, mkR, hq, wa_cond, axC_t, axC_f]
    refine ax_quiet (by kernel_rfl) ?_
    simp -implicitDefEqProofs only [go_sem, Nat.reduceAdd, Nat.reduceSub, Nat.reduceMul, Nat.reduceLT, Nat.reduceLeDiff, Nat.reduceEqDiff, Nat.reduceBEq, Nat.reduceGT, Nat.reduceMod, Nat.reduceDiv, ↓reduceIte, reduceCtorEq, Int.reduceLE, Int.reduceLT, Int.reduceToNat, Int.reduceEq, Int.reduceNeg, Int.reduceAdd, Int.reduceSub, Int.reduceMul, mkI, iV, mkQ, qV, fV, ofV, rV, mkR]
    refine wl_callV _ (by simp -implicitDefEqProofs only [go_sem, Nat.reduceAdd, Nat.reduceSub, Nat.reduceMul, Nat.reduceLT, Nat.reduceLeDiff, Nat.reduceEqDiff, Nat.reduceBEq, Nat.reduceGT, Nat.reduceMod, Nat.reduceDiv, ↓reduceIte, reduceCtorEq, Int.reduceLE, Int.reduceLT, Int.reduceToNat, Int.reduceEq, Int.reduceNeg, Int.reduceAdd, Int.reduceSub, Int.reduceMul, mkI, iV, mkQ, qV, fV, ofV, rV, mkR]) (o1 _) ?_
    simp -implicitDefEqProofs only [go_sem, Nat.reduceAdd, Nat.reduceSub, Nat.reduceMul, Nat.reduceLT, Nat.reduceLeDiff, Nat.reduceEqDiff, Nat.reduceBEq, Nat.reduceGT, Nat.reduceMod, Nat.reduceDiv, ↓reduceIte, reduceCtorEq, Int.reduceLE, Int.reduceLT, Int.reduceToNat, Int.reduceEq, Int.reduceNeg, Int.reduceAdd, Int.reduceSub, Int.reduceMul, mkI, iV, mkQ, qV, fV, ofV, rV, mkR]
    refine wl_callV _ (by simp -implicitDefEqProofs only [go_sem, Nat.reduceAdd, Nat.reduceSub, Nat.reduceMul, Nat.reduceLT, Nat.reduceLeDiff, Nat.reduceEqDiff, Nat.reduceBEq, Nat.reduceGT, Nat.reduceMod, Nat.reduceDiv, ↓reduceIte, reduceCtorEq, Int.reduceLE, Int.reduceLT, Int.reduceToNat, Int.reduceEq, Int.reduceNeg, Int.reduceAdd, Int.reduceSub, Int.reduceMul, mkI, iV, mkQ, qV, fV, ofV, rV, mkR]) (o2 _) ?_
    simp -implicitDefEqProofs only [go_sem, Nat.reduceAdd, Nat.reduceSub, Nat.reduceMul, Nat.reduceLT, Nat.reduceLeDiff, Nat.reduceEqDiff, Nat.reduceBEq, Nat.reduceGT, Nat.reduceMod, Nat.reduceDiv, ↓reduceIte, reduceCtorEq, Int.reduceLE, Int.reduceLT, Int.reduceToNat, Int.reduceEq, Int.reduceNeg, Int.reduceAdd, Int.reduceSub, Int.reduceMul, mkI, iV, mkQ, qV, fV, ofV, rV, mkR]
    refine wl_callV _ (by simp -implicitDefEqProofs only [go_sem, Nat.reduceAdd, Nat.reduceSub, Nat.reduceMul, Nat.reduceLT, Nat.reduceLeDiff, Nat.reduceEqDiff, Nat.reduceBEq, Nat.reduceGT, Nat.reduceMod, Nat.reduceDiv, ↓reduceIte, reduceCtorEq, Int.reduceLE, Int.reduceLT, Int.reduceToNat, Int.reduceEq, Int.reduceNeg, Int.reduceAdd, Int.reduceSub, Int.reduceMul, mkI, iV, mkQ, qV, fV, ofV, rV, mkR, hh, wa_cond, axC_t, axC_f]) (o3 _) ?_
    simp -implicitDefEqProofs only [go_sem, Nat.reduceAdd, Nat.reduceSub, Nat.reduceMul, Nat.reduceLT, Nat.reduceLeDiff, Nat.reduceEqDiff, Nat.reduceBEq, Nat.reduceGT, Nat.reduceMod, Nat.reduceDiv, ↓reduceIte, reduceCtorEq, Int.reduceLE, Int.reduceLT, Int.reduceToNat, Int.reduceEq, Int.reduceNeg, Int.reduceAdd, Int.reduceSub, Int.reduceMul, mkI, iV, mkQ, qV, fV, ofV, rV, mkR, hh, wa_cond, axC_t, axC_f]
    refine ax_quiet (by kernel_rfl) ?_
    simp -implicitDefEqProofs only [go_sem, Nat.reduceAdd, Nat.reduceSub, Nat.reduceMul, Nat.reduceLT, Nat.reduceLeDiff, Nat.reduceEqDiff, Nat.reduceBEq, Nat.reduceGT, Nat.reduceMod, Nat.reduceDiv, ↓reduceIte, reduceCtorEq, Int.reduceLE, Int.reduceLT, Int.reduceToNat, Int.reduceEq, Int.reduceNeg, Int.reduceAdd, Int.reduceSub, Int.reduceMul, mkI, iV, mkQ, qV, fV, ofV, rV, mkR]
    refine wl_callV _ (by simp -implicitDefEqProofs only [go_sem, Nat.reduceAdd, Nat.reduceSub, Nat.reduceMul, Nat.reduceLT, Nat.reduceLeDiff, Nat.reduceEqDiff, Nat.reduceBEq, Nat.reduceGT, Nat.reduceMod, Nat.reduceDiv, ↓reduceIte, reduceCtorEq, Int.reduceLE, Int.reduceLT, Int.reduceToNat, Int.reduceEq, Int.reduceNeg, Int.reduceAdd, Int.reduceSub, Int.reduceMul, mkI, iV, mkQ, qV, fV, ofV, rV, mkR]) (o4 _) ?_
    simp -implicitDefEqProofs only [go_sem, Nat.reduceAdd, Nat.reduceSub, Nat.reduceMul, Nat.reduceLT, Nat.reduceLeDiff, Nat.reduceEqDiff, Nat.reduceBEq, Nat.reduceGT, Nat.reduceMod, Nat.reduceDiv, ↓reduceIte, reduceCtorEq, Int.reduceLE, Int.reduceLT, Int.reduceToNat, Int.reduceEq, Int.reduceNeg, Int.reduceAdd, Int.reduceSub, Int.reduceMul, mkI, iV, mkQ, qV, fV, ofV, rV, mkR]
    refine wl_callV _ (by simp -implicitDefEqProofs only [go_sem, Nat.reduceAdd, Nat.reduceSub, Nat.reduceMul, Nat.reduceLT, Nat.reduceLeDiff, Nat.reduceEqDiff, Nat.reduceBEq, Nat.reduceGT, Nat.reduceMod, Nat.reduceDiv, ↓reduceIte, reduceCtorEq, Int.reduceLE, Int.reduceLT, Int.reduceToNat, Int.reduceEq, Int.reduceNeg, Int.reduceAdd, Int.reduceSub, Int.reduceMul, mkI, iV, mkQ, qV, fV, ofV, rV, mkR]) (o5 _) ?_
    simp -implicitDefEqProofs only [go_sem, Nat.reduceAdd, Nat.reduceSub, Nat.reduceMul, Nat.reduceLT, Nat.reduceLeDiff, Nat.reduceEqDiff, Nat.reduceBEq, Nat.reduceGT, Nat.reduceMod, Nat.reduceDiv, ↓reduceIte, reduceCtorEq, Int.reduceLE, Int.reduceLT, Int.reduceToNat, Int.reduceEq, Int.reduceNeg, Int.reduceAdd, Int.reduceSub, Int.reduceMul, mkI, iV, mkQ, qV, fV, ofV, rV, mkR]
    simp -implicitDefEqProofs only [go_sem, Nat.reduceAdd, Nat.reduceSub, Nat.reduceMul, Nat.reduceLT, Nat.reduceLeDiff, Nat.reduceEqDiff, Nat.reduceBEq, Nat.reduceGT, Nat.reduceMod, Nat.reduceDiv, ↓reduceIte, reduceCtorEq, Int.reduceLE, Int.reduceLT, Int.reduceToNat, Int.reduceEq, Int.reduceNeg, Int.reduceAdd, Int.reduceSub, Int.reduceMul, mkI, iV, mkQ, qV, fV, ofV, rV, mkR, res66]
    first | exact .app _ _ | exact ⟨.app _ _, rfl⟩ | exact .refl _ | exact ⟨.refl _, rfl⟩
  · rw [if_neg hh]
    obtain ⟨hs0, hc0, hc1⟩ := hhalf hh
    have o6 := fun H => TangentR H zd.le (by omega) (by rw [RR.err_of, if_pos okd]) (by rw [RR.of_rot]; exact hc0)
    rw [RR.of_rot] at o6
    have o7 := fun H => ofN_sim H (n := 3) (by decide) (by decide)
    have hpos : 0 ≤ d.s / (1 + d.c) := by
      rw [Rat.div_def]
      exact Rat.mul_nonneg hs0 (Rat.le_of_lt (Rat.inv_pos.2 hc1))
    have zt := zd.s.div ((sz_one (k := 2) (by decide)).add zd.c) (by omega)
    have z3 := Sz.int (z := 3) (k := 2) (by decide) (by decide)
    have o8 := fun H => overQ H zt.qv z3.qv (by omega) (by decide)
    rw [show ((3 : Int) : Rat) = 3 from rfl] at o7 o8 z3
    have zth := zt.div z3 (by decide)
    generalize hth : d.s / (1 + d.c) / 3 = th at *
    have hth0 : 0 ≤ th := by
      rw [← hth, Rat.div_def]
      exact Rat.mul_nonneg hpos (Rat.le_of_lt (Rat.inv_pos.2 (by decide)))
    have s1 := fun {T : Heap} {b : Nat} r0 r1 => sum2 (H := T) (b := b) (c := 2) r0 r1 zth.qv zth.qv (by omega)
    have o9 := fun H => smpR H (zth.mono (show 4 * k + 21 + (2 + (4 * k + 21) + 1) + 2 ≤ 16 * k + 100 by omega)).qv ((zth.add zth).mono (show _ ≤ 16 * k + 100 by omega)).qv (by omega)
    simp only [show ¬ th + th < th by grind, if_false] at o9
    have zs := Sz.smp (a := th) (b := th + th) (k := 16 * k + 100) (by grind) (zth.mono (by omega)) ((zth.add zth).mono (by omega)) (by omega)
    generalize smpQ th (th + th) = sm at *
    have o10 := fun H => OfR H zs.qv (by omega)
    have zo := Rot.Sz.ofT zs
    have o11 := fun H => thenR H (ha.mono (show k ≤ 6 * (16 * k + 100) + 12 + 7 by omega)) zo.le (by omega)
    rw [RR.of_rot] at o11
    rw [RR.of_val] at o2 o3 o6 o10 o11 ⊢
    rw [RR.of_val] at o11
    clear zs zo zth zt z3 hpos hth0 hs0 hc0 hc1
    generalize (a.rot.thn (Rot.ofT sm)).c = x at *
    generalize (a.rot.thn (Rot.ofT sm)).s = y at *
    generalize (Rot.ofT sm).c = oc at *
    generalize (Rot.ofT sm).s = os at *
    generalize th + th = th2 at *
    generalize d.s / (1 + d.c) = t at *
    generalize d.half = z at *
    generalize d.c = dc at *
    generalize d.s = ds at *
    unfold RR.val rV at o1 o2 o11 ⊢
    refine sim_ex tok mixed Tryz.func66 rfl (by kernel_rfl) (by kernel_rfl) (by simp only [Tryz.ntmps66, List.size_toArray, List.length_cons, List.length_nil]; omega) ?_
    simp -implicitDefEqProofs only [go_sem, Nat.reduceAdd, Nat.reduceSub, Nat.reduceMul, Nat.reduceLT, Nat.reduceLeDiff, Nat.reduceEqDiff, Nat.reduceBEq, Nat.reduceGT, Nat.reduceMod, Nat.reduceDiv, ↓reduceIte, reduceCtorEq, Int.reduceLE, Int.reduceLT, Int.reduceToNat, Int.reduceEq, Int.reduceNeg, Int.reduceAdd, Int.reduceSub, Int.reduceMul, mkI, iV, mkQ, qV, fV, ofV, rV, mkR, build22_2]
    refine wl_callV #[.slice (some ⟨H.length + 3, 0, none⟩) 2 2] (by simp -implicitDefEqProofs only [go_sem, Nat.reduceAdd, Nat.reduceSub, Nat.reduceMul, Nat.reduceLT, Nat.reduceLeDiff, Nat.reduceEqDiff, Nat.reduceBEq, Nat.reduceGT, Nat.reduceMod, Nat.reduceDiv, ↓reduceIte, reduceCtorEq, Int.reduceLE, Int.reduceLT, Int.reduceToNat, Int.reduceEq, Int.reduceNeg, Int.reduceAdd, Int.reduceSub, Int.reduceMul, mkI, iV, mkQ, qV, fV, ofV, rV, mkR, hq, wa_cond, axC_t, axC_f]) (w (b := H.length + 3) (by simp -implicitDefEqProofs only [go_sem, Nat.reduceAdd, Nat.reduceSub, Nat.reduceMul, Nat.reduceLT, Nat.reduceLeDiff, Nat.reduceEqDiff, Nat.reduceBEq, Nat.reduceGT, Nat.reduceMod, Nat.reduceDiv, ↓reduceIte, reduceCtorEq, Int.reduceLE, Int.reduceLT, Int.reduceToNat, Int.reduceEq, Int.reduceNeg, Int.reduceAdd, Int.reduceSub, Int.reduceMul, mkI, iV, mkQ, qV, fV, ofV, rV, mkR, hq, wa_cond, axC_t, axC_f]) (by simp -implicitDefEqProofs only [go_sem, Nat.reduceAdd, Nat.reduceSub, Nat.reduceMul, Nat.reduceLT, Nat.reduceLeDiff, Nat.reduceEqDiff, Nat.reduceBEq, Nat.reduceGT, Nat.reduceMod, Nat.reduceDiv, ↓reduceIte, reduceCtorEq, Int.reduceLE, Int.reduceLT, Int.reduceToNat, Int.reduceEq, Int.reduceNeg, Int.reduceAdd, Int.reduceSub, Int.reduceMul, mkI, iV, mkQ, qV, fV, ofV, rV, mkR, hq, wa_cond, axC_t, axC_f])) ?_
    simp -implicitDefEqProofs only [go_sem, Nat.reduceAdd, Nat.reduceSub, Nat.reduceMul, Nat.reduceLT, Nat.reduceLeDiff, Nat.reduceEqDiff, Nat.reduceBEq, Nat.reduceGT, Nat.reduceMod, Nat.reduceDiv, ↓reduceIte, reduceCtorEq, Int.reduceLE, Int.reduceLT, Int.reduceToNat, Int.reduceEq, Int.reduceNeg, Int.reduceAdd, Int.reduceSub, Int.reduceMul, mkI, iV, mkQ, qV, fV, ofV, rV, mkR, hq, wa_cond, axC_t, axC_f]
    refine ax_quiet (by kernel_rfl) ?_
    simp -implicitDefEqProofs only [go_sem, Nat.reduceAdd, Nat.reduceSub, Nat.reduceMul, Nat.reduceLT, Nat.reduceLeDiff, Nat.reduceEqDiff, Nat.reduceBEq, Nat.reduceGT, Nat.reduceMod, Nat.reduceDiv, ↓reduceIte, reduceCtorEq, Int.reduceLE, Int.reduceLT, Int.reduceToNat, Int.reduceEq, Int.reduceNeg, Int.reduceAdd, Int.reduceSub, Int.reduceMul, mkI, iV, mkQ, qV, fV, ofV, rV, mkR]
    refine wl_callV _ (by simp -implicitDefEqProofs only [go_sem, Nat.reduceAdd, Nat.reduceSub, Nat.reduceMul, Nat.reduceLT, Nat.reduceLeDiff, Nat.reduceEqDiff, Nat.reduceBEq, Nat.reduceGT, Nat.reduceMod, Nat.reduceDiv, ↓reduceIte, reduceCtorEq, Int.reduceLE, Int.reduceLT, Int.reduceToNat, Int.reduceEq, Int.reduceNeg, Int.reduceAdd, Int.reduceSub, Int.reduceMul, mkI, iV, mkQ, qV, fV, ofV, rV, mkR]) (o1 _) ?_
    simp -implicitDefEqProofs only [go_sem, Nat.reduceAdd, Nat.reduceSub, Nat.reduceMul, Nat.reduceLT, Nat.reduceLeDiff, Nat.reduceEqDiff, Nat.reduceBEq, Nat.reduceGT, Nat.reduceMod, Nat.reduceDiv, ↓reduceIte, reduceCtorEq, Int.reduceLE, Int.reduceLT, Int.reduceToNat, Int.reduceEq, Int.reduceNeg, Int.reduceAdd, Int.reduceSub, Int.reduceMul, mkI, iV, mkQ, qV, fV, ofV, rV, mkR]
    refine wl_callV _ (by simp -implicitDefEqProofs only [go_sem, Nat.reduceAdd, Nat.reduceSub, Nat.reduceMul, Nat.reduceLT, Nat.reduceLeDiff, Nat.reduceEqDiff, Nat.reduceBEq, Nat.reduceGT, Nat.reduceMod, Nat.reduceDiv, ↓reduceIte, reduceCtorEq, Int.reduceLE, Int.reduceLT, Int.reduceToNat, Int.reduceEq, Int.reduceNeg, Int.reduceAdd, Int.reduceSub, Int.reduceMul, mkI, iV, mkQ, qV, fV, ofV, rV, mkR]) (o2 _) ?_
    simp -implicitDefEqProofs only [go_sem, Nat.reduceAdd, Nat.reduceSub, Nat.reduceMul, Nat.reduceLT, Nat.reduceLeDiff, Nat.reduceEqDiff, Nat.reduceBEq, Nat.reduceGT, Nat.reduceMod, Nat.reduceDiv, ↓reduceIte, reduceCtorEq, Int.reduceLE, Int.reduceLT, Int.reduceToNat, Int.reduceEq, Int.reduceNeg, Int.reduceAdd, Int.reduceSub, Int.reduceMul, mkI, iV, mkQ, qV, fV, ofV, rV, mkR]
    refine wl_callV _ (by simp -implicitDefEqProofs only [go_sem, Nat.reduceAdd, Nat.reduceSub, Nat.reduceMul, Nat.reduceLT, Nat.reduceLeDiff, Nat.reduceEqDiff, Nat.reduceBEq, Nat.reduceGT, Nat.reduceMod, Nat.reduceDiv, ↓reduceIte, reduceCtorEq, Int.reduceLE, Int.reduceLT, Int.reduceToNat, Int.reduceEq, Int.reduceNeg, Int.reduceAdd, Int.reduceSub, Int.reduceMul, mkI, iV, mkQ, qV, fV, ofV, rV, mkR, hh, wa_cond, axC_t, axC_f]) (o3 _) ?_
    simp -implicitDefEqProofs only [go_sem, Nat.reduceAdd, Nat.reduceSub, Nat.reduceMul, Nat.reduceLT, Nat.reduceLeDiff, Nat.reduceEqDiff, Nat.reduceBEq, Nat.reduceGT, Nat.reduceMod, Nat.reduceDiv, ↓reduceIte, reduceCtorEq, Int.reduceLE, Int.reduceLT, Int.reduceToNat, Int.reduceEq, Int.reduceNeg, Int.reduceAdd, Int.reduceSub, Int.reduceMul, mkI, iV, mkQ, qV, fV, ofV, rV, mkR, hh, wa_cond, axC_t, axC_f]
    refine wl_callV _ (by simp -implicitDefEqProofs only [go_sem, Nat.reduceAdd, Nat.reduceSub, Nat.reduceMul, Nat.reduceLT, Nat.reduceLeDiff, Nat.reduceEqDiff, Nat.reduceBEq, Nat.reduceGT, Nat.reduceMod, Nat.reduceDiv, ↓reduceIte, reduceCtorEq, Int.reduceLE, Int.reduceLT, Int.reduceToNat, Int.reduceEq, Int.reduceNeg, Int.reduceAdd, Int.reduceSub, Int.reduceMul, mkI, iV, mkQ, qV, fV, ofV, rV, mkR]) (o6 _) ?_
    simp -implicitDefEqProofs only [go_sem, Nat.reduceAdd, Nat.reduceSub, Nat.reduceMul, Nat.reduceLT, Nat.reduceLeDiff, Nat.reduceEqDiff, Nat.reduceBEq, Nat.reduceGT, Nat.reduceMod, Nat.reduceDiv, ↓reduceIte, reduceCtorEq, Int.reduceLE, Int.reduceLT, Int.reduceToNat, Int.reduceEq, Int.reduceNeg, Int.reduceAdd, Int.reduceSub, Int.reduceMul, mkI, iV, mkQ, qV, fV, ofV, rV, mkR]
    refine ax_quiet (by kernel_rfl) ?_
    simp -implicitDefEqProofs only [go_sem, Nat.reduceAdd, Nat.reduceSub, Nat.reduceMul, Nat.reduceLT, Nat.reduceLeDiff, Nat.reduceEqDiff, Nat.reduceBEq, Nat.reduceGT, Nat.reduceMod, Nat.reduceDiv, ↓reduceIte, reduceCtorEq, Int.reduceLE, Int.reduceLT, Int.reduceToNat, Int.reduceEq, Int.reduceNeg, Int.reduceAdd, Int.reduceSub, Int.reduceMul, mkI, iV, mkQ, qV, fV, ofV, rV, mkR]
    refine wl_callV _ (by simp -implicitDefEqProofs only [go_sem, Nat.reduceAdd, Nat.reduceSub, Nat.reduceMul, Nat.reduceLT, Nat.reduceLeDiff, Nat.reduceEqDiff, Nat.reduceBEq, Nat.reduceGT, Nat.reduceMod, Nat.reduceDiv, ↓reduceIte, reduceCtorEq, Int.reduceLE, Int.reduceLT, Int.reduceToNat, Int.reduceEq, Int.reduceNeg, Int.reduceAdd, Int.reduceSub, Int.reduceMul, mkI, iV, mkQ, qV, fV, ofV, rV, mkR]) (o7 _) ?_
    simp -implicitDefEqProofs only [go_sem, Nat.reduceAdd, Nat.reduceSub, Nat.reduceMul, Nat.reduceLT, Nat.reduceLeDiff, Nat.reduceEqDiff, Nat.reduceBEq, Nat.reduceGT, Nat.reduceMod, Nat.reduceDiv, ↓reduceIte, reduceCtorEq, Int.reduceLE, Int.reduceLT, Int.reduceToNat, Int.reduceEq, Int.reduceNeg, Int.reduceAdd, Int.reduceSub, Int.reduceMul, mkI, iV, mkQ, qV, fV, ofV, rV, mkR]
    refine wl_callV _ (by simp -implicitDefEqProofs only [go_sem, Nat.reduceAdd, Nat.reduceSub, Nat.reduceMul, Nat.reduceLT, Nat.reduceLeDiff, Nat.reduceEqDiff, Nat.reduceBEq, Nat.reduceGT, Nat.reduceMod, Nat.reduceDiv, ↓reduceIte, reduceCtorEq, Int.reduceLE, Int.reduceLT, Int.reduceToNat, Int.reduceEq, Int.reduceNeg, Int.reduceAdd, Int.reduceSub, Int.reduceMul, mkI, iV, mkQ, qV, fV, ofV, rV, mkR]) (o8 _) ?_
    simp -implicitDefEqProofs only [go_sem, Nat.reduceAdd, Nat.reduceSub, Nat.reduceMul, Nat.reduceLT, Nat.reduceLeDiff, Nat.reduceEqDiff, Nat.reduceBEq, Nat.reduceGT, Nat.reduceMod, Nat.reduceDiv, ↓reduceIte, reduceCtorEq, Int.reduceLE, Int.reduceLT, Int.reduceToNat, Int.reduceEq, Int.reduceNeg, Int.reduceAdd, Int.reduceSub, Int.reduceMul, mkI, iV, mkQ, qV, fV, ofV, rV, mkR]
    refine ax_quiet (by kernel_rfl) ?_
    simp -implicitDefEqProofs only [go_sem, Nat.reduceAdd, Nat.reduceSub, Nat.reduceMul, Nat.reduceLT, Nat.reduceLeDiff, Nat.reduceEqDiff, Nat.reduceBEq, Nat.reduceGT, Nat.reduceMod, Nat.reduceDiv, ↓reduceIte, reduceCtorEq, Int.reduceLE, Int.reduceLT, Int.reduceToNat, Int.reduceEq, Int.reduceNeg, Int.reduceAdd, Int.reduceSub, Int.reduceMul, mkI, iV, mkQ, qV, fV, ofV, rV, mkR, build125]
    refine wl_callV #[.slice (some ⟨H.length + 7, 0, none⟩) 2 2] (by simp -implicitDefEqProofs only [go_sem, Nat.reduceAdd, Nat.reduceSub, Nat.reduceMul, Nat.reduceLT, Nat.reduceLeDiff, Nat.reduceEqDiff, Nat.reduceBEq, Nat.reduceGT, Nat.reduceMod, Nat.reduceDiv, ↓reduceIte, reduceCtorEq, Int.reduceLE, Int.reduceLT, Int.reduceToNat, Int.reduceEq, Int.reduceNeg, Int.reduceAdd, Int.reduceSub, Int.reduceMul, mkI, iV, mkQ, qV, fV, ofV, rV, mkR]) (s1 (b := H.length + 7) (by simp -implicitDefEqProofs only [go_sem, Nat.reduceAdd, Nat.reduceSub, Nat.reduceMul, Nat.reduceLT, Nat.reduceLeDiff, Nat.reduceEqDiff, Nat.reduceBEq, Nat.reduceGT, Nat.reduceMod, Nat.reduceDiv, ↓reduceIte, reduceCtorEq, Int.reduceLE, Int.reduceLT, Int.reduceToNat, Int.reduceEq, Int.reduceNeg, Int.reduceAdd, Int.reduceSub, Int.reduceMul, mkI, iV, mkQ, qV, fV, ofV, rV, mkR]) (by simp -implicitDefEqProofs only [go_sem, Nat.reduceAdd, Nat.reduceSub, Nat.reduceMul, Nat.reduceLT, Nat.reduceLeDiff, Nat.reduceEqDiff, Nat.reduceBEq, Nat.reduceGT, Nat.reduceMod, Nat.reduceDiv, ↓reduceIte, reduceCtorEq, Int.reduceLE, Int.reduceLT, Int.reduceToNat, Int.reduceEq, Int.reduceNeg, Int.reduceAdd, Int.reduceSub, Int.reduceMul, mkI, iV, mkQ, qV, fV, ofV, rV, mkR])) ?_
    simp -implicitDefEqProofs only [go_sem, Nat.reduceAdd, Nat.reduceSub, Nat.reduceMul, Nat.reduceLT, Nat.reduceLeDiff, Nat.reduceEqDiff, Nat.reduceBEq, Nat.reduceGT, Nat.reduceMod, Nat.reduceDiv, ↓reduceIte, reduceCtorEq, Int.reduceLE, Int.reduceLT, Int.reduceToNat, Int.reduceEq, Int.reduceNeg, Int.reduceAdd, Int.reduceSub, Int.reduceMul, mkI, iV, mkQ, qV, fV, ofV, rV, mkR]
    refine wl_callV _ (by simp -implicitDefEqProofs only [go_sem, Nat.reduceAdd, Nat.reduceSub, Nat.reduceMul, Nat.reduceLT, Nat.reduceLeDiff, Nat.reduceEqDiff, Nat.reduceBEq, Nat.reduceGT, Nat.reduceMod, Nat.reduceDiv, ↓reduceIte, reduceCtorEq, Int.reduceLE, Int.reduceLT, Int.reduceToNat, Int.reduceEq, Int.reduceNeg, Int.reduceAdd, Int.reduceSub, Int.reduceMul, mkI, iV, mkQ, qV, fV, ofV, rV, mkR]) (o9 _) ?_
    simp -implicitDefEqProofs only [go_sem, Nat.reduceAdd, Nat.reduceSub, Nat.reduceMul, Nat.reduceLT, Nat.reduceLeDiff, Nat.reduceEqDiff, Nat.reduceBEq, Nat.reduceGT, Nat.reduceMod, Nat.reduceDiv, ↓reduceIte, reduceCtorEq, Int.reduceLE, Int.reduceLT, Int.reduceToNat, Int.reduceEq, Int.reduceNeg, Int.reduceAdd, Int.reduceSub, Int.reduceMul, mkI, iV, mkQ, qV, fV, ofV, rV, mkR]
    refine ax_quiet (by kernel_rfl) ?_
    simp -implicitDefEqProofs only [go_sem, Nat.reduceAdd, Nat.reduceSub, Nat.reduceMul, Nat.reduceLT, Nat.reduceLeDiff, Nat.reduceEqDiff, Nat.reduceBEq, Nat.reduceGT, Nat.reduceMod, Nat.reduceDiv, ↓reduceIte, reduceCtorEq, Int.reduceLE, Int.reduceLT, Int.reduceToNat, Int.reduceEq, Int.reduceNeg, Int.reduceAdd, Int.reduceSub, Int.reduceMul, mkI, iV, mkQ, qV, fV, ofV, rV, mkR]
    refine wl_callV _ (by simp -implicitDefEqProofs only [go_sem, Nat.reduceAdd, Nat.reduceSub, Nat.reduceMul, Nat.reduceLT, Nat.reduceLeDiff, Nat.reduceEqDiff, Nat.reduceBEq, Nat.reduceGT, Nat.reduceMod, Nat.reduceDiv, ↓reduceIte, reduceCtorEq, Int.reduceLE, Int.reduceLT, Int.reduceToNat, Int.reduceEq, Int.reduceNeg, Int.reduceAdd, Int.reduceSub, Int.reduceMul, mkI, iV, mkQ, qV, fV, ofV, rV, mkR]) (o10 _) ?_
    simp -implicitDefEqProofs only [go_sem, Nat.reduceAdd, Nat.reduceSub, Nat.reduceMul, Nat.reduceLT, Nat.reduceLeDiff, Nat.reduceEqDiff, Nat.reduceBEq, Nat.reduceGT, Nat.reduceMod, Nat.reduceDiv, ↓reduceIte, reduceCtorEq, Int.reduceLE, Int.reduceLT, Int.reduceToNat, Int.reduceEq, Int.reduceNeg, Int.reduceAdd, Int.reduceSub, Int.reduceMul, mkI, iV, mkQ, qV, fV, ofV, rV, mkR]
    refine wl_callV _ (by simp -implicitDefEqProofs only [go_sem, Nat.reduceAdd, Nat.reduceSub, Nat.reduceMul, Nat.reduceLT, Nat.reduceLeDiff, Nat.reduceEqDiff, Nat.reduceBEq, Nat.reduceGT, Nat.reduceMod, Nat.reduceDiv, ↓reduceIte, reduceCtorEq, Int.reduceLE, Int.reduceLT, Int.reduceToNat, Int.reduceEq, Int.reduceNeg, Int.reduceAdd, Int.reduceSub, Int.reduceMul, mkI, iV, mkQ, qV, fV, ofV, rV, mkR]) (o11 _) ?_
    simp -implicitDefEqProofs only [go_sem, Nat.reduceAdd, Nat.reduceSub, Nat.reduceMul, Nat.reduceLT, Nat.reduceLeDiff, Nat.reduceEqDiff, Nat.reduceBEq, Nat.reduceGT, Nat.reduceMod, Nat.reduceDiv, ↓reduceIte, reduceCtorEq, Int.reduceLE, Int.reduceLT, Int.reduceToNat, Int.reduceEq, Int.reduceNeg, Int.reduceAdd, Int.reduceSub, Int.reduceMul, mkI, iV, mkQ, qV, fV, ofV, rV, mkR]
    simp -implicitDefEqProofs only [go_sem, Nat.reduceAdd, Nat.reduceSub, Nat.reduceMul, Nat.reduceLT, Nat.reduceLeDiff, Nat.reduceEqDiff, Nat.reduceBEq, Nat.reduceGT, Nat.reduceMod, Nat.reduceDiv, ↓reduceIte, reduceCtorEq, Int.reduceLE, Int.reduceLT, Int.reduceToNat, Int.reduceEq, Int.reduceNeg, Int.reduceAdd, Int.reduceSub, Int.reduceMul, mkI, iV, mkQ, qV, fV, ofV, rV, mkR, res66]
    first | exact .app _ _ | exact ⟨.app _ _, rfl⟩ | exact .refl _ | exact ⟨.refl _, rfl⟩
end Go.Proofs.YthhmkaikopdmjaaGreat
